/- The reference's Same, by contracts. -/
import Derived.Test.YtjpkphmihkbfeaaDoorZe
namespace Go.Proofs.YtjpkphmihkbfeaaDoor.S34
open Go.RowKit Go.Proofs.YtjpkphmihkbfeaaDoorW.PrintWords Go.Proofs.YtjpkphmihkbfeaaDoorW.PrintLast Go.Proofs.YtjpkphmihkbfeaaDoorW.PrintMore Go.Proofs.YtjpkphmihkbfeaaDoor.Q
set_option maxRecDepth 100000
set_option linter.unusedSimpArgs false

/-- A deed's cells. -/
def DeedBlk (p : Nat) (x : S52) (A : Option Addr) (c : Nat) (W : World) : Prop := W.heap[p]? = some (.cells #[.int .i64 x.f0, .slice A x.f1.length c, .int .i64 x.f2, .int .i64 x.f3] 52 (0, 0))
set_option maxHeartbeats 4000000 in
theorem same21_any (x y : S52) (p q : Nat) (A B : Option Addr) (c e : Nat) (w : World) (hp : DeedBlk p x A c w) (hq : DeedBlk q y B e w)
    (hA : Kd.C (Kd.int .u8) w A x.f1.length x.f1) (hB : Kd.C (Kd.int .u8) w B y.f1.length y.f1) (bx : Bytes x.f1) (by_ : Bytes y.f1) :
    Calls Tryd.prog 53 #[.agg #[.int .i64 0, .slice (some ⟨p, 0, none⟩) 1 1], .agg #[.int .i64 0, .slice (some ⟨q, 0, none⟩) 1 1]] w fun r w' => r = .returned (.bool (decide (x = y))) ∧ Below w.heap.size w w' := by
  have hxy : decide (x = y) = ((x.f0 == y.f0) && ((x.f2 == y.f2) && ((x.f3 == y.f3) && ((strOfNums x.f1).toList == (strOfNums y.f1).toList)))) := by
    rw [str_beq bx by_]
    obtain ⟨x0, x1, x2, x3⟩ := x
    obtain ⟨y0, y1, y2, y3⟩ := y
    simp only [S52.mk.injEq]
    by_cases e0 : x0 = y0 <;> by_cases e1 : x1 = y1 <;> by_cases e2 : x2 = y2 <;> by_cases e3 : x3 = y3 <;> simp [e0, e1, e2, e3]
  obtain ⟨w0, hw0⟩ : ∃ w0, w0 = (w.alloc (.cells #[.int .i64 0, .slice (some ⟨p, 0, none⟩) 1 1] 108)).alloc (.cells #[.int .i64 0, .slice (some ⟨q, 0, none⟩) 1 1] 108) := ⟨_, rfl⟩
  have hb0 : Below w.heap.size w w0 := by rw [hw0]; exact below_alloc (below_alloc (Below.refl _ _) _) _
  have hp0 : DeedBlk p x A c w0 := blk_below hp hb0
  have hq0 : DeedBlk q y B e w0 := blk_below hq hb0
  have h1 : w0.heap[w.heap.size]? = some (.cells #[.int .i64 0, .slice (some ⟨p, 0, none⟩) 1 1] 108 (0, 0)) := by rw [hw0]; exact blk_alloc (blk_new _ _) _
  have h2 : w0.heap[w.heap.size + 1]? = some (.cells #[.int .i64 0, .slice (some ⟨q, 0, none⟩) 1 1] 108 (0, 0)) := by rw [hw0]; exact blk_new_at (by simp)
  have p0 : w0.cell? ⟨p, 0, none⟩ = some (.int .i64 x.f0) := by rw [blk_cell hp0]; rfl
  have p1 : w0.cell? ⟨p, 1, none⟩ = some (.slice A x.f1.length c) := by rw [blk_cell hp0]; rfl
  have p2 : w0.cell? ⟨p, 2, none⟩ = some (.int .i64 x.f2) := by rw [blk_cell hp0]; rfl
  have p3 : w0.cell? ⟨p, 3, none⟩ = some (.int .i64 x.f3) := by rw [blk_cell hp0]; rfl
  have k0 : ∀ o, (w0.alloc o).cell? ⟨q, 0, none⟩ = some (.int .i64 y.f0) := fun o => by rw [blk_cell (blk_alloc hq0 o)]; rfl
  have k1 : ∀ o, (w0.alloc o).cell? ⟨q, 1, none⟩ = some (.slice B y.f1.length e) := fun o => by rw [blk_cell (blk_alloc hq0 o)]; rfl
  have k2 : ∀ o, (w0.alloc o).cell? ⟨q, 2, none⟩ = some (.int .i64 y.f2) := fun o => by rw [blk_cell (blk_alloc hq0 o)]; rfl
  have k3 : ∀ o, (w0.alloc o).cell? ⟨q, 3, none⟩ = some (.int .i64 y.f3) := fun o => by rw [blk_cell (blk_alloc hq0 o)]; rfl
  have a0 : w0.cell? ⟨w.heap.size, 0, none⟩ = some (.int .i64 0) := by rw [blk_cell h1]; rfl
  have a1 : w0.cell? ⟨w.heap.size, 1, none⟩ = some (.slice (some ⟨p, 0, none⟩) 1 1) := by rw [blk_cell h1]; rfl
  have b0 : w0.cell? ⟨w.heap.size + 1, 0, none⟩ = some (.int .i64 0) := by rw [blk_cell h2]; rfl
  have b1 : w0.cell? ⟨w.heap.size + 1, 1, none⟩ = some (.slice (some ⟨q, 0, none⟩) 1 1) := by rw [blk_cell h2]; rfl
  have b2 : ∀ o, (w0.alloc o).cell? ⟨w.heap.size + 1, 1, none⟩ = some (.slice (some ⟨q, 0, none⟩) 1 1) := fun o => by rw [blk_cell (blk_alloc h2 o)]; rfl
  have a3 : ∀ o o', ((w0.alloc o).alloc o').cell? ⟨w.heap.size, 1, none⟩ = some (.slice (some ⟨p, 0, none⟩) 1 1) := fun o o' => by rw [blk_cell (blk_alloc (blk_alloc h1 o) o')]; rfl
  have s1 : ∀ o o', (convert 50 9 (.slice A x.f1.length c)).run Tryd.prog ((w0.alloc o).alloc o') = .ok (.string (strOfNums x.f1)) ((w0.alloc o).alloc o') := fun o o' => conv_any (Kd.C_below hA (below_alloc (below_alloc hb0 _) _))
  have s2 : ∀ o o', (convert 50 9 (.slice B y.f1.length e)).run Tryd.prog ((w0.alloc o).alloc o') = .ok (.string (strOfNums y.f1)) ((w0.alloc o).alloc o') := fun o o' => conv_any (Kd.C_below hB (below_alloc (below_alloc hb0 _) _))
  have HB := Aside0.mk hb0
  rw [hxy]
  clear hp hq hA hB bx by_ hxy hb0 hp0 hq0 h1 h2
  have HW := Aside0.mk hw0
  clear hw0
  have fin : ∀ o o', Below w.heap.size w ((w0.alloc o).alloc o') := fun o o' => below_alloc (below_alloc HB.out _) _
  have FIN := Aside0.mk fin
  clear fin
  cases e0 : (x.f0 == y.f0) with
  | false =>
    have n_e0 : (x.f0 != y.f0) = true := by simp only [bne, e0, Bool.not_false]
    go_enter Tryd.func53, Tryd.ntmps53
    go_wp2_with fail
    rw [← HW.out]
    refine wp_loop_rounds 2 ?_
    rw [rounds_succ]
    go_wp2
    go_ret
    exact ⟨rfl, FIN.out _ _⟩
  | true =>
    have n_e0 : (x.f0 != y.f0) = false := by simp only [bne, e0, Bool.not_true]
    cases e2 : (x.f2 == y.f2) with
    | false =>
      have n_e2 : (x.f2 != y.f2) = true := by simp only [bne, e2, Bool.not_false]
      go_enter Tryd.func53, Tryd.ntmps53
      go_wp2_with fail
      rw [← HW.out]
      refine wp_loop_rounds 2 ?_
      rw [rounds_succ]
      go_wp2
      go_ret
      exact ⟨rfl, FIN.out _ _⟩
    | true =>
      have n_e2 : (x.f2 != y.f2) = false := by simp only [bne, e2, Bool.not_true]
      cases e3 : (x.f3 == y.f3) with
      | false =>
        have n_e3 : (x.f3 != y.f3) = true := by simp only [bne, e3, Bool.not_false]
        go_enter Tryd.func53, Tryd.ntmps53
        go_wp2_with fail
        rw [← HW.out]
        refine wp_loop_rounds 2 ?_
        rw [rounds_succ]
        go_wp2
        go_ret
        exact ⟨rfl, FIN.out _ _⟩
      | true =>
        have n_e3 : (x.f3 != y.f3) = false := by simp only [bne, e3, Bool.not_true]
        cases e1 : ((strOfNums x.f1).toList == (strOfNums y.f1).toList) with
        | false =>
          have n_e1 : ((strOfNums x.f1).toList != (strOfNums y.f1).toList) = true := by simp only [bne, e1, Bool.not_false]
          go_enter Tryd.func53, Tryd.ntmps53
          go_wp2_with fail
          rw [← HW.out]
          refine wp_loop_rounds 2 ?_
          rw [rounds_succ]
          go_wp2
          go_ret
          exact ⟨rfl, FIN.out _ _⟩
        | true =>
          have n_e1 : ((strOfNums x.f1).toList != (strOfNums y.f1).toList) = false := by simp only [bne, e1, Bool.not_true]
          go_enter Tryd.func53, Tryd.ntmps53
          go_wp2_with fail
          rw [← HW.out]
          refine wp_loop_rounds 2 ?_
          rw [rounds_succ]
          go_wp2
          rw [rounds_succ]
          go_wp2
          go_ret
          exact ⟨rfl, FIN.out _ _⟩
end Go.Proofs.YtjpkphmihkbfeaaDoor.S34
