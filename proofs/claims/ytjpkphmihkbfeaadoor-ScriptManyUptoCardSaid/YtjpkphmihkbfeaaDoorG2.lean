/- The reference's Same by a contract. -/
import Derived.Test.YtjpkphmihkbfeaaDoorG1
namespace Go.Proofs.YtjpkphmihkbfeaaDoor.S34
open Go.RowKit Go.Proofs.YtjpkphmihkbfeaaDoorW.PrintWords Go.Proofs.YtjpkphmihkbfeaaDoorW.PrintLast Go.Proofs.YtjpkphmihkbfeaaDoorW.PrintMore Go.Proofs.YtjpkphmihkbfeaaDoor.Q
set_option maxRecDepth 100000
set_option linter.unusedSimpArgs false
theorem sameP_chain {x y : S54} (h9 : Bytes x.f6) (k9 : Bytes y.f6) :
    sameP x y = ((x.f0 == y.f0) && ((x.f1 == y.f1) && ((x.f2 == y.f2) && ((x.f3 == y.f3) && ((x.f4 == y.f4) && (((strOfNums x.f6).toList == (strOfNums y.f6).toList) && decide (x.f5 = y.f5))))))) := by
  rw [str_beq h9 k9]
  obtain ⟨x0, x1, x2, x3, x4, x5, x6⟩ := x
  obtain ⟨y0, y1, y2, y3, y4, y5, y6⟩ := y
  unfold sameP
  simp only [S54.mk.injEq]
  by_cases e0 : x0 = y0 <;> by_cases e1 : x1 = y1 <;> by_cases e2 : x2 = y2 <;> by_cases e3 : x3 = y3 <;> by_cases e4 : x4 = y4 <;> by_cases e5 : x5 = y5 <;> by_cases e6 : x6 = y6 <;> simp [e0, e1, e2, e3, e4, e5, e6]
set_option maxHeartbeats 4000000 in
theorem ref_same (x y : S54) (A6 A9 B6 B9 : Option Addr) (c6 c9 e6 e9 : Nat) (w : World) (hx : EvIn x A6 A9 c6 c9 w) (hy : EvIn y B6 B9 e6 e9 w) :
    Calls Tryd.prog 29 #[evArg x A6 A9 c6 c9, evArg y B6 B9 e6 e9] w fun r w' => r = .returned (.bool (sameP x y)) ∧ Below w.heap.size w w' := by
  obtain ⟨w0, hw0⟩ : ∃ w0, w0 = (w.alloc (.cells #[.int .i64 x.f0, .int .i64 x.f1, .int .i64 x.f2, .int .i64 x.f3, .int .i64 x.f4, .int .i64 x.f5.f0, .slice A6 x.f5.f1.length c6, .int .i64 x.f5.f2, .int .i64 x.f5.f3, .slice A9 x.f6.length c9] 54)).alloc (.cells #[.int .i64 y.f0, .int .i64 y.f1, .int .i64 y.f2, .int .i64 y.f3, .int .i64 y.f4, .int .i64 y.f5.f0, .slice B6 y.f5.f1.length e6, .int .i64 y.f5.f2, .int .i64 y.f5.f3, .slice B9 y.f6.length e9] 54) := ⟨_, rfl⟩
  have hb0 : Below w.heap.size w w0 := by rw [hw0]; exact below_alloc (below_alloc (Below.refl _ _) _) _
  have h1 : EvBlk w.heap.size x A6 A9 c6 c9 w0 := by rw [hw0]; exact blk_alloc (blk_new _ _) _
  have h2 : EvBlk (w.heap.size + 1) y B6 B9 e6 e9 w0 := by rw [hw0]; exact blk_new_at (by simp)
  obtain ⟨a0, a1, a2, a3, a4, a5, a6, a7, a8, a9⟩ := evCells h1 (Below.refl _ _)
  obtain ⟨b0, b1, b2, b3, b4, -, -, -, -, b9⟩ := evCells h2 (Below.refl _ _)
  have hc : ∀ o, EvCells (w.heap.size + 1) y B6 B9 e6 e9 (w0.alloc o) := fun o => evCells h2 (below_alloc (Below.refl _ _) o)
  have d5 := fun o => (hc o).2.2.2.2.2.1
  have d6 := fun o => (hc o).2.2.2.2.2.2.1
  have d7 := fun o => (hc o).2.2.2.2.2.2.2.1
  have d8 := fun o => (hc o).2.2.2.2.2.2.2.2.1
  have s1 := conv_any (c := c9) (Kd.C_below hx.q9 hb0)
  have s2 := conv_any (c := e9) (Kd.C_below hy.q9 hb0)
  have HB := Aside0.mk hb0
  have HX := Aside0.mk hx
  have HY := Aside0.mk hy
  have HW := Aside0.mk hw0
  rw [sameP_chain hx.b9 hy.b9]
  clear hw0 hb0 h1 h2 hc hx hy
  cases g0 : (x.f0 == y.f0) with
  | false =>
    go_enter Tryd.func29, Tryd.ntmps29
    go_upto_region 1 with (fail)
    rw [← HW.out]
    go_wp2_with fail
    go_ret
    exact ⟨rfl, HB.out⟩
  | true =>
    cases g1 : (x.f1 == y.f1) with
    | false =>
      go_enter Tryd.func29, Tryd.ntmps29
      go_upto_region 1 with (fail)
      rw [← HW.out]
      go_wp2_with fail
      go_ret
      exact ⟨rfl, HB.out⟩
    | true =>
      cases g2 : (x.f2 == y.f2) with
      | false =>
        go_enter Tryd.func29, Tryd.ntmps29
        go_upto_region 1 with (fail)
        rw [← HW.out]
        go_wp2_with fail
        go_ret
        exact ⟨rfl, HB.out⟩
      | true =>
        cases g3 : (x.f3 == y.f3) with
        | false =>
          go_enter Tryd.func29, Tryd.ntmps29
          go_upto_region 1 with (fail)
          rw [← HW.out]
          go_wp2_with fail
          go_ret
          exact ⟨rfl, HB.out⟩
        | true =>
          cases g4 : (x.f4 == y.f4) with
          | false =>
            go_enter Tryd.func29, Tryd.ntmps29
            go_upto_region 1 with (fail)
            rw [← HW.out]
            go_wp2_with fail
            go_ret
            exact ⟨rfl, HB.out⟩
          | true =>
            cases g5 : ((strOfNums x.f6).toList == (strOfNums y.f6).toList) with
            | false =>
              go_enter Tryd.func29, Tryd.ntmps29
              go_upto_region 1 with (fail)
              rw [← HW.out]
              go_wp2_with fail
              go_ret
              exact ⟨rfl, HB.out⟩
            | true =>
              go_enter Tryd.func29, Tryd.ntmps29
              go_upto_region 1 with (fail)
              rw [← HW.out]
              go_wp2_with fail
              have hb2 : Below w0.heap.size w0 ((w0.alloc (.cells #[.int .i64 x.f5.f0, .slice A6 x.f5.f1.length c6, .int .i64 x.f5.f2, .int .i64 x.f5.f3] 52)).alloc (.cells #[.int .i64 y.f5.f0, .slice B6 y.f5.f1.length e6, .int .i64 y.f5.f2, .int .i64 y.f5.f3] 52)) := below_alloc (below_alloc (Below.refl _ _) _) _
              have hb3 := below_seq HB.out hb2
              have hx2 := HX.out.below hb3
              have hy2 := HY.out.below hb3
              refine (same21_any x.f5 y.f5 w0.heap.size (w0.heap.size + 1) A6 B6 c6 e6 _ (blk_alloc (blk_new _ _) _) (blk_new_at (by simp)) hx2.q6 hy2.q6 hx2.b6 hy2.b6).mono ?_
              rintro e w3 ⟨rfl, hB3⟩
              have HB3 := Aside0.mk (below_seq hb3 hB3)
              clear hb2 hb3 hx2 hy2 hB3
              go_wp2_with fail
              go_ret
              exact ⟨rfl, HB3.out⟩
end Go.Proofs.YtjpkphmihkbfeaaDoor.S34
