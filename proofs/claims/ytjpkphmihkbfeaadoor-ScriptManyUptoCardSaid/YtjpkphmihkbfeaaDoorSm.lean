/- script.same by a contract. -/
import Derived.Test.YtjpkphmihkbfeaaDoorZc
namespace Go.Proofs.YtjpkphmihkbfeaaDoor.S34
open Go.RowKit Go.Proofs.YtjpkphmihkbfeaaDoorW.PrintWords Go.Proofs.YtjpkphmihkbfeaaDoorW.PrintLast Go.Proofs.YtjpkphmihkbfeaaDoorW.PrintMore Go.Proofs.YtjpkphmihkbfeaaDoor.Q
set_option maxRecDepth 100000
set_option linter.unusedSimpArgs false
theorem conv_any {W : World} {A : Option Addr} {n c : Nat} {l : List Int} (h : Kd.C (Kd.int .u8) W A n l) : (convert 50 9 (.slice A n c)).run Tryd.prog W = .ok (.string (strOfNums l)) W :=
  Kd.C_string (P := Tryd.prog) (c := c) Tryd.underlying50 (by kernel_rfl) Tryd.underlying9 h
theorem str_beq {l l' : List Int} (h : Bytes l) (h' : Bytes l') : ((strOfNums l).toList == (strOfNums l').toList) = decide (l = l') := by
  by_cases e : l = l'
  · subst e; simp
  · have : ¬ (strOfNums l).toList = (strOfNums l').toList := fun he => e (str_inj h h' he)
    simp [e, this]
theorem same_chain {x y : S54} (h6 : Bytes x.f5.f1) (h9 : Bytes x.f6) (k6 : Bytes y.f5.f1) (k9 : Bytes y.f6) :
    sameP x y = ((x.f0 == y.f0) && ((x.f1 == y.f1) && ((x.f2 == y.f2) && ((x.f3 == y.f3) && ((x.f4 == y.f4) && (((strOfNums x.f6).toList == (strOfNums y.f6).toList) && ((x.f5.f0 == y.f5.f0) && (((strOfNums x.f5.f1).toList == (strOfNums y.f5.f1).toList) && ((x.f5.f2 == y.f5.f2) && (x.f5.f3 == y.f5.f3)))))))))) := by
  rw [str_beq h9 k9, str_beq h6 k6]
  obtain ⟨a0, a1, a2, a3, a4, ⟨a5, a6, a7, a8⟩, a9⟩ := x
  obtain ⟨b0, b1, b2, b3, b4, ⟨b5, b6, b7, b8⟩, b9⟩ := y
  unfold sameP
  rw [Bool.eq_iff_iff]
  simp only [decide_eq_true_eq, Bool.and_eq_true, beq_iff_eq, S54.mk.injEq, S52.mk.injEq]
  exact ⟨fun ⟨h0, h1, h2, h3, h4, ⟨h5, h6, h7, h8⟩, h9⟩ => ⟨h0, h1, h2, h3, h4, h9, h5, h6, h7, h8⟩, fun ⟨h0, h1, h2, h3, h4, h9, h5, h6, h7, h8⟩ => ⟨h0, h1, h2, h3, h4, ⟨h5, h6, h7, h8⟩, h9⟩⟩
set_option maxHeartbeats 8000000 in
theorem same_any (x y : S54) (A6 A9 B6 B9 : Option Addr) (c6 c9 e6 e9 : Nat) (w : World) (hx : EvIn x A6 A9 c6 c9 w) (hy : EvIn y B6 B9 e6 e9 w) :
    Calls Tryd.prog 36 #[evArg x A6 A9 c6 c9, evArg y B6 B9 e6 e9] w fun e w' => e = .returned (.bool (sameP x y)) ∧ Below w.heap.size w w' := by
  obtain ⟨w0, hw0⟩ : ∃ w0, w0 = ((w.alloc (.cells #[.int .i64 x.f0, .int .i64 x.f1, .int .i64 x.f2, .int .i64 x.f3, .int .i64 x.f4, .int .i64 x.f5.f0, .slice A6 x.f5.f1.length c6, .int .i64 x.f5.f2, .int .i64 x.f5.f3, .slice A9 x.f6.length c9] 54)).alloc (.cells #[.int .i64 y.f0, .int .i64 y.f1, .int .i64 y.f2, .int .i64 y.f3, .int .i64 y.f4, .int .i64 y.f5.f0, .slice B6 y.f5.f1.length e6, .int .i64 y.f5.f2, .int .i64 y.f5.f3, .slice B9 y.f6.length e9] 54)) := ⟨_, rfl⟩
  have hb : Below w.heap.size w w0 := by rw [hw0]; exact below_alloc (below_alloc (Below.refl _ _) _) _
  have h1 : EvBlk w.heap.size x A6 A9 c6 c9 w0 := by rw [hw0]; exact blk_alloc (blk_new _ _) _
  have h2 : EvBlk (w.heap.size + 1) y B6 B9 e6 e9 w0 := by rw [hw0]; exact blk_new_at (by simp)
  obtain ⟨a0, a1, a2, a3, a4, a5, a6, a7, a8, a9⟩ := evCells h1 (Below.refl _ _)
  obtain ⟨b0, b1, b2, b3, b4, b5, b6, b7, b8, b9⟩ := evCells h2 (Below.refl _ _)
  have s1 := conv_any (c := c9) (Kd.C_below hx.q9 hb)
  have s2 := conv_any (c := e9) (Kd.C_below hy.q9 hb)
  have s3 := conv_any (c := c6) (Kd.C_below hx.q6 hb)
  have s4 := conv_any (c := e6) (Kd.C_below hy.q6 hb)
  have HW := Aside0.mk hw0
  rw [same_chain hx.b6 hx.b9 hy.b6 hy.b9]
  have HB := Aside0.mk hb
  clear hx hy hb h1 h2 hw0
  cases g0 : (x.f0 == y.f0) with
  | false =>
    go_enter Tryd.func36, Tryd.ntmps36
    go_wp2_with ((with_reducible refine gate_dst (N := 5) rfl ?_))
    rw [← HW.out]
    go_wp2_with fail
    go_ret
    exact ⟨rfl, HB.out⟩
  | true =>
    cases g1 : (x.f1 == y.f1) with
    | false =>
      go_enter Tryd.func36, Tryd.ntmps36
      go_wp2_with ((with_reducible refine gate_dst (N := 5) rfl ?_))
      rw [← HW.out]
      go_wp2_with fail
      go_ret
      exact ⟨rfl, HB.out⟩
    | true =>
      cases g2 : (x.f2 == y.f2) with
      | false =>
        go_enter Tryd.func36, Tryd.ntmps36
        go_wp2_with ((with_reducible refine gate_dst (N := 5) rfl ?_))
        rw [← HW.out]
        go_wp2_with fail
        go_ret
        exact ⟨rfl, HB.out⟩
      | true =>
        cases g3 : (x.f3 == y.f3) with
        | false =>
          go_enter Tryd.func36, Tryd.ntmps36
          go_wp2_with ((with_reducible refine gate_dst (N := 5) rfl ?_))
          rw [← HW.out]
          go_wp2_with fail
          go_ret
          exact ⟨rfl, HB.out⟩
        | true =>
          cases g4 : (x.f4 == y.f4) with
          | false =>
            go_enter Tryd.func36, Tryd.ntmps36
            go_wp2_with ((with_reducible refine gate_dst (N := 5) rfl ?_))
            rw [← HW.out]
            go_wp2_with fail
            go_ret
            exact ⟨rfl, HB.out⟩
          | true =>
            cases g5 : ((strOfNums x.f6).toList == (strOfNums y.f6).toList) with
            | false =>
              go_enter Tryd.func36, Tryd.ntmps36
              go_wp2_with ((with_reducible refine gate_dst (N := 5) rfl ?_))
              rw [← HW.out]
              go_wp2_with fail
              rw [s1]
              simp only [Result.andThen]
              rw [Oper.upon_value]
              go_wp2_with fail
              go_ret
              exact ⟨rfl, HB.out⟩
            | true =>
              cases g6 : (x.f5.f0 == y.f5.f0) with
              | false =>
                go_enter Tryd.func36, Tryd.ntmps36
                go_wp2_with ((with_reducible refine gate_dst (N := 5) rfl ?_))
                rw [← HW.out]
                go_wp2_with fail
                rw [s1]
                simp only [Result.andThen]
                rw [Oper.upon_value]
                go_wp2_with fail
                go_ret
                exact ⟨rfl, HB.out⟩
              | true =>
                cases g7 : ((strOfNums x.f5.f1).toList == (strOfNums y.f5.f1).toList) with
                | false =>
                  go_enter Tryd.func36, Tryd.ntmps36
                  go_wp2_with ((with_reducible refine gate_dst (N := 5) rfl ?_))
                  rw [← HW.out]
                  go_wp2_with fail
                  rw [s1]
                  simp only [Result.andThen]
                  rw [Oper.upon_value]
                  go_wp2_with fail
                  go_ret
                  exact ⟨rfl, HB.out⟩
                | true =>
                  cases g8 : (x.f5.f2 == y.f5.f2) with
                  | false =>
                    go_enter Tryd.func36, Tryd.ntmps36
                    go_wp2_with ((with_reducible refine gate_dst (N := 5) rfl ?_))
                    rw [← HW.out]
                    go_wp2_with fail
                    rw [s1]
                    simp only [Result.andThen]
                    rw [Oper.upon_value]
                    go_wp2_with fail
                    go_ret
                    exact ⟨rfl, HB.out⟩
                  | true =>
                    cases g9 : (x.f5.f3 == y.f5.f3) with
                    | false =>
                      go_enter Tryd.func36, Tryd.ntmps36
                      go_wp2_with ((with_reducible refine gate_dst (N := 5) rfl ?_))
                      rw [← HW.out]
                      go_wp2_with fail
                      rw [s1]
                      simp only [Result.andThen]
                      rw [Oper.upon_value]
                      go_wp2_with fail
                      go_ret
                      exact ⟨rfl, HB.out⟩
                    | true =>
                      go_enter Tryd.func36, Tryd.ntmps36
                      go_wp2_with ((with_reducible refine gate_dst (N := 5) rfl ?_))
                      rw [← HW.out]
                      go_wp2_with fail
                      rw [s1]
                      simp only [Result.andThen]
                      rw [Oper.upon_value]
                      go_wp2_with fail
                      go_ret
                      exact ⟨rfl, HB.out⟩
end Go.Proofs.YtjpkphmihkbfeaaDoor.S34
