/- orielref21.Deed by a contract. -/
import Derived.Test.YtjpkphmihkbfeaaDoorQ1
import Derived.Lib.Hide
namespace Go.Proofs.YtjpkphmihkbfeaaDoor.S34
open Go.RowKit Go.Proofs.YtjpkphmihkbfeaaDoorW.PrintWords Go.Proofs.YtjpkphmihkbfeaaDoorW.PrintLast Go.Proofs.YtjpkphmihkbfeaaDoorW.PrintMore Go.Proofs.YtjpkphmihkbfeaaDoor.Q
set_option maxRecDepth 100000
set_option linter.unusedSimpArgs false
/-- May a deed be? -/
def deedOk (d : S52) : Bool :=
  if d.f0 = 2 then decide (1 ≤ d.f2 ∧ d.f2 ≤ 1000 ∧ 1 ≤ d.f3 ∧ d.f3 ≤ 1000 ∧ d.f1 = [])
  else if d.f2 ≠ 0 ∨ d.f3 ≠ 0 then false
  else if d.f0 = 1 then decide (0 < d.f1.length ∧ d.f1.length ≤ 16)
  else decide ((d.f0 = 3 ∨ d.f0 = 4) ∧ d.f1 = [])
set_option maxHeartbeats 4000000 in
theorem deed_any (d : S52) (A : Option Addr) (c : Nat) (w : World) (hl : d.f1.length ≤ 9223372036854775807) :
    Calls Tryd.prog 38 #[.agg #[.int .i64 d.f0, .slice A d.f1.length c, .int .i64 d.f2, .int .i64 d.f3]] w fun e w' => e = .returned (.bool (deedOk d)) ∧ Below w.heap.size w w' := by
  obtain ⟨k, l, r, q⟩ := d
  obtain ⟨n, hn⟩ : ∃ n, n = l.length := ⟨_, rfl⟩
  have HN := Lib.hid hn
  have hnil : (l = []) ↔ n = 0 := by rw [hn]; exact List.length_eq_zero_iff.symm
  have HNIL := Lib.hid hnil
  dsimp only at hl ⊢
  rw [← hn] at hl ⊢
  clear hn hnil
  have hn0 : (0 : Int) ≤ (n : Int) := by omega
  go_enter Tryd.func38, Tryd.ntmps38
  go_wp2
  all_goals go_ret
  all_goals refine ⟨congrArg (fun b => Ending.returned (.bool b)) ?_, below_alloc (Below.refl _ _) _⟩
  all_goals have hnl := HNIL.out
  all_goals have hnn := HN.out
  all_goals clear HN HNIL
  all_goals unfold deedOk
  all_goals dsimp only
  all_goals rw [← hnn]
  all_goals simp only [hnl]
  all_goals clear hnl hnn
  all_goals (simp only [beq_iff_eq, beq_eq_false_iff_ne, bne_iff_ne, bne_eq_false_iff_eq, ne_eq] at *)
  all_goals rw [Bool.eq_iff_iff]
  all_goals (repeat' split)
  all_goals first
    | omega
    | (simp only [beq_iff_eq, decide_eq_true_eq, Bool.false_eq_true, iff_true, iff_false, false_iff, true_iff]; omega)
    | (simp; done)
    | (simp; omega)
    | (simp_all; done)
    | (simp_all; omega)
end Go.Proofs.YtjpkphmihkbfeaaDoor.S34
