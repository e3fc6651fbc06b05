/- What a line of a form comes to, for the reference. -/
import Derived.Test.YtjpkphmihkbfeaaDoorRn
namespace Go.Proofs.YtjpkphmihkbfeaaDoor.S34
open Go.RowKit Go.Proofs.YtjpkphmihkbfeaaDoorW.PrintWords Go.Proofs.YtjpkphmihkbfeaaDoorW.PrintLast Go.Proofs.YtjpkphmihkbfeaaDoorW.PrintMore Go.Proofs.YtjpkphmihkbfeaaDoor.Q
set_option maxRecDepth 100000
set_option linter.unusedSimpArgs false
/-- What a line of a form comes to. -/
def formR (f : List UInt8) (ks : List Int) (ps : List ByteArray) : Except Er S54 :=
  match readAll ks ps with
  | .error x => .error x
  | .ok ws => .ok (eventP f ws)
theorem formR_err {f : List UInt8} {ks : List Int} {ps : List ByteArray} {x : Er} (h : readAll ks ps = .error x) : formR f ks ps = .error x := by unfold formR; rw [h]
theorem formR_ok {f : List UInt8} {ks : List Int} {ps : List ByteArray} {ws : List S93} (h : readAll ks ps = .ok ws) : formR f ks ps = .ok (eventP f ws) := by unfold formR; rw [h]
def RLineRes (r : Except Er S54) (w : World) (e : Ending) (w' : World) : Prop :=
  ∃ cs : List Value, e = .returned (.tuple #[.agg cs.toArray, .int .i64 (codeE (ero r))]) ∧ k54.M w' w.heap.size (fun _ => True) (evv r) cs ∧ Below w.heap.size w w'
theorem R_fin {w W W1 : World} {base n1 : Nat} {v : Value} {xs : List Int} (h : Kd.R (Kd.int .u8) 5 W base (fun k => k ≠ n1) v xs) (hb : w.heap.size ≤ base) (hm : ∀ k, base ≤ k → W1.heap[k]? = W.heap[k]?) : Kd.R (Kd.int .u8) 5 W1 w.heap.size (fun _ => True) v xs :=
  Kd.R_mono (Kd.R_lower (Kd.R_step (Kd.R_bound h) (fun k hk _ => hm k hk.2.1)) hb) (fun _ _ => trivial)
theorem RLineRes.fail (x : Er) (w w' : World) (hb : Below w.heap.size w w') :
    RLineRes (.error x) w (.returned (.tuple #[.agg #[.int .i64 0, .int .i64 0, .int .i64 0, .int .i64 0, .int .i64 0, .int .i64 0, .slice none 0 0, .int .i64 0, .int .i64 0, .slice none 0 0], .int .i64 x.code])) w' :=
  ⟨_, rfl, k54_mkM w' _ _ z54 (Kd.R_nil _ _ _ _ _) (Kd.R_nil _ _ _ _ _), hb⟩
end Go.Proofs.YtjpkphmihkbfeaaDoor.S34
