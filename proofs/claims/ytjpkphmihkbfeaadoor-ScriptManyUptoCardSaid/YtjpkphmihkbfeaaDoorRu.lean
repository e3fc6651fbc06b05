/- orielref34.Print: the state of its walk. -/
import Derived.Test.YtjpkphmihkbfeaaDoorRc
import Derived.Test.YtjpkphmihkbfeaaDoorRj
import Derived.Test.YtjpkphmihkbfeaaDoorG2
namespace Go.Proofs.YtjpkphmihkbfeaaDoor.S34
open Go.RowKit Go.Proofs.YtjpkphmihkbfeaaDoorW.PrintWords Go.Proofs.YtjpkphmihkbfeaaDoorW.PrintLast Go.Proofs.YtjpkphmihkbfeaaDoorW.PrintMore Go.Proofs.YtjpkphmihkbfeaaDoor.Q
set_option maxRecDepth 100000
set_option linter.unusedSimpArgs false
set_option linter.unusedVariables false
def PrRes (o : Option ByteArray) (w : World) (e : Ending) (w' : World) : Prop :=
  e = .returned (.tuple #[.string (o.getD ⟨#[]⟩), .bool o.isSome]) ∧ Below w.heap.size w w'
/-- The event and the event of its own fields alone, in a walk of the reference's Print. -/
structure PrSt (w : World) (m : Nat) (x : S54) (A6 A9 : Option Addr) (c6 c9 : Nat) (cs : Array Value) (W : World) : Prop where
  ev : EvBlk w.heap.size x A6 A9 c6 c9 W
  rest : W.heap[m]? = some (.cells cs 54 (0, 0))
  below : Below w.heap.size w W
  lt : w.heap.size < m
theorem PrSt.set {w : World} {m : Nat} {x : S54} {A6 A9 : Option Addr} {c6 c9 : Nat} {cs : Array Value} {W : World} (h : PrSt w m x A6 A9 c6 c9 cs W) (i : Nat) (v : Value) : PrSt w m x A6 A9 c6 c9 (cs.setIfInBounds i v) (W.setCell ⟨m, i, none⟩ v) :=
  ⟨by
    have := h.ev
    unfold EvBlk at this ⊢
    rw [Below.heap_setCell W ⟨m, i, none⟩ _ w.heap.size (by have := h.lt; show w.heap.size ≠ m; omega)]
    exact this, blk_set h.rest i v, h.below.setCell (p := ⟨m, i, none⟩) (by have := h.lt; show w.heap.size ≤ m; omega) _, h.lt⟩
theorem PrSt.step {w : World} {m : Nat} {x : S54} {A6 A9 : Option Addr} {c6 c9 : Nat} {cs : Array Value} {W W' : World} (h : PrSt w m x A6 A9 c6 c9 cs W) (hb : Below W.heap.size W W') : PrSt w m x A6 A9 c6 c9 cs W' :=
  ⟨blk_below h.ev hb, blk_below h.rest hb, below_seq h.below hb, h.lt⟩
theorem PrSt.new {w w0 : World} {x : S54} {A6 A9 : Option Addr} {c6 c9 : Nat} (h : w0 = w.alloc (.cells #[.int .i64 x.f0, .int .i64 x.f1, .int .i64 x.f2, .int .i64 x.f3, .int .i64 x.f4, .int .i64 x.f5.f0, .slice A6 x.f5.f1.length c6, .int .i64 x.f5.f2, .int .i64 x.f5.f3, .slice A9 x.f6.length c9] 54)) : PrSt w w0.heap.size x A6 A9 c6 c9 #[.int .i64 0, .int .i64 0, .int .i64 0, .int .i64 0, .int .i64 0, .int .i64 0, .slice none 0 0, .int .i64 0, .int .i64 0, .slice none 0 0] (w0.alloc (.cells #[.int .i64 0, .int .i64 0, .int .i64 0, .int .i64 0, .int .i64 0, .int .i64 0, .slice none 0 0, .int .i64 0, .int .i64 0, .slice none 0 0] 54)) := by
  have hb : Below w.heap.size w w0 := by rw [h]; exact below_alloc (Below.refl _ _) _
  exact ⟨blk_alloc (by rw [h]; exact blk_new _ _) _, blk_new _ _, below_alloc hb _, by rw [h]; simp⟩
def idOk (n : Int) : Bool := decide (1 ≤ n) && decide (n ≤ 8)
theorem i64z : I64 0 := i64_of (by decide) (by decide)
theorem ev_none {k a b c d : Int} {w : World} (hk : I64 k) (ha : I64 a) (hb : I64 b) (hc : I64 c) (hd : I64 d) : EvIn ⟨k, a, b, c, d, z52, []⟩ none none 0 0 w := 
  ⟨hk, ha, hb, hc, hd, i64z, i64z, i64z, Kd.C_nil _ _, Nat.le_refl _, (fun _ h => absurd h (by simp [z52])), Kd.C_nil _ _, Nat.le_refl _, (fun _ h => absurd h (by simp))⟩
theorem ev_b {k a b c : Int} {l : List Int} {A : Option Addr} {n : Nat} {w : World} (hk : I64 k) (ha : I64 a) (hb : I64 b) (hc : I64 c) (q : Kd.C (Kd.int .u8) w A l.length l) (hn : l.length ≤ n) (hy : Bytes l) : EvIn ⟨k, a, b, c, 0, z52, l⟩ none A 0 n w := 
  ⟨hk, ha, hb, hc, i64z, i64z, i64z, i64z, Kd.C_nil _ _, Nat.le_refl _, (fun _ h => absurd h (by simp [z52])), q, hn, hy⟩
theorem ev_d {k a : Int} {d : S52} {A : Option Addr} {n : Nat} {w : World} (hk : I64 k) (ha : I64 a) (d0 : I64 d.f0) (d2 : I64 d.f2) (d3 : I64 d.f3) (q : Kd.C (Kd.int .u8) w A d.f1.length d.f1) (hn : d.f1.length ≤ n) (hy : Bytes d.f1) : EvIn ⟨k, a, 0, 0, 0, d, []⟩ A none n 0 w := 
  ⟨hk, ha, i64z, i64z, i64z, d0, d2, d3, q, hn, hy, Kd.C_nil _ _, Nat.le_refl _, (fun _ h => absurd h (by simp))⟩
theorem rdeed_any (x : S54) (A6 A9 : Option Addr) (c6 c9 : Nat) (w : World) (hx : EvIn x A6 A9 c6 c9 w) (hn6 : x.f5.f1.length ≤ 1200000) (h1 : 1 ≤ x.f1) (h8 : x.f1 ≤ 8) (hk : x.f0 = 5) (hd : deedOk x.f5 = true) :
    Calls Tryd.prog 39 #[evArg x A6 A9 c6 c9] w fun e w' => e = .returned (.string (wordsP x)) ∧ Below w.heap.size w w' := by
  have hw : wordsP x = if x.f5.f0 = 1 then (⟨#[107, 101, 121, 115, 32]⟩ : ByteArray) ++ numB x.f1 ++ ⟨#[32]⟩ ++ quoteB x.f5.f1 else if x.f5.f0 = 2 then (⟨#[115, 105, 122, 101, 32]⟩ : ByteArray) ++ numB x.f1 ++ ⟨#[32]⟩ ++ numB x.f5.f2 ++ ⟨#[32]⟩ ++ numB x.f5.f3 else if x.f5.f0 = 3 then (⟨#[97, 115, 107, 32]⟩ : ByteArray) ++ numB x.f1 else (⟨#[102, 114, 101, 101, 32]⟩ : ByteArray) ++ numB x.f1 := by
    unfold wordsP
    rw [hk]
    rfl
  rw [hw]
  unfold deedOk at hd
  by_cases d2 : x.f5.f0 = 2
  · rw [if_pos d2] at hd
    have hd := of_decide_eq_true hd
    rw [if_neg (by omega), if_pos d2]
    exact rdeed_size x A6 A9 c6 c9 w hx hn6 h1 h8 d2 (by omega)
  rw [if_neg d2] at hd
  by_cases hz : x.f5.f2 ≠ 0 ∨ x.f5.f3 ≠ 0
  · rw [if_pos hz] at hd
    cases hd
  rw [if_neg hz] at hd
  by_cases d1 : x.f5.f0 = 1
  · rw [if_pos d1]
    exact rdeed_keys x A6 A9 c6 c9 w hx hn6 h1 h8 d1 (by omega)
  rw [if_neg d1] at hd
  have hd := of_decide_eq_true hd
  rw [if_neg d1, if_neg d2]
  by_cases d3 : x.f5.f0 = 3
  · rw [if_pos d3]
    exact rdeed_ask x A6 A9 c6 c9 w hx hn6 h1 h8 d3 (by omega)
  · rw [if_neg d3]
    exact rdeed_free x A6 A9 c6 c9 w hx hn6 h1 h8 (by omega) (by omega)
theorem view_at0 (w : World) : (Instr.index 81 (.agg #[.string ⟨#[104, 117, 98]⟩, .string ⟨#[118, 105, 101, 119]⟩]) (.int .i64 0)).run Tryd.prog w = .ok (.string ⟨#[104, 117, 98]⟩) w := by
  kernel_rfl
theorem view_at1 (w : World) : (Instr.index 81 (.agg #[.string ⟨#[104, 117, 98]⟩, .string ⟨#[118, 105, 101, 119]⟩]) (.int .i64 1)).run Tryd.prog w = .ok (.string ⟨#[118, 105, 101, 119]⟩) w := by
  kernel_rfl
theorem idOk_true {n : Int} (h : true = idOk n) : 1 ≤ n ∧ n ≤ 8 := by
  unfold idOk at h
  simpa using h.symm
theorem idOk_false {n : Int} (h : false = idOk n) : ¬ (1 ≤ n ∧ n ≤ 8) := by
  unfold idOk at h
  simpa using h.symm
end Go.Proofs.YtjpkphmihkbfeaaDoor.S34
