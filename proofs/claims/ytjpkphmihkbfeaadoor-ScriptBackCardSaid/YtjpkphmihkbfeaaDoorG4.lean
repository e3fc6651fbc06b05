/- ScriptApart walked. -/
import Derived.Test.YtjpkphmihkbfeaaDoorG3
namespace Go.Proofs.YtjpkphmihkbfeaaDoor.S34
open Go.RowKit Go.Proofs.YtjpkphmihkbfeaaDoorW.PrintWords Go.Proofs.YtjpkphmihkbfeaaDoorW.PrintLast Go.Proofs.YtjpkphmihkbfeaaDoorW.PrintMore Go.Proofs.YtjpkphmihkbfeaaDoor.Q
set_option maxRecDepth 100000
set_option linter.unusedSimpArgs false
theorem lineP_some {x : S54} {s : ByteArray} (h : lineP x = some s) : parseP s = .ok x ∧ s = wordsP x ∧ x.f6.length ≤ 1000 ∧ x.f5.f1.length ≤ 16 := by
  unfold lineP at h
  split at h
  · cases h
  · split at h
    · cases h
    · split at h
      · rename_i y hy
        split at h
        · rename_i he
          injection h with h
          subst h
          subst he
          exact ⟨hy, rfl, by omega, by omega⟩
        · cases h
      · cases h
theorem apart_law {a b : S54} {s t : ByteArray} (ha : lineP a = some s) (hb : lineP b = some t) : ((s.toList == t.toList) == alikeP [a] [b]) = true := by
  have h1 := (lineP_some ha)
  have h2 := (lineP_some hb)
  by_cases e : a = b
  · subst e
    rw [ha] at hb
    injection hb with hb
    subst hb
    simp [alikeP]
  · have hne : ¬ s.toList = t.toList := by
      intro he
      have hst : s = t := by rw [of_toList (s := s) rfl, he, ← of_toList (s := t) rfl]
      subst hst
      have := h1.1.symm.trans h2.1
      injection this with this
      exact e this
    have : alikeP [a] [b] = false := decide_eq_false (by simpa using e)
    rw [this]
    simp [hne]
/-- A row of one event. -/
theorem C_one {w : World} {p : Nat} {x : S54} {A6 A9 : Option Addr} {c6 c9 : Nat} (hb : EvBlk p x A6 A9 c6 c9 w) (hx : EvIn x A6 A9 c6 c9 w) : Kd.C k54 w (some ⟨p, 0, none⟩) 1 [x] := by
  refine ⟨rfl, by decide, fun _ => ⟨_, rfl, fun j y hj => ?_⟩⟩
  have hj0 : j = 0 := by
    rcases j with _ | j
    · rfl
    · simp at hj
  subst hj0
  simp at hj
  subst hj
  refine ⟨_, rfl, k54_mk w x hx.h6 hx.q6 hx.h9 hx.q9, fun i u hi => ?_⟩
  have : (w.cell? (({ block := p, off := 0 } : Addr).add (0 * k54.sz + i))) = w.cell? ⟨p, i, none⟩ := by rw [Nat.zero_mul, Nat.zero_add, add_plain]
  rw [this, blk_cell hb]
  simpa using hi
/-- The cells of two parameters of type Event, put away. -/
def Two (n : Nat) (x : S54) (A6 A9 : Option Addr) (c6 c9 : Nat) (y : S54) (B6 B9 : Option Addr) (e6 e9 : Nat) (W : World) : Prop :=
  EvBlk n x A6 A9 c6 c9 W ∧ EvBlk (n + 1) y B6 B9 e6 e9 W ∧ EvIn x A6 A9 c6 c9 W ∧ EvIn y B6 B9 e6 e9 W
theorem Two.below {n : Nat} {x : S54} {A6 A9 : Option Addr} {c6 c9 : Nat} {y : S54} {B6 B9 : Option Addr} {e6 e9 : Nat} {W W1 : World} (h : Two n x A6 A9 c6 c9 y B6 B9 e6 e9 W) (k : Below W.heap.size W W1) : Two n x A6 A9 c6 c9 y B6 B9 e6 e9 W1 :=
  ⟨blk_below h.1 k, blk_below h.2.1 k, h.2.2.1.below k, h.2.2.2.below k⟩
set_option maxHeartbeats 8000000 in
theorem apart_any (g : Er → Addr) (x y : S54) (A6 A9 B6 B9 : Option Addr) (c6 c9 e6 e9 : Nat) (w : World) (hg : Glob g w) (hx : EvIn x A6 A9 c6 c9 w) (hy : EvIn y B6 B9 e6 e9 w) :
    Calls Tryd.prog 7 #[evArg x A6 A9 c6 c9, evArg y B6 B9 e6 e9] w fun r w' => r = .returned (.bool true) ∧ Below w.heap.size w w' := by
  have l1 : x.f6.length ≤ 9223372036854775807 := Kd.C_max hx.q9
  have l2 : y.f6.length ≤ 9223372036854775807 := Kd.C_max hy.q9
  have l3 : x.f5.f1.length ≤ 9223372036854775807 := Kd.C_max hx.q6
  have l4 : y.f5.f1.length ≤ 9223372036854775807 := Kd.C_max hy.q6
  obtain ⟨w0, hw0⟩ : ∃ w0, w0 = (w.alloc (.cells #[.int .i64 x.f0, .int .i64 x.f1, .int .i64 x.f2, .int .i64 x.f3, .int .i64 x.f4, .int .i64 x.f5.f0, .slice A6 x.f5.f1.length c6, .int .i64 x.f5.f2, .int .i64 x.f5.f3, .slice A9 x.f6.length c9] 54)).alloc (.cells #[.int .i64 y.f0, .int .i64 y.f1, .int .i64 y.f2, .int .i64 y.f3, .int .i64 y.f4, .int .i64 y.f5.f0, .slice B6 y.f5.f1.length e6, .int .i64 y.f5.f2, .int .i64 y.f5.f3, .slice B9 y.f6.length e9] 54) := ⟨_, rfl⟩
  have hb0 : Below w.heap.size w w0 := by rw [hw0]; exact below_alloc (below_alloc (Below.refl _ _) _) _
  have HT0 := Aside0.mk (show Two w.heap.size x A6 A9 c6 c9 y B6 B9 e6 e9 w0 from ⟨by rw [hw0]; exact blk_alloc (blk_new _ _) _, by rw [hw0]; exact blk_new_at (by simp), hx.below hb0, hy.below hb0⟩)
  have HG0 := Aside0.mk (hg.below hb0)
  have HB0 := Aside0.mk hb0
  have HW := Aside0.mk hw0
  clear hw0 hb0 hg hx hy
  obtain ⟨m1, hm1⟩ : ∃ m, m = decide ((300 : Int) < (x.f6.length : Int)) := ⟨_, rfl⟩
  obtain ⟨m2, hm2⟩ : ∃ m, m = decide ((300 : Int) < (y.f6.length : Int)) := ⟨_, rfl⟩
  obtain ⟨m3, hm3⟩ : ∃ m, m = decide ((300 : Int) < (x.f5.f1.length : Int)) := ⟨_, rfl⟩
  obtain ⟨m4, hm4⟩ : ∃ m, m = decide ((300 : Int) < (y.f5.f1.length : Int)) := ⟨_, rfl⟩
  replace hm1 := hm1.symm
  replace hm2 := hm2.symm
  replace hm3 := hm3.symm
  replace hm4 := hm4.symm
  go_enter Tryd.func7, Tryd.ntmps7
  go_wp2_with fail
  rw [← HW.out]
  clear HW
  refine (known_any g w0 HG0.out).mono ?_
  rintro e w1 ⟨rfl, hB⟩
  have HT1 := Aside0.mk (HT0.out.below hB)
  have HG1 := Aside0.mk (HG0.out.below hB)
  have HB1 := Aside0.mk (below_seq HB0.out hB)
  clear hB HT0 HG0 HB0
  obtain ⟨a0, a1, a2, a3, a4, a5, a6, a7, a8, a9⟩ := evCells HT1.out.1 (Below.refl _ _)
  obtain ⟨b0, b1, b2, b3, b4, b5, b6, b7, b8, b9⟩ := evCells HT1.out.2.1 (Below.refl _ _)
  cases m1 with
  | true =>
    go_wp2
    go_ret
    exact ⟨rfl, HB1.out⟩
  | false =>
    cases m2 with
    | true =>
      go_wp2
      go_ret
      exact ⟨rfl, HB1.out⟩
    | false =>
      cases m3 with
      | true =>
        go_wp2
        go_ret
        exact ⟨rfl, HB1.out⟩
      | false =>
        cases m4 with
        | true =>
          go_wp2
          go_ret
          exact ⟨rfl, HB1.out⟩
        | false =>
          go_wp2_with fail
          refine (line_any g x A6 A9 c6 c9 w1 HG1.out HT1.out.2.2.1).mono ?_
          rintro e w2 ⟨rfl, hB⟩
          have HT2 := Aside0.mk (HT1.out.below hB)
          have HG2 := Aside0.mk (HG1.out.below hB)
          have HB2 := Aside0.mk (below_seq HB1.out hB)
          clear hB HT1 HG1 HB1 a0 a1 a2 a3 a4 a5 a6 a7 a8 a9 b0 b1 b2 b3 b4 b5 b6 b7 b8 b9
          obtain ⟨b0, b1, b2, b3, b4, b5, b6, b7, b8, b9⟩ := evCells HT2.out.2.1 (Below.refl _ _)
          go_wp2_with fail
          refine (line_any g y B6 B9 e6 e9 w2 HG2.out HT2.out.2.2.2).mono ?_
          rintro e w3 ⟨rfl, hB⟩
          have HT3 := Aside0.mk (HT2.out.below hB)
          have HG3 := Aside0.mk (HG2.out.below hB)
          have HB3 := Aside0.mk (below_seq HB2.out hB)
          clear hB HT2 HG2 HB2 b0 b1 b2 b3 b4 b5 b6 b7 b8 b9
          obtain ⟨oa, hoa⟩ : ∃ oa, oa = lineP x := ⟨_, rfl⟩
          obtain ⟨ob, hob⟩ : ∃ ob, ob = lineP y := ⟨_, rfl⟩
          rw [← hoa, ← hob]
          have HOA := Aside0.mk hoa
          have HOB := Aside0.mk hob
          clear hoa hob
          cases oa with
          | none =>
            cases ob with
            | none =>
              simp only [Option.getD, Option.isSome]
              go_wp2
              go_ret
              exact ⟨rfl, HB3.out⟩
            | some t =>
              simp only [Option.getD, Option.isSome]
              go_wp2
              go_ret
              exact ⟨rfl, HB3.out⟩
          | some s =>
            cases ob with
            | none =>
              simp only [Option.getD, Option.isSome]
              go_wp2
              go_ret
              exact ⟨rfl, HB3.out⟩
            | some t =>
              simp only [Option.getD, Option.isSome]
              obtain ⟨a0, a1, a2, a3, a4, a5, a6, a7, a8, a9⟩ := evCells HT3.out.1 (Below.refl _ _)
              have hc : ∀ o, EvCells (w.heap.size + 1) y B6 B9 e6 e9 (w3.alloc o) := fun o => evCells HT3.out.2.1 (below_alloc (Below.refl _ _) o)
              have d0 := fun o => (hc o).1
              have d1 := fun o => (hc o).2.1
              have d2 := fun o => (hc o).2.2.1
              have d3 := fun o => (hc o).2.2.2.1
              have d4 := fun o => (hc o).2.2.2.2.1
              have d5 := fun o => (hc o).2.2.2.2.2.1
              have d6 := fun o => (hc o).2.2.2.2.2.2.1
              have d7 := fun o => (hc o).2.2.2.2.2.2.2.1
              have d8 := fun o => (hc o).2.2.2.2.2.2.2.2.1
              have d9 := fun o => (hc o).2.2.2.2.2.2.2.2.2
              have q := apart_law HOA.out.symm HOB.out.symm
              clear hc
              go_wp2_with fail
              have hb4 : Below w3.heap.size w3 ((w3.alloc (.cells #[.int .i64 x.f0, .int .i64 x.f1, .int .i64 x.f2, .int .i64 x.f3, .int .i64 x.f4, .int .i64 x.f5.f0, .slice A6 x.f5.f1.length c6, .int .i64 x.f5.f2, .int .i64 x.f5.f3, .slice A9 x.f6.length c9] 54)).alloc (.cells #[.int .i64 y.f0, .int .i64 y.f1, .int .i64 y.f2, .int .i64 y.f3, .int .i64 y.f4, .int .i64 y.f5.f0, .slice B6 y.f5.f1.length e6, .int .i64 y.f5.f2, .int .i64 y.f5.f3, .slice B9 y.f6.length e9] 54)) := below_alloc (below_alloc (Below.refl _ _) _) _
              have ht := HT3.out.below hb4
              refine (alike_any [x] [y] (some ⟨w3.heap.size, 0, none⟩) (some ⟨w3.heap.size + 1, 0, none⟩) 1 1 _ (C_one (blk_alloc (blk_new _ _) _) ht.2.2.1) (C_one (blk_new_at (by simp)) ht.2.2.2)
                (fun z hz => by rw [List.mem_singleton.1 hz]; exact HT3.out.2.2.1.good) (fun z hz => by rw [List.mem_singleton.1 hz]; exact HT3.out.2.2.2.good) (by simp)).mono ?_
              rintro e w5 ⟨rfl, hB5⟩
              have HB5 := Aside0.mk (below_seq (below_seq HB3.out hb4) hB5)
              clear hb4 ht hB5
              go_wp2_with fail
              go_ret
              exact ⟨rfl, HB5.out⟩
end Go.Proofs.YtjpkphmihkbfeaaDoor.S34
