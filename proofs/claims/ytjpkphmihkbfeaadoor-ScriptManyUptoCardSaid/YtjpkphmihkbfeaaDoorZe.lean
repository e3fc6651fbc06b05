/- F1, L1, L2 of wip, in one text. -/
import Derived.Test.YtjpkphmihkbfeaaDoorSm
import Derived.Test.YtjpkphmihkbfeaaDoorZd
import Derived.Test.YtjpkphmihkbfeaaDoorZa
import Derived.Test.YtjpkphmihkbfeaaDoorRows
import Derived.ProofKit
import Derived.LaidMore
import Derived.LaidHandle
import Derived.LaidLaws
import Derived.HandedShaped
import Derived.OpenShut
import Derived.Lib.LaidTab
import Derived.Stop.Joined
import Derived.Stop.LaidErr
namespace Go.Proofs.YtjpkphmihkbfeaaDoor.S34
open Go.RowKit Go.Proofs.YtjpkphmihkbfeaaDoorW.PrintWords Go.Proofs.YtjpkphmihkbfeaaDoorW.PrintLast Go.Proofs.YtjpkphmihkbfeaaDoorW.PrintMore Go.Proofs.YtjpkphmihkbfeaaDoor.Q
set_option maxRecDepth 100000
set_option linter.unusedSimpArgs false
theorem EvIn.good {x : S54} {A6 A9 : Option Addr} {c6 c9 : Nat} {w : World} (h : EvIn x A6 A9 c6 c9 w) : EvGood x := ⟨h.i0, h.i1, h.i2, h.i3, h.i4, h.j0, h.j2, h.j3, h.b6, h.b9⟩
theorem EvGood.in_ {x : S54} {A6 A9 : Option Addr} {c6 c9 : Nat} {w : World} (h : EvGood x) (q6 : Kd.C (Kd.int .u8) w A6 x.f5.f1.length x.f5.f1) (h6 : x.f5.f1.length ≤ c6) (q9 : Kd.C (Kd.int .u8) w A9 x.f6.length x.f6) (h9 : x.f6.length ≤ c9) : EvIn x A6 A9 c6 c9 w :=
  ⟨h.i0, h.i1, h.i2, h.i3, h.i4, h.j0, h.j2, h.j3, q6, h6, h.b6, q9, h9, h.b9⟩
theorem EvGood.zero : EvGood z54 := by
  refine ⟨?_, ?_, ?_, ?_, ?_, ?_, ?_, ?_, Bytes.nil, Bytes.nil⟩ <;> exact ⟨by decide, by decide⟩
theorem evv_good (s : ByteArray) : EvGood (evv (parseP s)) := by
  cases h : parseP s with
  | error x => exact EvGood.zero
  | ok y => exact parseP_good h
/-- What a call of script.parse comes to, its event as an argument of another call. -/
def ParseEv (g : Er → Addr) (r : Except Er S54) (w : World) (e : Ending) (w' : World) : Prop :=
  ∃ A6 A9 c6 c9, e = .returned (.tuple #[evArg (evv r) A6 A9 c6 c9, errV g (ero r)]) ∧ EvIn (evv r) A6 A9 c6 c9 w' ∧ Below w.heap.size w w'
theorem k54_in {w : World} {base : Nat} {ok : Nat → Prop} {x : S54} {cs : List Value} (h : k54.M w base ok x cs) (hg : EvGood x) :
    ∃ A6 A9 c6 c9, cs = [.int .i64 x.f0, .int .i64 x.f1, .int .i64 x.f2, .int .i64 x.f3, .int .i64 x.f4, .int .i64 x.f5.f0, .slice A6 x.f5.f1.length c6, .int .i64 x.f5.f2, .int .i64 x.f5.f3, .slice A9 x.f6.length c9] ∧ EvIn x A6 A9 c6 c9 w := by
  obtain ⟨v6, v9, rfl, h6, h9⟩ := k54_openM h
  obtain ⟨A6, c6, rfl, l6, q6⟩ := Kd.R_reads h6
  obtain ⟨A9, c9, rfl, l9, q9⟩ := Kd.R_reads h9
  exact ⟨A6, A9, c6, c9, rfl, hg.in_ q6 l6 q9 l9⟩
theorem parse_ev (g : Er → Addr) (s : ByteArray) (w : World) (hg : Glob g w) (hs : s.size < 4294967281) : Calls Tryd.prog 26 #[.string s] w (ParseEv g (parseP s) w) :=
  (parse_any g s w hg hs).mono fun e w' ⟨cs, he, hM, hB⟩ => by
    obtain ⟨A6, A9, c6, c9, rfl, hi⟩ := k54_in hM (evv_good s)
    exact ⟨A6, A9, c6, c9, he, hi, hB⟩
/-- An event's line, if it has one. -/
def lineP (x : S54) : Option ByteArray :=
  if x.f6.length > 1000 then none else if x.f5.f1.length > 16 then none else
  match parseP (wordsP x) with
  | .ok y => if y = x then some (wordsP x) else none
  | .error _ => none
def LineRes (o : Option ByteArray) (w : World) (e : Ending) (w' : World) : Prop :=
  e = .returned (.tuple #[.string (o.getD ⟨#[]⟩), .bool o.isSome]) ∧ Below w.heap.size w w'
set_option maxHeartbeats 4000000 in
theorem line_any (g : Er → Addr) (x : S54) (A6 A9 : Option Addr) (c6 c9 : Nat) (w : World) (hg : Glob g w) (hx : EvIn x A6 A9 c6 c9 w) :
    Calls Tryd.prog 22 #[evArg x A6 A9 c6 c9] w (LineRes (lineP x) w) := by
  have hl6 : x.f5.f1.length ≤ 9223372036854775807 := Kd.C_max hx.q6
  have hl9 : x.f6.length ≤ 9223372036854775807 := Kd.C_max hx.q9
  have al_ : ∀ o, Below w.heap.size w (w.alloc o) := fun o => below_alloc (Below.refl _ _) o
  by_cases h9 : 1000 < x.f6.length
  · have hr : lineP x = none := if_pos h9
    rw [hr]
    have d9 : decide ((1000 : Int) < (x.f6.length : Int)) = true := decide_eq_true (by omega)
    clear hr h9 hg hx
    go_enter Tryd.func22, Tryd.ntmps22
    go_wp2_with fail
    go_ret2
    exact ⟨rfl, al_ _⟩
  have d9 : decide ((1000 : Int) < (x.f6.length : Int)) = false := decide_eq_false (by omega)
  by_cases h6 : 16 < x.f5.f1.length
  · have hr : lineP x = none := (if_neg h9).trans (if_pos h6)
    rw [hr]
    have d6 : decide ((16 : Int) < (x.f5.f1.length : Int)) = true := decide_eq_true (by omega)
    clear hr h9 h6 hg hx
    go_enter Tryd.func22, Tryd.ntmps22
    go_wp2_with fail
    go_ret2
    exact ⟨rfl, al_ _⟩
  have d6 : decide ((16 : Int) < (x.f5.f1.length : Int)) = false := decide_eq_false (by omega)
  have HL := Aside0.mk (show lineP x = (match parseP (wordsP x) with | .ok y => if y = x then some (wordsP x) else none | .error _ => none) from (if_neg h9).trans (if_neg h6))
  have hsz := wordsP_size hx.good (by omega) (by omega)
  obtain ⟨s, hs⟩ : ∃ s, s = wordsP x := ⟨_, rfl⟩
  obtain ⟨pr, hp⟩ : ∃ pr, pr = parseP s := ⟨_, rfl⟩
  rw [← hs] at HL hsz
  rw [← hp] at HL
  have HG := Aside0.mk hg
  have HX := Aside0.mk hx
  have HN := Aside0.mk (show x.f5.f1.length ≤ 16 ∧ x.f6.length ≤ 1000 from ⟨by omega, by omega⟩)
  have HS := Aside0.mk hs
  have HP := Aside0.mk hp
  clear hg hx hs hp al_ h9 h6
  go_enter Tryd.func22, Tryd.ntmps22
  go_wp2_with fail
  have hblk : EvBlk w.heap.size x A6 A9 c6 c9 (w.alloc (.cells #[.int .i64 x.f0, .int .i64 x.f1, .int .i64 x.f2, .int .i64 x.f3, .int .i64 x.f4, .int .i64 x.f5.f0, .slice A6 x.f5.f1.length c6, .int .i64 x.f5.f2, .int .i64 x.f5.f3, .slice A9 x.f6.length c9] 54)) := blk_new _ _
  have hw0 : Below w.heap.size w (w.alloc (.cells #[.int .i64 x.f0, .int .i64 x.f1, .int .i64 x.f2, .int .i64 x.f3, .int .i64 x.f4, .int .i64 x.f5.f0, .slice A6 x.f5.f1.length c6, .int .i64 x.f5.f2, .int .i64 x.f5.f3, .slice A9 x.f6.length c9] 54)) := below_alloc (Below.refl _ _) _
  generalize hgw : w.alloc (.cells #[.int .i64 x.f0, .int .i64 x.f1, .int .i64 x.f2, .int .i64 x.f3, .int .i64 x.f4, .int .i64 x.f5.f0, .slice A6 x.f5.f1.length c6, .int .i64 x.f5.f2, .int .i64 x.f5.f3, .slice A9 x.f6.length c9] 54) = w0 at hblk hw0 ⊢
  clear hgw
  refine (words_any g x A6 A9 c6 c9 w0 (HG.out.below hw0) (HX.out.below hw0) HN.out.1 HN.out.2).mono ?_
  rintro e w1 ⟨rfl, hB1⟩
  rw [← HS.out]
  have HB1 := Aside0.mk (below_seq hw0 hB1)
  have HBLK := Aside0.mk (show EvBlk w.heap.size x A6 A9 c6 c9 w1 from blk_below hblk hB1)
  have HG1 := Aside0.mk (HG.out.below HB1.out)
  have HX1 := Aside0.mk (HX.out.below HB1.out)
  clear hw0 hblk hB1
  go_wp2_with fail
  refine (parse_ev g s w1 HG1.out (by omega)).mono ?_
  rw [← HP.out]
  rintro e w2 ⟨B6, B9, e6, e9, rfl, hY, hB2⟩
  have HY := Aside0.mk hY
  have HB2 := Aside0.mk hB2
  obtain ⟨y, hy⟩ : ∃ y, y = evv pr := ⟨_, rfl⟩
  rw [← hy] at HY ⊢
  have HYE := Aside0.mk hy
  clear hY hB2 hy
  cases pr with
  | error z =>
    have he : errV g (ero (Except.error (α := S54) z)) = .iface 71 (.pointer (some (g z))) := rfl
    rw [he]
    clear he
    go_wp2_with fail
    go_ret2
    have hl : lineP x = none := HL.out
    rw [hl]
    exact ⟨rfl, below_alloc (below_seq HB1.out HB2.out) _⟩
  | ok z =>
    have he : errV g (ero (Except.ok (ε := Er) z)) = .nilIface := rfl
    rw [he]
    clear he
    have hyz : y = z := HYE.out
    subst hyz
    have hc : ∀ o, EvCells w.heap.size x A6 A9 c6 c9 (w2.alloc o) := fun o => evCells (show EvBlk w.heap.size x A6 A9 c6 c9 w2 from blk_below HBLK.out HB2.out) (below_alloc (Below.refl _ _) o)
    have c0 := fun o => (hc o).1
    have c1 := fun o => (hc o).2.1
    have c2 := fun o => (hc o).2.2.1
    have c3 := fun o => (hc o).2.2.2.1
    have c4 := fun o => (hc o).2.2.2.2.1
    have c5 := fun o => (hc o).2.2.2.2.2.1
    have c6_ := fun o => (hc o).2.2.2.2.2.2.1
    have c7 := fun o => (hc o).2.2.2.2.2.2.2.1
    have c8 := fun o => (hc o).2.2.2.2.2.2.2.2.1
    have c9_ := fun o => (hc o).2.2.2.2.2.2.2.2.2
    clear hc
    go_wp2_with fail
    have hb3 : Below w2.heap.size w2 (w2.alloc (.cells #[.int .i64 y.f0, .int .i64 y.f1, .int .i64 y.f2, .int .i64 y.f3, .int .i64 y.f4, .int .i64 y.f5.f0, .slice B6 y.f5.f1.length e6, .int .i64 y.f5.f2, .int .i64 y.f5.f3, .slice B9 y.f6.length e9] 54)) := below_alloc (Below.refl _ _) _
    refine (same_any y x B6 B9 A6 A9 e6 e9 c6 c9 _ (HY.out.below hb3) ((HX1.out.below HB2.out).below hb3)).mono ?_
    rintro e w3 ⟨rfl, hB3⟩
    have HB3 := Aside0.mk (below_seq (below_seq (below_seq HB1.out HB2.out) hb3) hB3)
    clear hb3 hB3
    cases hq : sameP y x with
    | true =>
      have HQ := Aside0.mk hq
      clear hq
      go_wp2_with fail
      go_ret2
      have : y = x := of_decide_eq_true HQ.out
      have hl : lineP x = some s := HL.out.trans (if_pos this)
      rw [hl]
      exact ⟨rfl, HB3.out⟩
    | false =>
      have HQ := Aside0.mk hq
      clear hq
      go_wp2_with fail
      go_ret2
      have : ¬ y = x := of_decide_eq_false HQ.out
      have hl : lineP x = none := HL.out.trans (if_neg this)
      rw [hl]
      exact ⟨rfl, HB3.out⟩
end Go.Proofs.YtjpkphmihkbfeaaDoor.S34
namespace Go.Proofs.YtjpkphmihkbfeaaDoor.S34
open Go.RowKit Go.Proofs.YtjpkphmihkbfeaaDoorW.PrintWords Go.Proofs.YtjpkphmihkbfeaaDoorW.PrintLast Go.Proofs.YtjpkphmihkbfeaaDoorW.PrintMore Go.Proofs.YtjpkphmihkbfeaaDoor.Q
set_option maxRecDepth 100000
def known1 : ByteArray := ⟨#[106, 111, 105, 110, 32, 51, 32, 119, 114, 105, 116, 101, 10, 111, 117, 116, 32, 34, 104, 105, 92, 48, 100, 34, 10, 116, 105, 99, 107, 32, 49, 48, 10]⟩
def known2 : ByteArray := ⟨#[116, 105, 99, 107, 32, 48, 49, 48, 10]⟩
def known3 : ByteArray := ⟨#[116, 105, 99, 107, 32, 53, 10, 107, 101, 121, 115, 32, 51, 32, 34, 34, 10]⟩
theorem known1_is : parseAll known1 = .ok [⟨1, 3, 0, 0, 2, z52, []⟩, ⟨4, 0, 0, 0, 0, z52, [104, 105, 13]⟩, ⟨6, 0, 10, 0, 0, z52, []⟩] := by kernel_rfl
theorem known2_is : parseAll known2 = .error (1, .number) := by kernel_rfl
theorem known3_is : parseAll known3 = .error (2, .text) := by kernel_rfl
theorem knownL_is : lineP ⟨6, 0, 10, 0, 0, z52, []⟩ = some ⟨#[116, 105, 99, 107, 32, 49, 48]⟩ := by kernel_rfl
set_option maxHeartbeats 4000000 in
theorem known_any (g : Er → Addr) (w : World) (hg : Glob g w) : Calls Tryd.prog 11 #[] w fun e w' => e = .returned (.bool true) ∧ Below w.heap.size w w' := by
  have HG := Aside0.mk hg
  clear hg
  go_enter Tryd.func11, Tryd.ntmps11
  go_wp2_with fail
  refine (Parse_any g known1 w HG.out (by decide)).mono ?_
  rw [known1_is]
  rintro e w1 ⟨v, rfl, hR, hB⟩
  obtain ⟨A, c, rfl, hc, hC⟩ := Kd.R_reads hR
  have HB1 := Aside0.mk hB
  have HC1 := Aside0.mk hC
  have HG1 := Aside0.mk (HG.out.below hB)
  clear hB hC hR hc HG
  go_wp2_with fail
  refine (Parse_any g known2 w1 HG1.out (by decide)).mono ?_
  rw [known2_is]
  rintro e w2 ⟨b2, rfl, hF2, _, hB2⟩
  have HB2 := Aside0.mk (below_seq HB1.out hB2)
  have HC2 := Aside0.mk (Kd.C_below HC1.out hB2)
  have HG2 := Aside0.mk (HG1.out.below hB2)
  have HF2 := Aside0.mk hF2
  clear hB2 hF2 HB1 HC1 HG1
  go_wp2_with fail
  refine (Parse_any g known3 w2 HG2.out (by decide)).mono ?_
  rw [known3_is]
  rintro e w3 ⟨b3, rfl, hF3, _, hB3⟩
  have HB3 := Aside0.mk (below_seq HB2.out hB3)
  have HC3 := Aside0.mk (Kd.C_below HC2.out hB3)
  have HG3 := Aside0.mk (HG2.out.below hB3)
  have HF23 := Aside0.mk (show FaultAt g .number 1 b2 w3 from blk_below HF2.out hB3)
  have HF33 := Aside0.mk hF3
  clear hB3 hF3 HB2 HC2 HG2 HF2
  go_wp2_with fail
  refine (fault_any g .number 1 b2 w3 HG3.out HF23.out).mono ?_
  rintro e w4 ⟨rfl, hB4⟩
  have HB4 := Aside0.mk (below_seq HB3.out hB4)
  have HC4 := Aside0.mk (Kd.C_below HC3.out hB4)
  have HG4 := Aside0.mk (HG3.out.below hB4)
  have HF24 := Aside0.mk (show FaultAt g .number 1 b2 w4 from blk_below HF23.out hB4)
  have HF34 := Aside0.mk (show FaultAt g .text 2 b3 w4 from blk_below HF33.out hB4)
  clear hB4 HB3 HC3 HG3 HF23 HF33
  simp only [Option.elim, Option.map, codeE, Er.code]
  go_wp2_with fail
  refine (fault_any g .text 2 b3 w4 HG4.out HF34.out).mono ?_
  rintro e w5 ⟨rfl, hB5⟩
  have HB5 := Aside0.mk (below_seq HB4.out hB5)
  have HC5 := Aside0.mk (Kd.C_below HC4.out hB5)
  have HG5 := Aside0.mk (HG4.out.below hB5)
  have HF25 := Aside0.mk (show FaultAt g .number 1 b2 w5 from blk_below HF24.out hB5)
  have HF35 := Aside0.mk (show FaultAt g .text 2 b3 w5 from blk_below HF34.out hB5)
  clear hB5 HB4 HC4 HG4 HF24 HF34
  simp only [Option.elim, Option.map, codeE, Er.code]
  go_wp2_with fail
  have hin : EvIn ⟨6, 0, 10, 0, 0, z52, []⟩ none none 0 0 w5 := EvGood.in_ ⟨i64_of (by decide) (by decide), i64_of (by decide) (by decide), i64_of (by decide) (by decide), i64_of (by decide) (by decide), i64_of (by decide) (by decide), i64_of (by decide) (by decide), i64_of (by decide) (by decide), i64_of (by decide) (by decide), Bytes.nil, Bytes.nil⟩ (Kd.C_nil _ _) (Nat.le_refl _) (Kd.C_nil _ _) (Nat.le_refl _)
  refine (line_any g ⟨6, 0, 10, 0, 0, z52, []⟩ none none 0 0 w5 HG5.out hin).mono ?_
  rw [knownL_is]
  rintro e w6 ⟨rfl, hB6⟩
  have HB6 := Aside0.mk (below_seq HB5.out hB6)
  have HG6 := Aside0.mk (HG5.out.below hB6)
  have HF26 := Aside0.mk (show FaultAt g .number 1 b2 w6 from blk_below HF25.out hB6)
  have HF36 := Aside0.mk (show FaultAt g .text 2 b3 w6 from blk_below HF35.out hB6)
  obtain ⟨ad, A6, c6, A9, c9, rfl, x0, x1, x2, x3, x4, x5, x6, x7, x8, x9, -, q6, -, q9⟩ := at_T54 (Kd.C_below HC5.out hB6) 1 (by decide) (by decide)
  clear hB6 HB5 HC5 HG5 HF25 HF35 hin x0 x1 x2 x3 x4 x5 x6 x7 x8 q6
  have hr : (rd_T54 [⟨1, 3, 0, 0, 2, z52, []⟩, ⟨4, 0, 0, 0, 0, z52, [104, 105, 13]⟩, ⟨6, 0, 10, 0, 0, z52, []⟩] 1).f6 = [104, 105, 13] := rfl
  rw [hr] at x9 q9
  have hs : (convert 50 9 (.slice A9 3 c9)).run Tryd.prog w6 = .ok (.string (strOfNums [104, 105, 13])) w6 := Kd.C_string (P := Tryd.prog) (c := c9) Tryd.underlying50 (by kernel_rfl) Tryd.underlying9 q9
  replace x9 : w6.cell? ⟨ad.block, ad.off + 10 + 9, none⟩ = some (.slice A9 3 c9) := x9
  have he : (strOfNums [104, 105, 13]).toList = [104, 105, 13] := by kernel_rfl
  clear hr q9
  simp only [Option.getD, Option.isSome]
  go_wp2_with fail
  refine (told_any g .number 1 b2 w6 HG6.out HF26.out (by decide) (by decide)).mono ?_
  rintro e w7 ⟨rfl, hB7⟩
  have HB7 := Aside0.mk (below_seq HB6.out hB7)
  have HG7 := Aside0.mk (HG6.out.below hB7)
  have HF37 := Aside0.mk (show FaultAt g .text 2 b3 w7 from blk_below HF36.out hB7)
  clear hB7 HB6 HG6 HF26 HF36 x9 hs
  go_wp2_with fail
  refine (told_any g .text 2 b3 w7 HG7.out HF37.out (by decide) (by decide)).mono ?_
  rintro e w8 ⟨rfl, hB8⟩
  have HB8 := Aside0.mk (below_seq HB7.out hB8)
  clear hB8 HB7 HG7 HF37
  go_wp2_with fail
  go_ret
  exact ⟨rfl, HB8.out⟩
end Go.Proofs.YtjpkphmihkbfeaaDoor.S34
/- What the rows' condition on the laid variables gives the walks; a start that meets it; the road from a row to a call. -/
namespace Go.Proofs.YtjpkphmihkbfeaaDoor.S34
open Go.ChangeShapes Go.WideShapes Go.ChangeAt Go.RowKit
set_option maxRecDepth 100000
set_option linter.unusedSimpArgs false

theorem own : ownKnob Tryd.prog.godebug = none := by kernel_rfl
abbrev errNm : String := "*errors.errorString"
theorem star : "*" ++ "errors.errorString" = "*errors.errorString" := by decide
theorem row71 (u : TypeId) (h : Tryd.prog.typeName? 3 u = some errNm) : u = 71 :=
  typeName_ptr_named (nm := "errors.errorString") (by rw [star]; kernel_rfl) (by kernel_rfl) (by decide) u (by rw [star]; exact h)
theorem rt : (Tryd.prog.cutTypes.find? (·.1 == "internal/reflectlite.rtype")).map (·.2) = some 121 := by kernel_rfl
theorem oneRow : ((List.range Tryd.prog.types.size).filter fun t => Tryd.prog.rowNamed t [101, 114, 114, 111, 114]) = [25] := by kernel_rfl

/-- A sentinel's datum. -/
abbrev sentD (text : List UInt8) : DataW Unit := .iface errNm (.ptr (.agg [.lit (.string text)]))
theorem laidVars_mem {w : World} : ∀ {l : List (String × DataW Unit)} {ps : List MemPlace} {n : String} {d : DataW Unit}, DataW.LaidVars Tryd.prog w l ps → (n, d) ∈ l →
    ∃ g t cs fuel p, Tryd.prog.globalNamed n = some g ∧ (Tryd.prog.globals[g]?).map (·.type) = some t ∧ w.var? Tryd.prog n = some cs ∧ DataW.trod (fun _ => ()) Tryd.prog w 0 (fun _ => true) false fuel t cs.toList = some (d, p) ∧
      ∀ x ∈ MemPlace.row ⟨g, 0, none⟩ cs.size ++ p, x ∈ ps
  | [], _, _, _, _, h => by cases h
  | (n0, d0) :: r, ps, n, d, hv, h => by
    obtain ⟨g, t, cs, fuel, p, q, e1, e2, e3, e4, hq, rfl⟩ := hv
    rcases List.mem_cons.1 h with h | h
    · injection h with h1 h2
      subst h1; subst h2
      exact ⟨g, t, cs, fuel, p, e1, e2, e3, e4, fun x hx => List.mem_append_left _ hx⟩
    · obtain ⟨g', t', cs', fuel', p', k1, k2, k3, k4, k5⟩ := laidVars_mem hq h
      exact ⟨g', t', cs', fuel', p', k1, k2, k3, k4, fun x hx => List.mem_append_right _ (k5 x hx)⟩
/-- A sentinel of the list. -/
theorem laid_sent {W : World} {l : List (String × DataW Unit)} {ps : List MemPlace} {n : String} {text : List UInt8} (hv : DataW.LaidVars Tryd.prog W l ps)
    (hrows : ∀ b off, MemPlace.cell b off ∈ ps → (∃ c t, W.heap[b]? = some (.cells c t (0, 0))) ∧ ∀ u v, W.cell? ⟨b, off, none⟩ = some (.iface u v) → Value.okWide Tryd.prog W .any 0 u v)
    (hm : (n, sentD text) ∈ l) (g : Nat) (hg : Tryd.prog.globalNamed n = some g) (ht : (Tryd.prog.globals[g]?).map (·.type) = some 25) :
    ∃ a : Addr, W.cell? ⟨g, 0, none⟩ = some (.iface 71 (.pointer (some a))) ∧ (∃ c t, W.heap[a.block]? = some (.cells c t (0, 0))) ∧ MemPlace.cell a.block a.off ∈ ps := by
  obtain ⟨g0, t0, cs0, f0, p0, hg0, ht0, hv0, hd0, hin⟩ := laidVars_mem hv hm
  obtain rfl := Option.some.inj (hg.symm.trans hg0)
  obtain rfl := Option.some.inj (ht.symm.trans ht0)
  obtain ⟨l0⟩ := cs0
  have ok0 : ∀ u v, l0 = [.iface u v] → Value.okWide Tryd.prog W .any 0 u v := fun u v e => by
    subst e
    exact (hrows g 0 (hin _ (by simp [MemPlace.row]))).2 u v (by simpa using World.var?_cell hg hv0 0)
  obtain ⟨a0, s0, rfl, hc0, hs0, hz0, rfl⟩ := errorString_of_trod Tryd.underlying25 row71 Tryd.underlying71 Tryd.underlying73 rfl rfl Tryd.underlying9 (by kernel_rfl) (by kernel_rfl) hd0 ok0
  have hp : MemPlace.cell a0.block a0.off ∈ ps := hin _ (by simp [MemPlace.row])
  exact ⟨a0, by simpa using World.var?_cell hg hv0 0, (hrows _ _ hp).1, hp⟩
/-- The first of a list is apart from the later ones. -/
theorem laid_apart {W : World} {r : List (String × DataW Unit)} {n n1 : String} {text text1 : List UInt8} {g g1 : Nat} {a a1 : Addr} (h : laidMet Tryd.prog ((n, sentD text) :: r) W)
    (hm1 : (n1, sentD text1) ∈ r) (hg : Tryd.prog.globalNamed n = some g) (ht : (Tryd.prog.globals[g]?).map (·.type) = some 25) (hg1 : Tryd.prog.globalNamed n1 = some g1) (ht1 : (Tryd.prog.globals[g1]?).map (·.type) = some 25)
    (hc : W.cell? ⟨g, 0, none⟩ = some (.iface 71 (.pointer (some a)))) (hc1 : W.cell? ⟨g1, 0, none⟩ = some (.iface 71 (.pointer (some a1)))) : a ≠ a1 := by
  obtain ⟨ps, hv, hnd, hrows⟩ := h
  obtain ⟨g0, t0, cs0, f0, p0, q0, hg0, ht0, hv0, hd0, hq, rfl⟩ := hv
  obtain rfl := Option.some.inj (hg.symm.trans hg0)
  obtain rfl := Option.some.inj (ht.symm.trans ht0)
  obtain ⟨l0⟩ := cs0
  have ok0 : ∀ u v, l0 = [.iface u v] → Value.okWide Tryd.prog W .any 0 u v := fun u v e => by
    subst e
    exact (hrows g 0 (by simp [MemPlace.row])).2 u v (by simpa using World.var?_cell hg hv0 0)
  obtain ⟨a0, s0, rfl, hc0, hs0, hz0, rfl⟩ := errorString_of_trod Tryd.underlying25 row71 Tryd.underlying71 Tryd.underlying73 rfl rfl Tryd.underlying9 (by kernel_rfl) (by kernel_rfl) hd0 ok0
  have e0 : a0 = a := by
    have := World.var?_cell hg hv0 0
    rw [hc] at this
    simpa using this.symm
  subst e0
  obtain ⟨b, hb, _, hin⟩ := laid_sent hq (fun b off hm => hrows b off (List.mem_append_right _ hm)) hm1 g1 hg1 ht1
  have e1 : b = a1 := by
    rw [hc1] at hb
    injection hb with hb
    injection hb with _ hb
    injection hb with hb
    injection hb with hb
    exact hb.symm
  subst e1
  rintro rfl
  have := (List.nodup_append.1 hnd).2.2 (MemPlace.cell a0.block a0.off) (by simp [MemPlace.row]) _ hin
  exact this rfl

/-- The list that each row lays. -/
abbrev laidL : List (String × DataW Unit) := Rows.scriptFaultsRow.laid
abbrev laidD : List (String × DataW Unit) := [("math/bits.deBruijn32tab", Rows.laid_math_bits_deBruijn32tab), ("math/bits.deBruijn64tab", Rows.laid_math_bits_deBruijn64tab), ("internal/strconv.uint64pow10", Rows.laid_internal_strconv_uint64pow10), ("unicode/utf8.acceptRanges", Rows.laid_unicode_utf8_acceptRanges), ("oriel/script.ErrLong", sentD [116, 111, 111, 32, 108, 111, 110, 103]), ("oriel/script.ErrWord", sentD [119, 111, 114, 100]), ("oriel/script.ErrNumber", sentD [110, 117, 109, 98, 101, 114]), ("oriel/script.ErrText", sentD [116, 101, 120, 116]), ("oriel/script.ErrEnd", sentD [110, 111, 32, 108, 105, 110, 101, 32, 102, 101, 101, 100]), ("unicode/utf8.first", Rows.laid_unicode_utf8_first)]
theorem laid_data : (laidL.filter fun x => x.2.handleName?.isNone) = laidD := by kernel_rfl
theorem laid_hand : (laidL.filter fun x => x.2.handleName?.isSome) = [("errors.errorType", Rows.laid_errors_errorType)] := by kernel_rfl
def sentOf : Er → String × Nat
  | .long => ("oriel/script.ErrLong", 3) | .word => ("oriel/script.ErrWord", 1) | .number => ("oriel/script.ErrNumber", 4) | .text => ("oriel/script.ErrText", 0) | .ends => ("oriel/script.ErrEnd", 2)
def textOf : Er → List UInt8
  | .long => [116, 111, 111, 32, 108, 111, 110, 103] | .word => [119, 111, 114, 100] | .number => [110, 117, 109, 98, 101, 114] | .text => [116, 101, 120, 116] | .ends => [110, 111, 32, 108, 105, 110, 101, 32, 102, 101, 101, 100]
theorem sentOf_g (x : Er) : Tryd.prog.globalNamed (sentOf x).1 = some (sentOf x).2 := by cases x <;> kernel_rfl
theorem sentOf_t (x : Er) : (Tryd.prog.globals[(sentOf x).2]?).map (·.type) = some 25 := by cases x <;> kernel_rfl
theorem glob_of_laid {W : World} (h : laidMetH Tryd.prog laidL W) (hsh : W.ShapedOpen Tryd.prog) : ∃ g, Glob g W := by
  unfold laidMetH at h
  rw [laid_hand, laid_data] at h
  obtain ⟨hd, hh⟩ := h
  have hd0 := hd
  obtain ⟨ps, hv, hnd, hrows⟩ := hd
  have key : ∀ x : Er, ∃ a : Addr, W.cell? ⟨(sentOf x).2, 0, none⟩ = some (.iface 71 (.pointer (some a))) ∧ (∃ c t, W.heap[a.block]? = some (.cells c t (0, 0))) ∧ MemPlace.cell a.block a.off ∈ ps := fun x =>
    laid_sent (text := textOf x) hv hrows (by cases x <;> simp [sentOf, textOf]) _ (sentOf_g x) (sentOf_t x)
  refine ⟨fun x => Classical.choose (key x), ?_, ?_, ?_, ?_, ?_, ?_⟩
  · intro x
    have := (Classical.choose_spec (key x)).1
    cases x <;> exact this
  · intro x
    exact (Classical.choose_spec (key x)).2.1
  · have h1 := hd0.tail.tail.tail.tail
    have h2 := h1.tail
    have h3 := h2.tail
    have h4 := h3.tail
    have cc := fun x => (Classical.choose_spec (key x)).1
    have a1 : ∀ y, y ≠ Er.long → Classical.choose (key .long) ≠ Classical.choose (key y) := fun y hy =>
      laid_apart h1 (n1 := (sentOf y).1) (text1 := textOf y) (by cases y <;> first | exact absurd rfl hy | simp [sentOf, textOf]) (sentOf_g .long) (sentOf_t .long) (sentOf_g y) (sentOf_t y) (cc .long) (cc y)
    have a2 : ∀ y, y ≠ Er.long → y ≠ Er.word → Classical.choose (key .word) ≠ Classical.choose (key y) := fun y hy hy2 =>
      laid_apart h2 (n1 := (sentOf y).1) (text1 := textOf y) (by cases y <;> first | exact absurd rfl hy | exact absurd rfl hy2 | simp [sentOf, textOf]) (sentOf_g .word) (sentOf_t .word) (sentOf_g y) (sentOf_t y) (cc .word) (cc y)
    have a3 : ∀ y, y = Er.text ∨ y = Er.ends → Classical.choose (key .number) ≠ Classical.choose (key y) := fun y hy =>
      laid_apart h3 (n1 := (sentOf y).1) (text1 := textOf y) (by rcases hy with rfl | rfl <;> simp [sentOf, textOf]) (sentOf_g .number) (sentOf_t .number) (sentOf_g y) (sentOf_t y) (cc .number) (cc y)
    have a4 : Classical.choose (key .text) ≠ Classical.choose (key .ends) :=
      laid_apart h4 (n1 := (sentOf .ends).1) (text1 := textOf .ends) (by simp [sentOf, textOf]) (sentOf_g .text) (sentOf_t .text) (sentOf_g .ends) (sentOf_t .ends) (cc .text) (cc .ends)
    intro x y hxy
    cases x <;> cases y <;> first
      | exact absurd rfl hxy
      | exact a1 _ (by decide)
      | exact (a1 _ (by decide)).symm
      | exact a2 _ (by decide) (by decide)
      | exact (a2 _ (by decide) (by decide)).symm
      | exact a3 _ (by first | exact Or.inl rfl | exact Or.inr rfl)
      | exact (a3 _ (by first | exact Or.inl rfl | exact Or.inr rfl)).symm
      | exact a4
      | exact a4.symm
  · obtain ⟨name, u, ty, e1, e2, e3, e4, e5⟩ := hh _ (List.mem_singleton.2 rfl)
    have en : name = [101, 114, 114, 111, 114] := (Option.some.inj e1).symm
    subst en
    obtain rfl := Option.some.inj (rt.symm.trans e2)
    have hm : ty ∈ (List.range Tryd.prog.types.size).filter fun t => Tryd.prog.rowNamed t [101, 114, 114, 111, 114] := List.mem_filter.2 ⟨List.mem_range.2 e3, e4⟩
    rw [oneRow] at hm
    obtain rfl := List.mem_singleton.1 hm
    have hh : typeHandle Tryd.prog 25 = .pointer (some ⟨12, 25, none⟩) := by kernel_rfl
    rw [hh] at e5
    simpa using World.var?_cell (g := 5) (by kernel_rfl) e5 0
  · exact cell_of_shapedOpen_int (P := Tryd.prog) (g := 6) (t := 3) (zero := #[.int .i64 0]) hsh (of_decide_eq_true (by kernel_rfl)) (by kernel_rfl) rfl (by kernel_rfl) (by kernel_rfl) Tryd.underlying3
  · have h1 := hd0.tail.tail
    exact Lib.tabIs_of_head (g := 7) (t := 166) (e := 155) (n := 20) (by kernel_rfl) (by kernel_rfl) Tryd.underlying166 (by kernel_rfl) (by kernel_rfl) (by kernel_rfl) h1
end Go.Proofs.YtjpkphmihkbfeaaDoor.S34
/- A start that meets the rows' condition, and the road from a row to a call. -/
namespace Go.Proofs.YtjpkphmihkbfeaaDoor.S34
open Go.ChangeShapes Go.WideShapes Go.ChangeAt Go.RowKit
set_option maxRecDepth 100000
set_option linter.unusedSimpArgs false

/-- A start that meets the condition: the heap that the door's own run leaves, and Go's own table. -/
noncomputable def doorW (os : Os) : World :=
  let w0 := World.doorLaid Tryd.prog 200 os
  { w0 with heap := w0.heap.modify 8 fun
      | .cells _ t frozen => .cells (Go.Pinned.utf8FirstZ.map fun (z : Nat) => Value.int .u8 (z : Int)).toArray t frozen
      | o => o }
theorem door_met (os : Os) (args : Array Value) : laidMetH Tryd.prog laidL ((doorW os).forCall (fun _ _ => 0) ⟨#[], args, []⟩).memory :=
  laidMetH_of_parts (laidMet_of_run' 8 (by kernel_rfl) (by kernel_rfl)) (by kernel_rfl)
/-- The road from a row to a call, the condition and the variables' shapes at hand. -/
theorem lifted {H : Type} {enc : TypeId × Value → H} {a : Assume} {C : Checked} {os : Os} {f : FuncId} {fn : Func} {s : ChangeSpec} {conds : List PathCond} {apart fresh handsOn again : Bool} {X : World → Array Value → Prop}
    (hX : ∀ (w w' : World) (args : Array Value), w.heap = w'.heap → X w args → X w' args)
    (own : ownKnob C.prog.godebug = none) (started : os.Started) (noInit : C.prog.inits.idxOf? f = none) (hfn : C.prog.funcs[f]? = some fn)
    (witness : ∃ (w : World) (tape : Tape) (i : Input), w.os = os ∧ (w.forCall tape i).Shaped C.prog ∧ i.vars = [] ∧ Input.okWide C.prog (w.forCall tape i) .any w.heap.size f i ∧
      ((s.pre enc C.prog fn conds apart (w.forCall tape i).memory i.args ∧ X (w.forCall tape i).memory i.args) ∧ sizedMet enc C.prog fn (OpenSpec.ofChange s) apart (w.forCall tape i).memory i.args) ∧ a.holds C.prog (lone (Frame.enter C.prog f i.args .normal) [] (w.forCall tape i)))
    (contract : ∀ (W : World) (base : Nat) (args : Array Value) (ds gs : List (DataW H)) (before : List MemPlace),
      (∀ (j : Nat) t v, fn.params[j]? = some t → args[j]? = some v → Value.okWide C.prog W .any base t v) →
      DataW.Whole enc C.prog fn.params.toList s.vars apart W args.toList ds gs before →
      conds.all (PathCond.test C.prog ⟨fn.params.toList, ds, s.plain.varTypes C.prog, gs⟩) = true →
      (DataW.weightsEach C.prog (fn.params.toList ++ s.plain.varTypes C.prog) (ds ++ gs)).all (· ≤ reachBytes) = true → X W args → W.ShapedOpen C.prog →
      a.holds C.prog (lone (Frame.enter C.prog f args .normal) [] W) →
      Calls C.prog f args W fun e W' => ∃ v, e = .returned v ∧ s.post enc C.prog fn apart fresh handsOn again W args v W') :
    ReturnsInHanded a C os f .any (fun w args => (s.pre enc C.prog fn conds apart w args ∧ X w args) ∧ sizedMet enc C.prog fn (OpenSpec.ofChange s) apart w args) (s.post enc C.prog fn apart fresh handsOn again) := by
  refine returnsInHanded_of_calls own started noInit witness ?_
  intro w tape i _ hsh _ hok hpre hholds
  obtain ⟨_, _, _, fn', hfn', _, _, _, _, hval⟩ := hok
  have e : fn' = fn := Option.some.inj (hfn'.symm.trans hfn)
  subst e
  obtain ⟨⟨⟨ds, gs, before, hw, hc⟩, hx⟩, hz⟩ := hpre
  have hw' := DataW.Whole.of_heap (w' := w.forCall tape i) (by rfl) hw
  refine (contract (w.forCall tape i) w.heap.size i.args ds gs before hval hw' hc (hz.weights hw) (hX _ _ _ (by rfl) hx) hsh hholds).mono fun e W' ⟨v, he, hp⟩ => ?_
  subst he
  exact ChangeSpec.post_blind hp
end Go.Proofs.YtjpkphmihkbfeaaDoor.S34
