/- (Pr for ScriptLines, without Rb.) script.Print by a contract. -/
import Derived.Test.YtjpkphmihkbfeaaDoorBu
import Derived.Test.YtjpkphmihkbfeaaDoorRh
import Derived.Test.YtjpkphmihkbfeaaDoorZe
import Derived.Test.YtjpkphmihkbfeaaDoorG3
namespace Go.Proofs.YtjpkphmihkbfeaaDoor.S34
open Go.RowKit Go.Proofs.YtjpkphmihkbfeaaDoorW.PrintWords Go.Proofs.YtjpkphmihkbfeaaDoorW.PrintLast Go.Proofs.YtjpkphmihkbfeaaDoorW.PrintMore Go.Proofs.YtjpkphmihkbfeaaDoor.Q
set_option maxRecDepth 100000
set_option linter.unusedSimpArgs false
theorem lineP_some {x : S54} {s : ByteArray} (h : lineP x = some s) : parseP s = .ok x ∧ s = wordsP x ∧ x.f6.length ≤ 1000 ∧ x.f5.f1.length ≤ 16 := by
  unfold lineP at h
  split at h
  · cases h
  · split at h
    · cases h
    · split at h
      · rename_i y hy
        split at h
        · rename_i he
          injection h with h
          subst h
          subst he
          exact ⟨hy, rfl, by omega, by omega⟩
        · cases h
      · cases h
def printFrom : List S54 → Nat → ByteArray → ByteArray × Nat
  | [], i, acc => (acc, i)
  | e :: l, i, acc => match lineP e with
    | none => (⟨#[]⟩, i)
    | some s => if 1000 ≤ i then (⟨#[]⟩, i) else printFrom l (i + 1) (acc ++ s ++ ⟨#[10]⟩)
def printAll (l : List S54) : ByteArray × Nat := printFrom l 0 ⟨#[]⟩
def PrintRes (r : ByteArray × Nat) (w : World) (e : Ending) (w' : World) : Prop :=
  e = .returned (.tuple #[.string r.1, .int .i64 (r.2 : Int)]) ∧ Below w.heap.size w w'
theorem Holds84.below {B b : Nat} {t : ByteArray} {W W1 : World} (h : Holds84 B b t W) (k : Below W.heap.size W W1) : Holds84 B b t W1 := by
  have mv : ∀ p, Lib.BuilderAt 84 5 B b p (Lib.byteCells t.data.toList) W → Lib.BuilderAt 84 5 B b p (Lib.byteCells t.data.toList) W1 := fun p ⟨hB, v, hb, hown, hne⟩ =>
    ⟨hB, v, blk_below hb k, own_move hown (fun j hj => k.block j (own_lt hown j hj)), hne⟩
  exact h.imp (mv _) (mv _)
theorem print_step {l : List S54} {k : Nat} {acc : ByteArray} (hk : k < l.length) {s : ByteArray} (hs : lineP l[k] = some s) (h1 : k < 1000) :
    printFrom (l.drop k) k acc = printFrom (l.drop (k + 1)) (k + 1) (acc ++ s ++ ⟨#[10]⟩) := by
  rw [List.drop_eq_getElem_cons hk, printFrom, hs]
  dsimp only
  rw [if_neg (by omega)]
theorem print_none {l : List S54} {k : Nat} {acc : ByteArray} (hk : k < l.length) (hs : lineP l[k] = none) : printFrom (l.drop k) k acc = (⟨#[]⟩, k) := by
  rw [List.drop_eq_getElem_cons hk, printFrom, hs]
theorem print_many {l : List S54} {k : Nat} {acc : ByteArray} (hk : k < l.length) {s : ByteArray} (hs : lineP l[k] = some s) (h1 : 1000 ≤ k) : printFrom (l.drop k) k acc = (⟨#[]⟩, k) := by
  rw [List.drop_eq_getElem_cons hk, printFrom, hs]
  dsimp only
  rw [if_pos h1]
theorem line_size {x : S54} {s : ByteArray} (h : lineP x = some s) (hx : EvGood x) : s.size ≤ 3100 := by
  have hl := lineP_some h
  rw [hl.2.1]
  exact wordsP_size hx hl.2.2.2 hl.2.2.1
set_option maxHeartbeats 8000000 in
theorem print_any (g : Er → Addr) (l : List S54) (A : Option Addr) (c : Nat) (w : World) (hg : Glob g w) (hC : Kd.C k54 w A l.length l) (hgood : ∀ x ∈ l, EvGood x) :
    Calls Tryd.prog 24 #[.slice A l.length c] w (PrintRes (printAll l) w) := by
  have HG := Aside0.mk hg
  have HC := Aside0.mk hC
  have HGD := Aside0.mk hgood
  clear hg hC hgood
  go_enter Tryd.func24, Tryd.ntmps24
  go_wp2_with fail
  go_loopw [11] (fun i wr => ∃ (k : Nat) (acc : ByteArray), k ≤ l.length ∧ k ≤ 1000 ∧ i = .int .i64 k ∧ acc.size ≤ 3101 * k ∧ Aside0 (printAll l = printFrom (l.drop k) k acc) ∧ Aside0 (Holds84 w.heap.size w.heap.size acc wr) ∧ Aside0 (Below w.heap.size w wr)) (fun i _ => l.length - (intOf i).toNat)
  case atStart => exact ⟨0, ⟨#[]⟩, Nat.zero_le _, Nat.zero_le _, rfl, by decide, ⟨rfl⟩, ⟨Or.inl (by exact (Lib.fresh_isBuilder 84 5 w).elim id (fun h => by cases (Lib.BuilderAt.cell0 h).symm.trans (Lib.cell_of_heap (heap_alloc_new w _) 0)))⟩, ⟨below_alloc (Below.refl _ _) _⟩⟩
  case round =>
    obtain ⟨k, acc, hk, hk1, rfl, hacc, HP, HH, HB⟩ := hrel
    by_cases hlt : k < l.length
    · obtain ⟨wr, rfl⟩ : ∃ W, W = wr := ⟨_, rfl⟩
      obtain ⟨ad, A6, A9, c6, c9, rfl, ix, x0, x1, x2, x3, x4, x5, x6, x7, x8, x9⟩ := ev_at (Kd.C_below HC.out HB.out) HGD.out k hlt
      have HIX := Aside0.mk ix
      have HXK := Aside0.mk (rd_T54_eq hlt)
      obtain ⟨x, hx⟩ : ∃ x, x = rd_T54 l k := ⟨_, rfl⟩
      rw [← hx] at x0 x1 x2 x3 x4 x5 x6 x7 x8 x9 HIX HXK
      have HGX := Aside0.mk HIX.out.good
      clear ix hx
      have hki : (k : Int) < (l.length : Int) := by omega
      have hk0 : (0 : Int) ≤ (k : Int) := by omega
      have hk2 : (k : Int) ≤ 1000 := by omega
      have hb1 : Below wr.heap.size wr (wr.alloc (.cells #[.int .i64 x.f0, .int .i64 x.f1, .int .i64 x.f2, .int .i64 x.f3, .int .i64 x.f4, .int .i64 x.f5.f0, .slice A6 x.f5.f1.length c6, .int .i64 x.f5.f2, .int .i64 x.f5.f3, .slice A9 x.f6.length c9] 54)) := below_alloc (Below.refl _ _) _
      have HB1 := Aside0.mk (below_seq HB.out hb1)
      have HG1 := Aside0.mk (HG.out.below HB1.out)
      have HH1 := Aside0.mk (HH.out.below hb1)
      have HLC := Aside0.mk (line_any g x A6 A9 c6 c9 (wr.alloc (.cells #[.int .i64 x.f0, .int .i64 x.f1, .int .i64 x.f2, .int .i64 x.f3, .int .i64 x.f4, .int .i64 x.f5.f0, .slice A6 x.f5.f1.length c6, .int .i64 x.f5.f2, .int .i64 x.f5.f3, .slice A9 x.f6.length c9] 54)) HG1.out (HIX.out.below hb1))
      obtain ⟨o, ho⟩ : ∃ o, o = lineP x := ⟨_, rfl⟩
      have HO := Aside0.mk ho
      rw [← ho] at HLC
      have HSZ0 := Aside0.mk hacc
      have HKK := Aside0.mk hk1
      have HLT := Aside0.mk hlt
      clear ho hb1
      cases o with
      | none =>
        have HR := Aside0.mk (show printAll l = (⟨#[]⟩, k) by rw [HP.out]; exact print_none HLT.out (by rw [← HXK.out]; exact HO.out.symm))
        go_wp2_with fail
        refine HLC.out.mono ?_
        clear HLC
        rintro e w2 ⟨rfl, hB2⟩
        have HB2 := Aside0.mk (below_seq HB1.out hB2)
        clear hB2
        simp only [Option.getD, Option.isSome]
        go_wp2
        go_ret2
        unfold PrintRes
        rw [HR.out]
        exact ⟨rfl, HB2.out⟩
      | some s =>
        have hs1 := line_size HO.out.symm HGX.out
        by_cases h1000 : 1000 ≤ k
        · have HR := Aside0.mk (show printAll l = (⟨#[]⟩, k) by rw [HP.out]; exact print_many HLT.out (by rw [← HXK.out]; exact HO.out.symm) h1000)
          have hd : decide ((1000 : Int) ≤ (k : Int)) = true := decide_eq_true (by omega)
          clear h1000
          go_wp2_with fail
          refine HLC.out.mono ?_
          clear HLC
          rintro e w2 ⟨rfl, hB2⟩
          have HB2 := Aside0.mk (below_seq HB1.out hB2)
          clear hB2
          simp only [Option.getD, Option.isSome]
          go_wp2
          go_ret2
          unfold PrintRes
          rw [HR.out]
          exact ⟨rfl, HB2.out⟩
        · have HR := Aside0.mk (show printAll l = printFrom (l.drop (k + 1)) (k + 1) (acc ++ s ++ ⟨#[10]⟩) by rw [HP.out]; exact print_step HLT.out (by rw [← HXK.out]; exact HO.out.symm) (by omega))
          have hd : decide ((1000 : Int) ≤ (k : Int)) = false := decide_eq_false (by omega)
          have hz2 : (acc ++ s).size = acc.size + s.size := ByteArray.size_append
          have hz3 : (acc ++ s ++ ⟨#[10]⟩).size = acc.size + s.size + 1 := by rw [ByteArray.size_append, ByteArray.size_append]; rfl
          have HZ2 := Aside0.mk hz2
          have HZ3 := Aside0.mk hz3
          have HS1 := Aside0.mk hs1
          have HK3 := Aside0.mk (show k < 1000 by omega)
          clear h1000 hz2 hz3
          go_wp2_with fail
          refine HLC.out.mono ?_
          clear HLC
          rintro e w2 ⟨rfl, hB2⟩
          have HB2 := Aside0.mk (below_seq HB1.out hB2)
          have HH2 := Aside0.mk (HH1.out.below hB2)
          clear hB2
          simp only [Option.getD, Option.isSome]
          go_wp2_with fail
          have HWC := Aside0.mk (writeString_any w.heap.size w.heap.size acc s w2 HH2.out (by have := HSZ0.out; have := HS1.out; have := HK3.out; omega) HB2.out.size)
          refine HWC.out.mono ?_
          clear HWC
          rintro e w3 ⟨rfl, hH3, hB3⟩
          have HB3 := Aside0.mk (HB2.out.trans hB3)
          have HH3 := Aside0.mk hH3
          clear hH3 hB3
          go_wp2_with fail
          have HWC := Aside0.mk (writeByte_any w.heap.size w.heap.size (acc ++ s) 10 w3 HH3.out (by have := HSZ0.out; have := HS1.out; have := HK3.out; have := HZ2.out; omega) HB3.out.size)
          refine HWC.out.mono ?_
          clear HWC
          rintro e w4 ⟨rfl, hH4, hB4⟩
          have HB4 := Aside0.mk (HB3.out.trans hB4)
          have HH4 := Aside0.mk hH4
          clear hH4 hB4
          go_wp2
          go_roundw
          case rel => exact ⟨k + 1, acc ++ s ++ ⟨#[10]⟩, by have := HLT.out; omega, by have := HK3.out; omega, by go_num, by have := HZ3.out; have := HSZ0.out; have := HS1.out; omega, HR, HH4, HB4⟩
          case measure => simp [intOf]; have := HLT.out; omega
    · have hkk : k = l.length := by omega
      have HR := Aside0.mk (show printAll l = (acc, l.length) by rw [HP.out, hkk, List.drop_of_length_le (Nat.le_refl _)]; rfl)
      have d : decide (k < l.length) = false := decide_eq_false (by omega)
      have hnl : ¬ k < l.length := hlt
      clear HP hkk hlt
      go_wp2_with fail
      have HSC := Aside0.mk (string_any w.heap.size w.heap.size acc wr HH.out HB.out.size)
      refine HSC.out.mono ?_
      clear HSC
      rintro e w2 ⟨rfl, hB2⟩
      have HB2 := Aside0.mk (HB.out.trans hB2)
      clear hB2
      go_wp2
      go_ret2
      unfold PrintRes
      rw [HR.out]
      exact ⟨rfl, HB2.out⟩
end Go.Proofs.YtjpkphmihkbfeaaDoor.S34
