/- The words of Rf and Rb that ScriptMany needs (never imported beside these). -/
import Derived.Test.YtjpkphmihkbfeaaDoorPl
namespace Go.Proofs.YtjpkphmihkbfeaaDoor.S34
open Go.RowKit Go.Proofs.YtjpkphmihkbfeaaDoorW.PrintWords Go.Proofs.YtjpkphmihkbfeaaDoor.Q
set_option maxRecDepth 100000
set_option linter.unusedSimpArgs false
theorem ite_ge {c : Prop} [Decidable c] {a b : ByteArray} {n : Nat} (ha : n ≤ a.size) (hb : n ≤ b.size) : n ≤ (if c then a else b).size := by
  split <;> assumption
theorem digits_ne (u : Nat) : 1 ≤ (Lib.decDigits u).length := by
  rw [Lib.decDigits]
  split <;> simp
theorem numB_ge (n : Int) : 1 ≤ (numB n).size := by
  have h1 := digits_ne n.natAbs
  have h2 := digits_ne n.toNat
  show 1 ≤ (Lib.itoa n).toArray.size
  unfold Lib.itoa
  split <;> simp <;> omega
theorem quoteB_ge (l : List Int) : 2 ≤ (quoteB l).size := by
  simp [quoteB, strOfNums, ByteArray.size]
theorem wordsP_ge (x : S54) : 5 ≤ (wordsP x).size := by
  have n1 := numB_ge x.f1
  have n2 := numB_ge x.f2
  have n3 := numB_ge x.f3
  have q9 := quoteB_ge x.f6
  have z0 : (⟨#[106, 111, 105, 110, 32]⟩ : ByteArray).size = 5 := rfl
  have z1 : (⟨#[108, 101, 97, 118, 101, 32]⟩ : ByteArray).size = 6 := rfl
  have z2 : (⟨#[114, 111, 108, 101, 32]⟩ : ByteArray).size = 5 := rfl
  have z3 : (⟨#[111, 117, 116, 32]⟩ : ByteArray).size = 4 := rfl
  have z4 : (⟨#[107, 101, 121, 115, 32]⟩ : ByteArray).size = 5 := rfl
  have z5 : (⟨#[115, 105, 122, 101, 32]⟩ : ByteArray).size = 5 := rfl
  have z6 : (⟨#[97, 115, 107, 32]⟩ : ByteArray).size = 4 := rfl
  have z7 : (⟨#[102, 114, 101, 101, 32]⟩ : ByteArray).size = 5 := rfl
  have z8 : (⟨#[116, 105, 99, 107, 32]⟩ : ByteArray).size = 5 := rfl
  have z9 : (⟨#[100, 101, 108, 105, 118, 101, 114, 32]⟩ : ByteArray).size = 8 := rfl
  have z10 : (⟨#[115, 112, 111, 105, 108, 32]⟩ : ByteArray).size = 6 := rfl
  have z11 : (⟨#[109, 111, 118, 101, 32]⟩ : ByteArray).size = 5 := rfl
  have z12 : (⟨#[102, 111, 114, 103, 101, 32]⟩ : ByteArray).size = 6 := rfl
  unfold wordsP
  repeat' refine ite_ge ?_ ?_
  all_goals (simp only [ByteArray.size_append]; omega)
theorem parse_ge {s : ByteArray} {e : S54} (h : parseP s = .ok e) : 5 ≤ s.size := by
  rw [← (parse_back h).1]; exact wordsP_ge e

/-! ### parsing without a count of rounds -/
theorem fuel : ∀ (k k' : Nat) (t : ByteArray) (n : Int), t.size < k → t.size < k' → parseFrom k t n = parseFrom k' t n := by
  intro k
  induction k with
  | zero => intro k' t n h; omega
  | succ k ih =>
    intro k' t n h h'
    obtain ⟨j, rfl⟩ : ∃ j, k' = j + 1 := ⟨k' - 1, by omega⟩
    rw [parseFrom, parseFrom]
    by_cases h0 : t.size = 0
    · rw [if_pos h0, if_pos h0]
    · rw [if_neg h0, if_neg h0]
      rcases hc : cutAt t 10 with ⟨F, R, m⟩
      dsimp only
      cases m with
      | false => rfl
      | true =>
        have hl := cut_less hc
        rw [ih j R (n + 1) (by omega) (by omega)]
def parseN (t : ByteArray) (n : Int) : Except (Int × Er) (List S54) := parseFrom (t.size + 1) t n
theorem parseN_nil {t : ByteArray} {n : Int} (h : t.size = 0) : parseN t n = .ok [] := by
  unfold parseN; rw [parseFrom, if_pos h]
theorem parseN_cut {t F R : ByteArray} {n : Int} (hc : cutAt t 10 = (F, R, true)) :
    parseN t n = if 3100 < F.size then .error (n, .long) else if 1000 < n then .error (n, .long) else
      match parseP F with
      | .error x => .error (n, x)
      | .ok e => match parseN R (n + 1) with
        | .error x => .error x
        | .ok l => .ok (e :: l) := by
  have hl := cut_less hc
  unfold parseN
  rw [parseFrom, if_neg (by omega), hc]
  dsimp only
  rw [if_neg (show ¬ (true = false) by decide), fuel t.size (R.size + 1) R (n + 1) (by omega) (by omega)]
  rfl
theorem parseN_open {t F R : ByteArray} {n : Int} (h0 : t.size ≠ 0) (hc : cutAt t 10 = (F, R, false)) :
    parseN t n = if 3100 < F.size then .error (n, .long) else if 1000 < n then .error (n, .long) else .error (n, .ends) := by
  unfold parseN
  rw [parseFrom, if_neg h0, hc]
  dsimp only
  rw [if_pos rfl]
theorem size0 {t : ByteArray} (h : t.size = 0) : t = ⟨#[]⟩ := by
  apply ba_eq
  have : t.data.toList.length = 0 := by rw [Array.length_toList]; exact h
  rw [List.length_eq_zero_iff.1 this]
theorem parseAll_N (s : ByteArray) : parseAll s = parseN s 1 := rfl
/-! ### a line holds no line feed -/
def No10 (s : ByteArray) : Prop := (10 : UInt8) ∉ s.data.toList
theorem No10.append {s t : ByteArray} (h : No10 s) (k : No10 t) : No10 (s ++ t) := by
  unfold No10 at *
  simp only [ByteArray.data_append, Array.toList_append, List.mem_append]
  intro h'
  rcases h' with h' | h'
  · exact h h'
  · exact k h'
theorem No10.ite {c : Prop} [Decidable c] {a b : ByteArray} (ha : No10 a) (hb : No10 b) : No10 (if c then a else b) := by
  split <;> assumption
theorem digit_no10 (u : Nat) : (10 : UInt8) ∉ Lib.decDigits u := by
  rw [Lib.decDigits_eq]
  intro h
  obtain ⟨t, -, ht⟩ := List.mem_map.1 h
  unfold Lib.dg at ht
  have := congrArg UInt8.toNat ht
  simp only [UInt8.toNat_ofNat'] at this
  rw [show (10 : UInt8).toNat = 10 from rfl] at this
  omega
theorem numB_no10 (n : Int) : No10 (numB n) := by
  unfold No10
  show (10 : UInt8) ∉ ((Lib.itoa n).toArray).toList
  rw [List.toList_toArray]
  unfold Lib.itoa
  split
  · intro h
    rcases List.mem_cons.1 h with h | h
    · exact absurd h (by decide)
    · exact digit_no10 _ h
  · exact digit_no10 _
theorem hexd_ne : ∀ n : Int, 0 ≤ n → n < 16 → 48 ≤ hexd n ∧ hexd n ≤ 102 := by
  intro n h0 h1
  have : ∀ k : Nat, k < 16 → 48 ≤ hexd (k : Int) ∧ hexd (k : Int) ≤ 102 := by decide
  have e : n = ((n.toNat : Nat) : Int) := by omega
  rw [e]
  exact this _ (by omega)
theorem quoteOne_range {b : Int} (h0 : 0 ≤ b) (h1 : b ≤ 255) : ∀ x ∈ quoteOne b, 32 ≤ x ∧ x ≤ 126 := by
  intro x hx
  unfold quoteOne at hx
  split at hx
  · rename_i hp
    have := plainP_range hp
    simp only [List.mem_singleton] at hx
    subst hx
    omega
  · have a := hexd_ne (b / 16) (by omega) (by omega)
    have c := hexd_ne (b % 16) (by omega) (by omega)
    simp only [List.mem_cons, List.not_mem_nil, or_false] at hx
    rcases hx with rfl | rfl | rfl <;> omega
theorem quoteB_no10 {l : List Int} (h : Bytes l) : No10 (quoteB l) := by
  unfold No10 quoteB
  intro hm
  have hall : ∀ x ∈ [34] ++ quoteP l ++ [34], 32 ≤ x ∧ x ≤ 126 := by
    intro x hx
    simp only [List.mem_append, List.mem_singleton] at hx
    rcases hx with (rfl | hx) | rfl
    · decide
    · unfold quoteP at hx
      obtain ⟨b, hb, hxb⟩ := List.mem_flatMap.1 hx
      exact quoteOne_range (h b hb).1 (h b hb).2 x hxb
    · decide
  have hb : Bytes ([34] ++ quoteP l ++ [34]) := fun x hx => ⟨by have := hall x hx; omega, by have := hall x hx; omega⟩
  have hin : (10 : Int) ∈ bytesOf (strOfNums ([34] ++ quoteP l ++ [34])) := by
    unfold bytesOf
    exact List.mem_map.2 ⟨10, hm, rfl⟩
  rw [bytesOf_str hb] at hin
  have := hall _ hin
  omega
theorem roleB_no10 (r : Int) : No10 (roleB r) := by
  unfold roleB
  refine No10.ite (by unfold No10; decide) (No10.ite (by unfold No10; decide) (by unfold No10; decide))
theorem wordsP_no10 {x : S54} (h6 : Bytes x.f5.f1) (h9 : Bytes x.f6) : No10 (wordsP x) := by
  have n1 := numB_no10 x.f1
  have n2 := numB_no10 x.f2
  have n3 := numB_no10 x.f3
  have m2 := numB_no10 x.f5.f2
  have m3 := numB_no10 x.f5.f3
  have r := roleB_no10 x.f4
  have q6 := quoteB_no10 h6
  have q9 := quoteB_no10 h9
  unfold wordsP
  repeat' refine No10.ite ?_ ?_
  all_goals (repeat' (first | assumption | exact (by unfold No10; decide) | refine No10.append ?_ ?_))
theorem line_no10 {x : S54} {s : ByteArray} (h : lineP x = some s) (hx : EvGood x) : No10 s := by
  rw [(lineP_some h).2.1]
  exact wordsP_no10 hx.b6 hx.b9

end Go.Proofs.YtjpkphmihkbfeaaDoor.S34
