/- Plain: what was printed is parsed again, event by event; what is parsed is printed as the text that it was. -/
import Derived.Test.YtjpkphmihkbfeaaDoorRf
import Derived.Test.YtjpkphmihkbfeaaDoorG4
namespace Go.Proofs.YtjpkphmihkbfeaaDoor.S34
open Go.RowKit Go.Proofs.YtjpkphmihkbfeaaDoorW.PrintWords Go.Proofs.YtjpkphmihkbfeaaDoor.Q
set_option maxRecDepth 100000
set_option linter.unusedSimpArgs false

/-! ### a line holds no line feed -/
def No10 (s : ByteArray) : Prop := (10 : UInt8) ∉ s.data.toList
theorem No10.append {s t : ByteArray} (h : No10 s) (k : No10 t) : No10 (s ++ t) := by
  unfold No10 at *
  simp only [ByteArray.data_append, Array.toList_append, List.mem_append]
  intro h'
  rcases h' with h' | h'
  · exact h h'
  · exact k h'
theorem No10.ite {c : Prop} [Decidable c] {a b : ByteArray} (ha : No10 a) (hb : No10 b) : No10 (if c then a else b) := by
  split <;> assumption
theorem digit_no10 (u : Nat) : (10 : UInt8) ∉ Lib.decDigits u := by
  rw [Lib.decDigits_eq]
  intro h
  obtain ⟨t, -, ht⟩ := List.mem_map.1 h
  unfold Lib.dg at ht
  have := congrArg UInt8.toNat ht
  simp only [UInt8.toNat_ofNat'] at this
  rw [show (10 : UInt8).toNat = 10 from rfl] at this
  omega
theorem numB_no10 (n : Int) : No10 (numB n) := by
  unfold No10
  show (10 : UInt8) ∉ ((Lib.itoa n).toArray).toList
  rw [List.toList_toArray]
  unfold Lib.itoa
  split
  · intro h
    rcases List.mem_cons.1 h with h | h
    · exact absurd h (by decide)
    · exact digit_no10 _ h
  · exact digit_no10 _
theorem hexd_ne : ∀ n : Int, 0 ≤ n → n < 16 → 48 ≤ hexd n ∧ hexd n ≤ 102 := by
  intro n h0 h1
  have : ∀ k : Nat, k < 16 → 48 ≤ hexd (k : Int) ∧ hexd (k : Int) ≤ 102 := by decide
  have e : n = ((n.toNat : Nat) : Int) := by omega
  rw [e]
  exact this _ (by omega)
theorem quoteOne_range {b : Int} (h0 : 0 ≤ b) (h1 : b ≤ 255) : ∀ x ∈ quoteOne b, 32 ≤ x ∧ x ≤ 126 := by
  intro x hx
  unfold quoteOne at hx
  split at hx
  · rename_i hp
    have := plainP_range hp
    simp only [List.mem_singleton] at hx
    subst hx
    omega
  · have a := hexd_ne (b / 16) (by omega) (by omega)
    have c := hexd_ne (b % 16) (by omega) (by omega)
    simp only [List.mem_cons, List.not_mem_nil, or_false] at hx
    rcases hx with rfl | rfl | rfl <;> omega
theorem quoteB_no10 {l : List Int} (h : Bytes l) : No10 (quoteB l) := by
  unfold No10 quoteB
  intro hm
  have hall : ∀ x ∈ [34] ++ quoteP l ++ [34], 32 ≤ x ∧ x ≤ 126 := by
    intro x hx
    simp only [List.mem_append, List.mem_singleton] at hx
    rcases hx with (rfl | hx) | rfl
    · decide
    · unfold quoteP at hx
      obtain ⟨b, hb, hxb⟩ := List.mem_flatMap.1 hx
      exact quoteOne_range (h b hb).1 (h b hb).2 x hxb
    · decide
  have hb : Bytes ([34] ++ quoteP l ++ [34]) := fun x hx => ⟨by have := hall x hx; omega, by have := hall x hx; omega⟩
  have hin : (10 : Int) ∈ bytesOf (strOfNums ([34] ++ quoteP l ++ [34])) := by
    unfold bytesOf
    exact List.mem_map.2 ⟨10, hm, rfl⟩
  rw [bytesOf_str hb] at hin
  have := hall _ hin
  omega
theorem roleB_no10 (r : Int) : No10 (roleB r) := by
  unfold roleB
  refine No10.ite (by unfold No10; decide) (No10.ite (by unfold No10; decide) (by unfold No10; decide))
theorem wordsP_no10 {x : S54} (h6 : Bytes x.f5.f1) (h9 : Bytes x.f6) : No10 (wordsP x) := by
  have n1 := numB_no10 x.f1
  have n2 := numB_no10 x.f2
  have n3 := numB_no10 x.f3
  have m2 := numB_no10 x.f5.f2
  have m3 := numB_no10 x.f5.f3
  have r := roleB_no10 x.f4
  have q6 := quoteB_no10 h6
  have q9 := quoteB_no10 h9
  unfold wordsP
  repeat' refine No10.ite ?_ ?_
  all_goals (repeat' (first | assumption | exact (by unfold No10; decide) | refine No10.append ?_ ?_))
theorem line_no10 {x : S54} {s : ByteArray} (h : lineP x = some s) (hx : EvGood x) : No10 s := by
  rw [(lineP_some h).2.1]
  exact wordsP_no10 hx.b6 hx.b9

/-! ### a text of events -/
def printFrom : List S54 → Nat → ByteArray → ByteArray × Nat
  | [], i, acc => (acc, i)
  | e :: l, i, acc => match lineP e with
    | none => (⟨#[]⟩, i)
    | some s => if 1000 ≤ i then (⟨#[]⟩, i) else printFrom l (i + 1) (acc ++ s ++ ⟨#[10]⟩)
def printAll (l : List S54) : ByteArray × Nat := printFrom l 0 ⟨#[]⟩
theorem print_le : ∀ (l : List S54) (i : Nat) (acc : ByteArray), i ≤ (printFrom l i acc).2 ∧ (printFrom l i acc).2 ≤ i + l.length := by
  intro l
  induction l with
  | nil => intro i acc; simp [printFrom]
  | cons e l ih =>
    intro i acc
    rw [printFrom]
    split
    · simp
    · split
      · simp
      · rename_i s _ _
        have := ih (i + 1) (acc ++ s ++ ⟨#[10]⟩)
        simp only [List.length_cons]
        omega
/-- What was printed whole is parsed again. -/
theorem print_back : ∀ (l : List S54) (i : Nat) (acc t : ByteArray), (∀ e ∈ l, EvGood e) → printFrom l i acc = (t, i + l.length) →
    ∃ u, t = acc ++ u ∧ ∀ n : Int, n + l.length ≤ 1001 → parseN u n = .ok l := by
  intro l
  induction l with
  | nil =>
    intro i acc t _ h
    simp only [printFrom, List.length_nil, Nat.add_zero, Prod.mk.injEq, and_true] at h
    subst h
    exact ⟨⟨#[]⟩, by apply ba_eq; simp, fun n _ => parseN_nil rfl⟩
  | cons e l ih =>
    intro i acc t hg h
    rw [printFrom] at h
    split at h
    · simp only [Prod.mk.injEq, List.length_cons] at h; omega
    · rename_i s hs
      split at h
      · simp only [Prod.mk.injEq, List.length_cons] at h; omega
      · obtain ⟨u, hu, hp⟩ := ih (i + 1) _ t (fun x hx => hg x (List.mem_cons_of_mem _ hx)) (by rw [h]; simp only [List.length_cons, Prod.mk.injEq, true_and]; omega)
        refine ⟨s ++ ⟨#[10]⟩ ++ u, by rw [hu]; apply ba_eq; simp, fun n hn => ?_⟩
        have hl := lineP_some hs
        have hge := hg e (List.mem_cons_self ..)
        have hsz := wordsP_size hge hl.2.2.2 hl.2.2.1
        rw [← hl.2.1] at hsz
        have hn' : n + ((l.length : Int) + 1) ≤ 1001 := by simpa using hn
        exact ok_mk (cut_mk (line_no10 hs hge)) hsz (by omega) hl.1 (hp (n + 1) (by omega))
/-- What was not printed whole stands at an event that has no line, as long as there are few. -/
theorem print_short : ∀ (l : List S54) (i : Nat) (acc : ByteArray), i + l.length ≤ 1000 → (printFrom l i acc).2 ≠ i + l.length →
    (printFrom l i acc).1 = ⟨#[]⟩ ∧ ∃ k, (printFrom l i acc).2 = i + k ∧ ∃ h : k < l.length, lineP l[k] = none := by
  intro l
  induction l with
  | nil => intro i acc _ h; exact absurd rfl h
  | cons e l ih =>
    intro i acc hl h
    simp only [List.length_cons] at hl
    cases hs : lineP e with
    | none =>
      have e1 : printFrom (e :: l) i acc = (⟨#[]⟩, i) := by rw [printFrom, hs]
      rw [e1]
      exact ⟨rfl, 0, rfl, by simp, by simpa using hs⟩
    | some s =>
      have e1 : printFrom (e :: l) i acc = printFrom l (i + 1) (acc ++ s ++ ⟨#[10]⟩) := by
        rw [printFrom, hs]; dsimp only; rw [if_neg (by omega)]
      rw [e1] at h ⊢
      obtain ⟨h1, k, h2, h3, h4⟩ := ih (i + 1) (acc ++ s ++ ⟨#[10]⟩) (by omega) (by simp only [List.length_cons] at h; omega)
      exact ⟨h1, k + 1, by rw [h2]; omega, by simp; omega, by simpa using h4⟩
/-- What is parsed is printed as the text that it was. -/
theorem parse_print : ∀ (N : Nat) (s : ByteArray) (n : Int) (l : List S54) (i : Nat) (acc : ByteArray), s.size ≤ N → n = i + 1 → parseN s n = .ok l → printFrom l i acc = (acc ++ s, i + l.length) := by
  intro N
  induction N with
  | zero =>
    intro s n l i acc hs hn h
    rw [parseN_nil (by omega)] at h
    injection h with h
    subst h
    rw [size0 (t := s) (by omega)]
    simp only [printFrom, List.length_nil, Nat.add_zero, Prod.mk.injEq, and_true]
    apply ba_eq; simp
  | succ N ih =>
    intro s n l i acc hs hn h
    by_cases h0 : s.size = 0
    · rw [parseN_nil h0] at h
      injection h with h
      subst h
      rw [size0 h0]
      simp only [printFrom, List.length_nil, Nat.add_zero, Prod.mk.injEq, and_true]
      apply ba_eq; simp
    · rcases hc : cutAt s 10 with ⟨F, R, m⟩
      cases m with
      | false => exact (ok_open h0 hc h).elim
      | true =>
        obtain ⟨h1, h2, e, r, he, hr, rfl⟩ := ok_step hc h
        have hl := cut_less hc
        rw [printFrom, line_back he]
        dsimp only
        rw [if_neg (by omega), ih R (n + 1) r (i + 1) _ (by omega) (by omega) hr]
        have e1 := (cut_true hc).1
        refine Prod.ext ?_ ?_
        · show acc ++ F ++ ⟨#[10]⟩ ++ R = acc ++ s
          rw [e1]; apply ba_eq; simp
        · simp only [List.length_cons]; omega
theorem back_all {s : ByteArray} {l : List S54} (h : parseAll s = .ok l) : printAll l = (s, l.length) := by
  have := parse_print _ s 1 l 0 ⟨#[]⟩ (Nat.le_refl _) rfl h
  unfold printAll
  rw [this]
  refine Prod.ext ?_ ?_
  · show ⟨#[]⟩ ++ s = s
    apply ba_eq; simp
  · show 0 + l.length = l.length
    omega
theorem print_all {l : List S54} {t : ByteArray} (hg : ∀ e ∈ l, EvGood e) (hl : l.length ≤ 1000) (h : printAll l = (t, l.length)) : parseAll t = .ok l := by
  obtain ⟨u, hu, hp⟩ := print_back l 0 ⟨#[]⟩ t hg (by unfold printAll at h; rw [h]; simp)
  have : t = u := by rw [hu]; apply ba_eq; simp
  subst this
  exact hp 1 (by omega)
end Go.Proofs.YtjpkphmihkbfeaaDoor.S34
