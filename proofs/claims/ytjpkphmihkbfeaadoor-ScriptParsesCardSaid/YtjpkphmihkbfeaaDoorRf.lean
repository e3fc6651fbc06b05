/- Plain: a text and more behind it; what was printed is parsed again. -/
import Derived.Test.YtjpkphmihkbfeaaDoorRl
namespace Go.Proofs.YtjpkphmihkbfeaaDoor.S34
open Go.RowKit Go.Proofs.YtjpkphmihkbfeaaDoorW.PrintWords Go.Proofs.YtjpkphmihkbfeaaDoor.Q
set_option maxRecDepth 100000
set_option linter.unusedSimpArgs false

/-! ### a line's least length -/
theorem ite_ge {c : Prop} [Decidable c] {a b : ByteArray} {n : Nat} (ha : n ≤ a.size) (hb : n ≤ b.size) : n ≤ (if c then a else b).size := by
  split <;> assumption
theorem digits_ne (u : Nat) : 1 ≤ (Lib.decDigits u).length := by
  rw [Lib.decDigits]
  split <;> simp
theorem numB_ge (n : Int) : 1 ≤ (numB n).size := by
  have h1 := digits_ne n.natAbs
  have h2 := digits_ne n.toNat
  show 1 ≤ (Lib.itoa n).toArray.size
  unfold Lib.itoa
  split <;> simp <;> omega
theorem quoteB_ge (l : List Int) : 2 ≤ (quoteB l).size := by
  simp [quoteB, strOfNums, ByteArray.size]
theorem wordsP_ge (x : S54) : 5 ≤ (wordsP x).size := by
  have n1 := numB_ge x.f1
  have n2 := numB_ge x.f2
  have n3 := numB_ge x.f3
  have q9 := quoteB_ge x.f6
  have z0 : (⟨#[106, 111, 105, 110, 32]⟩ : ByteArray).size = 5 := rfl
  have z1 : (⟨#[108, 101, 97, 118, 101, 32]⟩ : ByteArray).size = 6 := rfl
  have z2 : (⟨#[114, 111, 108, 101, 32]⟩ : ByteArray).size = 5 := rfl
  have z3 : (⟨#[111, 117, 116, 32]⟩ : ByteArray).size = 4 := rfl
  have z4 : (⟨#[107, 101, 121, 115, 32]⟩ : ByteArray).size = 5 := rfl
  have z5 : (⟨#[115, 105, 122, 101, 32]⟩ : ByteArray).size = 5 := rfl
  have z6 : (⟨#[97, 115, 107, 32]⟩ : ByteArray).size = 4 := rfl
  have z7 : (⟨#[102, 114, 101, 101, 32]⟩ : ByteArray).size = 5 := rfl
  have z8 : (⟨#[116, 105, 99, 107, 32]⟩ : ByteArray).size = 5 := rfl
  have z9 : (⟨#[100, 101, 108, 105, 118, 101, 114, 32]⟩ : ByteArray).size = 8 := rfl
  have z10 : (⟨#[115, 112, 111, 105, 108, 32]⟩ : ByteArray).size = 6 := rfl
  have z11 : (⟨#[109, 111, 118, 101, 32]⟩ : ByteArray).size = 5 := rfl
  have z12 : (⟨#[102, 111, 114, 103, 101, 32]⟩ : ByteArray).size = 6 := rfl
  unfold wordsP
  repeat' refine ite_ge ?_ ?_
  all_goals (simp only [ByteArray.size_append]; omega)
theorem parse_ge {s : ByteArray} {e : S54} (h : parseP s = .ok e) : 5 ≤ s.size := by
  rw [← (parse_back h).1]; exact wordsP_ge e

/-! ### parsing without a count of rounds -/
theorem fuel : ∀ (k k' : Nat) (t : ByteArray) (n : Int), t.size < k → t.size < k' → parseFrom k t n = parseFrom k' t n := by
  intro k
  induction k with
  | zero => intro k' t n h; omega
  | succ k ih =>
    intro k' t n h h'
    obtain ⟨j, rfl⟩ : ∃ j, k' = j + 1 := ⟨k' - 1, by omega⟩
    rw [parseFrom, parseFrom]
    by_cases h0 : t.size = 0
    · rw [if_pos h0, if_pos h0]
    · rw [if_neg h0, if_neg h0]
      rcases hc : cutAt t 10 with ⟨F, R, m⟩
      dsimp only
      cases m with
      | false => rfl
      | true =>
        have hl := cut_less hc
        rw [ih j R (n + 1) (by omega) (by omega)]
def parseN (t : ByteArray) (n : Int) : Except (Int × Er) (List S54) := parseFrom (t.size + 1) t n
theorem parseN_nil {t : ByteArray} {n : Int} (h : t.size = 0) : parseN t n = .ok [] := by
  unfold parseN; rw [parseFrom, if_pos h]
theorem parseN_cut {t F R : ByteArray} {n : Int} (hc : cutAt t 10 = (F, R, true)) :
    parseN t n = if 3100 < F.size then .error (n, .long) else if 1000 < n then .error (n, .long) else
      match parseP F with
      | .error x => .error (n, x)
      | .ok e => match parseN R (n + 1) with
        | .error x => .error x
        | .ok l => .ok (e :: l) := by
  have hl := cut_less hc
  unfold parseN
  rw [parseFrom, if_neg (by omega), hc]
  dsimp only
  rw [if_neg (show ¬ (true = false) by decide), fuel t.size (R.size + 1) R (n + 1) (by omega) (by omega)]
  rfl
theorem parseN_open {t F R : ByteArray} {n : Int} (h0 : t.size ≠ 0) (hc : cutAt t 10 = (F, R, false)) :
    parseN t n = if 3100 < F.size then .error (n, .long) else if 1000 < n then .error (n, .long) else .error (n, .ends) := by
  unfold parseN
  rw [parseFrom, if_neg h0, hc]
  dsimp only
  rw [if_pos rfl]
theorem size0 {t : ByteArray} (h : t.size = 0) : t = ⟨#[]⟩ := by
  apply ba_eq
  have : t.data.toList.length = 0 := by rw [Array.length_toList]; exact h
  rw [List.length_eq_zero_iff.1 this]
theorem cut_behind {s F R : ByteArray} (t : ByteArray) (hc : cutAt s 10 = (F, R, true)) : cutAt (s ++ t) 10 = (F, R ++ t, true) := by
  obtain ⟨e, h⟩ := cut_true hc
  have := cut_mk (F := F) (R := R ++ t) (c := 10) h
  rw [show s ++ t = F ++ ⟨#[10]⟩ ++ (R ++ t) by rw [e]; apply ba_eq; simp]
  exact this
theorem ok_step {t F R : ByteArray} {n : Int} {l : List S54} (hc : cutAt t 10 = (F, R, true)) (h : parseN t n = .ok l) :
    F.size ≤ 3100 ∧ n ≤ 1000 ∧ ∃ e r, parseP F = .ok e ∧ parseN R (n + 1) = .ok r ∧ l = e :: r := by
  rw [parseN_cut hc] at h
  split at h
  · cases h
  · split at h
    · cases h
    · split at h
      · cases h
      · rename_i e he
        split at h
        · cases h
        · rename_i r hr
          injection h with h
          exact ⟨by omega, by omega, e, r, he, hr, h.symm⟩
theorem ok_open {t F R : ByteArray} {n : Int} {l : List S54} (h0 : t.size ≠ 0) (hc : cutAt t 10 = (F, R, false)) (h : parseN t n = .ok l) : False := by
  rw [parseN_open h0 hc] at h
  split at h
  · cases h
  · split at h <;> cases h
theorem ok_mk {t F R : ByteArray} {n : Int} {e : S54} {r : List S54} (hc : cutAt t 10 = (F, R, true)) (h1 : F.size ≤ 3100) (h2 : n ≤ 1000) (he : parseP F = .ok e) (hr : parseN R (n + 1) = .ok r) : parseN t n = .ok (e :: r) := by
  rw [parseN_cut hc, if_neg (by omega), if_neg (by omega), he]
  dsimp only
  rw [hr]
/-- A text that is read, and one behind it. -/
theorem ok_append (t : ByteArray) : ∀ (N : Nat) (s : ByteArray) (n : Int) (l : List S54), s.size ≤ N → parseN s n = .ok l →
    parseN (s ++ t) n = match parseN t (n + l.length) with | .error x => .error x | .ok m => .ok (l ++ m) := by
  intro N
  induction N with
  | zero =>
    intro s n l hs h
    rw [parseN_nil (by omega)] at h
    injection h with h
    subst h
    rw [size0 (t := s) (by omega), show (⟨#[]⟩ : ByteArray) ++ t = t by apply ba_eq; simp]
    simp only [List.length_nil, Int.natCast_zero, Int.add_zero, List.nil_append]
    cases parseN t n <;> rfl
  | succ N ih =>
    intro s n l hs h
    by_cases h0 : s.size = 0
    · rw [parseN_nil h0] at h
      injection h with h
      subst h
      rw [size0 h0, show (⟨#[]⟩ : ByteArray) ++ t = t by apply ba_eq; simp]
      simp only [List.length_nil, Int.natCast_zero, Int.add_zero, List.nil_append]
      cases parseN t n <;> rfl
    · rcases hc : cutAt s 10 with ⟨F, R, m⟩
      cases m with
      | false => exact (ok_open h0 hc h).elim
      | true =>
        obtain ⟨h1, h2, e, r, he, hr, rfl⟩ := ok_step hc h
        have hl := cut_less hc
        have hi := ih R (n + 1) r (by omega) hr
        rw [parseN_cut (cut_behind t hc), if_neg (by omega), if_neg (by omega), he]
        dsimp only
        rw [hi, show n + 1 + (r.length : Int) = n + ((e :: r).length : Int) by simp; omega]
        cases parseN t (n + ((e :: r).length : Int)) <;> rfl
theorem ok_shift : ∀ (N : Nat) (s : ByteArray) (n d : Int) (l : List S54), s.size ≤ N → 0 ≤ d → n + d + l.length ≤ 1001 → parseN s n = .ok l → parseN s (n + d) = .ok l := by
  intro N
  induction N with
  | zero =>
    intro s n d l hs _ _ h
    rw [parseN_nil (by omega)] at h ⊢
    exact h
  | succ N ih =>
    intro s n d l hs hd hb h
    by_cases h0 : s.size = 0
    · rw [parseN_nil h0] at h ⊢
      exact h
    · rcases hc : cutAt s 10 with ⟨F, R, m⟩
      cases m with
      | false => exact (ok_open h0 hc h).elim
      | true =>
        obtain ⟨h1, h2, e, r, he, hr, rfl⟩ := ok_step hc h
        have hl := cut_less hc
        have hb' : n + d + ((r.length : Int) + 1) ≤ 1001 := by simpa using hb
        refine ok_mk hc h1 (by omega) he ?_
        rw [show n + d + 1 = n + 1 + d by omega]
        exact ih R (n + 1) d r (by omega) hd (by omega) hr
theorem ok_count : ∀ (N : Nat) (s : ByteArray) (n : Int) (l : List S54), s.size ≤ N → parseN s n = .ok l → 6 * l.length ≤ s.size ∧ (l ≠ [] → n + l.length ≤ 1001) := by
  intro N
  induction N with
  | zero =>
    intro s n l hs h
    rw [parseN_nil (by omega)] at h
    injection h with h
    subst h
    exact ⟨by simp, fun h => absurd rfl h⟩
  | succ N ih =>
    intro s n l hs h
    by_cases h0 : s.size = 0
    · rw [parseN_nil h0] at h
      injection h with h
      subst h
      exact ⟨by simp, fun h => absurd rfl h⟩
    · rcases hc : cutAt s 10 with ⟨F, R, m⟩
      cases m with
      | false => exact (ok_open h0 hc h).elim
      | true =>
        obtain ⟨h1, h2, e, r, he, hr, rfl⟩ := ok_step hc h
        have hl := cut_less hc
        have hi := ih R (n + 1) r (by omega) hr
        have hg := parse_ge he
        have hz : s.size = F.size + 1 + R.size := by
          rw [(cut_true hc).1, ByteArray.size_append, ByteArray.size_append, sz1]
        refine ⟨by simp only [List.length_cons]; omega, fun _ => ?_⟩
        cases r with
        | nil => simp; omega
        | cons a r => have := hi.2 (by simp); simp at this ⊢; omega
theorem err_range : ∀ (N : Nat) (s : ByteArray) (n x : Int) (y : Er), s.size ≤ N → parseN s n = .error (x, y) → n ≤ x ∧ 6 * (x - n) < s.size := by
  intro N
  induction N with
  | zero =>
    intro s n x y hs h
    rw [parseN_nil (by omega)] at h
    cases h
  | succ N ih =>
    intro s n x y hs h
    by_cases h0 : s.size = 0
    · rw [parseN_nil h0] at h
      cases h
    · rcases hc : cutAt s 10 with ⟨F, R, m⟩
      have here : ∀ z, (Except.error (n, z) : Except (Int × Er) (List S54)) = .error (x, y) → n ≤ x ∧ 6 * (x - n) < s.size := by
        intro z hz
        injection hz with hz
        injection hz with hz _
        omega
      cases m with
      | false =>
        rw [parseN_open h0 hc] at h
        split at h
        · exact here _ h
        · split at h <;> exact here _ h
      | true =>
        rw [parseN_cut hc] at h
        split at h
        · exact here _ h
        · split at h
          · exact here _ h
          · split at h
            · exact here _ h
            · rename_i e he
              split at h
              · rename_i z hz
                injection h with h
                subst h
                have hl := cut_less hc
                have hi := ih R (n + 1) x y (by omega) hz
                have hg := parse_ge he
                have hz : s.size = F.size + 1 + R.size := by
                  rw [(cut_true hc).1, ByteArray.size_append, ByteArray.size_append, sz1]
                omega
              · cases h
theorem err_shift : ∀ (N : Nat) (s : ByteArray) (n d x : Int) (y : Er), s.size ≤ N → 0 ≤ d → x + d ≤ 1000 → parseN s n = .error (x, y) → parseN s (n + d) = .error (x + d, y) := by
  intro N
  induction N with
  | zero =>
    intro s n d x y hs _ _ h
    rw [parseN_nil (by omega)] at h
    cases h
  | succ N ih =>
    intro s n d x y hs hd hx h
    by_cases h0 : s.size = 0
    · rw [parseN_nil h0] at h
      cases h
    · have hnx := (err_range _ s n x y hs h).1
      rcases hc : cutAt s 10 with ⟨F, R, m⟩
      have here : ∀ z, (Except.error (n, z) : Except (Int × Er) (List S54)) = .error (x, y) → (Except.error (n + d, z) : Except (Int × Er) (List S54)) = .error (x + d, y) := by
        intro z hz
        injection hz with hz
        injection hz with hz hy
        rw [hz, hy]
      cases m with
      | false =>
        rw [parseN_open h0 hc] at h ⊢
        split at h
        · rename_i h1; rw [if_pos h1]; exact here _ h
        · rename_i h1
          rw [if_neg h1]
          rw [if_neg (by omega)] at h
          rw [if_neg (by omega)]
          exact here _ h
      | true =>
        rw [parseN_cut hc] at h ⊢
        split at h
        · rename_i h1; rw [if_pos h1]; exact here _ h
        · rename_i h1
          rw [if_neg h1]
          rw [if_neg (by omega)] at h
          rw [if_neg (by omega)]
          cases hp : parseP F with
          | error z => rw [hp] at h; exact here _ h
          | ok e =>
            rw [hp] at h
            dsimp only at h ⊢
            cases hr : parseN R (n + 1) with
            | error z =>
              rw [hr] at h
              injection h with h
              subst h
              have hl := cut_less hc
              rw [show n + d + 1 = n + 1 + d by omega, ih R (n + 1) d x y (by omega) hd hx hr]
            | ok r => rw [hr] at h; cases h
/-- A fault stays where it was, whatever stands behind the last line feed. -/
theorem err_append (t : ByteArray) : ∀ (N : Nat) (s : ByteArray) (n : Int) (x : Int × Er), s.size ≤ N → s.data.toList.getLast? = some 10 → parseN s n = .error x → parseN (s ++ t) n = .error x := by
  intro N
  induction N with
  | zero =>
    intro s n x hs _ h
    rw [parseN_nil (by omega)] at h
    cases h
  | succ N ih =>
    intro s n x hs hlast h
    by_cases h0 : s.size = 0
    · rw [parseN_nil h0] at h
      cases h
    · rcases hc : cutAt s 10 with ⟨F, R, m⟩
      cases m with
      | false =>
        exact absurd (List.mem_of_getLast? hlast) (cut_false hc).2
      | true =>
        rw [parseN_cut hc] at h
        rw [parseN_cut (cut_behind t hc)]
        split at h
        · rename_i h1; rw [if_pos h1]; exact h
        · rename_i h1
          rw [if_neg h1]
          split at h
          · rename_i h2; rw [if_pos h2]; exact h
          · rename_i h2
            rw [if_neg h2]
            cases hp : parseP F with
            | error z => rw [hp] at h; exact h
            | ok e =>
              rw [hp] at h
              dsimp only at h ⊢
              cases hr : parseN R (n + 1) with
              | ok r => rw [hr] at h; cases h
              | error z =>
                rw [hr] at h
                injection h with h
                subst h
                have hl := cut_less hc
                have hlast' : R.data.toList.getLast? = some 10 := by
                  have e1 := (cut_true hc).1
                  cases hR : R.data.toList with
                  | nil =>
                    have : R.size = 0 := by
                      show R.data.size = 0
                      rw [← Array.length_toList, hR]; rfl
                    rw [parseN_nil this] at hr
                    cases hr
                  | cons a r =>
                    rw [e1] at hlast
                    have h3 : (F ++ ⟨#[10]⟩ ++ R).data.toList = (F.data.toList ++ [10]) ++ a :: r := by
                      simp [hR]
                    rw [h3, List.getLast?_append] at hlast
                    rw [List.getLast?_cons] at hlast ⊢
                    simpa using hlast
                rw [ih R (n + 1) z (by omega) hlast' hr]
theorem parseAll_N (s : ByteArray) : parseAll s = parseN s 1 := rfl
/-- ScriptFirst, plainly. -/
theorem first_ok {s t : ByteArray} {l m : List S54} (hs : s.size ≤ 3000) (ht : t.size ≤ 3000) (h : parseAll s = .ok l) (k : parseAll t = .ok m) : parseAll (s ++ t) = .ok (l ++ m) := by
  rw [parseAll_N] at *
  have h1 := (ok_count _ s 1 l (Nat.le_refl _) h).1
  have h2 := (ok_count _ t 1 m (Nat.le_refl _) k).1
  rw [ok_append t _ s 1 l (Nat.le_refl _) h, ok_shift _ t 1 l.length m (Nat.le_refl _) (by omega) (by omega) k]
theorem first_err {s t : ByteArray} {l : List S54} {x : Int} {y : Er} (hs : s.size ≤ 3000) (ht : t.size ≤ 3000) (h : parseAll s = .ok l) (k : parseAll t = .error (x, y)) : parseAll (s ++ t) = .error (x + l.length, y) := by
  rw [parseAll_N] at *
  have h1 := (ok_count _ s 1 l (Nat.le_refl _) h).1
  have h2 := err_range _ t 1 x y (Nat.le_refl _) k
  rw [ok_append t _ s 1 l (Nat.le_refl _) h, err_shift _ t 1 l.length x y (Nat.le_refl _) (by omega) (by omega) k]
theorem first_same {s t : ByteArray} {x : Int × Er} (h : parseAll s = .error x) (hl : s.data.toList.getLast? = some 10) : parseAll (s ++ t) = .error x := by
  rw [parseAll_N] at *
  exact err_append t _ s 1 x (Nat.le_refl _) hl h
theorem err_line {s : ByteArray} {x : Int} {y : Er} (h : parseAll s = .error (x, y)) : 1 ≤ x ∧ x ≤ s.size + 1 := by
  rw [parseAll_N] at h
  have := err_range _ s 1 x y (Nat.le_refl _) h
  omega
theorem parseN_good : ∀ (N : Nat) (s : ByteArray) (n : Int) (l : List S54), s.size ≤ N → parseN s n = .ok l → ∀ x ∈ l, EvGood x := by
  intro N
  induction N with
  | zero =>
    intro s n l hs h
    rw [parseN_nil (by omega)] at h
    injection h with h
    subst h
    intro x hx
    cases hx
  | succ N ih =>
    intro s n l hs h
    by_cases h0 : s.size = 0
    · rw [parseN_nil h0] at h
      injection h with h
      subst h
      intro x hx
      cases hx
    · rcases hc : cutAt s 10 with ⟨F, R, m⟩
      cases m with
      | false => exact (ok_open h0 hc h).elim
      | true =>
        obtain ⟨h1, h2, e, r, he, hr, rfl⟩ := ok_step hc h
        have hl := cut_less hc
        intro x hx
        rcases List.mem_cons.1 hx with rfl | hx
        · exact parseP_good he
        · exact ih R (n + 1) r (by omega) hr x hx
theorem parseAll_good {s : ByteArray} {l : List S54} (h : parseAll s = .ok l) : ∀ x ∈ l, EvGood x := parseN_good _ s 1 l (Nat.le_refl _) h
theorem parseAll_len {s : ByteArray} {l : List S54} (h : parseAll s = .ok l) : 6 * l.length ≤ s.size := (ok_count _ s 1 l (Nat.le_refl _) h).1
end Go.Proofs.YtjpkphmihkbfeaaDoor.S34
