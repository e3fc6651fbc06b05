/- Plain: the reference's words of a line are the program's. -/
import Derived.Test.YtjpkphmihkbfeaaDoorRr
import Derived.Test.YtjpkphmihkbfeaaDoorQ3
import Derived.Test.YtjpkphmihkbfeaaDoorQ4
namespace Go.Proofs.YtjpkphmihkbfeaaDoor.S34
open Go.RowKit Go.Proofs.YtjpkphmihkbfeaaDoorW.PrintWords Go.Proofs.YtjpkphmihkbfeaaDoor.Q
set_option maxRecDepth 100000
set_option linter.unusedSimpArgs false

/-! ### cut -/
theorem idx_hit {c : UInt8} : ∀ {a b : List UInt8}, c ∉ a → Lib.index (a ++ c :: b) [c] = a.length := by
  intro a b h
  rcases idx1 c (a ++ c :: b) with ⟨_, h2⟩ | ⟨a', b', h1, h2, h3⟩
  · exact absurd (by simp) h2
  · rw [h3]
    have key : ∀ (a a' b b' : List UInt8), c ∉ a → c ∉ a' → a ++ c :: b = a' ++ c :: b' → a.length = a'.length := by
      intro a
      induction a with
      | nil =>
        intro a' b b' _ h2 e
        cases a' with
        | nil => rfl
        | cons x a' => simp at e; exact absurd (by simp [e.1]) h2
      | cons x a ih =>
        intro a' b b' h1 h2 e
        cases a' with
        | nil => simp at e; exact absurd (by simp [e.1]) h1
        | cons y a' =>
          simp at e
          have := ih a' b b' (fun h => h1 (by simp [h])) (fun h => h2 (by simp [h])) e.2
          simp [this]
    rw [key a a' b b' h h2 h1]
theorem idx_miss {c : UInt8} {a : List UInt8} (h : c ∉ a) : Lib.index a [c] = -1 := by
  rcases idx1 c a with ⟨h1, _⟩ | ⟨a', b', h1, _, _⟩
  · exact h1
  · exact absurd (by rw [h1]; simp) h
theorem ext_list (s : ByteArray) (i j : Nat) : (s.extract i j).data.toList = (s.data.toList.take j).drop i := by
  simp [ByteArray.data_extract]
  rw [List.drop_take]
theorem bt_getElem (s : ByteArray) (i : Nat) (h : i < s.size) : s.data.toList[i]'(by rw [Array.length_toList]; exact h) = UInt8.ofNat (bt s i).toNat := by
  have := bt_at s (i : Int) (by simpa using h)
  rw [← this]
  simp only [Int.toNat_natCast]
  rw [UInt8.ofNat_toNat]
  rfl
theorem cut_l (s : ByteArray) (hs : s.size ≤ 1000000) (most : Int) (hm : 1 ≤ most) (hm2 : most ≤ 1000) : ∀ (d i from_ k : Nat) (out : List ByteArray), i + d = s.size → from_ ≤ i → (32 : UInt8) ∉ (s.data.toList.take i).drop from_ → out.length ≤ 1000000 → 2 * d + 2 ≤ k →
    orielref34_cut.l0 k s most out (from_ : Int) (i : Int) = some (out ++ Lib.splitB ⟨#[32]⟩ 0 (most.toNat - 1 - out.length) (s.extract from_ s.size)) := by
  intro d
  have hL : s.data.toList.length = s.size := Array.length_toList
  induction d with
  | zero =>
    intro i from_ k out hi hf hno ho hk
    obtain ⟨k, rfl⟩ : ∃ j, k = j + 2 := ⟨k - 2, by omega⟩
    rw [orielref34_cut.l0, if_neg (by omega), orielref34_cut.j1, if_neg (by decide), if_pos (by omega), if_pos (by omega), if_pos (by omega)]
    rw [Lib.splitB_miss]
    · simp
    · show Lib.index (s.extract from_ s.size).data.toList [32] = -1
      rw [ext_list]
      apply idx_miss
      rw [show s.size = i by omega]
      exact hno
  | succ d ih =>
    intro i from_ k out hi hf hno ho hk
    obtain ⟨k, rfl⟩ : ∃ j, k = j + 2 := ⟨k - 2, by omega⟩
    have hw : wrap64 (most - 1) = most - 1 := by unfold wrap64; omega
    have hw2 : wrap64 ((i : Int) + 1) = ((i + 1 : Nat) : Int) := by unfold wrap64; omega
    rw [orielref34_cut.l0, if_pos (by omega), hw]
    by_cases hlen : (out.length : Int) < most - 1
    · rw [decide_eq_true hlen, orielref34_cut.j1, if_pos rfl, if_pos (by omega), if_pos (by omega)]
      have hti : s.data.toList.take (i + 1) = s.data.toList.take i ++ [UInt8.ofNat (bt s i).toNat] := by
        rw [List.take_succ_eq_append_getElem (by omega), bt_getElem s i (by omega)]
      have hbr := bt_range s (i : Int)
      by_cases h32 : bt s (i : Int) = 32
      · rw [if_pos h32, if_pos (by omega), if_pos (by omega), if_pos (by omega), if_pos (by omega), hw2]
        rw [ih (i + 1) (i + 1) k _ (by omega) (Nat.le_refl _) (by rw [List.drop_of_length_le (by rw [List.length_take]; omega)]; simp) (by simp; omega) (by omega)]
        congr 1
        have hidx : Lib.indexB (s.extract from_ s.size) ⟨#[32]⟩ = ((i - from_ : Nat) : Int) := by
          show Lib.index (s.extract from_ s.size).data.toList [32] = _
          have e : (s.extract from_ s.size).data.toList = (s.data.toList.take i).drop from_ ++ (32 : UInt8) :: s.data.toList.drop (i + 1) := by
            rw [ext_list, List.take_of_length_le (by omega)]
            have h2 : s.data.toList = s.data.toList.take i ++ (32 : UInt8) :: s.data.toList.drop (i + 1) := by
              have h3 : s.data.toList.drop i = UInt8.ofNat (bt s i).toNat :: s.data.toList.drop (i + 1) := by
                rw [List.drop_eq_getElem_cons (by omega), bt_getElem s i (by omega)]
              rw [h32] at h3
              have h4 := List.take_append_drop i s.data.toList
              rw [h3] at h4
              exact h4.symm
            conv => lhs; rw [h2]
            rw [List.drop_append_of_le_length (by rw [List.length_take]; omega)]
          rw [e, idx_hit hno]
          simp only [List.length_drop, List.length_take]
          congr 1
          omega
        have hsp : most.toNat - 1 - out.length = (most.toNat - 1 - (out ++ [s.extract (from_ : Int).toNat (i : Int).toNat]).length) + 1 := by simp; omega
        rw [hsp, Lib.splitB_hit _ _ _ _ _ hidx]
        rw [List.append_assoc]
        congr 1
        show s.extract (from_ : Int).toNat (i : Int).toNat :: _ = _
        have e1 : s.extract (from_ : Int).toNat (i : Int).toNat = (s.extract from_ s.size).extract 0 (i - from_ + 0) := by
          apply ba_eq
          rw [ext_list, ext_list, ext_list]
          simp only [Int.toNat_natCast, Nat.add_zero, List.drop_zero]
          rw [List.take_of_length_le (i := s.size) (by omega), List.take_drop]
          congr 1
          congr 1
          omega
        have e2 : s.extract (i + 1) s.size = (s.extract from_ s.size).extract (i - from_ + (⟨#[32]⟩ : ByteArray).size) (s.extract from_ s.size).size := by
          apply ba_eq
          have hz : (s.extract from_ s.size).size = s.size - from_ := by
            show (s.extract from_ s.size).data.size = _
            rw [← Array.length_toList, ext_list]
            simp only [List.length_drop, List.length_take]
            omega
          rw [hz, ext_list, ext_list, ext_list]
          rw [List.take_of_length_le (i := s.size) (by omega)]
          have h1 : (s.data.toList.drop from_).take (s.size - from_) = s.data.toList.drop from_ := List.take_of_length_le (by rw [List.length_drop]; omega)
          rw [h1, List.drop_drop]
          congr 1
          show i + 1 = from_ + (i - from_ + 1)
          omega
        rw [e1, e2]
        rfl
      · rw [if_neg h32, hw2, ih (i + 1) from_ k out (by omega) (by omega) ?_ ho (by omega)]
        rw [hti]
        by_cases hfi : from_ ≤ i
        · rw [List.drop_append_of_le_length (by rw [List.length_take]; omega)]
          intro hm
          rcases List.mem_append.1 hm with hm | hm
          · exact hno hm
          · have := congrArg UInt8.toNat (List.mem_singleton.1 hm)
            rw [UInt8.toNat_ofNat'] at this
            rw [show (32 : UInt8).toNat = 32 from rfl] at this
            omega
        · omega
    · rw [decide_eq_false hlen, orielref34_cut.j1, if_neg (by decide), if_pos (by omega), if_pos (by omega), if_pos (by omega)]
      rw [show most.toNat - 1 - out.length = 0 by omega, Lib.splitB_zero]
      simp
theorem cut_ref (s : ByteArray) (hs : s.size ≤ 1000000) (n : Nat) (h1 : 1 ≤ n) (h2 : n ≤ 1000) (k : Nat) (hk : 2 * s.size + 2 ≤ k) : orielref34_cut.f k s (n : Int) = some (Lib.splitB ⟨#[32]⟩ 0 (n - 1) s) := by
  have := cut_l s hs (n : Int) (by omega) (by omega) s.size 0 0 k [] (by omega) (Nat.le_refl _) (by simp) (by simp) hk
  unfold orielref34_cut.f
  rw [show (0 : Int) = ((0 : Nat) : Int) from rfl, this]
  have e : s.extract 0 s.size = s := by
    apply ba_eq
    rw [ext_list]
    simp only [List.drop_zero]
    rw [List.take_of_length_le (by rw [Array.length_toList]; exact Nat.le_refl _)]
  simp [e]

/-! ### numeral -/
theorem numB_len {n : Int} (h : 0 ≤ n) : (numB n).size = Lib.nDigits n.toNat := by
  show (Lib.itoa n).toArray.size = _
  unfold Lib.itoa
  rw [if_neg (by omega)]
  simp [Lib.decDigits_length]
theorem nDigits_lt {u j : Nat} (hj : 1 ≤ j) (h : u < 10 ^ j) : Lib.nDigits u ≤ j := by
  rcases Nat.lt_or_ge j (Lib.nDigits u) with h1 | h1
  · exfalso
    have : ∀ (n u : Nat), n + 2 ≤ Lib.nDigits u → 10 ^ (n + 1) ≤ u := by
      intro n
      induction n with
      | zero =>
        intro u hu
        rcases Nat.lt_or_ge u 10 with h | h
        · rw [Lib.nDigits_small h] at hu; omega
        · simpa using h
      | succ n ih =>
        intro u hu
        rcases Nat.lt_or_ge u 10 with h | h
        · rw [Lib.nDigits_small h] at hu; omega
        · rw [Lib.nDigits_big (by omega)] at hu
          have := ih (u / 10) (by omega)
          rw [Nat.pow_succ]
          omega
    have := this (j - 1) u (by omega)
    rw [show j - 1 + 1 = j by omega] at this
    omega
  · exact h1
theorem digVal_lt : ∀ (l : List Int) (a n : Int), 0 ≤ a → digVal l a = some n → n < (a + 1) * 10 ^ l.length := by
  intro l
  induction l with
  | nil => intro a n h0 h; simp [digVal] at h; subst h; simp; omega
  | cons c l ih =>
    intro a n h0 h
    rw [digVal] at h
    split at h
    · cases h
    · split at h
      · cases h
      · have h1 := ih _ n (by omega) h
        rw [List.length_cons, Int.pow_succ]
        have hp : (0 : Int) ≤ 10 ^ l.length := Int.pow_nonneg (by decide)
        have h2 : (10 * a + (c - 48) + 1) * 10 ^ l.length ≤ ((a + 1) * 10) * 10 ^ l.length := Int.mul_le_mul_of_nonneg_right (by omega) hp
        rw [Int.mul_comm (10 ^ l.length) 10, ← Int.mul_assoc]
        omega
/-- A numeral with a nought ahead is not the number's. -/
theorem nought_ahead {s : ByteArray} {n : Int} (h1 : 1 < s.size) (h48 : bt s 0 = 48) (h : digVal (bytesOf s) 0 = some n) (h0 : 0 ≤ n) : numB n ≠ s := by
  intro he
  have hl : (bytesOf s).length = s.size := bytesOf_length s
  cases hb : bytesOf s with
  | nil => rw [hb] at hl; simp at hl; omega
  | cons c r =>
    have hc : c = 48 := by
      have := rd_bytesOf s 0
      rw [hb] at this
      simpa [rd, h48] using this
    subst hc
    rw [hb] at h hl
    rw [digVal, if_neg (by decide), if_neg (by decide)] at h
    have h2 := digVal_lt r _ n (by omega) h
    simp only [List.length_cons] at hl
    have h3 : n < 10 ^ (s.size - 1) := by
      have : r.length = s.size - 1 := by omega
      rw [this] at h2
      simpa using h2
    have h4 : n.toNat < 10 ^ (s.size - 1) := by
      have : ((n.toNat : Nat) : Int) = n := by omega
      have h5 : ((n.toNat : Nat) : Int) < ((10 ^ (s.size - 1) : Nat) : Int) := by rw [this]; simpa using h3
      exact_mod_cast h5
    have h6 := nDigits_lt (by omega) h4
    have := congrArg ByteArray.size he
    rw [numB_len h0] at this
    omega
def NumRef (s : ByteArray) (kd : Int) (r : Int × Bool) : Prop := if r.2 = true then numP s kd = .ok r.1 else numP s kd = .error .number
theorem num_l (s : ByteArray) (kd : Int) (hs : s.size ≤ 10) (hs0 : 0 < s.size) : ∀ (d i k : Nat) (n : Int), i + d = s.size → NumAt s i n → d + 30 ≤ k →
    ∃ r, orielref34_numeral.l0 k s (boundsP kd).1 (boundsP kd).2 n (i : Int) = some r ∧ NumRef s kd r := by
  intro d
  induction d with
  | zero =>
    intro i k n hi hN hk
    obtain ⟨k, rfl⟩ : ∃ j, k = j + 1 := ⟨k - 1, by omega⟩
    have hi' : i = s.size := by omega
    subst hi'
    have hD := hN.end_
    have hB := hN.bound (by omega)
    rw [orielref34_numeral.l0, if_neg (by omega)]
    have hbad : ∀ (h : numBad s = true), numB n ≠ s := by
      intro h
      rcases numBad_true.1 h with (h | h) | ⟨h, h48⟩
      · omega
      · omega
      · exact nought_ahead h h48 hD hB.1
    by_cases h1 : n ≥ (boundsP kd).1
    · rw [if_pos h1]
      by_cases h2 : n ≤ (boundsP kd).2
      · rw [if_pos h2]
        have hin : inB kd n = true := by unfold inB; simp [h1, h2]
        have hdf : orielref12_Digits.f k n = some (numB n) := at_rounds (fun k => orielref12_Digits.mono n k) (by omega) (digits_f n hB.1 (by omega))
        rw [hdf, Option.bind_some]
        refine ⟨_, rfl, ?_⟩
        unfold NumRef
        by_cases he : (numB n).toList = s.toList
        · have hsn : numB n = s := by rw [of_toList (s := numB n) rfl, he, ← of_toList (s := s) rfl]
          have hnb : numBad s = false := by
            cases h : numBad s with
            | false => rfl
            | true => exact absurd hsn (hbad h)
          simp only [he, beq_self_eq_true, if_true]
          exact numP_ok hnb hD hin
        · have : ((numB n).toList == s.toList) = false := beq_eq_false_iff_ne.2 he
          simp only [this, Bool.false_eq_true, if_false]
          have hnb : numBad s = true := by
            cases h : numBad s with
            | true => rfl
            | false =>
              exfalso
              apply he
              rw [← num_back (numP_ok h hD hin)]
          exact numP_bad hnb
      · rw [if_neg h2]
        refine ⟨_, rfl, ?_⟩
        unfold NumRef
        simp only [Bool.false_eq_true, if_false]
        exact numP_out hD (by unfold inB; simp; omega)
    · rw [if_neg h1]
      refine ⟨_, rfl, ?_⟩
      unfold NumRef
      simp only [Bool.false_eq_true, if_false]
      exact numP_out hD (by unfold inB; simp; omega)
  | succ d ih =>
    intro i k n hi hN hk
    obtain ⟨k, rfl⟩ : ∃ j, k = j + 1 := ⟨k - 1, by omega⟩
    have hB := hN.bound (by omega)
    have hbr := bt_range s (i : Int)
    rw [orielref34_numeral.l0, if_pos (by omega), if_pos (by omega)]
    by_cases h1 : bt s (i : Int) < 48
    · rw [if_pos h1]
      refine ⟨_, rfl, ?_⟩
      unfold NumRef
      simp only [Bool.false_eq_true, if_false]
      exact numP_none (hN.bad (by omega) (Or.inl h1))
    · rw [if_neg h1]
      by_cases h2 : bt s (i : Int) > 57
      · rw [if_pos h2]
        refine ⟨_, rfl, ?_⟩
        unfold NumRef
        simp only [Bool.false_eq_true, if_false]
        exact numP_none (hN.bad (by omega) (Or.inr h2))
      · rw [if_neg h2]
        have e1 : wrap64 (wrap64 (wrap64 (n * 10) + wrap64 (bt s (i : Int))) - 48) = 10 * n + (bt s (i : Int) - 48) := by unfold wrap64; omega
        have e2 : wrap64 ((i : Int) + 1) = ((i + 1 : Nat) : Int) := by unfold wrap64; omega
        rw [e1, e2]
        exact ih (i + 1) k _ (by omega) (hN.step (by omega) h1 h2) (by omega)
theorem numeral_ref (s : ByteArray) (kd : Int) (k : Nat) (hk : 60 ≤ k) : ∃ r, orielref34_numeral.f k s (boundsP kd).1 (boundsP kd).2 = some r ∧ NumRef s kd r := by
  have bad : numBad s = true → NumRef s kd (0, false) := fun h => by
    unfold NumRef
    simp only [Bool.false_eq_true, if_false]
    exact numP_bad h
  obtain ⟨k, rfl⟩ : ∃ j, k = j + 1 := ⟨k - 1, by omega⟩
  unfold orielref34_numeral.f
  by_cases h0 : (s.size : Int) = 0
  · rw [if_pos h0, orielref34_numeral.j0, if_pos rfl]
    exact ⟨_, rfl, bad (numBad_true.2 (Or.inl (Or.inl (by omega))))⟩
  · rw [if_neg h0]
    by_cases h10 : (s.size : Int) > 10
    · rw [decide_eq_true h10, orielref34_numeral.j0, if_pos rfl]
      exact ⟨_, rfl, bad (numBad_true.2 (Or.inl (Or.inr (by omega))))⟩
    · rw [decide_eq_false h10, orielref34_numeral.j0, if_neg (by decide)]
      exact num_l s kd (by omega) (by omega) s.size 0 k 0 (by omega) (NumAt.zero s) (by omega)

/-! ### one -/
/-- What the reference makes of a fault's number: the first one stays. -/
def codeUp (c : Int) (bad : Bool) (x : Int) : Int := if bad = true then (if c = 0 then x else c) else c
theorem rdOf_nat {ps : List ByteArray} {i : Nat} (h : i < ps.length) : rdOf ByteArray.empty ps (i : Int) = ps[i] := by
  unfold rdOf
  rw [Int.toNat_natCast, List.getD_eq_getElem?_getD, List.getElem?_eq_getElem h]; rfl
/-! ### text -/
theorem ref_plain (b : Int) : orielref34_plain.f b = some (plainP b) := by
  unfold orielref34_plain.f plainP
  by_cases h1 : b ≥ 32
  · rw [if_pos h1]
    by_cases h2 : b < 127
    · rw [if_pos h2]
      by_cases h3 : b = 34
      · rw [if_pos h3]; simp [h3]
      · rw [if_neg h3]
        have : b ≤ 126 := by omega
        simp [h1, this, h3]
    · rw [if_neg h2]
      have : ¬ b ≤ 126 := by omega
      simp [this]
  · rw [if_neg h1]; simp; omega
theorem value_ref (x : Int) (h0 : 0 ≤ x) (h1 : x ≤ 255) (k : Nat) (hk : 20 ≤ k) : orielref34_value.f k x = some (hexv x) := by
  have key : ∀ n : Fin 256, orielref34_value.f 20 (n.val : Int) = some (hexv (n.val : Int)) := by decide +kernel
  obtain ⟨u, rfl⟩ : ∃ u : Nat, x = u := ⟨x.toNat, by omega⟩
  exact at_rounds (fun k => orielref34_value.mono u k) hk (key ⟨u, by omega⟩)
/-- The bytes of a text's word behind its first mark, the last mark with them. -/
def decQ : List Int → Option (List Int)
  | [] => none
  | b :: r =>
    if b = 34 then (if r = [] then some [] else none)
    else if plainP b = true then (decQ r).map (b :: ·)
    else if b = 92 then
      match r with
      | x :: y :: r' => if hexv x < 0 then none else if hexv y < 0 then none else if plainP (16 * hexv x + hexv y) = true then none else (decQ r').map ((16 * hexv x + hexv y) :: ·)
      | _ => none
    else none
theorem plain34 : plainP 34 = false := by decide
theorem hexv34 : hexv 34 < 0 := by decide
theorem decQ_snoc : ∀ (n : Nat) (l : List Int), l.length ≤ n → decQ (l ++ [34]) = dec l := by
  intro n
  induction n with
  | zero =>
    intro l h
    have : l = [] := List.length_eq_zero_iff.1 (by omega)
    subst this
    simp [decQ, dec]
  | succ n ih =>
    intro l h
    cases l with
    | nil => simp [decQ, dec]
    | cons b r =>
      simp only [List.length_cons] at h
      by_cases h34 : b = 34
      · subst h34
        rw [List.cons_append, decQ.eq_def]
        simp only [if_true]
        rw [if_neg (by simp), dec_other plain34 (by decide)]
      · cases hp : plainP b with
        | true =>
          rw [dec_plain hp, List.cons_append, decQ.eq_def]
          simp only [h34, if_false, hp, if_true]
          rw [ih r (by omega)]
        | false =>
          by_cases h92 : b = 92
          · cases r with
            | nil =>
              rw [dec_short hp (by simp)]
              simp [decQ, h34, hp]
            | cons x r =>
              cases r with
              | nil =>
                rw [dec_short hp (by simp)]
                have := hexv34
                subst h92
                simp [decQ, hp, this]
              | cons y r =>
                rw [dec_esc hp, if_pos h92, List.cons_append, List.cons_append, List.cons_append, decQ.eq_def]
                simp only [h34, if_false, hp, Bool.false_eq_true, h92, if_true]
                simp only [List.length_cons] at h
                rw [ih r (by omega)]
                rw [if_neg (by decide)]
                simp [← h92, hp]
          · rw [dec_other hp h92, List.cons_append, decQ.eq_def]
            simp [h34, hp, h92]
theorem decQ_last : ∀ (n : Nat) (l : List Int) (xs : List Int), l.length ≤ n → decQ l = some xs → ∃ m, l = m ++ [34] := by
  intro n
  induction n with
  | zero =>
    intro l xs h hd
    have : l = [] := List.length_eq_zero_iff.1 (by omega)
    subst this
    simp [decQ] at hd
  | succ n ih =>
    intro l xs h hd
    cases l with
    | nil => simp [decQ] at hd
    | cons b r =>
      simp only [List.length_cons] at h
      rw [decQ.eq_def] at hd
      dsimp only at hd
      split at hd
      · rename_i h34
        split at hd
        · rename_i hr; subst hr; subst h34; exact ⟨[], rfl⟩
        · cases hd
      · split at hd
        · obtain ⟨ys, hy, _⟩ := Option.map_eq_some_iff.1 hd
          obtain ⟨m, hm⟩ := ih r ys (by omega) hy
          exact ⟨b :: m, by rw [hm]; rfl⟩
        · split at hd
          · split at hd
            · rename_i x y r'
              simp only [List.length_cons] at h
              split at hd
              · cases hd
              · split at hd
                · cases hd
                · split at hd
                  · cases hd
                  · obtain ⟨ys, hy, _⟩ := Option.map_eq_some_iff.1 hd
                    obtain ⟨m, hm⟩ := ih r' ys (by omega) hy
                    exact ⟨b :: x :: y :: m, by rw [hm]; rfl⟩
            · cases hd
          · cases hd
def TextRef (o : Option (List Int)) (out : List Int) (r : List Int × Bool) : Prop :=
  match o with
  | some xs => r = (out ++ xs, true)
  | none => r.2 = false
theorem bytes_drop (s : ByteArray) (i : Nat) (h : i < s.size) : (bytesOf s).drop i = bt s i :: (bytesOf s).drop (i + 1) := bytesOf_cons_drop s i h
theorem unq_l (s : ByteArray) (hs : s.size ≤ 1000000) : ∀ (d i k : Nat) (out : List Int), i + d = s.size → out.length + d ≤ 1000000 → 3 * d + 40 ≤ k →
    ∃ r, orielref34_unquoted.l0 k s out (i : Int) = some r ∧ TextRef (decQ ((bytesOf s).drop i)) out r := by
  intro d
  induction d using Nat.strongRecOn with
  | _ d ih =>
    intro i k out hi ho hk
    obtain ⟨k, rfl⟩ : ∃ j, k = j + 3 := ⟨k - 3, by omega⟩
    rw [orielref34_unquoted.l0]
    by_cases hlt : i < s.size
    · rw [if_pos (by omega), if_pos (by omega), bytes_drop s i hlt]
      have hbr := bt_range s (i : Int)
      by_cases h34 : bt s (i : Int) = 34
      · have : (bt s (i : Int) != 34) = false := by simp [h34]
        rw [this, orielref34_unquoted.j2, if_neg (by decide)]
        refine ⟨_, rfl, ?_⟩
        rw [decQ.eq_def]
        simp only [h34, if_true]
        have hw : wrap64 ((s.size : Int) - 1) = (s.size : Int) - 1 := by unfold wrap64; omega
        by_cases hend : i + 1 = s.size
        · rw [if_pos (List.drop_of_length_le (by rw [bytesOf_length]; omega)), hw]
          unfold TextRef
          have : ((i : Int) == (s.size : Int) - 1) = true := beq_iff_eq.2 (by omega)
          simp [this]
        · rw [if_neg (by intro h; have := congrArg List.length h; simp [bytesOf_length] at this; omega), hw]
          unfold TextRef
          show ((i : Int) == (s.size : Int) - 1) = false
          exact beq_eq_false_iff_ne.2 (by omega)
      · have : (bt s (i : Int) != 34) = true := by simp [h34]
        have hw1 : wrap64 ((i : Int) + 1) = ((i + 1 : Nat) : Int) := by unfold wrap64; omega
        rw [this, orielref34_unquoted.j2, if_pos rfl, if_pos (by omega), if_pos (by omega), ref_plain, Option.bind_some, decQ.eq_def]
        simp only [h34, if_false]
        cases hp : plainP (bt s (i : Int)) with
        | true =>
          simp only [if_true]
          rw [if_pos (by omega), hw1]
          obtain ⟨r, hr, ht⟩ := ih (d - 1) (by omega) (i + 1) (k + 1) (out ++ [bt s (i : Int)]) (by omega) (by simp; omega) (by omega)
          refine ⟨r, hr, ?_⟩
          cases hd : decQ ((bytesOf s).drop (i + 1)) with
          | none => rw [hd] at ht; exact ht
          | some xs =>
            rw [hd] at ht
            unfold TextRef at ht ⊢
            simp only [Option.map_some]
            rw [ht]; simp
        | false =>
          simp only [Bool.false_eq_true, if_false]
          have bad : ∀ b : Bool, b = true → ∃ r, orielref34_unquoted.j3 (k + 1) s out (i : Int) b = some r ∧ r.2 = false := fun b hb => by
            rw [orielref34_unquoted.j3, if_pos hb]; exact ⟨_, rfl, rfl⟩
          by_cases h92 : bt s (i : Int) = 92
          · rw [if_pos h92]
            simp only [h92, if_true]
            have hw3 : wrap64 ((s.size : Int) - (i : Int)) = (s.size : Int) - i := by unfold wrap64; omega
            rw [hw3]
            by_cases h3 : (s.size : Int) - (i : Int) < 3
            · rw [decide_eq_true h3]
              obtain ⟨r, hr, hf⟩ := bad true rfl
              refine ⟨r, hr, ?_⟩
              have : decQ.match_1 (fun _ => Option (List Int)) ((bytesOf s).drop (i + 1)) (fun x y r' => if hexv x < 0 then none else if hexv y < 0 then none else if plainP (16 * hexv x + hexv y) = true then none else (decQ r').map ((16 * hexv x + hexv y) :: ·)) (fun _ => none) = none := by
                have hl : ((bytesOf s).drop (i + 1)).length ≤ 1 := by rw [List.length_drop, bytesOf_length]; omega
                rcases hh : (bytesOf s).drop (i + 1) with _ | ⟨x, _ | ⟨y, r'⟩⟩
                · rfl
                · rfl
                · rw [hh] at hl; simp at hl
              rw [this]
              exact hf
            · rw [decide_eq_false h3, orielref34_unquoted.j3, if_neg (by decide)]
              have hw2 : wrap64 ((i : Int) + 2) = ((i + 2 : Nat) : Int) := by unfold wrap64; omega
              have hw4 : wrap64 ((i : Int) + 3) = ((i + 3 : Nat) : Int) := by unfold wrap64; omega
              have b1 := bt_range s ((i + 1 : Nat) : Int)
              have b2 := bt_range s ((i + 2 : Nat) : Int)
              rw [hw1, if_pos (by omega), if_pos (by omega), value_ref _ b1.1 b1.2 _ (by omega), Option.bind_some, hw2, if_pos (by omega), if_pos (by omega), value_ref _ b2.1 b2.2 _ (by omega), Option.bind_some]
              rw [bytes_drop s (i + 1) (by omega), bytes_drop s (i + 1 + 1) (by omega)]
              dsimp only
              have hx := hexv_range (bt s ((i + 1 : Nat) : Int))
              have hy := hexv_range (bt s ((i + 2 : Nat) : Int))
              have e1 : bt s ((i + 1 + 1 : Nat) : Int) = bt s ((i + 2 : Nat) : Int) := rfl
              rw [e1]
              by_cases hx0 : hexv (bt s ((i + 1 : Nat) : Int)) < 0
              · rw [if_pos hx0, if_pos hx0]; exact ⟨_, rfl, rfl⟩
              · rw [if_neg hx0, if_neg hx0]
                by_cases hy0 : hexv (bt s ((i + 2 : Nat) : Int)) < 0
                · rw [if_pos hy0, if_pos hy0]; exact ⟨_, rfl, rfl⟩
                · rw [if_neg hy0, if_neg hy0]
                  have hv : wrap64 (wrap64 (16 * hexv (bt s ((i + 1 : Nat) : Int))) + hexv (bt s ((i + 2 : Nat) : Int))) % 256 = 16 * hexv (bt s ((i + 1 : Nat) : Int)) + hexv (bt s ((i + 2 : Nat) : Int)) := by unfold wrap64; omega
                  rw [hv, ref_plain, Option.bind_some]
                  by_cases hpl : plainP (16 * hexv (bt s ((i + 1 : Nat) : Int)) + hexv (bt s ((i + 2 : Nat) : Int))) = true
                  · rw [if_pos hpl, if_pos hpl]; exact ⟨_, rfl, rfl⟩
                  · rw [if_neg hpl, if_neg hpl, if_pos (by omega), hw4]
                    obtain ⟨r, hr, ht⟩ := ih (d - 3) (by omega) (i + 3) k (out ++ [16 * hexv (bt s ((i + 1 : Nat) : Int)) + hexv (bt s ((i + 2 : Nat) : Int))]) (by omega) (by simp; omega) (by omega)
                    refine ⟨r, hr, ?_⟩
                    rw [show i + 1 + 1 + 1 = i + 3 by omega]
                    cases hd : decQ ((bytesOf s).drop (i + 3)) with
                    | none => rw [hd] at ht; exact ht
                    | some xs =>
                      rw [hd] at ht
                      unfold TextRef at ht ⊢
                      simp only [Option.map_some]
                      rw [ht]; simp
          · rw [if_neg h92]
            simp only [h92, if_false]
            obtain ⟨r, hr, hf⟩ := bad true rfl
            exact ⟨r, hr, hf⟩
    · rw [if_neg (by omega), orielref34_unquoted.j2, if_neg (by decide)]
      refine ⟨_, rfl, ?_⟩
      rw [List.drop_of_length_le (by rw [bytesOf_length]; omega)]
      have hw : wrap64 ((s.size : Int) - 1) = (s.size : Int) - 1 := by unfold wrap64; omega
      rw [hw]
      show ((i : Int) == (s.size : Int) - 1) = false
      exact beq_eq_false_iff_ne.2 (by omega)
/-- unquoted answers the text's bytes, as long as it is a text. -/
def UnqRef (s : ByteArray) (r : List Int × Bool) : Prop :=
  if r.2 = true then textBad s = false ∧ dec (bytesOf (s.extract 1 (s.size - 1))) = some r.1 else textBad s = true ∨ dec (bytesOf (s.extract 1 (s.size - 1))) = none
theorem unquoted_ref (s : ByteArray) (hs : s.size ≤ 1000000) (k : Nat) (hk : 3 * s.size + 50 ≤ k) : ∃ r, orielref34_unquoted.f k s = some r ∧ UnqRef s r := by
  obtain ⟨k, rfl⟩ : ∃ j, k = j + 1 := ⟨k - 1, by omega⟩
  have bad : textBad s = true → UnqRef s (([] : List Int), false) := fun h => by
    unfold UnqRef
    simp only [Bool.false_eq_true, if_false]
    exact Or.inl h
  unfold orielref34_unquoted.f
  by_cases h2 : (s.size : Int) < 2
  · rw [if_pos h2, orielref34_unquoted.j0, if_pos rfl]
    exact ⟨_, rfl, bad (by unfold textBad; simp; omega)⟩
  · rw [if_neg h2, if_pos (by omega)]
    by_cases h34 : bt s 0 = 34
    · have : (bt s 0 != 34) = false := by simp [h34]
      rw [this, orielref34_unquoted.j0, if_neg (by decide)]
      obtain ⟨r, hr, ht⟩ := unq_l s hs (s.size - 1) 1 k [] (by omega) (by simp; omega) (by omega)
      refine ⟨r, hr, ?_⟩
      have hl : (bytesOf s).length = s.size := bytesOf_length s
      have hm : (bytesOf (s.extract 1 (s.size - 1))) = ((bytesOf s).take (s.size - 1)).drop 1 := mid_bytes s
      by_cases hlast : bt s ((s.size : Int) - 1) = 34
      · have htb : textBad s = false := by
          unfold textBad
          simp [h34, hlast]; omega
        have hq : (bytesOf s).drop 1 = ((bytesOf s).take (s.size - 1)).drop 1 ++ [34] := by
          have h0 : (bytesOf s).getD 0 0 = 34 := by have := rd_bytesOf s 0; rw [h34] at this; simpa [rd] using this
          have h1 : (bytesOf s).getD (s.size - 1) 0 = 34 := by
            have := rd_bytesOf s ((s.size : Int) - 1)
            rw [hlast] at this
            unfold rd at this
            rw [show ((s.size : Int) - 1).toNat = s.size - 1 by omega] at this
            exact this
          have := ends34 (bytesOf s) s.size hl (by omega) h0 h1
          conv => lhs; rw [this]
          simp
        rw [hq, decQ_snoc _ _ (Nat.le_refl _), ← hm] at ht
        unfold UnqRef
        cases hd : dec (bytesOf (s.extract 1 (s.size - 1))) with
        | some xs =>
          rw [hd] at ht
          unfold TextRef at ht
          simp only [List.nil_append] at ht
          subst ht
          simp only [if_true]
          refine ⟨htb, ?_⟩
          first | trivial | rfl
        | none =>
          rw [hd] at ht
          unfold TextRef at ht
          simp only at ht
          rw [ht]
          simp
      · have htb : textBad s = true := by
          unfold textBad
          simp [h34, hlast]
        have hn : decQ ((bytesOf s).drop 1) = none := by
          cases hd : decQ ((bytesOf s).drop 1) with
          | none => rfl
          | some xs =>
            exfalso
            obtain ⟨m, hm'⟩ := decQ_last _ _ xs (Nat.le_refl _) hd
            apply hlast
            have h1 := rd_bytesOf s ((s.size : Int) - 1)
            rw [← h1]
            unfold rd
            rw [show ((s.size : Int) - 1).toNat = s.size - 1 by omega]
            have hlen := congrArg List.length hm'
            simp [hl] at hlen
            have h5 : (bytesOf s).getD (s.size - 1) 0 = ((bytesOf s).drop 1).getD (s.size - 2) 0 := by
              rw [List.getD_eq_getElem?_getD, List.getD_eq_getElem?_getD, List.getElem?_drop]
              congr 2
              omega
            rw [h5, hm', List.getD_eq_getElem?_getD, List.getElem?_append_right (by omega)]
            rw [show s.size - 2 - m.length = 0 by omega]; rfl
        rw [hn] at ht
        unfold TextRef at ht
        simp only at ht
        unfold UnqRef
        rw [ht]
        simp [htb]
    · have : (bt s 0 != 34) = true := by simp [h34]
      rw [this, orielref34_unquoted.j0, if_pos rfl]
      exact ⟨_, rfl, bad (by unfold textBad; simp [h34])⟩
theorem textP_bad {p : ByteArray} {low high : Int} (h : textBad p = true ∨ dec (bytesOf (p.extract 1 (p.size - 1))) = none) : textP p low high = .error .text := by
  unfold textP
  rcases h with h | h
  · rw [if_pos h]
  · split
    · rfl
    · rw [h]
def textBits (p : ByteArray) (low high : Int) : Bool := match textP p low high with | .ok _ => false | .error _ => true
end Go.Proofs.YtjpkphmihkbfeaaDoor.S34
