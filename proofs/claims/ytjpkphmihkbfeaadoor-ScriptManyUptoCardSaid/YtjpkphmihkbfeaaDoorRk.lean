/- Plain: what is printed is read as what it was: numbers, texts, words with blanks between. -/
import Derived.Test.YtjpkphmihkbfeaaDoorRh
namespace Go.Proofs.YtjpkphmihkbfeaaDoor.S34
open Go.RowKit Go.Proofs.YtjpkphmihkbfeaaDoorW.PrintWords Go.Proofs.YtjpkphmihkbfeaaDoor.Q
set_option maxRecDepth 100000
set_option linter.unusedSimpArgs false

/-! ### numbers -/
theorem digit_int {u : Nat} (h : u < 10) : ((UInt8.ofNat (48 + u)).toNat : Int) = 48 + u := by
  rw [UInt8.toNat_ofNat']; omega
theorem digVal_dec : ∀ (u : Nat), digVal ((Lib.decDigits u).map fun b => (b.toNat : Int)) 0 = some (u : Int) := by
  intro u
  induction u using Nat.strongRecOn with
  | _ u ih =>
    rw [Lib.decDigits]
    by_cases h : u < 10
    · rw [dif_pos h]
      simp only [List.map_cons, List.map_nil, digVal, digit_int h]
      rw [if_neg (by omega), if_neg (by omega)]
      simp
      omega
    · rw [dif_neg h, List.map_append, List.map_cons, List.map_nil, digVal_snoc, ih (u / 10) (by omega)]
      simp only [Option.bind_some, digit_int (show u % 10 < 10 by omega)]
      rw [if_neg (by omega), if_neg (by omega)]
      congr 1
      omega
theorem first_dec : ∀ (u : Nat), 10 ≤ u → ((Lib.decDigits u).map fun b => (b.toNat : Int)).getD 0 0 ≠ 48 := by
  intro u
  induction u using Nat.strongRecOn with
  | _ u ih =>
    intro hu
    rw [Lib.decDigits, dif_neg (by omega), List.map_append]
    have hl := digits_neF (u / 10)
    rw [List.getD_eq_getElem?_getD, List.getElem?_append_left (by rw [List.length_map]; omega), ← List.getD_eq_getElem?_getD]
    by_cases h : u / 10 < 10
    · rw [Lib.decDigits, dif_pos h]
      simp only [List.map_cons, List.map_nil, List.getD_cons_zero, digit_int h]
      omega
    · exact ih (u / 10) (by omega) (by omega)
theorem bytesOf_numB {n : Int} (h : 0 ≤ n) : bytesOf (numB n) = (Lib.decDigits n.toNat).map fun b => (b.toNat : Int) := by
  unfold bytesOf numB Lib.itoa
  rw [if_neg (by omega)]
theorem numB_first {n : Int} (h : 0 ≤ n) (h10 : 10 ≤ n) : bt (numB n) 0 ≠ 48 := by
  rw [← rd_bytesOf, bytesOf_numB h]
  unfold rd
  exact first_dec n.toNat (by omega)
theorem boundsP_top (kd : Int) : 0 ≤ (boundsP kd).1 ∧ (boundsP kd).2 ≤ 1073741824 := boundsP_le kd
theorem nDigits_ge {u j : Nat} (h : 10 ^ j ≤ u) : j + 1 ≤ Lib.nDigits u := by
  rcases Nat.lt_or_ge (Lib.nDigits u) (j + 1) with h1 | h1
  · have := Lib.lt_pow_nDigits u
    have h2 : 10 ^ Lib.nDigits u ≤ 10 ^ j := Nat.pow_le_pow_right (by omega) (by omega)
    omega
  · exact h1
theorem numP_numB (n kd : Int) : numP (numB n) kd = if inB kd n = true then .ok n else .error .number := by
  have hb := boundsP_top kd
  by_cases h0 : n < 0
  · have hin : inB kd n = false := by unfold inB; simp; omega
    rw [hin]
    simp only [Bool.false_eq_true, if_false]
    have hd : digVal (bytesOf (numB n)) 0 = none := by
      unfold bytesOf numB Lib.itoa
      rw [if_pos h0]
      simp only [List.map_cons, digVal]
      rw [if_pos (by decide)]
    exact numP_none hd
  · have hd : digVal (bytesOf (numB n)) 0 = some n := by
      rw [bytesOf_numB (by omega), digVal_dec]
      congr 1
      omega
    cases hin : inB kd n with
    | false =>
      simp only [Bool.false_eq_true, if_false]
      exact numP_out hd hin
    | true =>
      simp only [if_true]
      have hin2 : (boundsP kd).1 ≤ n ∧ n ≤ (boundsP kd).2 := by simpa [inB] using hin
      refine numP_ok ?_ hd hin
      cases hbad : numBad (numB n) with
      | false => rfl
      | true =>
        exfalso
        have hs := numB_lenF (n := n) (by omega)
        have hp := Lib.nDigits_pos n.toNat
        rcases numBad_true.1 hbad with (h | h) | ⟨h, h48⟩
        · omega
        · have := nDigits_ltF (u := n.toNat) (j := 10) (by decide) (by omega)
          omega
        · rcases Nat.lt_or_ge n.toNat 10 with h10 | h10
          · have := Lib.nDigits_small h10
            omega
          · exact numB_first (by omega) (by omega) h48

/-! ### texts -/
theorem hexv_hexd : ∀ x : Int, 0 ≤ x → x < 16 → hexv (hexd x) = x := by
  have key : ∀ n : Fin 16, hexv (hexd (n.val : Int)) = n.val := by decide +kernel
  intro x h0 h1
  obtain ⟨u, rfl⟩ : ∃ u : Nat, x = u := ⟨x.toNat, by omega⟩
  exact key ⟨u, by omega⟩
theorem dec_quote : ∀ (l : List Int), Bytes l → dec (quoteP l) = some l := by
  intro l
  induction l with
  | nil => intro _; rfl
  | cons b l ih =>
    intro h
    have hb := h b (List.mem_cons_self ..)
    have ih' := ih (fun x hx => h x (List.mem_cons_of_mem _ hx))
    unfold quoteP at ih' ⊢
    rw [List.flatMap_cons]
    rw [show quoteOne b = if plainP b = true then [b] else [92, hexd (b / 16), hexd (b % 16)] from rfl]
    cases hp : plainP b with
    | true =>
      simp only [if_true]
      rw [List.singleton_append, dec_plain hp, ih']
      rfl
    | false =>
      simp only [Bool.false_eq_true, if_false, List.cons_append, List.nil_append]
      rw [dec_esc (by decide), if_pos rfl, hexv_hexd _ (by omega) (by omega), hexv_hexd _ (by omega) (by omega)]
      have e : 16 * (b / 16) + b % 16 = b := by omega
      rw [e, if_neg (by omega), if_neg (by omega), hp, if_neg (by decide), ih']
      rfl
theorem quote_bytes {l : List Int} (h : Bytes l) : Bytes ([34] ++ quoteP l ++ [34]) := by
  intro x hx
  simp only [List.mem_append, List.mem_singleton] at hx
  rcases hx with (rfl | hx) | rfl
  · decide
  · unfold quoteP at hx
    obtain ⟨b, hb, hxb⟩ := List.mem_flatMap.1 hx
    have := quoteOne_rangeF (h b hb).1 (h b hb).2 x hxb
    omega
  · decide
theorem textP_quoteB {l : List Int} (h : Bytes l) (low high : Int) : textP (quoteB l) low high = if (l.length : Int) < low then .error .text else if (l.length : Int) > high then .error .text else .ok ⟨0, l⟩ := by
  have hb : bytesOf (quoteB l) = [34] ++ quoteP l ++ [34] := bytesOf_str (quote_bytes h)
  have hsz : (quoteB l).size = (quoteP l).length + 2 := by
    have := congrArg List.length hb
    rw [bytesOf_length] at this
    simpa using this
  have htb : textBad (quoteB l) = false := by
    have h0 : bt (quoteB l) 0 = 34 := by rw [← rd_bytesOf, hb]; rfl
    have h1 : bt (quoteB l) (((quoteB l).size : Int) - 1) = 34 := by
      rw [← rd_bytesOf, hb]
      unfold rd
      rw [hsz, show (((quoteP l).length + 2 : Nat) : Int) - 1 = (((quoteP l).length + 1 : Nat) : Int) by omega, Int.toNat_natCast, List.getD_eq_getElem?_getD, List.getElem?_append_right (by simp)]
      simp
    unfold textBad
    simp [h0, h1]
    omega
  have hm : bytesOf ((quoteB l).extract 1 ((quoteB l).size - 1)) = quoteP l := by
    rw [mid_bytes, hb, hsz]
    simp
  unfold textP
  rw [htb, hm, dec_quote l h]
  rfl

/-! ### words with blanks between -/
theorem split_mk : ∀ (ps : List ByteArray), ps ≠ [] → (∀ p ∈ ps.dropLast, (32 : UInt8) ∉ p.data.toList) → Lib.splitB ⟨#[32]⟩ 0 (ps.length - 1) (joinP ps) = ps := by
  intro ps
  induction ps with
  | nil => intro h; exact absurd rfl h
  | cons p r ih =>
    intro _ h
    cases r with
    | nil => rfl
    | cons q r =>
      have hp := h p (by simp [List.dropLast])
      have hc : cutAt (joinP (p :: q :: r)) 32 = (p, joinP (q :: r), true) := cut_mk hp
      have hi := ih (by simp) (fun x hx => h x (by rw [List.dropLast_cons_of_ne_nil (by simp)]; exact List.mem_cons_of_mem _ hx))
      rw [show (p :: q :: r).length - 1 = ((q :: r).length - 1) + 1 by simp, split_trueF hc, hi]
theorem parse_form2 {s F R : ByteArray} (hc : cutAt s 32 = (F, R, true)) (hf : formOf F.toList ≠ []) (hl : (partsOf R (formOf F.toList).length).length = (formOf F.toList).length) :
    parseP s = formF F.toList (kindsOf F.toList) (partsOf R (formOf F.toList).length) := by
  unfold parseP formF
  rw [hc]
  dsimp only
  rw [if_neg hf, if_neg (by decide), if_neg (by omega)]
  rfl
theorem parse_mk {F : ByteArray} {ps : List ByteArray} (h32 : (32 : UInt8) ∉ F.data.toList) (hl : ps.length = (formOf F.toList).length) (hn : ps ≠ []) (hb : ∀ p ∈ ps.dropLast, (32 : UInt8) ∉ p.data.toList) :
    parseP (F ++ ⟨#[32]⟩ ++ joinP ps) = formF F.toList (kindsOf F.toList) ps := by
  have hc := cut_mk (F := F) (R := joinP ps) (c := 32) h32
  have hpos : 1 ≤ ps.length := by
    cases ps with
    | nil => exact absurd rfl hn
    | cons => simp
  have hf : formOf F.toList ≠ [] := by
    intro h
    rw [h] at hl
    simp at hl
    exact hn hl
  have hp : partsOf (joinP ps) (formOf F.toList).length = ps := by
    rw [parts_eqF _ _ (by omega), ← hl]
    exact split_mk ps hn hb
  rw [parse_form2 hc hf (by rw [hp]; exact hl), hp]
theorem digit_no32 (u : Nat) : (32 : UInt8) ∉ Lib.decDigits u := by
  rw [Lib.decDigits_eq]
  intro h
  obtain ⟨t, -, ht⟩ := List.mem_map.1 h
  unfold Lib.dg at ht
  have := congrArg UInt8.toNat ht
  simp only [UInt8.toNat_ofNat'] at this
  rw [show (32 : UInt8).toNat = 32 from rfl] at this
  omega
theorem numB_no32 (n : Int) : (32 : UInt8) ∉ (numB n).data.toList := by
  show (32 : UInt8) ∉ ((Lib.itoa n).toArray).toList
  rw [List.toList_toArray]
  unfold Lib.itoa
  split
  · intro h
    rcases List.mem_cons.1 h with h | h
    · exact absurd h (by decide)
    · exact digit_no32 _ h
  · exact digit_no32 _
/-! ### what each word is read as -/
theorem read_numB {n kd : Int} (h1 : kd ≠ 82) (h2 : kd ≠ 83) (h3 : kd ≠ 84) (h4 : kd ≠ 75) : readP (numB n) kd = if inB kd n = true then .ok ⟨n, []⟩ else .error .number := by
  unfold readP
  rw [if_neg h1, if_neg h2, if_neg h3, if_neg h4, numP_numB]
  split <;> rfl
theorem read_quote84 {l : List Int} (h : Bytes l) (hl : l.length ≤ 1000) : readP (quoteB l) 84 = .ok ⟨0, l⟩ := by
  unfold readP
  rw [if_neg (by decide), if_neg (by decide), if_pos rfl, textP_quoteB h, if_neg (by omega), if_neg (by omega)]
theorem read_quote75 {l : List Int} (h : Bytes l) (hl : l.length ≤ 16) : readP (quoteB l) 75 = if l = [] then .error .text else .ok ⟨0, l⟩ := by
  unfold readP
  rw [if_neg (by decide), if_neg (by decide), if_neg (by decide), if_pos rfl, textP_quoteB h]
  cases l with
  | nil => rfl
  | cons a r => rw [if_neg (by simp; omega), if_neg (by omega), if_neg (by simp)]
end Go.Proofs.YtjpkphmihkbfeaaDoor.S34
