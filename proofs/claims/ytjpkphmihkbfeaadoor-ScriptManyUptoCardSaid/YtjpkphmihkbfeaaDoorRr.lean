/- Plain: what is parsed is printed as the text that it was. -/
import Derived.Test.YtjpkphmihkbfeaaDoorZc
namespace Go.Proofs.YtjpkphmihkbfeaaDoor.S34
open Go.RowKit Go.Proofs.YtjpkphmihkbfeaaDoorW.PrintWords Go.Proofs.YtjpkphmihkbfeaaDoor.Q
set_option maxRecDepth 100000
set_option linter.unusedSimpArgs false

theorem idx1 (c : UInt8) : ∀ l : List UInt8, (Lib.index l [c] = -1 ∧ c ∉ l) ∨ ∃ a b, l = a ++ c :: b ∧ c ∉ a ∧ Lib.index l [c] = a.length := by
  intro l
  rw [Lib.index_one]
  induction l with
  | nil => left; exact ⟨rfl, by simp⟩
  | cons x l ih =>
    by_cases h : x = c
    · right
      refine ⟨[], l, by simp [h], by simp, ?_⟩
      simp [Lib.indexByte, h]
    · rcases ih with ⟨h1, h2⟩ | ⟨a, b, rfl, h2, h3⟩
      · left
        refine ⟨?_, by simp [h2, Ne.symm h]⟩
        simp [Lib.indexByte, h, h1]
      · right
        refine ⟨x :: a, b, rfl, by simp [h2, Ne.symm h], ?_⟩
        simp [Lib.indexByte, h, h3]
theorem ba_eq {s t : ByteArray} (h : s.data.toList = t.data.toList) : s = t := by
  apply ByteArray.ext
  exact Array.toList_inj.1 h
theorem cut_true {s F R : ByteArray} {c : UInt8} (h : cutAt s c = (F, R, true)) : s = F ++ ⟨#[c]⟩ ++ R ∧ c ∉ F.data.toList := by
  unfold cutAt Lib.cut at h
  rcases idx1 c s.data.toList with ⟨h1, h2⟩ | ⟨a, b, h1, h2, h3⟩
  · rw [h1] at h
    simp at h
  · rw [h3] at h
    have h0 : (0 : Int) ≤ (a.length : Int) := by omega
    simp [h0, h1] at h
    obtain ⟨rfl, rfl⟩ := h
    refine ⟨ba_eq ?_, by simpa using h2⟩
    simp [h1]
theorem cut_false {s F R : ByteArray} {c : UInt8} (h : cutAt s c = (F, R, false)) : F = s ∧ c ∉ s.data.toList := by
  unfold cutAt Lib.cut at h
  rcases idx1 c s.data.toList with ⟨h1, h2⟩ | ⟨a, b, h1, h2, h3⟩
  · rw [h1] at h
    simp at h
    exact ⟨h.1.symm, h2⟩
  · rw [h3] at h
    have h0 : (0 : Int) ≤ (a.length : Int) := by omega
    simp [h0] at h
theorem cut_mk {F R : ByteArray} {c : UInt8} (h : c ∉ F.data.toList) : cutAt (F ++ ⟨#[c]⟩ ++ R) c = (F, R, true) := by
  rcases hc : cutAt (F ++ ⟨#[c]⟩ ++ R) c with ⟨F', R', m⟩
  cases m with
  | false =>
    have := (cut_false hc).2
    exact absurd (by simp) this
  | true =>
    obtain ⟨e, h'⟩ := cut_true hc
    have e2 : F.data.toList ++ c :: R.data.toList = F'.data.toList ++ c :: R'.data.toList := by
      have := congrArg (fun s => s.data.toList) e
      simpa using this
    have key : ∀ (a a' b b' : List UInt8), c ∉ a → c ∉ a' → a ++ c :: b = a' ++ c :: b' → a = a' ∧ b = b' := by
      intro a
      induction a with
      | nil =>
        intro a' b b' _ h2 e
        cases a' with
        | nil => simpa using e
        | cons x a' => simp at e; exact absurd (by simp [e.1]) h2
      | cons x a ih =>
        intro a' b b' h1 h2 e
        cases a' with
        | nil => simp at e; exact absurd (by simp [e.1]) h1
        | cons y a' =>
          simp at e
          obtain ⟨h3, h4⟩ := ih a' b b' (fun h => h1 (by simp [h])) (fun h => h2 (by simp [h])) e.2
          exact ⟨by rw [e.1, h3], h4⟩
    obtain ⟨h3, h4⟩ := key _ _ _ _ h h' e2
    have e3 := ba_eq h3
    have e4 := ba_eq h4
    subst e3
    subst e4
    exact hc
/-- Words with blanks between. -/
def joinP : List ByteArray → ByteArray
  | [] => ⟨#[]⟩
  | [p] => p
  | p :: q :: r => p ++ ⟨#[32]⟩ ++ joinP (q :: r)
theorem splitB_ne (k : Nat) (s : ByteArray) : Lib.splitB ⟨#[32]⟩ 0 k s ≠ [] := by
  cases k with
  | zero => simp [Lib.splitB]
  | succ k => unfold Lib.splitB; split <;> simp
theorem split_join : ∀ (k : Nat) (s : ByteArray), joinP (Lib.splitB ⟨#[32]⟩ 0 k s) = s
  | 0, s => rfl
  | k + 1, s => by
    unfold Lib.splitB
    split
    · rfl
    · rename_i hne
      have hix : Lib.indexB s ⟨#[32]⟩ = Lib.index s.data.toList [32] := rfl
      rcases idx1 32 s.data.toList with ⟨h1, h2⟩ | ⟨a, b, h1, h2, h3⟩
      · rw [hix, h1] at hne; simp at hne
      · rw [hix, h3]
        have e1 : s.extract 0 ((a.length : Int).toNat + 0) = ⟨a.toArray⟩ := by
          apply ba_eq
          simp [ByteArray.data_extract, h1]
        have e2 : s.extract ((a.length : Int).toNat + (⟨#[32]⟩ : ByteArray).size) s.size = ⟨b.toArray⟩ := by
          apply ba_eq
          have hs : s.size = (a ++ 32 :: b).length := by rw [← h1]; exact Array.length_toList.symm
          have h32 : (⟨#[32]⟩ : ByteArray).size = 1 := rfl
          rw [h32, hs]
          simp [ByteArray.data_extract, h1]
          apply List.take_of_length_le
          omega
        rw [e1, e2]
        have ih := split_join k ⟨b.toArray⟩
        cases hsp : Lib.splitB ⟨#[32]⟩ 0 k ⟨b.toArray⟩ with
        | nil => exact absurd hsp (splitB_ne _ _)
        | cons q r =>
          rw [hsp] at ih
          show (⟨a.toArray⟩ : ByteArray) ++ ⟨#[32]⟩ ++ joinP (q :: r) = s
          rw [ih]
          apply ba_eq
          simp [h1]
end Go.Proofs.YtjpkphmihkbfeaaDoor.S34
/- Plain: a word that is read is the word of what was read. -/
namespace Go.Proofs.YtjpkphmihkbfeaaDoor.S34
open Go.RowKit Go.Proofs.YtjpkphmihkbfeaaDoorW.PrintWords Go.Proofs.YtjpkphmihkbfeaaDoor.Q
set_option maxRecDepth 100000
set_option linter.unusedSimpArgs false

theorem str_bytesOf (s : ByteArray) : strOfNums (bytesOf s) = s := by
  apply ba_eq
  unfold strOfNums bytesOf
  simp only [List.map_map]
  conv => rhs; rw [← List.map_id s.data.toList]
  refine List.map_congr_left fun b _ => ?_
  simp
theorem bytesOf_bytes (s : ByteArray) : Bytes (bytesOf s) := by
  intro b hb
  unfold bytesOf at hb
  obtain ⟨x, _, rfl⟩ := List.mem_map.1 hb
  have := x.toNat_lt
  omega
theorem bytesOf_append (s t : ByteArray) : bytesOf (s ++ t) = bytesOf s ++ bytesOf t := by
  unfold bytesOf
  simp
theorem bytesOf_inj {s t : ByteArray} (h : bytesOf s = bytesOf t) : s = t := by rw [← str_bytesOf s, h, str_bytesOf t]

theorem digVal_snoc (c : Int) : ∀ (l : List Int) (a : Int), digVal (l ++ [c]) a = (digVal l a).bind fun m => if c < 48 then none else if c > 57 then none else some (10 * m + (c - 48))
  | [], a => rfl
  | x :: l, a => by
    show (if x < 48 then none else if x > 57 then none else digVal (l ++ [c]) (10 * a + (x - 48))) = _
    rw [digVal_snoc c l]
    show _ = Option.bind (if x < 48 then none else if x > 57 then none else digVal l (10 * a + (x - 48))) _
    split
    · rfl
    · split <;> rfl
theorem digVal_le : ∀ (l : List Int) (a n : Int), 0 ≤ a → digVal l a = some n → a ≤ n
  | [], a, n, _, h => by injection h with h; omega
  | x :: l, a, n, ha, h => by
    unfold digVal at h
    split at h
    · cases h
    · split at h
      · cases h
      · have := digVal_le l _ n (by omega) h
        omega
/-- The numeral of a number is the digits that were read. -/
theorem dig_back : ∀ (k : Nat) (l : List Int) (n : Int), l.length = k + 1 → (1 < l.length → l.getD 0 0 ≠ 48) → digVal l 0 = some n → 0 ≤ n ∧ (Lib.decDigits n.toNat).map (fun b => (b.toNat : Int)) = l := by
  intro k
  induction k with
  | zero =>
    intro l n hl _ h
    match l, hl with
    | [c], _ =>
      simp only [digVal] at h
      split at h
      · cases h
      · split at h
        · cases h
        · injection h with h
          have hn : n = c - 48 := by omega
          subst hn
          obtain ⟨u, hu⟩ : ∃ u : Nat, c - 48 = u := ⟨(c - 48).toNat, by omega⟩
          have hu10 : u < 10 := by omega
          refine ⟨by omega, ?_⟩
          rw [hu, Int.toNat_natCast, Lib.decDigits_one hu10]
          simp only [List.map_cons, List.map_nil, List.cons.injEq, and_true]
          have : (UInt8.ofNat (48 + u)).toNat = 48 + u := by simp [UInt8.toNat_ofNat]; omega
          rw [this]
          omega
  | succ k ih =>
    intro l n hl hz h
    rcases List.eq_nil_or_concat l with rfl | ⟨l', c, rfl⟩
    · simp at hl
    · rw [List.concat_eq_append] at *
      have hl' : l'.length = k + 1 := by simp at hl; omega
      rw [digVal_snoc] at h
      cases hm : digVal l' 0 with
      | none => rw [hm] at h; cases h
      | some m =>
        rw [hm, Option.bind_some] at h
        have hhead : l'.getD 0 0 ≠ 48 := by
          have := hz (by simp; omega)
          match l', hl' with
          | x :: r, _ => simpa using this
        have hih := ih l' m hl' (fun _ => hhead) hm
        split at h
        · cases h
        · split at h
          · cases h
          · injection h with h
            have hm1 : 1 ≤ m := by
              match l', hl' with
              | x :: r, _ =>
                simp only [digVal] at hm
                split at hm
                · cases hm
                · split at hm
                  · cases hm
                  · have hx : x ≠ 48 := by simpa using hhead
                    have := digVal_le r _ m (by omega) hm
                    omega
            obtain ⟨d, hd⟩ : ∃ d : Nat, c - 48 = d := ⟨(c - 48).toNat, by omega⟩
            obtain ⟨u, hu⟩ : ∃ u : Nat, m = u := ⟨m.toNat, by omega⟩
            have hd10 : d < 10 := by omega
            have hn : n = ((10 * u + d : Nat) : Int) := by omega
            refine ⟨by omega, ?_⟩
            rw [hn, Int.toNat_natCast, Lib.decDigits.eq_def, dif_neg (by omega)]
            rw [show (10 * u + d) / 10 = u from by omega, show (10 * u + d) % 10 = d from by omega]
            rw [hu, Int.toNat_natCast] at hih
            rw [List.map_append, hih.2]
            simp only [List.map_cons, List.map_nil]
            have : (UInt8.ofNat (48 + d)).toNat = 48 + d := by simp [UInt8.toNat_ofNat]; omega
            rw [this]
            congr 2
            omega
theorem num_back {p : ByteArray} {kd n : Int} (h : numP p kd = .ok n) : p = numB n := by
  unfold numP at h
  split at h
  · cases h
  · rename_i hb
    have hb : numBad p = false := by simpa using hb
    obtain ⟨h1, h2, h3⟩ := numBad_false hb
    split at h
    · cases h
    · rename_i m hm
      split at h
      · injection h with h
        subst h
        have hl : (bytesOf p).length = (p.size - 1) + 1 := by rw [bytesOf_length]; omega
        have := dig_back (p.size - 1) (bytesOf p) m hl (fun hk => by
          rw [bytesOf_length] at hk
          have := h3 hk
          rw [← rd_bytesOf] at this
          simpa [rd] using this) hm
        apply bytesOf_inj
        rw [← this.2]
        unfold numB bytesOf
        obtain ⟨u, hu⟩ : ∃ u : Nat, m = u := ⟨m.toNat, by omega⟩
        rw [hu, Lib.itoa_nonneg]
        simp
      · cases h
theorem hexd_hexv : ∀ x : Int, 0 ≤ x → x ≤ 255 → 0 ≤ hexv x → hexd (hexv x) = x := by
  have key : ∀ n : Fin 256, 0 ≤ hexv (n.val : Int) → hexd (hexv (n.val : Int)) = n.val := by decide +kernel
  intro x h0 h1 h2
  obtain ⟨u, rfl⟩ : ∃ u : Nat, x = u := ⟨x.toNat, by omega⟩
  exact key ⟨u, by omega⟩ h2
theorem dec_back : ∀ (n : Nat) (l r : List Int), l.length ≤ n → Bytes l → dec l = some r → quoteP r = l
  | _, [], r, _, _, h => by simp [dec] at h; subst h; rfl
  | 0, b :: l, _, hn, _, _ => by simp at hn
  | n + 1, b :: l, r, hn, hb, h => by
    have hb' : Bytes l := fun x hx => hb x (List.mem_cons_of_mem _ hx)
    by_cases hp : plainP b = true
    · rw [dec_plain hp] at h
      obtain ⟨r', hr', rfl⟩ := Option.map_eq_some_iff.1 h
      have ih := dec_back n l r' (by simp at hn; omega) hb' hr'
      simp only [quoteP, List.flatMap_cons] at ih ⊢
      rw [ih, quoteOne, if_pos hp]
      rfl
    · have hp : plainP b = false := by simpa using hp
      match l with
      | [] => rw [dec_short hp (by simp)] at h; cases h
      | [x] => rw [dec_short hp (by simp)] at h; cases h
      | x :: y :: l' =>
        rw [dec_esc hp] at h
        split at h
        · rename_i h92
          split at h
          · cases h
          · rename_i hx
            split at h
            · cases h
            · rename_i hy
              split at h
              · cases h
              · rename_i hq
                obtain ⟨r', hr', rfl⟩ := Option.map_eq_some_iff.1 h
                have hbx := hb x (by simp)
                have hby := hb y (by simp)
                have ih := dec_back n l' r' (by simp at hn; omega) (fun z hz => hb z (by simp [hz])) hr'
                have rx := hexv_range x
                have ry := hexv_range y
                simp only [quoteP, List.flatMap_cons] at ih ⊢
                rw [ih, quoteOne, if_neg hq]
                rw [show (16 * hexv x + hexv y) / 16 = hexv x from by omega, show (16 * hexv x + hexv y) % 16 = hexv y from by omega]
                rw [hexd_hexv x hbx.1 hbx.2 (by omega), hexd_hexv y hby.1 hby.2 (by omega), h92]
                rfl
        · cases h
theorem mid_bytes (p : ByteArray) : bytesOf (p.extract 1 (p.size - 1)) = ((bytesOf p).take (p.size - 1)).drop 1 := by
  unfold bytesOf
  rw [ByteArray.data_extract]
  simp only [Array.toList_extract, List.extract_eq_take_drop, List.map_drop, List.map_take, List.drop_take]
theorem ends34 (l : List Int) (n : Nat) (hl : l.length = n) (h2 : 2 ≤ n) (h0 : l.getD 0 0 = 34) (h1 : l.getD (n - 1) 0 = 34) : l = [34] ++ (l.take (n - 1)).drop 1 ++ [34] := by
  rcases List.eq_nil_or_concat l with rfl | ⟨l', c, rfl⟩
  · simp at hl; omega
  · rw [List.concat_eq_append] at *
    have hl' : l'.length = n - 1 := by simp at hl; omega
    have hc : c = 34 := by
      rw [← hl'] at h1
      simpa [List.getD_eq_getElem?_getD] using h1
    match l', hl' with
    | [], hl' => simp at hl'; omega
    | x :: r, hl' =>
      have hx : x = 34 := by simpa using h0
      subst hx
      subst hc
      rw [← hl']
      simp
theorem text_back {p : ByteArray} {low high : Int} {v : S93} (h : textP p low high = .ok v) : p = quoteB v.f1 ∧ v.f0 = 0 ∧ low ≤ (v.f1.length : Int) ∧ (v.f1.length : Int) ≤ high := by
  unfold textP at h
  split at h
  · cases h
  · rename_i hb
    have hb : textBad p = false := by simpa using hb
    unfold textBad at hb
    simp at hb
    obtain ⟨h2, h3, h4⟩ := hb
    split at h
    · cases h
    · rename_i l hl
      split at h
      · cases h
      · split at h
        · cases h
        · injection h with h
          subst h
          refine ⟨?_, rfl, by show low ≤ (l.length : Int); omega, by show (l.length : Int) ≤ high; omega⟩
          have hd := dec_back _ _ _ (Nat.le_refl _) (bytesOf_bytes _) hl
          show p = strOfNums ([34] ++ quoteP l ++ [34])
          rw [hd, mid_bytes p]
          refine (str_bytesOf p).symm.trans (congrArg strOfNums ?_)
          refine ends34 _ _ (bytesOf_length p) h2 ?_ ?_
          · rw [← h3, ← rd_bytesOf]; simp [rd]
          · rw [← h4, ← rd_bytesOf]
            unfold rd
            rw [show ((p.size : Int) - 1).toNat = p.size - 1 from by omega]
end Go.Proofs.YtjpkphmihkbfeaaDoor.S34
/- Plain: an event that was parsed is printed as the line that it was. -/
namespace Go.Proofs.YtjpkphmihkbfeaaDoor.S34
open Go.RowKit Go.Proofs.YtjpkphmihkbfeaaDoorW.PrintWords Go.Proofs.YtjpkphmihkbfeaaDoor.Q
set_option maxRecDepth 100000
set_option linter.unusedSimpArgs false

theorem map_ok' {α β : Type} {r : Except Er α} {f : α → β} {v : β} (h : r.map f = .ok v) : ∃ a, r = .ok a ∧ v = f a := by
  cases r with
  | error x => cases h
  | ok a => exact ⟨a, rfl, by injection h with h; exact h.symm⟩
theorem choice_back {p z o : ByteArray} {n : Int} (h : choiceP p z o = .ok n) : (n = 0 ∧ p = z) ∨ (n = 1 ∧ p = o) := by
  unfold choiceP at h
  split at h
  · rename_i e
    injection h with h
    exact Or.inl ⟨h.symm, by rw [of_toList (s := p) rfl, e, ← of_toList (s := z) rfl]⟩
  · split at h
    · rename_i e
      injection h with h
      exact Or.inr ⟨h.symm, by rw [of_toList (s := p) rfl, e, ← of_toList (s := o) rfl]⟩
    · cases h
theorem read_num {p : ByteArray} {kd : Int} {v : S93} (h : readP p kd = .ok v) (h1 : kd ≠ 82) (h2 : kd ≠ 83) (h3 : kd ≠ 84) (h4 : kd ≠ 75) : p = numB v.f0 := by
  unfold readP at h
  rw [if_neg h1, if_neg h2, if_neg h3, if_neg h4] at h
  obtain ⟨n, hn, rfl⟩ := map_ok' h
  exact num_back hn
theorem read_role {p : ByteArray} {v : S93} (h : readP p 82 = .ok v) : (v.f0 = 0 ∧ p = ⟨#[119, 97, 116, 99, 104]⟩) ∨ (v.f0 = 1 ∧ p = ⟨#[119, 114, 105, 116, 101]⟩) := by
  unfold readP at h
  rw [if_pos rfl] at h
  obtain ⟨n, hn, rfl⟩ := map_ok' h
  exact choice_back hn
theorem read_view {p : ByteArray} {v : S93} (h : readP p 83 = .ok v) : (v.f0 = 0 ∧ p = ⟨#[104, 117, 98]⟩) ∨ (v.f0 = 1 ∧ p = ⟨#[118, 105, 101, 119]⟩) := by
  unfold readP at h
  rw [if_neg (by decide), if_pos rfl] at h
  obtain ⟨n, hn, rfl⟩ := map_ok' h
  exact choice_back hn
theorem read_t84 {p : ByteArray} {v : S93} (h : readP p 84 = .ok v) : p = quoteB v.f1 ∧ v.f1.length ≤ 1000 := by
  unfold readP at h
  rw [if_neg (by decide), if_neg (by decide), if_pos rfl] at h
  have := text_back h
  exact ⟨this.1, by omega⟩
theorem read_t75 {p : ByteArray} {v : S93} (h : readP p 75 = .ok v) : p = quoteB v.f1 ∧ v.f1.length ≤ 16 := by
  unfold readP at h
  rw [if_neg (by decide), if_neg (by decide), if_neg (by decide), if_pos rfl] at h
  have := text_back h
  exact ⟨this.1, by omega⟩
theorem readAll_cons {k : Int} {ks : List Int} {p : ByteArray} {ps : List ByteArray} {ws : List S93} (h : readAll (k :: ks) (p :: ps) = .ok ws) : ∃ v l, readP p k = .ok v ∧ readAll ks ps = .ok l ∧ ws = v :: l := by
  rw [readAll] at h
  cases hp : readP p k with
  | error x => rw [hp] at h; cases h
  | ok v =>
    rw [hp] at h
    cases hr : readAll ks ps with
    | error x => simp [hr] at h
    | ok l =>
      simp [hr] at h
      exact ⟨v, l, rfl, rfl, h.symm⟩
theorem readAll_nil {ps : List ByteArray} {ws : List S93} (h : readAll [] ps = .ok ws) : ws = [] := by
  simp [readAll] at h
  exact h
/-- What is printed of a line that was parsed is the line. -/
def BackAt (F : List UInt8) (R : ByteArray) (ws : List S93) : Prop :=
  wordsP (eventP F ws) = (⟨F.toArray⟩ : ByteArray) ++ ⟨#[32]⟩ ++ R ∧ (eventP F ws).f6.length ≤ 1000 ∧ (eventP F ws).f5.f1.length ≤ 16
theorem back_join {p0 p1 : ByteArray} {ws : List S93} (h : readAll [73, 82] [p0, p1] = .ok ws) : BackAt [106, 111, 105, 110] (joinP [p0, p1]) ws := by
  obtain ⟨v0, l0, r0, h0, rfl⟩ := readAll_cons h
  obtain ⟨v1, l1, r1, h1, rfl⟩ := readAll_cons h0
  obtain rfl := readAll_nil h1
  obtain rfl := read_num r0 (by decide) (by decide) (by decide) (by decide)
  have he : eventP [106, 111, 105, 110] [v0, v1] = ⟨1, v0.f0, 0, 0, 1 + v1.f0, z52, []⟩ := rfl
  unfold BackAt
  rw [he]
  refine ⟨?_, by show (0 : Nat) ≤ 1000; decide, by show (0 : Nat) ≤ 16; decide⟩
  rcases read_role r1 with ⟨hv, rfl⟩ | ⟨hv, rfl⟩
  · unfold wordsP roleB
    dsimp only
    rw [hv]
    simp only [joinP]
    apply ba_eq
    simp
  · unfold wordsP roleB
    dsimp only
    rw [hv]
    simp only [joinP]
    apply ba_eq
    simp
theorem back_role {p0 p1 : ByteArray} {ws : List S93} (h : readAll [73, 82] [p0, p1] = .ok ws) : BackAt [114, 111, 108, 101] (joinP [p0, p1]) ws := by
  obtain ⟨v0, l0, r0, h0, rfl⟩ := readAll_cons h
  obtain ⟨v1, l1, r1, h1, rfl⟩ := readAll_cons h0
  obtain rfl := readAll_nil h1
  obtain rfl := read_num r0 (by decide) (by decide) (by decide) (by decide)
  have he : eventP [114, 111, 108, 101] [v0, v1] = ⟨3, v0.f0, 0, 0, 1 + v1.f0, z52, []⟩ := rfl
  unfold BackAt
  rw [he]
  refine ⟨?_, by show (0 : Nat) ≤ 1000; decide, by show (0 : Nat) ≤ 16; decide⟩
  rcases read_role r1 with ⟨hv, rfl⟩ | ⟨hv, rfl⟩
  · unfold wordsP roleB
    dsimp only
    rw [hv]
    simp only [joinP]
    apply ba_eq
    simp
  · unfold wordsP roleB
    dsimp only
    rw [hv]
    simp only [joinP]
    apply ba_eq
    simp
theorem back_leave {p0 : ByteArray} {ws : List S93} (h : readAll [73] [p0] = .ok ws) : BackAt [108, 101, 97, 118, 101] (joinP [p0]) ws := by
  obtain ⟨v0, l0, r0, h0, rfl⟩ := readAll_cons h
  obtain rfl := readAll_nil h0
  obtain rfl := read_num r0 (by decide) (by decide) (by decide) (by decide)
  have he : eventP [108, 101, 97, 118, 101] [v0] = ⟨2, v0.f0, 0, 0, 0, z52, []⟩ := rfl
  unfold BackAt
  rw [he]
  refine ⟨?_, by show (0 : Nat) ≤ 1000; decide, by show (0 : Nat) ≤ 16; decide⟩
  unfold wordsP
  dsimp only
  simp only [joinP]
  apply ba_eq
  simp
theorem back_ask {p0 : ByteArray} {ws : List S93} (h : readAll [73] [p0] = .ok ws) : BackAt [97, 115, 107] (joinP [p0]) ws := by
  obtain ⟨v0, l0, r0, h0, rfl⟩ := readAll_cons h
  obtain rfl := readAll_nil h0
  obtain rfl := read_num r0 (by decide) (by decide) (by decide) (by decide)
  have he : eventP [97, 115, 107] [v0] = ⟨5, v0.f0, 0, 0, 0, ⟨3, [], 0, 0⟩, []⟩ := rfl
  unfold BackAt
  rw [he]
  refine ⟨?_, by show (0 : Nat) ≤ 1000; decide, by show (0 : Nat) ≤ 16; decide⟩
  unfold wordsP
  dsimp only
  simp only [joinP]
  apply ba_eq
  simp
theorem back_free {p0 : ByteArray} {ws : List S93} (h : readAll [73] [p0] = .ok ws) : BackAt [102, 114, 101, 101] (joinP [p0]) ws := by
  obtain ⟨v0, l0, r0, h0, rfl⟩ := readAll_cons h
  obtain rfl := readAll_nil h0
  obtain rfl := read_num r0 (by decide) (by decide) (by decide) (by decide)
  have he : eventP [102, 114, 101, 101] [v0] = ⟨5, v0.f0, 0, 0, 0, ⟨4, [], 0, 0⟩, []⟩ := rfl
  unfold BackAt
  rw [he]
  refine ⟨?_, by show (0 : Nat) ≤ 1000; decide, by show (0 : Nat) ≤ 16; decide⟩
  unfold wordsP
  dsimp only
  simp only [joinP]
  apply ba_eq
  simp
theorem back_out {p0 : ByteArray} {ws : List S93} (h : readAll [84] [p0] = .ok ws) : BackAt [111, 117, 116] (joinP [p0]) ws := by
  obtain ⟨v0, l0, r0, h0, rfl⟩ := readAll_cons h
  obtain rfl := readAll_nil h0
  obtain ⟨rfl, t0⟩ := read_t84 r0
  have he : eventP [111, 117, 116] [v0] = ⟨4, v0.f0, 0, 0, 0, z52, v0.f1⟩ := rfl
  unfold BackAt
  rw [he]
  refine ⟨?_, t0, by show (0 : Nat) ≤ 16; decide⟩
  unfold wordsP
  dsimp only
  simp only [joinP]
  apply ba_eq
  simp
theorem back_keys {p0 p1 : ByteArray} {ws : List S93} (h : readAll [73, 75] [p0, p1] = .ok ws) : BackAt [107, 101, 121, 115] (joinP [p0, p1]) ws := by
  obtain ⟨v0, l0, r0, h0, rfl⟩ := readAll_cons h
  obtain ⟨v1, l1, r1, h1, rfl⟩ := readAll_cons h0
  obtain rfl := readAll_nil h1
  obtain rfl := read_num r0 (by decide) (by decide) (by decide) (by decide)
  obtain ⟨rfl, t1⟩ := read_t75 r1
  have he : eventP [107, 101, 121, 115] [v0, v1] = ⟨5, v0.f0, 0, 0, 0, ⟨1, v1.f1, 0, 0⟩, []⟩ := rfl
  unfold BackAt
  rw [he]
  refine ⟨?_, by show (0 : Nat) ≤ 1000; decide, t1⟩
  unfold wordsP
  dsimp only
  simp only [joinP]
  apply ba_eq
  simp
theorem back_size {p0 p1 p2 : ByteArray} {ws : List S93} (h : readAll [73, 87, 87] [p0, p1, p2] = .ok ws) : BackAt [115, 105, 122, 101] (joinP [p0, p1, p2]) ws := by
  obtain ⟨v0, l0, r0, h0, rfl⟩ := readAll_cons h
  obtain ⟨v1, l1, r1, h1, rfl⟩ := readAll_cons h0
  obtain ⟨v2, l2, r2, h2, rfl⟩ := readAll_cons h1
  obtain rfl := readAll_nil h2
  obtain rfl := read_num r0 (by decide) (by decide) (by decide) (by decide)
  obtain rfl := read_num r1 (by decide) (by decide) (by decide) (by decide)
  obtain rfl := read_num r2 (by decide) (by decide) (by decide) (by decide)
  have he : eventP [115, 105, 122, 101] [v0, v1, v2] = ⟨5, v0.f0, 0, 0, 0, ⟨2, [], v1.f0, v2.f0⟩, []⟩ := rfl
  unfold BackAt
  rw [he]
  refine ⟨?_, by show (0 : Nat) ≤ 1000; decide, by show (0 : Nat) ≤ 16; decide⟩
  unfold wordsP
  dsimp only
  simp only [joinP]
  apply ba_eq
  simp
theorem back_tick {p0 : ByteArray} {ws : List S93} (h : readAll [78] [p0] = .ok ws) : BackAt [116, 105, 99, 107] (joinP [p0]) ws := by
  obtain ⟨v0, l0, r0, h0, rfl⟩ := readAll_cons h
  obtain rfl := readAll_nil h0
  obtain rfl := read_num r0 (by decide) (by decide) (by decide) (by decide)
  have he : eventP [116, 105, 99, 107] [v0] = ⟨6, 0, v0.f0, 0, 0, z52, []⟩ := rfl
  unfold BackAt
  rw [he]
  refine ⟨?_, by show (0 : Nat) ≤ 1000; decide, by show (0 : Nat) ≤ 16; decide⟩
  unfold wordsP
  dsimp only
  simp only [joinP]
  apply ba_eq
  simp
theorem back_deliver {p0 : ByteArray} {ws : List S93} (h : readAll [80] [p0] = .ok ws) : BackAt [100, 101, 108, 105, 118, 101, 114] (joinP [p0]) ws := by
  obtain ⟨v0, l0, r0, h0, rfl⟩ := readAll_cons h
  obtain rfl := readAll_nil h0
  obtain rfl := read_num r0 (by decide) (by decide) (by decide) (by decide)
  have he : eventP [100, 101, 108, 105, 118, 101, 114] [v0] = ⟨7, 0, v0.f0, 0, 0, z52, []⟩ := rfl
  unfold BackAt
  rw [he]
  refine ⟨?_, by show (0 : Nat) ≤ 1000; decide, by show (0 : Nat) ≤ 16; decide⟩
  unfold wordsP
  dsimp only
  simp only [joinP]
  apply ba_eq
  simp
theorem back_spoil {p0 p1 : ByteArray} {ws : List S93} (h : readAll [80, 88] [p0, p1] = .ok ws) : BackAt [115, 112, 111, 105, 108] (joinP [p0, p1]) ws := by
  obtain ⟨v0, l0, r0, h0, rfl⟩ := readAll_cons h
  obtain ⟨v1, l1, r1, h1, rfl⟩ := readAll_cons h0
  obtain rfl := readAll_nil h1
  obtain rfl := read_num r0 (by decide) (by decide) (by decide) (by decide)
  obtain rfl := read_num r1 (by decide) (by decide) (by decide) (by decide)
  have he : eventP [115, 112, 111, 105, 108] [v0, v1] = ⟨8, 0, v0.f0, v1.f0, 0, z52, []⟩ := rfl
  unfold BackAt
  rw [he]
  refine ⟨?_, by show (0 : Nat) ≤ 1000; decide, by show (0 : Nat) ≤ 16; decide⟩
  unfold wordsP
  dsimp only
  simp only [joinP]
  apply ba_eq
  simp
theorem back_move {p0 p1 : ByteArray} {ws : List S93} (h : readAll [73, 65] [p0, p1] = .ok ws) : BackAt [109, 111, 118, 101] (joinP [p0, p1]) ws := by
  obtain ⟨v0, l0, r0, h0, rfl⟩ := readAll_cons h
  obtain ⟨v1, l1, r1, h1, rfl⟩ := readAll_cons h0
  obtain rfl := readAll_nil h1
  obtain rfl := read_num r0 (by decide) (by decide) (by decide) (by decide)
  obtain rfl := read_num r1 (by decide) (by decide) (by decide) (by decide)
  have he : eventP [109, 111, 118, 101] [v0, v1] = ⟨9, v0.f0, v1.f0, 0, 0, z52, []⟩ := rfl
  unfold BackAt
  rw [he]
  refine ⟨?_, by show (0 : Nat) ≤ 1000; decide, by show (0 : Nat) ≤ 16; decide⟩
  unfold wordsP
  dsimp only
  simp only [joinP]
  apply ba_eq
  simp
theorem back_forge {p0 p1 p2 p3 : ByteArray} {ws : List S93} (h : readAll [73, 65, 83, 84] [p0, p1, p2, p3] = .ok ws) : BackAt [102, 111, 114, 103, 101] (joinP [p0, p1, p2, p3]) ws := by
  obtain ⟨v0, l0, r0, h0, rfl⟩ := readAll_cons h
  obtain ⟨v1, l1, r1, h1, rfl⟩ := readAll_cons h0
  obtain ⟨v2, l2, r2, h2, rfl⟩ := readAll_cons h1
  obtain ⟨v3, l3, r3, h3, rfl⟩ := readAll_cons h2
  obtain rfl := readAll_nil h3
  obtain rfl := read_num r0 (by decide) (by decide) (by decide) (by decide)
  obtain rfl := read_num r1 (by decide) (by decide) (by decide) (by decide)
  obtain ⟨rfl, t3⟩ := read_t84 r3
  have he : eventP [102, 111, 114, 103, 101] [v0, v1, v2, v3] = ⟨10, v0.f0, v1.f0, v2.f0, 0, z52, v3.f1⟩ := rfl
  unfold BackAt
  rw [he]
  refine ⟨?_, t3, by show (0 : Nat) ≤ 16; decide⟩
  rcases read_view r2 with ⟨hv, rfl⟩ | ⟨hv, rfl⟩
  · unfold wordsP
    dsimp only
    rw [hv]
    simp only [joinP]
    apply ba_eq
    simp
  · unfold wordsP
    dsimp only
    rw [hv]
    simp only [joinP]
    apply ba_eq
    simp
theorem len1 {ps : List ByteArray} (h : ps.length = 1) : ∃ a, ps = [a] := by
  match ps, h with
  | [a], _ => exact ⟨a, rfl⟩
theorem len2 {ps : List ByteArray} (h : ps.length = 2) : ∃ a b, ps = [a, b] := by
  match ps, h with
  | [a, b], _ => exact ⟨a, b, rfl⟩
theorem len3 {ps : List ByteArray} (h : ps.length = 3) : ∃ a b c, ps = [a, b, c] := by
  match ps, h with
  | [a, b, c], _ => exact ⟨a, b, c, rfl⟩
theorem len4 {ps : List ByteArray} (h : ps.length = 4) : ∃ a b c d, ps = [a, b, c, d] := by
  match ps, h with
  | [a, b, c, d], _ => exact ⟨a, b, c, d, rfl⟩
theorem back_at {F : List UInt8} {ps : List ByteArray} {ws : List S93} (hf : formOf F ≠ []) (hl : ps.length = (formOf F).length) (h : readAll (kindsOf F) ps = .ok ws) : BackAt F (joinP ps) ws := by
  by_cases h_join : F = [106, 111, 105, 110]
  · subst h_join
    obtain ⟨a, b, rfl⟩ := len2 (show ps.length = 2 from hl)
    exact back_join h
  by_cases h_role : F = [114, 111, 108, 101]
  · subst h_role
    obtain ⟨a, b, rfl⟩ := len2 (show ps.length = 2 from hl)
    exact back_role h
  by_cases h_leave : F = [108, 101, 97, 118, 101]
  · subst h_leave
    obtain ⟨a, rfl⟩ := len1 (show ps.length = 1 from hl)
    exact back_leave h
  by_cases h_ask : F = [97, 115, 107]
  · subst h_ask
    obtain ⟨a, rfl⟩ := len1 (show ps.length = 1 from hl)
    exact back_ask h
  by_cases h_free : F = [102, 114, 101, 101]
  · subst h_free
    obtain ⟨a, rfl⟩ := len1 (show ps.length = 1 from hl)
    exact back_free h
  by_cases h_out : F = [111, 117, 116]
  · subst h_out
    obtain ⟨a, rfl⟩ := len1 (show ps.length = 1 from hl)
    exact back_out h
  by_cases h_keys : F = [107, 101, 121, 115]
  · subst h_keys
    obtain ⟨a, b, rfl⟩ := len2 (show ps.length = 2 from hl)
    exact back_keys h
  by_cases h_size : F = [115, 105, 122, 101]
  · subst h_size
    obtain ⟨a, b, c, rfl⟩ := len3 (show ps.length = 3 from hl)
    exact back_size h
  by_cases h_tick : F = [116, 105, 99, 107]
  · subst h_tick
    obtain ⟨a, rfl⟩ := len1 (show ps.length = 1 from hl)
    exact back_tick h
  by_cases h_deliver : F = [100, 101, 108, 105, 118, 101, 114]
  · subst h_deliver
    obtain ⟨a, rfl⟩ := len1 (show ps.length = 1 from hl)
    exact back_deliver h
  by_cases h_spoil : F = [115, 112, 111, 105, 108]
  · subst h_spoil
    obtain ⟨a, b, rfl⟩ := len2 (show ps.length = 2 from hl)
    exact back_spoil h
  by_cases h_move : F = [109, 111, 118, 101]
  · subst h_move
    obtain ⟨a, b, rfl⟩ := len2 (show ps.length = 2 from hl)
    exact back_move h
  by_cases h_forge : F = [102, 111, 114, 103, 101]
  · subst h_forge
    obtain ⟨a, b, c, d, rfl⟩ := len4 (show ps.length = 4 from hl)
    exact back_forge h
  exact absurd (by unfold formOf; rw [if_neg h_join, if_neg h_role, if_neg h_leave, if_neg h_ask, if_neg h_free, if_neg h_out, if_neg h_keys, if_neg h_size, if_neg h_tick, if_neg h_deliver, if_neg h_spoil, if_neg h_move, if_neg h_forge]) hf
/-- What is parsed is printed as the line that it was. -/
theorem parse_back {s : ByteArray} {e : S54} (h : parseP s = .ok e) : wordsP e = s ∧ e.f6.length ≤ 1000 ∧ e.f5.f1.length ≤ 16 := by
  unfold parseP at h
  rcases hc : cutAt s 32 with ⟨F, R, m⟩
  rw [hc] at h
  dsimp only at h
  split at h
  · cases h
  · rename_i hf
    split at h
    · cases h
    · rename_i hm
      have hm : m = true := by simpa using hm
      subst hm
      split at h
      · cases h
      · rename_i hlen
        split at h
        · cases h
        · rename_i ws hws
          injection h with h
          subst h
          have hpos : 1 ≤ (formOf F.toList).length := by
            cases hl : formOf F.toList with
            | nil => exact absurd hl hf
            | cons a l => simp
          have hle := parts_len R (formOf F.toList).length hpos
          have hb := back_at hf (by omega) hws
          obtain ⟨h1, h2⟩ := hb
          refine ⟨?_, h2⟩
          rw [h1, show joinP (partsOf R (formOf F.toList).length) = R from split_join _ _, ← of_toList (s := F) rfl]
          exact (cut_true hc).1.symm
end Go.Proofs.YtjpkphmihkbfeaaDoor.S34
