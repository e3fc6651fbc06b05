/- Plain: the reference's line by words and codes. -/
import Derived.Test.YtjpkphmihkbfeaaDoorRp
import Derived.Test.YtjpkphmihkbfeaaDoorRm
namespace Go.Proofs.YtjpkphmihkbfeaaDoor.S34
open Go.RowKit Go.Proofs.YtjpkphmihkbfeaaDoorW.PrintWords Go.Proofs.YtjpkphmihkbfeaaDoor.Q
set_option maxRecDepth 100000
set_option linter.unusedSimpArgs false
def isBad {α : Type} (r : Except Er α) : Bool := match r with | .ok _ => false | .error _ => true
/-- The code behind one more word. -/
def codeNext (c : Int) (p : ByteArray) (kd : Int) : Int := if c = 0 then (match readP p kd with | .ok _ => 0 | .error x => x.code) else c
def codes : Int → List Int → List ByteArray → Int
  | c, k :: ks, p :: ps => codes (codeNext c p k) ks ps
  | c, [], _ => c
  | c, _ :: _, [] => c
theorem code_ne (x : Er) : x.code ≠ 0 := by cases x <;> decide
theorem codes_up : ∀ (ks : List Int) (ps : List ByteArray) (c : Int), c ≠ 0 → codes c ks ps = c := by
  intro ks
  induction ks with
  | nil => intro ps c h; cases ps <;> rfl
  | cons k ks ih =>
    intro ps c h
    cases ps with
    | nil => rfl
    | cons p ps => rw [codes, codeNext, if_neg h, ih ps c h]
theorem codes_read : ∀ (ks : List Int) (ps : List ByteArray), codes 0 ks ps = match readAll ks ps with | .ok _ => 0 | .error x => x.code := by
  intro ks
  induction ks with
  | nil => intro ps; cases ps <;> rfl
  | cons k ks ih =>
    intro ps
    cases ps with
    | nil => rfl
    | cons p ps =>
      rw [codes, codeNext, if_pos rfl, readAll]
      cases hp : readP p k with
      | error x => exact codes_up ks ps _ (code_ne x)
      | ok v =>
        simp only
        rw [ih ps]
        cases readAll ks ps <;> rfl
/-! ### what each kind's reader answers -/
theorem num_next {p : ByteArray} {kd : Int} {r : Int × Bool} (h : NumRef p kd r) (h1 : kd ≠ 82) (h2 : kd ≠ 83) (h3 : kd ≠ 84) (h4 : kd ≠ 75) (c : Int) :
    codeUp c (!r.2) 3 = codeNext c p kd ∧ ∀ v, readP p kd = .ok v → v.f0 = r.1 := by
  have hr : readP p kd = (numP p kd).map fun n => ⟨n, []⟩ := by
    unfold readP
    rw [if_neg h1, if_neg h2, if_neg h3, if_neg h4]
  unfold NumRef at h
  unfold codeUp codeNext
  rw [hr]
  cases h2 : r.2 with
  | true =>
    rw [h2] at h
    simp only [if_true] at h
    rw [h]
    refine ⟨?_, ?_⟩
    · by_cases hc : c = 0
      · rw [if_pos hc]; simp [Except.map, hc]
      · rw [if_neg hc]; simp [hc]
    · intro v hv
      simp [Except.map] at hv
      rw [← hv]
  | false =>
    rw [h2] at h
    simp only [Bool.false_eq_true, if_false] at h
    rw [h]
    refine ⟨?_, ?_⟩
    · by_cases hc : c = 0
      · rw [if_pos hc]; simp [Except.map, hc, Er.code]
      · rw [if_neg hc]; simp [hc]
    · intro v hv
      simp [Except.map] at hv
def choiceV (p z o : ByteArray) : Int := match choiceP p z o with | .ok n => n | .error _ => 0
theorem one_next {p z o : ByteArray} {kd : Int} (hr : readP p kd = (choiceP p z o).map fun n => ⟨n, []⟩) (c : Int) :
    codeUp c (isBad (choiceP p z o)) 2 = codeNext c p kd ∧ ∀ v, readP p kd = .ok v → v.f0 = choiceV p z o := by
  unfold codeUp codeNext choiceV
  rw [hr]
  have hw : ∀ x, choiceP p z o = .error x → x = .word := by
    intro x hx
    unfold choiceP at hx
    split at hx
    · cases hx
    · split at hx
      · cases hx
      · injection hx with hx; exact hx.symm
  cases hc : choiceP p z o with
  | ok n =>
    refine ⟨?_, ?_⟩
    · by_cases h0 : c = 0
      · rw [if_pos h0]; simp [Except.map, h0, isBad]
      · rw [if_neg h0]; simp [h0, isBad]
    · intro v hv
      simp [Except.map] at hv
      rw [← hv]
  | error x =>
    rw [hw x hc]
    refine ⟨?_, ?_⟩
    · by_cases h0 : c = 0
      · rw [if_pos h0]; simp [Except.map, h0, Er.code, isBad]
      · rw [if_neg h0]; simp [h0, isBad]
    · intro v hv
      simp [Except.map] at hv
theorem choice_01 (p z o : ByteArray) : 0 ≤ choiceV p z o ∧ choiceV p z o ≤ 1 := by
  unfold choiceV
  by_cases h1 : p.toList = z.toList
  · have : choiceP p z o = .ok 0 := by unfold choiceP; rw [if_pos h1]
    rw [this]; exact ⟨by decide, by decide⟩
  · by_cases h2 : p.toList = o.toList
    · have : choiceP p z o = .ok 1 := by unfold choiceP; rw [if_neg h1, if_pos h2]
      rw [this]; exact ⟨by decide, by decide⟩
    · have : choiceP p z o = .error .word := by unfold choiceP; rw [if_neg h1, if_neg h2]
      rw [this]; exact ⟨by decide, by decide⟩
theorem text_next {p : ByteArray} {kd low high : Int} (hr : readP p kd = textP p low high) (c : Int) : codeUp c (textBits p low high) 4 = codeNext c p kd := by
  unfold codeUp codeNext textBits
  rw [hr]
  have hw : ∀ x, textP p low high = .error x → x = .text := by
    intro x hx
    unfold textP at hx
    split at hx
    · injection hx with hx; exact hx.symm
    · split at hx
      · injection hx with hx; exact hx.symm
      · split at hx
        · injection hx with hx; exact hx.symm
        · split at hx
          · injection hx with hx; exact hx.symm
          · cases hx
  cases hc : textP p low high with
  | ok v =>
    by_cases h0 : c = 0
    · rw [if_pos h0]; simp [h0]
    · rw [if_neg h0]; simp [h0]
  | error x =>
    rw [hw x hc]
    by_cases h0 : c = 0
    · rw [if_pos h0]; simp [h0, Er.code]
    · rw [if_neg h0]; simp [h0]
/-! ### the words of a line -/
theorem split_enough : ∀ (N k k' : Nat) (s : ByteArray), s.size ≤ N → s.size ≤ k → s.size ≤ k' → Lib.splitB ⟨#[32]⟩ 0 k s = Lib.splitB ⟨#[32]⟩ 0 k' s := by
  intro N
  induction N with
  | zero =>
    intro k k' s h _ _
    have hm : Lib.indexB s ⟨#[32]⟩ = -1 := by
      show Lib.index s.data.toList [32] = -1
      apply idx_miss
      have : s.data.toList = [] := List.length_eq_zero_iff.1 (by rw [Array.length_toList]; exact Nat.le_zero.1 h)
      rw [this]; simp
    rw [Lib.splitB_miss _ _ _ _ hm, Lib.splitB_miss _ _ _ _ hm]
  | succ N ih =>
    intro k k' s h h1 h2
    rcases idx1 32 s.data.toList with ⟨hm, _⟩ | ⟨a, b, he, ha, hi⟩
    · have hm' : Lib.indexB s ⟨#[32]⟩ = -1 := hm
      rw [Lib.splitB_miss _ _ _ _ hm', Lib.splitB_miss _ _ _ _ hm']
    · have hi' : Lib.indexB s ⟨#[32]⟩ = (a.length : Int) := hi
      have hsz : s.size = a.length + (b.length + 1) := by
        have := congrArg List.length he
        rw [Array.length_toList] at this
        simpa using this
      obtain ⟨k, rfl⟩ : ∃ j, k = j + 1 := ⟨k - 1, by omega⟩
      obtain ⟨k', rfl⟩ : ∃ j, k' = j + 1 := ⟨k' - 1, by omega⟩
      rw [Lib.splitB_hit _ _ _ _ _ hi', Lib.splitB_hit _ _ _ _ _ hi']
      have hz : (s.extract (a.length + (⟨#[32]⟩ : ByteArray).size) s.size).size ≤ b.length := by
        rw [ByteArray.size_extract]
        show min s.size s.size - (a.length + 1) ≤ b.length
        omega
      rw [ih k k' _ (by omega) (by omega) (by omega)]
theorem parts_eq (R : ByteArray) (n : Nat) (h : 1 ≤ n) : partsOf R n = Lib.splitB ⟨#[32]⟩ 0 (n - 1) R := by
  unfold partsOf
  rcases Nat.le_total n (R.size + 1) with h1 | h1
  · rw [Nat.min_eq_left h1]
  · rw [Nat.min_eq_right h1]
    exact split_enough R.size _ _ R (Nat.le_refl _) (by omega) (by omega)
theorem split_true {s F R : ByteArray} (h : cutAt s 32 = (F, R, true)) (n : Nat) : Lib.splitB ⟨#[32]⟩ 0 (n + 1) s = F :: Lib.splitB ⟨#[32]⟩ 0 n R := by
  obtain ⟨he, hn⟩ := cut_true h
  have hi : Lib.indexB s ⟨#[32]⟩ = (F.size : Int) := by
    show Lib.index s.data.toList [32] = _
    have : s.data.toList = F.data.toList ++ 32 :: R.data.toList := by rw [he]; simp
    rw [this, idx_hit hn, Array.length_toList]; rfl
  rw [Lib.splitB_hit _ _ _ _ _ hi]
  have hF : F.data.toList.length = F.size := Array.length_toList
  have hR : R.data.toList.length = R.size := Array.length_toList
  have hs : s.size = F.size + (R.size + 1) := by rw [he, ByteArray.size_append, ByteArray.size_append, sz1]; omega
  congr 1
  · apply ba_eq
    rw [ext_list, he]
    simp only [Nat.add_zero, List.drop_zero, ByteArray.data_append, Array.toList_append, List.append_assoc]
    rw [← hF, List.take_left]
  · congr 1
    apply ba_eq
    rw [ext_list, List.take_of_length_le (by rw [Array.length_toList]; exact Nat.le_refl _), he]
    simp only [ByteArray.data_append, Array.toList_append, List.append_assoc]
    rw [← hF, List.drop_append]
    simp [sz1]
theorem split_false {s F R : ByteArray} (h : cutAt s 32 = (F, R, false)) (n : Nat) : Lib.splitB ⟨#[32]⟩ 0 n s = [s] ∧ F = s := by
  obtain ⟨he, hn⟩ := cut_false h
  exact ⟨Lib.splitB_miss _ _ _ _ (idx_miss hn), he⟩
end Go.Proofs.YtjpkphmihkbfeaaDoor.S34
