/- Small words of Rp, Rq, Rn, Rw, Rf, Rb under names of their own: so that a claim need not carry these. -/
import Derived.Test.YtjpkphmihkbfeaaDoorRr
import Derived.Lib.Hide
namespace Go.Proofs.YtjpkphmihkbfeaaDoor.S34
open Go.RowKit Go.Proofs.YtjpkphmihkbfeaaDoorW.PrintWords Go.Proofs.YtjpkphmihkbfeaaDoorW.PrintLast Go.Proofs.YtjpkphmihkbfeaaDoorW.PrintMore Go.Proofs.YtjpkphmihkbfeaaDoor.Q
set_option maxRecDepth 100000
set_option linter.unusedSimpArgs false
/-- What a line of a form comes to. -/
def formF (f : List UInt8) (ks : List Int) (ps : List ByteArray) : Except Er S54 :=
  match readAll ks ps with
  | .error x => .error x
  | .ok ws => .ok (eventP f ws)
theorem formF_ok {f : List UInt8} {ks : List Int} {ps : List ByteArray} {ws : List S93} (h : readAll ks ps = .ok ws) : formF f ks ps = .ok (eventP f ws) := by unfold formF; rw [h]
theorem nDigits_ltF {u j : Nat} (hj : 1 ≤ j) (h : u < 10 ^ j) : Lib.nDigits u ≤ j := by
  rcases Nat.lt_or_ge j (Lib.nDigits u) with h1 | h1
  · exfalso
    have : ∀ (n u : Nat), n + 2 ≤ Lib.nDigits u → 10 ^ (n + 1) ≤ u := by
      intro n
      induction n with
      | zero =>
        intro u hu
        rcases Nat.lt_or_ge u 10 with h | h
        · rw [Lib.nDigits_small h] at hu; omega
        · simpa using h
      | succ n ih =>
        intro u hu
        rcases Nat.lt_or_ge u 10 with h | h
        · rw [Lib.nDigits_small h] at hu; omega
        · rw [Lib.nDigits_big (by omega)] at hu
          have := ih (u / 10) (by omega)
          rw [Nat.pow_succ]
          omega
    have := this (j - 1) u (by omega)
    rw [show j - 1 + 1 = j by omega] at this
    omega
  · exact h1
theorem digits_neF (u : Nat) : 1 ≤ (Lib.decDigits u).length := by
  rw [Lib.decDigits]
  split <;> simp
theorem numB_lenF {n : Int} (h : 0 ≤ n) : (numB n).size = Lib.nDigits n.toNat := by
  show (Lib.itoa n).toArray.size = _
  unfold Lib.itoa
  rw [if_neg (by omega)]
  simp [Lib.decDigits_length]
theorem ref_plainF (b : Int) : orielref34_plain.f b = some (plainP b) := by
  unfold orielref34_plain.f plainP
  by_cases h1 : b ≥ 32
  · rw [if_pos h1]
    by_cases h2 : b < 127
    · rw [if_pos h2]
      by_cases h3 : b = 34
      · rw [if_pos h3]; simp [h3]
      · rw [if_neg h3]
        have : b ≤ 126 := by omega
        simp [h1, this, h3]
    · rw [if_neg h2]
      have : ¬ b ≤ 126 := by omega
      simp [this]
  · rw [if_neg h1]; simp; omega
theorem ext_listF (s : ByteArray) (i j : Nat) : (s.extract i j).data.toList = (s.data.toList.take j).drop i := by
  simp [ByteArray.data_extract]
  rw [List.drop_take]
theorem idx_hitF {c : UInt8} : ∀ {a b : List UInt8}, c ∉ a → Lib.index (a ++ c :: b) [c] = a.length := by
  intro a b h
  rcases idx1 c (a ++ c :: b) with ⟨_, h2⟩ | ⟨a', b', h1, h2, h3⟩
  · exact absurd (by simp) h2
  · rw [h3]
    have key : ∀ (a a' b b' : List UInt8), c ∉ a → c ∉ a' → a ++ c :: b = a' ++ c :: b' → a.length = a'.length := by
      intro a
      induction a with
      | nil =>
        intro a' b b' _ h2 e
        cases a' with
        | nil => rfl
        | cons x a' => simp at e; exact absurd (by simp [e.1]) h2
      | cons x a ih =>
        intro a' b b' h1 h2 e
        cases a' with
        | nil => simp at e; exact absurd (by simp [e.1]) h1
        | cons y a' =>
          simp at e
          have := ih a' b b' (fun h => h1 (by simp [h])) (fun h => h2 (by simp [h])) e.2
          simp [this]
    rw [key a a' b b' h h2 h1]
theorem idx_missF {c : UInt8} {a : List UInt8} (h : c ∉ a) : Lib.index a [c] = -1 := by
  rcases idx1 c a with ⟨h1, _⟩ | ⟨a', b', h1, _, _⟩
  · exact h1
  · exact absurd (by rw [h1]; simp) h
theorem split_enoughF : ∀ (N k k' : Nat) (s : ByteArray), s.size ≤ N → s.size ≤ k → s.size ≤ k' → Lib.splitB ⟨#[32]⟩ 0 k s = Lib.splitB ⟨#[32]⟩ 0 k' s := by
  intro N
  induction N with
  | zero =>
    intro k k' s h _ _
    have hm : Lib.indexB s ⟨#[32]⟩ = -1 := by
      show Lib.index s.data.toList [32] = -1
      apply idx_missF
      have : s.data.toList = [] := List.length_eq_zero_iff.1 (by rw [Array.length_toList]; exact Nat.le_zero.1 h)
      rw [this]; simp
    rw [Lib.splitB_miss _ _ _ _ hm, Lib.splitB_miss _ _ _ _ hm]
  | succ N ih =>
    intro k k' s h h1 h2
    rcases idx1 32 s.data.toList with ⟨hm, _⟩ | ⟨a, b, he, ha, hi⟩
    · have hm' : Lib.indexB s ⟨#[32]⟩ = -1 := hm
      rw [Lib.splitB_miss _ _ _ _ hm', Lib.splitB_miss _ _ _ _ hm']
    · have hi' : Lib.indexB s ⟨#[32]⟩ = (a.length : Int) := hi
      have hsz : s.size = a.length + (b.length + 1) := by
        have := congrArg List.length he
        rw [Array.length_toList] at this
        simpa using this
      obtain ⟨k, rfl⟩ : ∃ j, k = j + 1 := ⟨k - 1, by omega⟩
      obtain ⟨k', rfl⟩ : ∃ j, k' = j + 1 := ⟨k' - 1, by omega⟩
      rw [Lib.splitB_hit _ _ _ _ _ hi', Lib.splitB_hit _ _ _ _ _ hi']
      have hz : (s.extract (a.length + (⟨#[32]⟩ : ByteArray).size) s.size).size ≤ b.length := by
        rw [ByteArray.size_extract]
        show min s.size s.size - (a.length + 1) ≤ b.length
        omega
      rw [ih k k' _ (by omega) (by omega) (by omega)]
theorem parts_eqF (R : ByteArray) (n : Nat) (h : 1 ≤ n) : partsOf R n = Lib.splitB ⟨#[32]⟩ 0 (n - 1) R := by
  unfold partsOf
  rcases Nat.le_total n (R.size + 1) with h1 | h1
  · rw [Nat.min_eq_left h1]
  · rw [Nat.min_eq_right h1]
    exact split_enoughF R.size _ _ R (Nat.le_refl _) (by omega) (by omega)
theorem split_trueF {s F R : ByteArray} (h : cutAt s 32 = (F, R, true)) (n : Nat) : Lib.splitB ⟨#[32]⟩ 0 (n + 1) s = F :: Lib.splitB ⟨#[32]⟩ 0 n R := by
  obtain ⟨he, hn⟩ := cut_true h
  have hi : Lib.indexB s ⟨#[32]⟩ = (F.size : Int) := by
    show Lib.index s.data.toList [32] = _
    have : s.data.toList = F.data.toList ++ 32 :: R.data.toList := by rw [he]; simp
    rw [this, idx_hitF hn, Array.length_toList]; rfl
  rw [Lib.splitB_hit _ _ _ _ _ hi]
  have hF : F.data.toList.length = F.size := Array.length_toList
  have hR : R.data.toList.length = R.size := Array.length_toList
  have hs : s.size = F.size + (R.size + 1) := by rw [he, ByteArray.size_append, ByteArray.size_append, sz1]; omega
  congr 1
  · apply ba_eq
    rw [ext_listF, he]
    simp only [Nat.add_zero, List.drop_zero, ByteArray.data_append, Array.toList_append, List.append_assoc]
    rw [← hF, List.take_left]
  · congr 1
    apply ba_eq
    rw [ext_listF, List.take_of_length_le (by rw [Array.length_toList]; exact Nat.le_refl _), he]
    simp only [ByteArray.data_append, Array.toList_append, List.append_assoc]
    rw [← hF, List.drop_append]
    simp [sz1]
theorem cellsF {W : World} {b t : Nat} {a0 a1 a2 a3 a4 a5 a6 a7 a8 a9 : Value} (h : W.heap[b]? = some (.cells #[a0, a1, a2, a3, a4, a5, a6, a7, a8, a9] t (0, 0))) :
    W.cell? ⟨b, 0, none⟩ = some a0 ∧ W.cell? ⟨b, 1, none⟩ = some a1 ∧ W.cell? ⟨b, 2, none⟩ = some a2 ∧ W.cell? ⟨b, 3, none⟩ = some a3 ∧ W.cell? ⟨b, 4, none⟩ = some a4 ∧ W.cell? ⟨b, 5, none⟩ = some a5 ∧ W.cell? ⟨b, 6, none⟩ = some a6 ∧ W.cell? ⟨b, 7, none⟩ = some a7 ∧ W.cell? ⟨b, 8, none⟩ = some a8 ∧ W.cell? ⟨b, 9, none⟩ = some a9 := by
  refine ⟨?_, ?_, ?_, ?_, ?_, ?_, ?_, ?_, ?_, ?_⟩ <;> (rw [blk_cell h]; rfl)
theorem hexd_neF : ∀ n : Int, 0 ≤ n → n < 16 → 48 ≤ hexd n ∧ hexd n ≤ 102 := by
  intro n h0 h1
  have : ∀ k : Nat, k < 16 → 48 ≤ hexd (k : Int) ∧ hexd (k : Int) ≤ 102 := by decide
  have e : n = ((n.toNat : Nat) : Int) := by omega
  rw [e]
  exact this _ (by omega)
theorem quoteOne_rangeF {b : Int} (h0 : 0 ≤ b) (h1 : b ≤ 255) : ∀ x ∈ quoteOne b, 32 ≤ x ∧ x ≤ 126 := by
  intro x hx
  unfold quoteOne at hx
  split at hx
  · rename_i hp
    have := plainP_range hp
    simp only [List.mem_singleton] at hx
    subst hx
    omega
  · have a := hexd_neF (b / 16) (by omega) (by omega)
    have c := hexd_neF (b % 16) (by omega) (by omega)
    simp only [List.mem_cons, List.not_mem_nil, or_false] at hx
    rcases hx with rfl | rfl | rfl <;> omega
end Go.Proofs.YtjpkphmihkbfeaaDoor.S34
