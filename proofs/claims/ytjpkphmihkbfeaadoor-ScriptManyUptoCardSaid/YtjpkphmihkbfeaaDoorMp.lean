/- Plain: the text of one line so many times: what is parsed and what is printed. -/
import Derived.Test.YtjpkphmihkbfeaaDoorMs
namespace Go.Proofs.YtjpkphmihkbfeaaDoor.S34
open Go.RowKit Go.Proofs.YtjpkphmihkbfeaaDoorW.PrintWords Go.Proofs.YtjpkphmihkbfeaaDoor.Q
set_option maxRecDepth 100000
set_option linter.unusedSimpArgs false
/-- So many lines. -/
def repS (t : ByteArray) : Nat → ByteArray
  | 0 => ⟨#[]⟩
  | k + 1 => repS t k ++ (t ++ ⟨#[10]⟩)
theorem repS_front (t : ByteArray) : ∀ k, repS t (k + 1) = t ++ ⟨#[10]⟩ ++ repS t k
  | 0 => by apply ba_eq; simp [repS]
  | k + 1 => by
    have h := repS_front t k
    show repS t (k + 1) ++ (t ++ ⟨#[10]⟩) = _
    have h2 : repS t (k + 1) = repS t k ++ (t ++ ⟨#[10]⟩) := rfl
    conv => lhs; rw [h]
    rw [h2]
    apply ba_eq
    simp
theorem repS_size (t : ByteArray) : ∀ k, (repS t k).size = k * (t.size + 1)
  | 0 => by simp [repS]; rfl
  | k + 1 => by
    have h1 : (⟨#[10]⟩ : ByteArray).size = 1 := rfl
    rw [repS, ByteArray.size_append, ByteArray.size_append, repS_size t k, h1, Nat.succ_mul]
theorem parseN_rep {x : S54} {t : ByteArray} (hs : lineP x = some t) (hg : EvGood x) : ∀ (k : Nat) (n : Int), n ≤ 1001 →
    parseN (repS t k) n = if n + k ≤ 1001 then .ok (List.replicate k x) else .error (1001, .long) := by
  have hl := lineP_some hs
  have hsz := wordsP_size hg hl.2.2.2 hl.2.2.1
  rw [← hl.2.1] at hsz
  intro k
  induction k with
  | zero =>
    intro n hn
    rw [if_pos (by omega)]
    exact parseN_nil rfl
  | succ k ih =>
    intro n hn
    have hc : cutAt (repS t (k + 1)) 10 = (t, repS t k, true) := by rw [repS_front]; exact cut_mk (line_no10 hs hg)
    rw [parseN_cut hc, if_neg (by omega)]
    by_cases h : 1000 < n
    · rw [if_pos h, if_neg (by omega)]
      have : n = 1001 := by omega
      rw [this]
    · rw [if_neg h, hl.1]
      dsimp only
      rw [ih (n + 1) (by omega)]
      by_cases h2 : n + ((k + 1 : Nat) : Int) ≤ 1001
      · rw [if_pos h2, if_pos (by omega)]
        rfl
      · rw [if_neg h2, if_neg (by omega)]
theorem parseAll_rep {x : S54} {t : ByteArray} (hs : lineP x = some t) (hg : EvGood x) (k : Nat) :
    parseAll (repS t k) = if k ≤ 1000 then .ok (List.replicate k x) else .error (1001, .long) := by
  rw [parseAll_N, parseN_rep hs hg k 1 (by omega)]
  by_cases h : k ≤ 1000
  · rw [if_pos h, if_pos (by omega)]
  · rw [if_neg h, if_neg (by omega)]
theorem printFrom_rep {x : S54} {t : ByteArray} (hs : lineP x = some t) : ∀ (k i : Nat) (acc : ByteArray), i ≤ 1000 →
    printFrom (List.replicate k x) i acc = if i + k ≤ 1000 then (acc ++ repS t k, i + k) else (⟨#[]⟩, 1000) := by
  intro k
  induction k with
  | zero =>
    intro i acc hi
    rw [if_pos (by omega)]
    show (acc, i) = (acc ++ ⟨#[]⟩, i)
    congr 1
    apply ba_eq
    simp
  | succ k ih =>
    intro i acc hi
    rw [List.replicate_succ, printFrom, hs]
    dsimp only
    by_cases h : 1000 ≤ i
    · rw [if_pos h, if_neg (by omega), show i = 1000 by omega]
    · rw [if_neg h, ih (i + 1) _ (by omega)]
      by_cases h2 : i + (k + 1) ≤ 1000
      · rw [if_pos h2, if_pos (by omega), repS_front]
        refine Prod.ext ?_ ?_
        · show acc ++ t ++ ⟨#[10]⟩ ++ repS t k = acc ++ (t ++ ⟨#[10]⟩ ++ repS t k)
          apply ba_eq
          simp
        · show i + 1 + k = i + (k + 1)
          omega
      · rw [if_neg h2, if_neg (by omega)]
theorem printAll_rep {x : S54} {t : ByteArray} (hs : lineP x = some t) (k : Nat) :
    printAll (List.replicate k x) = if k ≤ 1000 then (repS t k, k) else (⟨#[]⟩, 1000) := by
  unfold printAll
  rw [printFrom_rep hs k 0 _ (by omega)]
  by_cases h : k ≤ 1000
  · rw [if_pos h, if_pos (by omega)]
    refine Prod.ext ?_ ?_
    · show ⟨#[]⟩ ++ repS t k = repS t k
      apply ba_eq
      simp
    · show 0 + k = k
      omega
  · rw [if_neg h, if_neg (by omega)]
end Go.Proofs.YtjpkphmihkbfeaaDoor.S34
