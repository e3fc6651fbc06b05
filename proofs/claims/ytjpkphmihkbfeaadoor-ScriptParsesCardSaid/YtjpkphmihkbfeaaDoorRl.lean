/- Plain: one line, and one with a byte more in front. -/
import Derived.Test.YtjpkphmihkbfeaaDoorRr
import Derived.Test.YtjpkphmihkbfeaaDoorZe
namespace Go.Proofs.YtjpkphmihkbfeaaDoor.S34
open Go.RowKit Go.Proofs.YtjpkphmihkbfeaaDoorW.PrintWords Go.Proofs.YtjpkphmihkbfeaaDoor.Q
set_option maxRecDepth 100000
set_option linter.unusedSimpArgs false
/-- A line that is parsed is its event's. -/
theorem line_back {s : ByteArray} {e : S54} (h : parseP s = .ok e) : lineP e = some s := by
  obtain ⟨h1, h2, h3⟩ := parse_back h
  unfold lineP
  rw [if_neg (by omega), if_neg (by omega), h1, h]
  simp
/-- One line alone. -/
theorem parse_one {s : ByteArray} (h : (10 : UInt8) ∉ s.data.toList) (hs : s.size ≤ 3100) :
    parseAll (s ++ ⟨#[10]⟩) = (match parseP s with | .error x => .error (1, x) | .ok e => .ok [e]) := by
  have hc : cutAt (s ++ ⟨#[10]⟩) 10 = (s, ⟨#[]⟩, true) := by
    have := cut_mk (F := s) (R := ⟨#[]⟩) (c := 10) h
    have e : s ++ ⟨#[10]⟩ ++ ⟨#[]⟩ = s ++ ⟨#[10]⟩ := by apply ba_eq; simp
    rw [e] at this
    exact this
  have hz : (s ++ ⟨#[10]⟩).size = s.size + 1 := by rw [ByteArray.size_append]; rfl
  unfold parseAll
  rw [hz]
  rw [parseFrom]
  rw [if_neg (by omega), hc]
  dsimp only
  rw [if_neg (by omega), if_neg (by omega), if_neg (by decide)]
  cases parseP s with
  | error x => rfl
  | ok e =>
    dsimp only
    rw [parseFrom, if_pos (show (⟨#[]⟩ : ByteArray).size = 0 from rfl)]
theorem one_more {s : ByteArray} {b : UInt8} {e e' : S54} (h : parseP s = .ok e) (h' : parseP (⟨#[b]⟩ ++ s) = .ok e') : e' ≠ e := by
  intro he
  subst he
  have h1 := (parse_back h).1
  have h2 := (parse_back h').1
  rw [h1] at h2
  have := congrArg ByteArray.size h2
  rw [ByteArray.size_append, sz1] at this
  omega
end Go.Proofs.YtjpkphmihkbfeaaDoor.S34
