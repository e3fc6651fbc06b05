/- An argument of type Event: its rows are no longer than its reading's bulk. -/
import Derived.Test.YtjpkphmihkbfeaaDoorL3
import Derived.Test.YtjpkphmihkbfeaaDoorRows
namespace Go.Proofs.YtjpkphmihkbfeaaDoor.S34
open Go.ChangeShapes Go.WideShapes Go.ChangeAt Go.RowKit Go.Proofs.YtjpkphmihkbfeaaDoorW.PrintWords Go.Proofs.YtjpkphmihkbfeaaDoor.Q
set_option maxRecDepth 100000
set_option linter.unusedSimpArgs false
theorem bulk_one {H : Type} (d : DataW H) : 1 ≤ Rows.uptoBulk d := by
  cases d with
  | lit l => cases l <;> simp [Rows.uptoBulk]
  | nil => simp [Rows.uptoBulk]
  | ptr d => simp [Rows.uptoBulk]
  | slice elems spare => simp [Rows.uptoBulk]
  | agg parts => simp [Rows.uptoBulk]
  | iface t d => simp [Rows.uptoBulk]
  | map entries => simp [Rows.uptoBulk]
  | held h => simp [Rows.uptoBulk]
theorem bulk_part {H : Type} {d : DataW H} {l : List (DataW H)} (h : d ∈ l) : Rows.uptoBulk d ≤ Rows.uptoBulkAll l := by
  induction l with
  | nil => cases h
  | cons x r ih =>
    simp only [Rows.uptoBulkAll]
    cases List.mem_cons.1 h with
    | inl e => subst e; omega
    | inr e => have := ih e; omega
theorem bulk_len {H : Type} (l : List (DataW H)) : l.length ≤ Rows.uptoBulkAll l := by
  induction l with
  | nil => simp [Rows.uptoBulkAll]
  | cons x r ih => have := bulk_one x; simp only [Rows.uptoBulkAll, List.length_cons]; omega
theorem bulk_agg {H : Type} {d : DataW H} {l : List (DataW H)} (h : d ∈ l) : Rows.uptoBulk d ≤ Rows.uptoBulk (.agg l) := by
  have := bulk_part h
  simp only [Rows.uptoBulk]
  omega
section
variable {H : Type} {enc : TypeId × Value → H} {W : World} {base : Nat} {spare : Nat → Bool} {held : Bool}
theorem bytes_le {fuel : Nat} {A : Option Addr} {n c : Nat} {x : DataW H × List MemPlace} (h : DataW.trod enc Tryd.prog W base spare held fuel 50 [.slice A n c] = some x) : n ≤ Rows.uptoBulk x.1 := by
  rcases open_ints (k := .u8) (e := 5) Tryd.underlying50 (by kernel_rfl) (by kernel_rfl) h with ⟨hcs, _⟩ | ⟨a, len, cap, zs, hcs, _, hl, hm, hz, hx, hc, hw⟩
  · have hv : Value.slice A n c = .slice none 0 0 := by simpa using hcs
    injection hv with h1 h2 h3
    omega
  · have hv : Value.slice A n c = .slice (some a) len cap := by simpa using hcs
    injection hv with h1 h2 h3
    have hle : len ≤ zs.length := by rw [hz]; split <;> omega
    have hb := bulk_len (lits (H := H) .u8 (zs.take len))
    have hll : (lits (H := H) .u8 (zs.take len)).length = len := by simp [lits]; omega
    rw [hx]
    simp only [Rows.uptoBulk]
    omega
theorem event_le {fuel : Nat} {v0 v1 v2 v3 v4 v5 v7 v8 : Value} {A6 A9 : Option Addr} {n6 n9 c6 c9 : Nat} {y : DataW H × List MemPlace}
    (hf : DataW.trod enc Tryd.prog W base spare held fuel 54 [v0, v1, v2, v3, v4, v5, .slice A6 n6 c6, v7, v8, .slice A9 n9 c9] = some y) : n6 ≤ Rows.uptoBulk y.1 ∧ n9 ≤ Rows.uptoBulk y.1 := by
  obtain ⟨xs, n, _, hy, _, hxl, hel⟩ := DataW.trod_struct Tryd.underlying54 hf
  have c50 : Tryd.prog.cellsOf 50 = 1 := by kernel_rfl
  have c52 : Tryd.prog.cellsOf 52 = 4 := by kernel_rfl
  have hx : ∀ i, i < 7 → ∃ y, xs[i]? = some y := fun i hi => ⟨xs[i]'(by rw [hxl]; exact hi), List.getElem?_eq_getElem _⟩
  obtain ⟨y5, e5⟩ := hx 5 (by decide)
  obtain ⟨y6, e6⟩ := hx 6 (by decide)
  have h5 := (hel 5 _ rfl).trans e5
  have h6 := (hel 6 _ rfl).trans e6
  try simp only [c50, c52, Value.cells, List.drop, List.take, List.drop_zero, List.drop_succ_cons, List.take_succ_cons, List.take_zero] at h5
  try simp only [c50, c52, Value.cells, List.drop, List.take, List.drop_zero, List.drop_succ_cons, List.take_succ_cons, List.take_zero] at h6
  have b6 := bytes_le h6
  obtain ⟨zs, m, _, hy5, _, hzl, hez⟩ := DataW.trod_struct Tryd.underlying52 h5
  obtain ⟨z1, f1⟩ : ∃ y, zs[1]? = some y := ⟨zs[1]'(by rw [hzl]; decide), List.getElem?_eq_getElem _⟩
  have g1 := (hez 1 _ rfl).trans f1
  have b1 := bytes_le g1
  have m6 : y6 ∈ xs := List.mem_of_getElem? e6
  have m5 : y5 ∈ xs := List.mem_of_getElem? e5
  have m1 : z1 ∈ zs := List.mem_of_getElem? f1
  have k6 := bulk_agg (List.mem_map_of_mem (f := Prod.fst) m6)
  have k5 := bulk_agg (List.mem_map_of_mem (f := Prod.fst) m5)
  have k1 := bulk_agg (List.mem_map_of_mem (f := Prod.fst) m1)
  rw [hy5] at k5
  rw [hy]
  dsimp only at k5 ⊢
  exact ⟨Nat.le_trans b1 (Nat.le_trans k1 k5), Nat.le_trans b6 k6⟩
theorem event_bulk {x : S54} {A6 A9 : Option Addr} {c6 c9 : Nat} {d : DataW H} {ps : List MemPlace} (hd : DataW.Trod enc Tryd.prog W 0 spare held 54 (evArg x A6 A9 c6 c9) d ps) : x.f5.f1.length ≤ Rows.uptoBulk d ∧ x.f6.length ≤ Rows.uptoBulk d := by
  obtain ⟨fuel, hf⟩ := hd
  exact event_le hf
end
end Go.Proofs.YtjpkphmihkbfeaaDoor.S34
