/- orielref34.many by a contract. -/
import Derived.Test.YtjpkphmihkbfeaaDoorZb
namespace Go.Proofs.YtjpkphmihkbfeaaDoor.S34
open Go.RowKit Go.Proofs.YtjpkphmihkbfeaaDoorW.PrintWords Go.Proofs.YtjpkphmihkbfeaaDoorW.PrintLast Go.Proofs.YtjpkphmihkbfeaaDoorW.PrintMore Go.Proofs.YtjpkphmihkbfeaaDoor.Q
set_option maxRecDepth 100000
set_option linter.unusedSimpArgs false
/-- How many words a line has whose first one this is; 0: it is none. -/
def manyP (f : List UInt8) : Int := if formOf f = [] then 0 else (formOf f).length + 1
def names13 : List ByteArray := [⟨#[106, 111, 105, 110]⟩, ⟨#[114, 111, 108, 101]⟩, ⟨#[108, 101, 97, 118, 101]⟩, ⟨#[97, 115, 107]⟩, ⟨#[102, 114, 101, 101]⟩, ⟨#[111, 117, 116]⟩, ⟨#[107, 101, 121, 115]⟩, ⟨#[115, 105, 122, 101]⟩, ⟨#[116, 105, 99, 107]⟩, ⟨#[100, 101, 108, 105, 118, 101, 114]⟩, ⟨#[115, 112, 111, 105, 108]⟩, ⟨#[109, 111, 118, 101]⟩, ⟨#[102, 111, 114, 103, 101]⟩]
def counts13 : List Int := [3, 3, 2, 2, 2, 2, 3, 4, 2, 2, 3, 3, 5]
def blkNames : Obj := .cells (names13.map Value.string).toArray 136
def blkCounts : Obj := .cells (counts13.map (Value.int .i64)).toArray 137
theorem many_hit : ∀ k : Fin 13, manyP (names13.getD k.val ByteArray.empty).toList = counts13.getD k.val 0 := by decide +kernel
theorem many_miss {f : List UInt8} (h : ∀ k : Nat, k < 13 → (names13.getD k ByteArray.empty).toList ≠ f) : manyP f = 0 := by
  have h0 := h 0 (by decide)
  have h1 := h 1 (by decide)
  have h2 := h 2 (by decide)
  have h3 := h 3 (by decide)
  have h4 := h 4 (by decide)
  have h5 := h 5 (by decide)
  have h6 := h 6 (by decide)
  have h7 := h 7 (by decide)
  have h8 := h 8 (by decide)
  have h9 := h 9 (by decide)
  have h10 := h 10 (by decide)
  have h11 := h 11 (by decide)
  have h12 := h 12 (by decide)
  unfold manyP
  rw [if_pos]
  unfold formOf
  rw [if_neg (fun e => h0 (by rw [e]; kernel_rfl)), if_neg (fun e => h1 (by rw [e]; kernel_rfl)), if_neg (fun e => h2 (by rw [e]; kernel_rfl)), if_neg (fun e => h3 (by rw [e]; kernel_rfl)), if_neg (fun e => h4 (by rw [e]; kernel_rfl)), if_neg (fun e => h5 (by rw [e]; kernel_rfl)), if_neg (fun e => h6 (by rw [e]; kernel_rfl)), if_neg (fun e => h7 (by rw [e]; kernel_rfl)), if_neg (fun e => h8 (by rw [e]; kernel_rfl)), if_neg (fun e => h9 (by rw [e]; kernel_rfl)), if_neg (fun e => h10 (by rw [e]; kernel_rfl)), if_neg (fun e => h11 (by rw [e]; kernel_rfl)), if_neg (fun e => h12 (by rw [e]; kernel_rfl))]
set_option maxHeartbeats 4000000 in
theorem many_any (s : ByteArray) (w : World) : Calls Tryd.prog 49 #[.string s] w fun e w' => e = .returned (.int .i64 (manyP s.toList)) ∧ Below w.heap.size w w' := by
  go_enter Tryd.func49, Tryd.ntmps49
  go_wp2_with fail
  obtain ⟨w0, hw0⟩ : ∃ w0, w0 = (w.alloc (Obj.cells #[.string ⟨#[106, 111, 105, 110]⟩, .string ⟨#[114, 111, 108, 101]⟩, .string ⟨#[108, 101, 97, 118, 101]⟩, .string ⟨#[97, 115, 107]⟩, .string ⟨#[102, 114, 101, 101]⟩, .string ⟨#[111, 117, 116]⟩, .string ⟨#[107, 101, 121, 115]⟩, .string ⟨#[115, 105, 122, 101]⟩, .string ⟨#[116, 105, 99, 107]⟩, .string ⟨#[100, 101, 108, 105, 118, 101, 114]⟩, .string ⟨#[115, 112, 111, 105, 108]⟩, .string ⟨#[109, 111, 118, 101]⟩, .string ⟨#[102, 111, 114, 103, 101]⟩] 136)).alloc (Obj.cells #[.int .i64 3, .int .i64 3, .int .i64 2, .int .i64 2, .int .i64 2, .int .i64 2, .int .i64 3, .int .i64 4, .int .i64 2, .int .i64 2, .int .i64 3, .int .i64 3, .int .i64 5] 137) := ⟨_, rfl⟩
  rw [← hw0]
  have h1 : w0.heap[w.heap.size]? = some blkNames := by rw [hw0]; exact blk_alloc (blk_new _ _) _
  have h2 : w0.heap[w.heap.size + 1]? = some blkCounts := by rw [hw0]; exact blk_new_at (by simp)
  have HB := Aside0.mk (show Below w.heap.size w w0 by rw [hw0]; exact below_alloc (below_alloc (Below.refl _ _) _) _)
  have H1 := Aside0.mk h1
  have H2 := Aside0.mk h2
  clear hw0 h1 h2
  go_loop [5] (fun i => ∃ k : Nat, k ≤ 13 ∧ i = .int .i64 k ∧ Aside0 (∀ j : Nat, j < k → (names13.getD j ByteArray.empty).toList ≠ s.toList)) (fun i => 13 - (intOf i).toNat)
  case atStart => exact ⟨0, Nat.zero_le _, rfl, ⟨fun j h => absurd h (Nat.not_lt_zero j)⟩⟩
  case round =>
    obtain ⟨k, hk, rfl, HN⟩ := hrel
    by_cases hlt : k < 13
    · have hk0 : (0 : Int) ≤ (k : Int) := by omega
      have hk1 : (k : Int) < 13 := by omega
      obtain ⟨nm, hnm⟩ : ∃ nm, nm = names13.getD k ByteArray.empty := ⟨_, rfl⟩
      obtain ⟨ct, hct⟩ : ∃ ct, ct = counts13.getD k 0 := ⟨_, rfl⟩
      have c1 : w0.cell? ⟨w.heap.size, k, none⟩ = some (.string nm) := by
        have hl : k < names13.length := hlt
        rw [blk_cell H1.out, hnm, List.getElem?_toArray, List.getElem?_map, List.getD_eq_getElem?_getD, List.getElem?_eq_getElem hl]
        rfl
      have c2 : w0.cell? ⟨w.heap.size + 1, k, none⟩ = some (.int .i64 ct) := by
        have hl : k < counts13.length := hlt
        rw [blk_cell H2.out, hct, List.getElem?_toArray, List.getElem?_map, List.getD_eq_getElem?_getD, List.getElem?_eq_getElem hl]
        rfl
      have HNM := Aside0.mk hnm
      have HCT := Aside0.mk hct
      clear hnm hct
      cases hq : (nm.toList == s.toList) with
      | true =>
        have HQ := Aside0.mk hq
        go_wp2
        go_ret
        refine ⟨?_, HB.out⟩
        have e : manyP s.toList = ct := by
          rw [← beq_iff_eq.1 HQ.out, HNM.out, HCT.out]
          exact many_hit ⟨k, hlt⟩
        rw [e]
        rfl
      | false =>
        have HQ := Aside0.mk hq
        go_wp2
        go_round
        case rel => exact ⟨k + 1, by omega, by go_num, ⟨fun j hj => by
          rcases Nat.lt_or_ge j k with h | h
          · exact HN.out j h
          · obtain rfl : j = k := by omega
            rw [← HNM.out]
            exact beq_eq_false_iff_ne.1 HQ.out⟩⟩
        case measure => simp [intOf]; omega
    · have hkk : k = 13 := by omega
      subst hkk
      have HM := Aside0.mk (many_miss (f := s.toList) (fun j hj => HN.out j hj))
      clear HN
      go_wp2
      go_ret
      rw [HM.out]
      exact ⟨rfl, HB.out⟩
end Go.Proofs.YtjpkphmihkbfeaaDoor.S34
