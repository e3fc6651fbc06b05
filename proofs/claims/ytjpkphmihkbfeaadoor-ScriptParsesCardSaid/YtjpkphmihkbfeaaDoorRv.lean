/- orielref34.Line by a contract: no such form, too few words, or one of the forms. -/
import Derived.Test.YtjpkphmihkbfeaaDoorRw
import Derived.Test.YtjpkphmihkbfeaaDoorRx
import Derived.Test.YtjpkphmihkbfeaaDoorRy
import Derived.Test.YtjpkphmihkbfeaaDoorRz
namespace Go.Proofs.YtjpkphmihkbfeaaDoor.S34
open Go.RowKit Go.Proofs.YtjpkphmihkbfeaaDoorW.PrintWords Go.Proofs.YtjpkphmihkbfeaaDoorW.PrintLast Go.Proofs.YtjpkphmihkbfeaaDoorW.PrintMore Go.Proofs.YtjpkphmihkbfeaaDoor.Q
set_option maxRecDepth 100000
set_option linter.unusedSimpArgs false
set_option maxHeartbeats 4000000 in
theorem rline_none (s F : ByteArray) (rest : List ByteArray) (w : World) (h1 : orielref34_cut.f 7000 s 2 = some (F :: rest)) (hm : manyP F.toList = 0) :
    Calls Tryd.prog 28 #[.string s] w (RLineRes (.error .word) w) := by
  have H1 := Aside0.mk h1
  have HM := Aside0.mk hm
  clear h1 hm
  go_enter Tryd.func28, Tryd.ntmps28
  go_wp2_with fail
  obtain ⟨w0, hw0⟩ : ∃ w0, w0 = w.alloc (.cells #[.int .i64 0, .int .i64 0, .int .i64 0, .int .i64 0, .int .i64 0, .int .i64 0, .slice none 0 0, .int .i64 0, .int .i64 0, .slice none 0 0] 54) := ⟨_, rfl⟩
  rw [← hw0]
  have HN0 := Aside0.mk (show w0.heap[w.heap.size]? = some (.cells #[.int .i64 0, .int .i64 0, .int .i64 0, .int .i64 0, .int .i64 0, .int .i64 0, .slice none 0 0, .int .i64 0, .int .i64 0, .slice none 0 0] 54 (0, 0)) by rw [hw0]; exact blk_new _ _)
  have HB0 := Aside0.mk (show Below w.heap.size w w0 by rw [hw0]; exact below_alloc (Below.refl _ _) _)
  clear hw0
  have HCC := Aside0.mk (orielref34_cut.calls 7000 s 2 _ w0 H1.out)
  refine HCC.out.mono ?_
  clear HCC
  rintro e w1 ⟨v, rfl, hR, hB⟩
  obtain ⟨A, c, rfl, hc, hC⟩ := Kd.R_reads hR
  obtain ⟨ad, rfl, ce⟩ := Kd.at_string hC 0 (by decide) (by simp)
  have ce' : w1.cell? ad = some (.string F) := by
    have : ad.add (Int.toNat 0) = ad := by simp [Addr.add]
    rw [this] at ce
    exact ce
  have HB1 := Aside0.mk (below_seq HB0.out hB)
  have HN1 := Aside0.mk (blk_below HN0.out hB)
  obtain ⟨ll, hll⟩ : ∃ ll, ll = (F :: rest).length := ⟨_, rfl⟩
  have hlen : (0 : Int) < (ll : Int) := by rw [hll]; simp
  rw [← hll]
  clear hR hB hC hc ce HB0 HN0 hll
  go_wp2_with fail
  have HMC := Aside0.mk (many_any F w1)
  rw [HM.out] at HMC
  refine HMC.out.mono ?_
  clear HMC ce'
  rintro e w2 ⟨rfl, hB⟩
  have HB2 := Aside0.mk (below_seq HB1.out hB)
  have HN2 := Aside0.mk (blk_below HN1.out hB)
  clear hB HB1 HN1
  obtain ⟨w3, hw3⟩ : ∃ w3, w3 = w2.alloc (.cells #[.slice none 0 0, .int .i64 0] 101) := ⟨_, rfl⟩
  have HB3 := Aside0.mk (show Below w.heap.size w w3 by rw [hw3]; exact below_alloc HB2.out _)
  have hn3 : w3.heap[w.heap.size]? = some (.cells #[.int .i64 0, .int .i64 0, .int .i64 0, .int .i64 0, .int .i64 0, .int .i64 0, .slice none 0 0, .int .i64 0, .int .i64 0, .slice none 0 0] 54 (0, 0)) := by rw [hw3]; exact blk_alloc HN2.out _
  have HN3 := Aside0.mk hn3
  have z0 : w3.cell? ⟨w.heap.size, 0, none⟩ = some (.int .i64 0) := by rw [blk_cell hn3]; rfl
  have zf0 := blk_frozen hn3 0
  have z1 : w3.cell? ⟨w.heap.size, 1, none⟩ = some (.int .i64 0) := by rw [blk_cell hn3]; rfl
  have zf1 := blk_frozen hn3 1
  have z2 : w3.cell? ⟨w.heap.size, 2, none⟩ = some (.int .i64 0) := by rw [blk_cell hn3]; rfl
  have zf2 := blk_frozen hn3 2
  have z3 : w3.cell? ⟨w.heap.size, 3, none⟩ = some (.int .i64 0) := by rw [blk_cell hn3]; rfl
  have zf3 := blk_frozen hn3 3
  have z4 : w3.cell? ⟨w.heap.size, 4, none⟩ = some (.int .i64 0) := by rw [blk_cell hn3]; rfl
  have zf4 := blk_frozen hn3 4
  have z5 : w3.cell? ⟨w.heap.size, 5, none⟩ = some (.int .i64 0) := by rw [blk_cell hn3]; rfl
  have zf5 := blk_frozen hn3 5
  have z6 : w3.cell? ⟨w.heap.size, 6, none⟩ = some (.slice none 0 0) := by rw [blk_cell hn3]; rfl
  have zf6 := blk_frozen hn3 6
  have z7 : w3.cell? ⟨w.heap.size, 7, none⟩ = some (.int .i64 0) := by rw [blk_cell hn3]; rfl
  have zf7 := blk_frozen hn3 7
  have z8 : w3.cell? ⟨w.heap.size, 8, none⟩ = some (.int .i64 0) := by rw [blk_cell hn3]; rfl
  have zf8 := blk_frozen hn3 8
  have z9 : w3.cell? ⟨w.heap.size, 9, none⟩ = some (.slice none 0 0) := by rw [blk_cell hn3]; rfl
  have zf9 := blk_frozen hn3 9
  have HW3 := Aside0.mk hw3
  clear hn3 hw3 HB2 HN2
  go_upto_region 4 with (fail)
  rw [← HW3.out]
  go_wp2_with fail
  refine bodyPost_ret (results_ct (u := 3) (p := 2) (ty := 54) rfl _ _ w.heap.size 54 _ (0, 0) _ rfl (by repeat (first | with_reducible exact HN3.out | with_reducible apply blk_alloc | with_reducible apply blk_drewN | with_reducible apply blk_drew | with_reducible apply blk_set)) Tryd.underlying54 rfl (by exact info54s)) rfl ?_
  refine RLineRes.fail .word _ _ ?_
  (repeat (first | with_reducible exact HB3.out | with_reducible apply below_alloc | with_reducible apply pw_below_drewN | with_reducible apply below_drew | refine Below.setCell ?_ (by simp) _))
set_option maxHeartbeats 4000000 in
theorem rline_short (s F : ByteArray) (rest ps : List ByteArray) (m : Int) (w : World) (h1 : orielref34_cut.f 7000 s 2 = some (F :: rest)) (hm : manyP F.toList = m) (h2 : orielref34_cut.f 7000 s m = some ps) (m1 : 0 < m) (m2 : m ≤ 100) (hl : (ps.length : Int) < m) :
    Calls Tryd.prog 28 #[.string s] w (RLineRes (.error .word) w) := by
  have H1 := Aside0.mk h1
  have H2 := Aside0.mk h2
  have HM := Aside0.mk hm
  have d1 : decide (0 < m) = true := decide_eq_true m1
  have d2 : decide ((ps.length : Int) < m) = true := decide_eq_true hl
  have d3 : (m == 0) = false := beq_eq_false_iff_ne.2 (by omega)
  have HPL := Aside0.mk hl
  obtain ⟨pl, hpl⟩ : ∃ pl, pl = ps.length := ⟨_, rfl⟩
  have HPP := Aside0.mk hpl
  rw [← hpl] at hl d2
  clear h1 h2 hm hpl
  go_enter Tryd.func28, Tryd.ntmps28
  go_wp2_with fail
  obtain ⟨w0, hw0⟩ : ∃ w0, w0 = w.alloc (.cells #[.int .i64 0, .int .i64 0, .int .i64 0, .int .i64 0, .int .i64 0, .int .i64 0, .slice none 0 0, .int .i64 0, .int .i64 0, .slice none 0 0] 54) := ⟨_, rfl⟩
  rw [← hw0]
  have HN0 := Aside0.mk (show w0.heap[w.heap.size]? = some (.cells #[.int .i64 0, .int .i64 0, .int .i64 0, .int .i64 0, .int .i64 0, .int .i64 0, .slice none 0 0, .int .i64 0, .int .i64 0, .slice none 0 0] 54 (0, 0)) by rw [hw0]; exact blk_new _ _)
  have HB0 := Aside0.mk (show Below w.heap.size w w0 by rw [hw0]; exact below_alloc (Below.refl _ _) _)
  clear hw0
  have HCC := Aside0.mk (orielref34_cut.calls 7000 s 2 _ w0 H1.out)
  refine HCC.out.mono ?_
  clear HCC
  rintro e w1 ⟨v, rfl, hR, hB⟩
  obtain ⟨A, c, rfl, hc, hC⟩ := Kd.R_reads hR
  obtain ⟨ad, rfl, ce⟩ := Kd.at_string hC 0 (by decide) (by simp)
  have ce' : w1.cell? ad = some (.string F) := by
    have : ad.add (Int.toNat 0) = ad := by simp [Addr.add]
    rw [this] at ce
    exact ce
  have HB1 := Aside0.mk (below_seq HB0.out hB)
  have HN1 := Aside0.mk (blk_below HN0.out hB)
  obtain ⟨ll, hll⟩ : ∃ ll, ll = (F :: rest).length := ⟨_, rfl⟩
  have hlen : (0 : Int) < (ll : Int) := by rw [hll]; simp
  rw [← hll]
  clear hR hB hC hc ce HB0 HN0 hll
  go_wp2_with fail
  have HMC := Aside0.mk (many_any F w1)
  rw [HM.out] at HMC
  refine HMC.out.mono ?_
  clear HMC ce'
  rintro e w2 ⟨rfl, hB⟩
  have HB2 := Aside0.mk (below_seq HB1.out hB)
  have HN2 := Aside0.mk (blk_below HN1.out hB)
  clear hB HB1 HN1
  obtain ⟨w3, hw3⟩ : ∃ w3, w3 = w2.alloc (.cells #[.slice none 0 0, .int .i64 0] 101) := ⟨_, rfl⟩
  have HB3 := Aside0.mk (show Below w.heap.size w w3 by rw [hw3]; exact below_alloc HB2.out _)
  have HN3 := Aside0.mk (show w3.heap[w.heap.size]? = some (.cells #[.int .i64 0, .int .i64 0, .int .i64 0, .int .i64 0, .int .i64 0, .int .i64 0, .slice none 0 0, .int .i64 0, .int .i64 0, .slice none 0 0] 54 (0, 0)) by rw [hw3]; exact blk_alloc HN2.out _)
  have HL3 := Aside0.mk (show w3.heap[w2.heap.size]? = some (.cells #[.slice none 0 0, .int .i64 0] 101 (0, 0)) by rw [hw3]; exact blk_new _ _)
  have HLT := Aside0.mk (blk_lt HN2.out)
  have HCC := Aside0.mk (orielref34_cut.calls 7000 s m _ w3 H2.out)
  have HW3 := Aside0.mk hw3
  clear hw3 HB2 HN2
  go_wp2_with fail
  rw [← HW3.out]
  refine HCC.out.mono ?_
  clear HCC
  rintro e w4 ⟨v, rfl, hR, hB⟩
  obtain ⟨A4, c4, rfl, -, -⟩ := Kd.R_reads hR
  rw [← HPP.out]
  have HB4 := Aside0.mk (below_seq HB3.out hB)
  have hn4 := blk_below HN3.out hB
  have hl4 := blk_below HL3.out hB
  have HN4 := Aside0.mk hn4
  have l0 : w4.cell? ⟨w2.heap.size, 0, none⟩ = some (.slice none 0 0) := by rw [blk_cell hl4]; rfl
  have lf0 := blk_frozen hl4 0
  have hne : ¬ w2.heap.size = w.heap.size := by have := HLT.out; omega
  have HNS : (w4.setCell ⟨w2.heap.size, 0, none⟩ (.slice A4 pl c4)).heap[w.heap.size]? = some (.cells #[.int .i64 0, .int .i64 0, .int .i64 0, .int .i64 0, .int .i64 0, .int .i64 0, .slice none 0 0, .int .i64 0, .int .i64 0, .slice none 0 0] 54 (0, 0)) := by rw [Below.heap_setCell w4 ⟨w2.heap.size, 0, none⟩ _ w.heap.size (by show w.heap.size ≠ w2.heap.size; omega)]; exact hn4
  have HNS2 := Aside0.mk HNS
  have z0 : (w4.setCell ⟨w2.heap.size, 0, none⟩ (.slice A4 pl c4)).cell? ⟨w.heap.size, 0, none⟩ = some (.int .i64 0) := by rw [blk_cell HNS]; rfl
  have zf0 := blk_frozen HNS 0
  have z1 : (w4.setCell ⟨w2.heap.size, 0, none⟩ (.slice A4 pl c4)).cell? ⟨w.heap.size, 1, none⟩ = some (.int .i64 0) := by rw [blk_cell HNS]; rfl
  have zf1 := blk_frozen HNS 1
  have z2 : (w4.setCell ⟨w2.heap.size, 0, none⟩ (.slice A4 pl c4)).cell? ⟨w.heap.size, 2, none⟩ = some (.int .i64 0) := by rw [blk_cell HNS]; rfl
  have zf2 := blk_frozen HNS 2
  have z3 : (w4.setCell ⟨w2.heap.size, 0, none⟩ (.slice A4 pl c4)).cell? ⟨w.heap.size, 3, none⟩ = some (.int .i64 0) := by rw [blk_cell HNS]; rfl
  have zf3 := blk_frozen HNS 3
  have z4 : (w4.setCell ⟨w2.heap.size, 0, none⟩ (.slice A4 pl c4)).cell? ⟨w.heap.size, 4, none⟩ = some (.int .i64 0) := by rw [blk_cell HNS]; rfl
  have zf4 := blk_frozen HNS 4
  have z5 : (w4.setCell ⟨w2.heap.size, 0, none⟩ (.slice A4 pl c4)).cell? ⟨w.heap.size, 5, none⟩ = some (.int .i64 0) := by rw [blk_cell HNS]; rfl
  have zf5 := blk_frozen HNS 5
  have z6 : (w4.setCell ⟨w2.heap.size, 0, none⟩ (.slice A4 pl c4)).cell? ⟨w.heap.size, 6, none⟩ = some (.slice none 0 0) := by rw [blk_cell HNS]; rfl
  have zf6 := blk_frozen HNS 6
  have z7 : (w4.setCell ⟨w2.heap.size, 0, none⟩ (.slice A4 pl c4)).cell? ⟨w.heap.size, 7, none⟩ = some (.int .i64 0) := by rw [blk_cell HNS]; rfl
  have zf7 := blk_frozen HNS 7
  have z8 : (w4.setCell ⟨w2.heap.size, 0, none⟩ (.slice A4 pl c4)).cell? ⟨w.heap.size, 8, none⟩ = some (.int .i64 0) := by rw [blk_cell HNS]; rfl
  have zf8 := blk_frozen HNS 8
  have z9 : (w4.setCell ⟨w2.heap.size, 0, none⟩ (.slice A4 pl c4)).cell? ⟨w.heap.size, 9, none⟩ = some (.slice none 0 0) := by rw [blk_cell HNS]; rfl
  have zf9 := blk_frozen HNS 9
  clear hR hB hn4 hl4 HNS HPP HPL
  go_wp2_with fail
  refine bodyPost_ret (results_ct (u := 3) (p := 2) (ty := 54) rfl _ _ w.heap.size 54 _ (0, 0) _ rfl (by repeat (first | with_reducible exact HNS2.out | with_reducible apply blk_alloc | with_reducible apply blk_drewN | with_reducible apply blk_drew | with_reducible apply blk_set)) Tryd.underlying54 rfl (by exact info54s)) rfl ?_
  refine RLineRes.fail .word _ _ ?_
  (repeat (first | with_reducible exact HB4.out | with_reducible apply below_alloc | with_reducible apply pw_below_drewN | with_reducible apply below_drew | refine Below.setCell ?_ (by first | (simp; done) | exact Nat.le_of_lt HLT.out) _))
/-- A line of one of the forms, with enough words. -/
theorem rline_form (s F R : ByteArray) (ps : List ByteArray) (w : World) (hf : formOf F.toList ≠ []) (hl : ps.length = (formOf F.toList).length)
    (h1 : orielref34_cut.f 7000 s 2 = some [F, R]) (h2 : orielref34_cut.f 7000 s (((formOf F.toList).length + 1 : Nat) : Int) = some (F :: ps)) (hz : ∀ p ∈ ps, p.size ≤ 1000000) :
    Calls Tryd.prog 28 #[.string s] w (RLineRes (formR F.toList (kindsOf F.toList) ps) w) := by
  have h2' : ∀ n : Int, (((formOf F.toList).length + 1 : Nat) : Int) = n → orielref34_cut.f 7000 s n = some (F :: ps) := fun n hn => hn ▸ h2
  by_cases h_join : F.toList = [106, 111, 105, 110]
  · have hF : F = ⟨#[106, 111, 105, 110]⟩ := of_toList h_join
    subst hF
    have hk : kindsOf (⟨#[106, 111, 105, 110]⟩ : ByteArray).toList = [73, 82] := by rw [h_join]; rfl
    have hl' : ps.length = 2 := by rw [hl, h_join]; rfl
    obtain ⟨a, b, rfl⟩ := len2 hl'
    rw [hk, h_join]
    exact rline_join s R a b w h1 (h2' (3) (by rw [h_join]; rfl))
  by_cases h_role : F.toList = [114, 111, 108, 101]
  · have hF : F = ⟨#[114, 111, 108, 101]⟩ := of_toList h_role
    subst hF
    have hk : kindsOf (⟨#[114, 111, 108, 101]⟩ : ByteArray).toList = [73, 82] := by rw [h_role]; rfl
    have hl' : ps.length = 2 := by rw [hl, h_role]; rfl
    obtain ⟨a, b, rfl⟩ := len2 hl'
    rw [hk, h_role]
    exact rline_role s R a b w h1 (h2' (3) (by rw [h_role]; rfl))
  by_cases h_leave : F.toList = [108, 101, 97, 118, 101]
  · have hF : F = ⟨#[108, 101, 97, 118, 101]⟩ := of_toList h_leave
    subst hF
    have hk : kindsOf (⟨#[108, 101, 97, 118, 101]⟩ : ByteArray).toList = [73] := by rw [h_leave]; rfl
    have hl' : ps.length = 1 := by rw [hl, h_leave]; rfl
    obtain ⟨a, rfl⟩ := len1 hl'
    rw [hk, h_leave]
    exact rline_leave s R a w h1 (h2' (2) (by rw [h_leave]; rfl))
  by_cases h_ask : F.toList = [97, 115, 107]
  · have hF : F = ⟨#[97, 115, 107]⟩ := of_toList h_ask
    subst hF
    have hk : kindsOf (⟨#[97, 115, 107]⟩ : ByteArray).toList = [73] := by rw [h_ask]; rfl
    have hl' : ps.length = 1 := by rw [hl, h_ask]; rfl
    obtain ⟨a, rfl⟩ := len1 hl'
    rw [hk, h_ask]
    exact rline_ask s R a w h1 (h2' (2) (by rw [h_ask]; rfl))
  by_cases h_free : F.toList = [102, 114, 101, 101]
  · have hF : F = ⟨#[102, 114, 101, 101]⟩ := of_toList h_free
    subst hF
    have hk : kindsOf (⟨#[102, 114, 101, 101]⟩ : ByteArray).toList = [73] := by rw [h_free]; rfl
    have hl' : ps.length = 1 := by rw [hl, h_free]; rfl
    obtain ⟨a, rfl⟩ := len1 hl'
    rw [hk, h_free]
    exact rline_free s R a w h1 (h2' (2) (by rw [h_free]; rfl))
  by_cases h_out : F.toList = [111, 117, 116]
  · have hF : F = ⟨#[111, 117, 116]⟩ := of_toList h_out
    subst hF
    have hk : kindsOf (⟨#[111, 117, 116]⟩ : ByteArray).toList = [84] := by rw [h_out]; rfl
    have hl' : ps.length = 1 := by rw [hl, h_out]; rfl
    obtain ⟨a, rfl⟩ := len1 hl'
    rw [hk, h_out]
    exact rline_out s R a w h1 (h2' (2) (by rw [h_out]; rfl)) (hz a (by simp))
  by_cases h_keys : F.toList = [107, 101, 121, 115]
  · have hF : F = ⟨#[107, 101, 121, 115]⟩ := of_toList h_keys
    subst hF
    have hk : kindsOf (⟨#[107, 101, 121, 115]⟩ : ByteArray).toList = [73, 75] := by rw [h_keys]; rfl
    have hl' : ps.length = 2 := by rw [hl, h_keys]; rfl
    obtain ⟨a, b, rfl⟩ := len2 hl'
    rw [hk, h_keys]
    exact rline_keys s R a b w h1 (h2' (3) (by rw [h_keys]; rfl)) (hz b (by simp))
  by_cases h_size : F.toList = [115, 105, 122, 101]
  · have hF : F = ⟨#[115, 105, 122, 101]⟩ := of_toList h_size
    subst hF
    have hk : kindsOf (⟨#[115, 105, 122, 101]⟩ : ByteArray).toList = [73, 87, 87] := by rw [h_size]; rfl
    have hl' : ps.length = 3 := by rw [hl, h_size]; rfl
    obtain ⟨a, b, c, rfl⟩ := len3 hl'
    rw [hk, h_size]
    exact rline_size s R a b c w h1 (h2' (4) (by rw [h_size]; rfl))
  by_cases h_tick : F.toList = [116, 105, 99, 107]
  · have hF : F = ⟨#[116, 105, 99, 107]⟩ := of_toList h_tick
    subst hF
    have hk : kindsOf (⟨#[116, 105, 99, 107]⟩ : ByteArray).toList = [78] := by rw [h_tick]; rfl
    have hl' : ps.length = 1 := by rw [hl, h_tick]; rfl
    obtain ⟨a, rfl⟩ := len1 hl'
    rw [hk, h_tick]
    exact rline_tick s R a w h1 (h2' (2) (by rw [h_tick]; rfl))
  by_cases h_deliver : F.toList = [100, 101, 108, 105, 118, 101, 114]
  · have hF : F = ⟨#[100, 101, 108, 105, 118, 101, 114]⟩ := of_toList h_deliver
    subst hF
    have hk : kindsOf (⟨#[100, 101, 108, 105, 118, 101, 114]⟩ : ByteArray).toList = [80] := by rw [h_deliver]; rfl
    have hl' : ps.length = 1 := by rw [hl, h_deliver]; rfl
    obtain ⟨a, rfl⟩ := len1 hl'
    rw [hk, h_deliver]
    exact rline_deliver s R a w h1 (h2' (2) (by rw [h_deliver]; rfl))
  by_cases h_spoil : F.toList = [115, 112, 111, 105, 108]
  · have hF : F = ⟨#[115, 112, 111, 105, 108]⟩ := of_toList h_spoil
    subst hF
    have hk : kindsOf (⟨#[115, 112, 111, 105, 108]⟩ : ByteArray).toList = [80, 88] := by rw [h_spoil]; rfl
    have hl' : ps.length = 2 := by rw [hl, h_spoil]; rfl
    obtain ⟨a, b, rfl⟩ := len2 hl'
    rw [hk, h_spoil]
    exact rline_spoil s R a b w h1 (h2' (3) (by rw [h_spoil]; rfl))
  by_cases h_move : F.toList = [109, 111, 118, 101]
  · have hF : F = ⟨#[109, 111, 118, 101]⟩ := of_toList h_move
    subst hF
    have hk : kindsOf (⟨#[109, 111, 118, 101]⟩ : ByteArray).toList = [73, 65] := by rw [h_move]; rfl
    have hl' : ps.length = 2 := by rw [hl, h_move]; rfl
    obtain ⟨a, b, rfl⟩ := len2 hl'
    rw [hk, h_move]
    exact rline_move s R a b w h1 (h2' (3) (by rw [h_move]; rfl))
  by_cases h_forge : F.toList = [102, 111, 114, 103, 101]
  · have hF : F = ⟨#[102, 111, 114, 103, 101]⟩ := of_toList h_forge
    subst hF
    have hk : kindsOf (⟨#[102, 111, 114, 103, 101]⟩ : ByteArray).toList = [73, 65, 83, 84] := by rw [h_forge]; rfl
    have hl' : ps.length = 4 := by rw [hl, h_forge]; rfl
    obtain ⟨a, b, c, d, rfl⟩ := len4 hl'
    rw [hk, h_forge]
    exact rline_forge s R a b c d w h1 (h2' (5) (by rw [h_forge]; rfl)) (hz d (by simp))
  exact absurd (by unfold formOf; rw [if_neg h_join, if_neg h_role, if_neg h_leave, if_neg h_ask, if_neg h_free, if_neg h_out, if_neg h_keys, if_neg h_size, if_neg h_tick, if_neg h_deliver, if_neg h_spoil, if_neg h_move, if_neg h_forge]) hf
theorem parse_form {s F R : ByteArray} (hc : cutAt s 32 = (F, R, true)) (hf : formOf F.toList ≠ []) (hl : (partsOf R (formOf F.toList).length).length = (formOf F.toList).length) :
    parseP s = formR F.toList (kindsOf F.toList) (partsOf R (formOf F.toList).length) := by
  unfold parseP formR
  rw [hc]
  dsimp only
  rw [if_neg hf, if_neg (by decide), if_neg (by omega)]
  rfl
theorem cut_splitB (s : ByteArray) (hs : s.size ≤ 3100) (n : Nat) (h1 : 1 ≤ n) (h2 : n ≤ 1000) : orielref34_cut.f 7000 s (n : Int) = some (Lib.splitB ⟨#[32]⟩ 0 (n - 1) s) :=
  cut_ref s (by omega) n h1 h2 7000 (by omega)
theorem rline_any (s : ByteArray) (w : World) (hs : s.size ≤ 3100) : Calls Tryd.prog 28 #[.string s] w (RLineRes (parseP s) w) := by
  rcases hc : cutAt s 32 with ⟨F, R, m⟩
  have hsz := cut_size hc
  have hle := formOf_le F.toList
  have c2 := cut_splitB s hs 2 (by decide) (by decide)
  have hword : formOf F.toList = [] ∨ m = false → parseP s = .error .word := by
    intro h
    unfold parseP
    rw [hc]
    dsimp only
    rcases h with h | h
    · rw [if_pos h]
    · by_cases h0 : formOf F.toList = []
      · rw [if_pos h0]
      · rw [if_neg h0, if_pos h]
  by_cases hf : formOf F.toList = []
  · rw [hword (Or.inl hf)]
    have hm : manyP F.toList = 0 := if_pos hf
    cases m with
    | false =>
      obtain ⟨e1, e2⟩ := split_false hc 1
      subst e2
      exact rline_none F F [] w (by rw [← e1]; exact c2) hm
    | true => exact rline_none s F _ w (by rw [show (Lib.splitB ⟨#[32]⟩ 0 (2 - 1) s) = _ from split_true hc 0] at c2; exact c2) hm
  · have hpos : 1 ≤ (formOf F.toList).length := by
      cases hl : formOf F.toList with
      | nil => exact absurd hl hf
      | cons a l => simp
    have hm : manyP F.toList = (((formOf F.toList).length + 1 : Nat) : Int) := by unfold manyP; rw [if_neg hf]; omega
    have cn := cut_splitB s hs ((formOf F.toList).length + 1) (by omega) (by omega)
    cases m with
    | false =>
      rw [hword (Or.inr rfl)]
      obtain ⟨e1, e2⟩ := split_false hc 1
      have e3 := (split_false hc ((formOf F.toList).length + 1 - 1)).1
      subst e2
      exact rline_short F F [] [F] _ w (by rw [← e1]; exact c2) hm (by rw [cn, e3]) (by omega) (by omega) (by simp; omega)
    | true =>
      have e1 : Lib.splitB ⟨#[32]⟩ 0 (2 - 1) s = F :: Lib.splitB ⟨#[32]⟩ 0 0 R := split_true hc 0
      have e3 : Lib.splitB ⟨#[32]⟩ 0 ((formOf F.toList).length + 1 - 1) s = F :: partsOf R (formOf F.toList).length := by
        rw [parts_eq R _ hpos, show (formOf F.toList).length + 1 - 1 = ((formOf F.toList).length - 1) + 1 by omega]
        exact split_true hc _
      rw [e1] at c2
      rw [e3] at cn
      have hlen := parts_len R (formOf F.toList).length hpos
      by_cases hl : (partsOf R (formOf F.toList).length).length < (formOf F.toList).length
      · have : parseP s = .error .word := by
          unfold parseP
          rw [hc]
          dsimp only
          rw [if_neg hf, if_neg (by decide), if_pos hl]
        rw [this]
        exact rline_short s F _ _ _ w c2 hm cn (by omega) (by omega) (by simp; omega)
      · rw [parse_form hc hf (by omega)]
        refine rline_form s F R _ w hf (by omega) c2 cn (fun p hp => ?_)
        have := splitB_size ⟨#[32]⟩ _ R p (by unfold partsOf at hp; exact hp)
        omega
end Go.Proofs.YtjpkphmihkbfeaaDoor.S34
