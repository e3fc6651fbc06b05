/- orielref34.Line walked: join, leave, out, ask, free. -/
import Derived.Test.YtjpkphmihkbfeaaDoorRw
namespace Go.Proofs.YtjpkphmihkbfeaaDoor.S34
open Go.RowKit Go.Proofs.YtjpkphmihkbfeaaDoorW.PrintWords Go.Proofs.YtjpkphmihkbfeaaDoorW.PrintLast Go.Proofs.YtjpkphmihkbfeaaDoorW.PrintMore Go.Proofs.YtjpkphmihkbfeaaDoor.Q
set_option maxRecDepth 100000
set_option linter.unusedSimpArgs false
set_option maxHeartbeats 4000000 in
theorem rline_join (s R p0 p1 : ByteArray) (w : World) (h1 : orielref34_cut.f 7000 s 2 = some [⟨#[106, 111, 105, 110]⟩, R]) (h2 : orielref34_cut.f 7000 s 3 = some [⟨#[106, 111, 105, 110]⟩, p0, p1]) :
    Calls Tryd.prog 28 #[.string s] w (RLineRes (formR [106, 111, 105, 110] [73, 82] [p0, p1]) w) := by
  have H1 := Aside0.mk h1
  have H2 := Aside0.mk h2
  clear h1 h2 
  go_enter Tryd.func28, Tryd.ntmps28
  go_wp2_with fail
  obtain ⟨w0, hw0⟩ : ∃ w0, w0 = w.alloc (.cells #[.int .i64 0, .int .i64 0, .int .i64 0, .int .i64 0, .int .i64 0, .int .i64 0, .slice none 0 0, .int .i64 0, .int .i64 0, .slice none 0 0] 54) := ⟨_, rfl⟩
  rw [← hw0]
  have HN0 := Aside0.mk (show w0.heap[w.heap.size]? = some (.cells #[.int .i64 0, .int .i64 0, .int .i64 0, .int .i64 0, .int .i64 0, .int .i64 0, .slice none 0 0, .int .i64 0, .int .i64 0, .slice none 0 0] 54 (0, 0)) by rw [hw0]; exact blk_new _ _)
  have HB0 := Aside0.mk (show Below w.heap.size w w0 by rw [hw0]; exact below_alloc (Below.refl _ _) _)
  clear hw0
  have HCC := Aside0.mk (orielref34_cut.calls 7000 s 2 _ w0 H1.out)
  refine HCC.out.mono ?_
  clear HCC
  rintro e w1 ⟨v, rfl, hR, hB⟩
  obtain ⟨A, c, rfl, hc, hC⟩ := Kd.R_reads hR
  obtain ⟨ad, rfl, ce⟩ := Kd.at_string hC 0 (by decide) (by simp)
  have ce' : w1.cell? ad = some (.string ⟨#[106, 111, 105, 110]⟩) := by
    have : ad.add (Int.toNat 0) = ad := by simp [Addr.add]
    rw [this] at ce
    exact ce
  have HB1 := Aside0.mk (below_seq HB0.out hB)
  have HN1 := Aside0.mk (blk_below HN0.out hB)
  clear hR hB hC hc ce HB0 HN0
  simp only [List.length_cons, List.length_nil]
  go_wp2_with fail
  have HMC := Aside0.mk (many_any ⟨#[106, 111, 105, 110]⟩ w1)
  rw [show manyP (⟨#[106, 111, 105, 110]⟩ : ByteArray).toList = 3 by kernel_rfl] at HMC
  refine HMC.out.mono ?_
  clear HMC ce'
  rintro e w2 ⟨rfl, hB⟩
  have HB2 := Aside0.mk (below_seq HB1.out hB)
  have HN2 := Aside0.mk (blk_below HN1.out hB)
  clear hB HB1 HN1
  go_wp2_with fail
  obtain ⟨w3, hw3⟩ : ∃ w3, w3 = w2.alloc (.cells #[.slice none 0 0, .int .i64 0] 101) := ⟨_, rfl⟩
  rw [← hw3]
  have hb3 : Below w2.heap.size w2 w3 := by rw [hw3]; exact below_alloc (Below.refl _ _) _
  have hl3 : w3.heap[w2.heap.size]? = some (.cells #[.slice none 0 0, .int .i64 0] 101 (0, 0)) := by rw [hw3]; exact blk_new _ _
  have hz3 : w3.heap.size = w2.heap.size + 1 := by rw [hw3]; simp
  have HCC := Aside0.mk (orielref34_cut.calls 7000 s 3 _ w3 H2.out)
  refine HCC.out.mono ?_
  clear HCC hw3
  rintro e w4 ⟨v, rfl, hR, hB⟩
  have hbd := Kd.R_bound hR
  obtain ⟨g, cap, hv, -, -, -⟩ := Kd.R_form hR (by simp)
  subst hv
  have hg4 := hbd.1 g rfl
  have hC := (Kd.R_reads' hR).2.2
  have hl4 : w4.heap[w2.heap.size]? = some (.cells #[.slice none 0 0, .int .i64 0] 101 (0, 0)) := blk_below hl3 hB
  have hcells : ∀ i (hi : i < [⟨#[106, 111, 105, 110]⟩, p0, p1].length), w4.cell? ⟨g, 0 + i, none⟩ = some (.string ([⟨#[106, 111, 105, 110]⟩, p0, p1][i])) := by
    intro i hi
    obtain ⟨ad, hA, ce⟩ := Kd.at_string hC (i : Int) (by omega) (by have : i < 3 := hi; show (i : Int) < ((3 : Nat) : Int); omega)
    injection hA with hA
    subst hA
    rw [Int.toNat_natCast, add_plain] at ce
    rw [Nat.zero_add, ce, rdOf_nat hi]
  have hw4 : Below w.heap.size w w4 := below_seq (below_seq HB2.out hb3) hB
  have HGS := Aside0.mk (show g ≠ w2.heap.size ∧ g < w4.heap.size from ⟨by have := hg4.2.1; omega, hg4.2.2.1⟩)
  have HLL := Aside0.mk (show w2.heap.size < w4.heap.size from blk_lt hl4)
  have HCE := Aside0.mk hcells
  have HN4 := Aside0.mk (blk_below (blk_below HN2.out hb3) hB)
  have HB4 := Aside0.mk hw4
  have HL4 := Aside0.mk hl4
  have HW2 := Aside0.mk (blk_lt HN2.out)
  have r0 : w4.cell? ⟨w2.heap.size, 0, none⟩ = some (.slice none 0 0) := by rw [blk_cell hl4]; rfl
  have rf0 := blk_frozen hl4 0
  clear hR hB hC hbd hg4 hl3 hb3 hz3 hl4 hcells hw4 HB2 HN2
  simp only [List.length_cons, List.length_nil]
  go_wp2_with fail
  obtain ⟨w5, hw5⟩ : ∃ w5, w5 = (w4.setCell ⟨w2.heap.size, 0, none⟩ (.slice (some ⟨g, 0, none⟩) 3 cap)).alloc (.cells #[.int .i64 1, .int .i64 0, .int .i64 0, .int .i64 0, .int .i64 0, .int .i64 0, .slice none 0 0, .int .i64 0, .int .i64 0, .slice none 0 0] 54) := ⟨_, rfl⟩
  rw [← hw5]
  have hz5 : (w4.setCell ⟨w2.heap.size, 0, none⟩ (.slice (some ⟨g, 0, none⟩) 3 cap)).heap.size = w4.heap.size := set_size _ _ _
  have hgg : w5.heap[g]? = w4.heap[g]? := by
    rw [hw5, Lib.alloc_old _ _ g (by rw [hz5]; exact HGS.out.2)]
    exact Below.heap_setCell w4 ⟨w2.heap.size, 0, none⟩ _ g HGS.out.1
  have HR0 := Aside0.mk (show RSt w w2.heap.size w4.heap.size [⟨#[106, 111, 105, 110]⟩, p0, p1] 0 #[.int .i64 1, .int .i64 0, .int .i64 0, .int .i64 0, .int .i64 0, .int .i64 0, .slice none 0 0, .int .i64 0, .int .i64 0, .slice none 0 0] w5 from
    ⟨⟨g, 0, cap, by rw [hw5]; exact blk_alloc (blk_set HL4.out 0 _) _, HGS.out.1, by have := HGS.out.2; omega, by rw [hw5]; have := HGS.out.2; simp [set_size]; omega, fun i hi => by rw [cell_same hgg]; exact HCE.out i hi⟩,
      by rw [hw5]; exact blk_new_at hz5.symm,
      by rw [hw5]; refine blk_alloc ?_ _; rw [Below.heap_setCell w4 ⟨w2.heap.size, 0, none⟩ _ w.heap.size (by have := HW2.out; show w.heap.size ≠ w2.heap.size; omega)]; exact HN4.out,
      by rw [hw5]; exact below_alloc (HB4.out.setCell (p := ⟨w2.heap.size, 0, none⟩) (by have := HW2.out; show w.heap.size ≤ w2.heap.size; omega) _) _,
      HW2.out, HLL.out⟩)
  clear hz5 hgg hw5 r0 rf0 HGS HCE HN4 HB4 HL4 HW2 HLL
  have HCC := Aside0.mk (rnum_any w2.heap.size w4.heap.size _ _ 1 1 1 8 rfl (by simp) 73 rfl _ HR0.out.line)
  refine HCC.out.mono ?_
  clear HCC
  rintro e w6 ⟨⟨n0, b0⟩, rfl, hN, hL, hK⟩
  have HK0 := Aside0.mk (num_next hN (by decide) (by decide) (by decide) (by decide) (0))
  have HR1 := Aside0.mk (HR0.out.step hL hK)
  replace HR1 := Aside0.mk (show RSt w w2.heap.size w4.heap.size [⟨#[106, 111, 105, 110]⟩, p0, p1] (codeNext (0) p0 73) #[.int .i64 1, .int .i64 0, .int .i64 0, .int .i64 0, .int .i64 0, .int .i64 0, .slice none 0 0, .int .i64 0, .int .i64 0, .slice none 0 0] w6 from HK0.out.1 ▸ HR1.out)
  clear hN hL hK HR0
  have r : w6.cell? ⟨w4.heap.size, 1, none⟩ = some (.int .i64 0) := by rw [blk_cell HR1.out.ev]; rfl
  have f := blk_frozen HR1.out.ev 1
  go_wp2_with fail
  have HR2 := Aside0.mk (HR1.out.put 1 (.int .i64 n0))
  simp only [List.setIfInBounds_toArray, List.set_cons_zero, List.set_cons_succ] at HR2
  clear r f HR1
  have HCC := Aside0.mk (rone_any w2.heap.size w4.heap.size _ _ 2 2 rfl (by simp) ⟨#[119, 97, 116, 99, 104]⟩ ⟨#[119, 114, 105, 116, 101]⟩ (by decide +kernel) _ HR2.out.line)
  refine HCC.out.mono ?_
  clear HCC
  rintro e w7 ⟨rfl, hL, hK⟩
  have HK1 := Aside0.mk (one_next (p := p1) (z := ⟨#[119, 97, 116, 99, 104]⟩) (o := ⟨#[119, 114, 105, 116, 101]⟩) (kd := 82) rfl (codeNext (0) p0 73))
  have h01 := choice_01 p1 ⟨#[119, 97, 116, 99, 104]⟩ ⟨#[119, 114, 105, 116, 101]⟩
  have HR3 := Aside0.mk (HR2.out.step hL hK)
  obtain ⟨n1, hn1⟩ : ∃ n : Int, n = choiceV p1 ⟨#[119, 97, 116, 99, 104]⟩ ⟨#[119, 114, 105, 116, 101]⟩ := ⟨_, rfl⟩
  replace HR3 := Aside0.mk (show RSt w w2.heap.size w4.heap.size [⟨#[106, 111, 105, 110]⟩, p0, p1] (codeNext (codeNext (0) p0 73) p1 82) #[.int .i64 1, .int .i64 n0, .int .i64 0, .int .i64 0, .int .i64 0, .int .i64 0, .slice none 0 0, .int .i64 0, .int .i64 0, .slice none 0 0] w7 from HK1.out.1 ▸ HR3.out)
  replace HK1 := Aside0.mk (show ∀ v, readP p1 82 = .ok v → v.f0 = n1 from fun v hv => (HK1.out.2 v hv).trans hn1.symm)
  simp only [List.getElem_cons_succ, List.getElem_cons_zero]
  rw [← hn1] at h01 ⊢
  obtain ⟨h01, h11⟩ := h01
  clear hL hK HR2 hn1
  have r : w7.cell? ⟨w4.heap.size, 4, none⟩ = some (.int .i64 0) := by rw [blk_cell HR3.out.ev]; rfl
  have f := blk_frozen HR3.out.ev 4
  have HR4 := Aside0.mk (HR3.out.put 4 (.int .i64 (1 + n1)))
  simp only [List.setIfInBounds_toArray, List.set_cons_zero, List.set_cons_succ] at HR4
  obtain ⟨cd, hcd⟩ : ∃ cd, cd = codeNext (codeNext (0) p0 73) p1 82 := ⟨_, rfl⟩
  have HCD := Aside0.mk (show cd = codes 0 [73, 82] [p0, p1] from hcd)
  rw [← hcd] at HR4
  clear hcd
  have q1 : (w7.setCell ⟨w4.heap.size, 4, none⟩ (.int .i64 (1 + n1))).cell? ⟨w2.heap.size, 1, none⟩ = some (.int .i64 cd) := HR4.out.code
  have hn1 : ¬ w2.heap.size = w.heap.size := by have := HR4.out.lt1; omega
  have hn2 : ¬ w4.heap.size = w.heap.size := by have := HR4.out.lt1; have := HR4.out.lt2; omega
  obtain ⟨z0, z1, z2, z3, z4, z5, z6, z7, z8, z9⟩ := cells10 HR4.out.zero
  have zf : ∀ j, (w7.setCell ⟨w4.heap.size, 4, none⟩ (.int .i64 (1 + n1))).frozen? ⟨w.heap.size, j, none⟩ = false := fun j => blk_frozen HR4.out.zero j
  cases hq : (cd == 0) with
  | false =>
    have HQ := Aside0.mk hq
    go_wp2_with fail
    go_region
    all_goals go_wp2
    refine bodyPost_ret (results_ct (u := 3) (p := 2) (ty := 54) rfl _ _ w.heap.size 54 _ (0, 0) _ rfl (by repeat (first | with_reducible exact HR4.out.zero | with_reducible apply blk_alloc | with_reducible apply blk_drewN | with_reducible apply blk_drew | with_reducible apply blk_set)) Tryd.underlying54 rfl (by exact info54s)) rfl ?_
    have hcr := HCD.out.trans (codes_read [73, 82] [p0, p1])
    cases hra : readAll [73, 82] [p0, p1] with
    | ok ws => rw [hra] at hcr; exact absurd hcr (beq_eq_false_iff_ne.1 HQ.out)
    | error x =>
      rw [hra] at hcr
      rw [hcr, formR_err hra]
      refine RLineRes.fail _ _ _ ?_
      (repeat (first | with_reducible exact HR4.out.below | with_reducible apply below_alloc | with_reducible apply pw_below_drewN | with_reducible apply below_drew | refine Below.setCell ?_ (by simp) _))
  | true =>
    have HQ := Aside0.mk hq
    obtain ⟨s0, s1, s2, s3, s4, s5, s6, s7, s8, s9⟩ := cells10 HR4.out.ev
    go_wp2_with fail
    refine bodyPost_ret (results_ct (u := 3) (p := 2) (ty := 54) rfl _ _ w.heap.size 54 _ (0, 0) _ rfl (by with_reducible exact blk_set10 HR4.out.zero _ _ _ _ _ _ _ _ _ _) Tryd.underlying54 rfl (by exact info54s)) rfl ?_
    have hcr := HCD.out.trans (codes_read [73, 82] [p0, p1])
    rw [beq_iff_eq.1 HQ.out] at hcr
    cases hra : readAll [73, 82] [p0, p1] with
    | error x => rw [hra] at hcr; exact absurd hcr.symm (code_ne x)
    | ok ws =>
      obtain ⟨v0, l0, hv0, hr0, hw0⟩ := readAll_cons hra
      obtain ⟨v1, l1, hv1, hr1, hw1⟩ := readAll_cons hr0
      have hnil := readAll_nil hr1
      have e0 : v0.f0 = n0 := HK0.out.2 _ hv0
      have e1 : v1.f0 = n1 := HK1.out _ hv1
      subst hnil
      subst hw1
      subst hw0
      have hx : eventP [106, 111, 105, 110] [v0, v1] = ⟨1, n0, 0, 0, (1 + n1), ⟨0, [], 0, 0⟩, []⟩ := by
        rw [← e0, ← e1]
        simp [eventP, wd, z52]
      rw [formR_ok hra, hx]
      refine ⟨[.int .i64 1, .int .i64 n0, .int .i64 0, .int .i64 0, .int .i64 (1 + n1), .int .i64 0, .slice none 0 0, .int .i64 0, .int .i64 0, .slice none 0 0], rfl, k54_mkM _ w.heap.size _ ⟨1, n0, 0, 0, (1 + n1), ⟨0, [], 0, 0⟩, []⟩ (Kd.R_nil _ _ _ _ _) (Kd.R_nil _ _ _ _ _), ?_⟩
      · (repeat (first | with_reducible exact HR4.out.below | refine Below.setCell ?_ (by simp) _))
set_option maxHeartbeats 4000000 in
theorem rline_leave (s R p0 : ByteArray) (w : World) (h1 : orielref34_cut.f 7000 s 2 = some [⟨#[108, 101, 97, 118, 101]⟩, R]) (h2 : orielref34_cut.f 7000 s 2 = some [⟨#[108, 101, 97, 118, 101]⟩, p0]) :
    Calls Tryd.prog 28 #[.string s] w (RLineRes (formR [108, 101, 97, 118, 101] [73] [p0]) w) := by
  have H1 := Aside0.mk h1
  have H2 := Aside0.mk h2
  clear h1 h2 
  go_enter Tryd.func28, Tryd.ntmps28
  go_wp2_with fail
  obtain ⟨w0, hw0⟩ : ∃ w0, w0 = w.alloc (.cells #[.int .i64 0, .int .i64 0, .int .i64 0, .int .i64 0, .int .i64 0, .int .i64 0, .slice none 0 0, .int .i64 0, .int .i64 0, .slice none 0 0] 54) := ⟨_, rfl⟩
  rw [← hw0]
  have HN0 := Aside0.mk (show w0.heap[w.heap.size]? = some (.cells #[.int .i64 0, .int .i64 0, .int .i64 0, .int .i64 0, .int .i64 0, .int .i64 0, .slice none 0 0, .int .i64 0, .int .i64 0, .slice none 0 0] 54 (0, 0)) by rw [hw0]; exact blk_new _ _)
  have HB0 := Aside0.mk (show Below w.heap.size w w0 by rw [hw0]; exact below_alloc (Below.refl _ _) _)
  clear hw0
  have HCC := Aside0.mk (orielref34_cut.calls 7000 s 2 _ w0 H1.out)
  refine HCC.out.mono ?_
  clear HCC
  rintro e w1 ⟨v, rfl, hR, hB⟩
  obtain ⟨A, c, rfl, hc, hC⟩ := Kd.R_reads hR
  obtain ⟨ad, rfl, ce⟩ := Kd.at_string hC 0 (by decide) (by simp)
  have ce' : w1.cell? ad = some (.string ⟨#[108, 101, 97, 118, 101]⟩) := by
    have : ad.add (Int.toNat 0) = ad := by simp [Addr.add]
    rw [this] at ce
    exact ce
  have HB1 := Aside0.mk (below_seq HB0.out hB)
  have HN1 := Aside0.mk (blk_below HN0.out hB)
  clear hR hB hC hc ce HB0 HN0
  simp only [List.length_cons, List.length_nil]
  go_wp2_with fail
  have HMC := Aside0.mk (many_any ⟨#[108, 101, 97, 118, 101]⟩ w1)
  rw [show manyP (⟨#[108, 101, 97, 118, 101]⟩ : ByteArray).toList = 2 by kernel_rfl] at HMC
  refine HMC.out.mono ?_
  clear HMC ce'
  rintro e w2 ⟨rfl, hB⟩
  have HB2 := Aside0.mk (below_seq HB1.out hB)
  have HN2 := Aside0.mk (blk_below HN1.out hB)
  clear hB HB1 HN1
  go_wp2_with fail
  obtain ⟨w3, hw3⟩ : ∃ w3, w3 = w2.alloc (.cells #[.slice none 0 0, .int .i64 0] 101) := ⟨_, rfl⟩
  rw [← hw3]
  have hb3 : Below w2.heap.size w2 w3 := by rw [hw3]; exact below_alloc (Below.refl _ _) _
  have hl3 : w3.heap[w2.heap.size]? = some (.cells #[.slice none 0 0, .int .i64 0] 101 (0, 0)) := by rw [hw3]; exact blk_new _ _
  have hz3 : w3.heap.size = w2.heap.size + 1 := by rw [hw3]; simp
  have HCC := Aside0.mk (orielref34_cut.calls 7000 s 2 _ w3 H2.out)
  refine HCC.out.mono ?_
  clear HCC hw3
  rintro e w4 ⟨v, rfl, hR, hB⟩
  have hbd := Kd.R_bound hR
  obtain ⟨g, cap, hv, -, -, -⟩ := Kd.R_form hR (by simp)
  subst hv
  have hg4 := hbd.1 g rfl
  have hC := (Kd.R_reads' hR).2.2
  have hl4 : w4.heap[w2.heap.size]? = some (.cells #[.slice none 0 0, .int .i64 0] 101 (0, 0)) := blk_below hl3 hB
  have hcells : ∀ i (hi : i < [⟨#[108, 101, 97, 118, 101]⟩, p0].length), w4.cell? ⟨g, 0 + i, none⟩ = some (.string ([⟨#[108, 101, 97, 118, 101]⟩, p0][i])) := by
    intro i hi
    obtain ⟨ad, hA, ce⟩ := Kd.at_string hC (i : Int) (by omega) (by have : i < 2 := hi; show (i : Int) < ((2 : Nat) : Int); omega)
    injection hA with hA
    subst hA
    rw [Int.toNat_natCast, add_plain] at ce
    rw [Nat.zero_add, ce, rdOf_nat hi]
  have hw4 : Below w.heap.size w w4 := below_seq (below_seq HB2.out hb3) hB
  have HGS := Aside0.mk (show g ≠ w2.heap.size ∧ g < w4.heap.size from ⟨by have := hg4.2.1; omega, hg4.2.2.1⟩)
  have HLL := Aside0.mk (show w2.heap.size < w4.heap.size from blk_lt hl4)
  have HCE := Aside0.mk hcells
  have HN4 := Aside0.mk (blk_below (blk_below HN2.out hb3) hB)
  have HB4 := Aside0.mk hw4
  have HL4 := Aside0.mk hl4
  have HW2 := Aside0.mk (blk_lt HN2.out)
  have r0 : w4.cell? ⟨w2.heap.size, 0, none⟩ = some (.slice none 0 0) := by rw [blk_cell hl4]; rfl
  have rf0 := blk_frozen hl4 0
  clear hR hB hC hbd hg4 hl3 hb3 hz3 hl4 hcells hw4 HB2 HN2
  simp only [List.length_cons, List.length_nil]
  go_wp2_with fail
  obtain ⟨w5, hw5⟩ : ∃ w5, w5 = (w4.setCell ⟨w2.heap.size, 0, none⟩ (.slice (some ⟨g, 0, none⟩) 2 cap)).alloc (.cells #[.int .i64 2, .int .i64 0, .int .i64 0, .int .i64 0, .int .i64 0, .int .i64 0, .slice none 0 0, .int .i64 0, .int .i64 0, .slice none 0 0] 54) := ⟨_, rfl⟩
  rw [← hw5]
  have hz5 : (w4.setCell ⟨w2.heap.size, 0, none⟩ (.slice (some ⟨g, 0, none⟩) 2 cap)).heap.size = w4.heap.size := set_size _ _ _
  have hgg : w5.heap[g]? = w4.heap[g]? := by
    rw [hw5, Lib.alloc_old _ _ g (by rw [hz5]; exact HGS.out.2)]
    exact Below.heap_setCell w4 ⟨w2.heap.size, 0, none⟩ _ g HGS.out.1
  have HR0 := Aside0.mk (show RSt w w2.heap.size w4.heap.size [⟨#[108, 101, 97, 118, 101]⟩, p0] 0 #[.int .i64 2, .int .i64 0, .int .i64 0, .int .i64 0, .int .i64 0, .int .i64 0, .slice none 0 0, .int .i64 0, .int .i64 0, .slice none 0 0] w5 from
    ⟨⟨g, 0, cap, by rw [hw5]; exact blk_alloc (blk_set HL4.out 0 _) _, HGS.out.1, by have := HGS.out.2; omega, by rw [hw5]; have := HGS.out.2; simp [set_size]; omega, fun i hi => by rw [cell_same hgg]; exact HCE.out i hi⟩,
      by rw [hw5]; exact blk_new_at hz5.symm,
      by rw [hw5]; refine blk_alloc ?_ _; rw [Below.heap_setCell w4 ⟨w2.heap.size, 0, none⟩ _ w.heap.size (by have := HW2.out; show w.heap.size ≠ w2.heap.size; omega)]; exact HN4.out,
      by rw [hw5]; exact below_alloc (HB4.out.setCell (p := ⟨w2.heap.size, 0, none⟩) (by have := HW2.out; show w.heap.size ≤ w2.heap.size; omega) _) _,
      HW2.out, HLL.out⟩)
  clear hz5 hgg hw5 r0 rf0 HGS HCE HN4 HB4 HL4 HW2 HLL
  have HCC := Aside0.mk (rnum_any w2.heap.size w4.heap.size _ _ 1 1 1 8 rfl (by simp) 73 rfl _ HR0.out.line)
  refine HCC.out.mono ?_
  clear HCC
  rintro e w6 ⟨⟨n0, b0⟩, rfl, hN, hL, hK⟩
  have HK0 := Aside0.mk (num_next hN (by decide) (by decide) (by decide) (by decide) (0))
  have HR1 := Aside0.mk (HR0.out.step hL hK)
  replace HR1 := Aside0.mk (show RSt w w2.heap.size w4.heap.size [⟨#[108, 101, 97, 118, 101]⟩, p0] (codeNext (0) p0 73) #[.int .i64 2, .int .i64 0, .int .i64 0, .int .i64 0, .int .i64 0, .int .i64 0, .slice none 0 0, .int .i64 0, .int .i64 0, .slice none 0 0] w6 from HK0.out.1 ▸ HR1.out)
  clear hN hL hK HR0
  have r : w6.cell? ⟨w4.heap.size, 1, none⟩ = some (.int .i64 0) := by rw [blk_cell HR1.out.ev]; rfl
  have f := blk_frozen HR1.out.ev 1
  have HR2 := Aside0.mk (HR1.out.put 1 (.int .i64 n0))
  simp only [List.setIfInBounds_toArray, List.set_cons_zero, List.set_cons_succ] at HR2
  obtain ⟨cd, hcd⟩ : ∃ cd, cd = codeNext (0) p0 73 := ⟨_, rfl⟩
  have HCD := Aside0.mk (show cd = codes 0 [73] [p0] from hcd)
  rw [← hcd] at HR2
  clear hcd
  have q1 : (w6.setCell ⟨w4.heap.size, 1, none⟩ (.int .i64 n0)).cell? ⟨w2.heap.size, 1, none⟩ = some (.int .i64 cd) := HR2.out.code
  have hn1 : ¬ w2.heap.size = w.heap.size := by have := HR2.out.lt1; omega
  have hn2 : ¬ w4.heap.size = w.heap.size := by have := HR2.out.lt1; have := HR2.out.lt2; omega
  obtain ⟨z0, z1, z2, z3, z4, z5, z6, z7, z8, z9⟩ := cells10 HR2.out.zero
  have zf : ∀ j, (w6.setCell ⟨w4.heap.size, 1, none⟩ (.int .i64 n0)).frozen? ⟨w.heap.size, j, none⟩ = false := fun j => blk_frozen HR2.out.zero j
  cases hq : (cd == 0) with
  | false =>
    have HQ := Aside0.mk hq
    go_wp2_with fail
    go_region
    all_goals go_wp2
    refine bodyPost_ret (results_ct (u := 3) (p := 2) (ty := 54) rfl _ _ w.heap.size 54 _ (0, 0) _ rfl (by repeat (first | with_reducible exact HR2.out.zero | with_reducible apply blk_alloc | with_reducible apply blk_drewN | with_reducible apply blk_drew | with_reducible apply blk_set)) Tryd.underlying54 rfl (by exact info54s)) rfl ?_
    have hcr := HCD.out.trans (codes_read [73] [p0])
    cases hra : readAll [73] [p0] with
    | ok ws => rw [hra] at hcr; exact absurd hcr (beq_eq_false_iff_ne.1 HQ.out)
    | error x =>
      rw [hra] at hcr
      rw [hcr, formR_err hra]
      refine RLineRes.fail _ _ _ ?_
      (repeat (first | with_reducible exact HR2.out.below | with_reducible apply below_alloc | with_reducible apply pw_below_drewN | with_reducible apply below_drew | refine Below.setCell ?_ (by simp) _))
  | true =>
    have HQ := Aside0.mk hq
    obtain ⟨s0, s1, s2, s3, s4, s5, s6, s7, s8, s9⟩ := cells10 HR2.out.ev
    go_wp2_with fail
    refine bodyPost_ret (results_ct (u := 3) (p := 2) (ty := 54) rfl _ _ w.heap.size 54 _ (0, 0) _ rfl (by with_reducible exact blk_set10 HR2.out.zero _ _ _ _ _ _ _ _ _ _) Tryd.underlying54 rfl (by exact info54s)) rfl ?_
    have hcr := HCD.out.trans (codes_read [73] [p0])
    rw [beq_iff_eq.1 HQ.out] at hcr
    cases hra : readAll [73] [p0] with
    | error x => rw [hra] at hcr; exact absurd hcr.symm (code_ne x)
    | ok ws =>
      obtain ⟨v0, l0, hv0, hr0, hw0⟩ := readAll_cons hra
      have hnil := readAll_nil hr0
      have e0 : v0.f0 = n0 := HK0.out.2 _ hv0
      subst hnil
      subst hw0
      have hx : eventP [108, 101, 97, 118, 101] [v0] = ⟨2, n0, 0, 0, 0, ⟨0, [], 0, 0⟩, []⟩ := by
        rw [← e0]
        simp [eventP, wd, z52]
      rw [formR_ok hra, hx]
      refine ⟨[.int .i64 2, .int .i64 n0, .int .i64 0, .int .i64 0, .int .i64 0, .int .i64 0, .slice none 0 0, .int .i64 0, .int .i64 0, .slice none 0 0], rfl, k54_mkM _ w.heap.size _ ⟨2, n0, 0, 0, 0, ⟨0, [], 0, 0⟩, []⟩ (Kd.R_nil _ _ _ _ _) (Kd.R_nil _ _ _ _ _), ?_⟩
      · (repeat (first | with_reducible exact HR2.out.below | refine Below.setCell ?_ (by simp) _))
set_option maxHeartbeats 4000000 in
theorem rline_out (s R p0 : ByteArray) (w : World) (h1 : orielref34_cut.f 7000 s 2 = some [⟨#[111, 117, 116]⟩, R]) (h2 : orielref34_cut.f 7000 s 2 = some [⟨#[111, 117, 116]⟩, p0]) (z0 : p0.size ≤ 1000000) :
    Calls Tryd.prog 28 #[.string s] w (RLineRes (formR [111, 117, 116] [84] [p0]) w) := by
  have H1 := Aside0.mk h1
  have H2 := Aside0.mk h2
  have HZ0 := Aside0.mk z0
  clear h1 h2 z0
  go_enter Tryd.func28, Tryd.ntmps28
  go_wp2_with fail
  obtain ⟨w0, hw0⟩ : ∃ w0, w0 = w.alloc (.cells #[.int .i64 0, .int .i64 0, .int .i64 0, .int .i64 0, .int .i64 0, .int .i64 0, .slice none 0 0, .int .i64 0, .int .i64 0, .slice none 0 0] 54) := ⟨_, rfl⟩
  rw [← hw0]
  have HN0 := Aside0.mk (show w0.heap[w.heap.size]? = some (.cells #[.int .i64 0, .int .i64 0, .int .i64 0, .int .i64 0, .int .i64 0, .int .i64 0, .slice none 0 0, .int .i64 0, .int .i64 0, .slice none 0 0] 54 (0, 0)) by rw [hw0]; exact blk_new _ _)
  have HB0 := Aside0.mk (show Below w.heap.size w w0 by rw [hw0]; exact below_alloc (Below.refl _ _) _)
  clear hw0
  have HCC := Aside0.mk (orielref34_cut.calls 7000 s 2 _ w0 H1.out)
  refine HCC.out.mono ?_
  clear HCC
  rintro e w1 ⟨v, rfl, hR, hB⟩
  obtain ⟨A, c, rfl, hc, hC⟩ := Kd.R_reads hR
  obtain ⟨ad, rfl, ce⟩ := Kd.at_string hC 0 (by decide) (by simp)
  have ce' : w1.cell? ad = some (.string ⟨#[111, 117, 116]⟩) := by
    have : ad.add (Int.toNat 0) = ad := by simp [Addr.add]
    rw [this] at ce
    exact ce
  have HB1 := Aside0.mk (below_seq HB0.out hB)
  have HN1 := Aside0.mk (blk_below HN0.out hB)
  clear hR hB hC hc ce HB0 HN0
  simp only [List.length_cons, List.length_nil]
  go_wp2_with fail
  have HMC := Aside0.mk (many_any ⟨#[111, 117, 116]⟩ w1)
  rw [show manyP (⟨#[111, 117, 116]⟩ : ByteArray).toList = 2 by kernel_rfl] at HMC
  refine HMC.out.mono ?_
  clear HMC ce'
  rintro e w2 ⟨rfl, hB⟩
  have HB2 := Aside0.mk (below_seq HB1.out hB)
  have HN2 := Aside0.mk (blk_below HN1.out hB)
  clear hB HB1 HN1
  go_wp2_with fail
  obtain ⟨w3, hw3⟩ : ∃ w3, w3 = w2.alloc (.cells #[.slice none 0 0, .int .i64 0] 101) := ⟨_, rfl⟩
  rw [← hw3]
  have hb3 : Below w2.heap.size w2 w3 := by rw [hw3]; exact below_alloc (Below.refl _ _) _
  have hl3 : w3.heap[w2.heap.size]? = some (.cells #[.slice none 0 0, .int .i64 0] 101 (0, 0)) := by rw [hw3]; exact blk_new _ _
  have hz3 : w3.heap.size = w2.heap.size + 1 := by rw [hw3]; simp
  have HCC := Aside0.mk (orielref34_cut.calls 7000 s 2 _ w3 H2.out)
  refine HCC.out.mono ?_
  clear HCC hw3
  rintro e w4 ⟨v, rfl, hR, hB⟩
  have hbd := Kd.R_bound hR
  obtain ⟨g, cap, hv, -, -, -⟩ := Kd.R_form hR (by simp)
  subst hv
  have hg4 := hbd.1 g rfl
  have hC := (Kd.R_reads' hR).2.2
  have hl4 : w4.heap[w2.heap.size]? = some (.cells #[.slice none 0 0, .int .i64 0] 101 (0, 0)) := blk_below hl3 hB
  have hcells : ∀ i (hi : i < [⟨#[111, 117, 116]⟩, p0].length), w4.cell? ⟨g, 0 + i, none⟩ = some (.string ([⟨#[111, 117, 116]⟩, p0][i])) := by
    intro i hi
    obtain ⟨ad, hA, ce⟩ := Kd.at_string hC (i : Int) (by omega) (by have : i < 2 := hi; show (i : Int) < ((2 : Nat) : Int); omega)
    injection hA with hA
    subst hA
    rw [Int.toNat_natCast, add_plain] at ce
    rw [Nat.zero_add, ce, rdOf_nat hi]
  have hw4 : Below w.heap.size w w4 := below_seq (below_seq HB2.out hb3) hB
  have HGS := Aside0.mk (show g ≠ w2.heap.size ∧ g < w4.heap.size from ⟨by have := hg4.2.1; omega, hg4.2.2.1⟩)
  have HLL := Aside0.mk (show w2.heap.size < w4.heap.size from blk_lt hl4)
  have HCE := Aside0.mk hcells
  have HN4 := Aside0.mk (blk_below (blk_below HN2.out hb3) hB)
  have HB4 := Aside0.mk hw4
  have HL4 := Aside0.mk hl4
  have HW2 := Aside0.mk (blk_lt HN2.out)
  have r0 : w4.cell? ⟨w2.heap.size, 0, none⟩ = some (.slice none 0 0) := by rw [blk_cell hl4]; rfl
  have rf0 := blk_frozen hl4 0
  clear hR hB hC hbd hg4 hl3 hb3 hz3 hl4 hcells hw4 HB2 HN2
  simp only [List.length_cons, List.length_nil]
  go_wp2_with fail
  obtain ⟨w5, hw5⟩ : ∃ w5, w5 = (w4.setCell ⟨w2.heap.size, 0, none⟩ (.slice (some ⟨g, 0, none⟩) 2 cap)).alloc (.cells #[.int .i64 4, .int .i64 0, .int .i64 0, .int .i64 0, .int .i64 0, .int .i64 0, .slice none 0 0, .int .i64 0, .int .i64 0, .slice none 0 0] 54) := ⟨_, rfl⟩
  rw [← hw5]
  have hz5 : (w4.setCell ⟨w2.heap.size, 0, none⟩ (.slice (some ⟨g, 0, none⟩) 2 cap)).heap.size = w4.heap.size := set_size _ _ _
  have hgg : w5.heap[g]? = w4.heap[g]? := by
    rw [hw5, Lib.alloc_old _ _ g (by rw [hz5]; exact HGS.out.2)]
    exact Below.heap_setCell w4 ⟨w2.heap.size, 0, none⟩ _ g HGS.out.1
  have HR0 := Aside0.mk (show RSt w w2.heap.size w4.heap.size [⟨#[111, 117, 116]⟩, p0] 0 #[.int .i64 4, .int .i64 0, .int .i64 0, .int .i64 0, .int .i64 0, .int .i64 0, .slice none 0 0, .int .i64 0, .int .i64 0, .slice none 0 0] w5 from
    ⟨⟨g, 0, cap, by rw [hw5]; exact blk_alloc (blk_set HL4.out 0 _) _, HGS.out.1, by have := HGS.out.2; omega, by rw [hw5]; have := HGS.out.2; simp [set_size]; omega, fun i hi => by rw [cell_same hgg]; exact HCE.out i hi⟩,
      by rw [hw5]; exact blk_new_at hz5.symm,
      by rw [hw5]; refine blk_alloc ?_ _; rw [Below.heap_setCell w4 ⟨w2.heap.size, 0, none⟩ _ w.heap.size (by have := HW2.out; show w.heap.size ≠ w2.heap.size; omega)]; exact HN4.out,
      by rw [hw5]; exact below_alloc (HB4.out.setCell (p := ⟨w2.heap.size, 0, none⟩) (by have := HW2.out; show w.heap.size ≤ w2.heap.size; omega) _) _,
      HW2.out, HLL.out⟩)
  clear hz5 hgg hw5 r0 rf0 HGS HCE HN4 HB4 HL4 HW2 HLL
  have HCC := Aside0.mk (rtext_any w2.heap.size w4.heap.size [⟨#[111, 117, 116]⟩, p0] _ 1 1 0 1000 rfl (by simp) (show p0.size ≤ _ from HZ0.out) _ HR0.out.line)
  have HBW := Aside0.mk HR0.out.below.size
  have HEV := Aside0.mk (blk_lt HR0.out.ev)
  refine HCC.out.mono ?_
  clear HCC
  rintro e w6 ⟨v, xs, rfl, hx, hV, hL, hK⟩
  obtain ⟨A, cc, rfl⟩ := Kd.R_slice hV
  have HX := Aside0.mk (show ∀ u, textP p0 0 1000 = .ok u → xs = u.f1 from hx)
  have HV := Aside0.mk hV
  have HR1 := Aside0.mk (HR0.out.step hL hK)
  replace HR1 := Aside0.mk (show RSt w w2.heap.size w4.heap.size [⟨#[111, 117, 116]⟩, p0] (codeNext (0) p0 84) #[.int .i64 4, .int .i64 0, .int .i64 0, .int .i64 0, .int .i64 0, .int .i64 0, .slice none 0 0, .int .i64 0, .int .i64 0, .slice none 0 0] w6 from (text_next (p := p0) (kd := 84) rfl (0)) ▸ HR1.out)
  clear hx hV hL hK HR0
  have r : w6.cell? ⟨w4.heap.size, 9, none⟩ = some (.slice none 0 0) := by rw [blk_cell HR1.out.ev]; rfl
  have f := blk_frozen HR1.out.ev 9
  have HR2 := Aside0.mk (HR1.out.put 9 (.slice A xs.length cc))
  simp only [List.setIfInBounds_toArray, List.set_cons_zero, List.set_cons_succ] at HR2
  obtain ⟨cd, hcd⟩ : ∃ cd, cd = codeNext (0) p0 84 := ⟨_, rfl⟩
  have HCD := Aside0.mk (show cd = codes 0 [84] [p0] from hcd)
  rw [← hcd] at HR2
  clear hcd
  have q1 : (w6.setCell ⟨w4.heap.size, 9, none⟩ (.slice A xs.length cc)).cell? ⟨w2.heap.size, 1, none⟩ = some (.int .i64 cd) := HR2.out.code
  have hn1 : ¬ w2.heap.size = w.heap.size := by have := HR2.out.lt1; omega
  have hn2 : ¬ w4.heap.size = w.heap.size := by have := HR2.out.lt1; have := HR2.out.lt2; omega
  obtain ⟨z0, z1, z2, z3, z4, z5, z6, z7, z8, z9⟩ := cells10 HR2.out.zero
  have zf : ∀ j, (w6.setCell ⟨w4.heap.size, 9, none⟩ (.slice A xs.length cc)).frozen? ⟨w.heap.size, j, none⟩ = false := fun j => blk_frozen HR2.out.zero j
  cases hq : (cd == 0) with
  | false =>
    have HQ := Aside0.mk hq
    go_wp2_with fail
    go_region
    all_goals go_wp2
    refine bodyPost_ret (results_ct (u := 3) (p := 2) (ty := 54) rfl _ _ w.heap.size 54 _ (0, 0) _ rfl (by repeat (first | with_reducible exact HR2.out.zero | with_reducible apply blk_alloc | with_reducible apply blk_drewN | with_reducible apply blk_drew | with_reducible apply blk_set)) Tryd.underlying54 rfl (by exact info54s)) rfl ?_
    have hcr := HCD.out.trans (codes_read [84] [p0])
    cases hra : readAll [84] [p0] with
    | ok ws => rw [hra] at hcr; exact absurd hcr (beq_eq_false_iff_ne.1 HQ.out)
    | error x =>
      rw [hra] at hcr
      rw [hcr, formR_err hra]
      refine RLineRes.fail _ _ _ ?_
      (repeat (first | with_reducible exact HR2.out.below | with_reducible apply below_alloc | with_reducible apply pw_below_drewN | with_reducible apply below_drew | refine Below.setCell ?_ (by simp) _))
  | true =>
    have HQ := Aside0.mk hq
    obtain ⟨s0, s1, s2, s3, s4, s5, s6, s7, s8, s9⟩ := cells10 HR2.out.ev
    go_wp2_with fail
    refine bodyPost_ret (results_ct (u := 3) (p := 2) (ty := 54) rfl _ _ w.heap.size 54 _ (0, 0) _ rfl (by with_reducible exact blk_set10 HR2.out.zero _ _ _ _ _ _ _ _ _ _) Tryd.underlying54 rfl (by exact info54s)) rfl ?_
    have hcr := HCD.out.trans (codes_read [84] [p0])
    rw [beq_iff_eq.1 HQ.out] at hcr
    cases hra : readAll [84] [p0] with
    | error x => rw [hra] at hcr; exact absurd hcr.symm (code_ne x)
    | ok ws =>
      obtain ⟨v0, l0, hv0, hr0, hw0⟩ := readAll_cons hra
      have hnil := readAll_nil hr0
      have e0 : v0.f1 = xs := (HX.out _ hv0).symm
      have ez : v0.f0 = 0 := (text_back (show textP p0 0 1000 = .ok v0 from hv0)).2.1
      subst hnil
      subst hw0
      have hx : eventP [111, 117, 116] [v0] = ⟨4, 0, 0, 0, 0, ⟨0, [], 0, 0⟩, xs⟩ := by
        rw [← e0]
        simp [eventP, wd, z52, ez]
      rw [formR_ok hra, hx]
      refine ⟨[.int .i64 4, .int .i64 0, .int .i64 0, .int .i64 0, .int .i64 0, .int .i64 0, .slice none 0 0, .int .i64 0, .int .i64 0, .slice A xs.length cc], rfl, k54_mkM _ w.heap.size _ ⟨4, 0, 0, 0, 0, ⟨0, [], 0, 0⟩, xs⟩ (Kd.R_nil _ _ _ _ _) (R_fin HV.out HBW.out ?_), ?_⟩
      · intro k hk
        have hev := HEV.out
        have hlt1 := HR2.out.lt1
        have hlt2 := HR2.out.lt2
        have k1 : k ≠ w.heap.size := by omega
        have k2 : k ≠ w4.heap.size := by omega
        (repeat (first | with_reducible rfl | refine (Below.heap_setCell _ _ _ k k1).trans ?_ | refine (Below.heap_setCell _ _ _ k k2).trans ?_))
      · (repeat (first | with_reducible exact HR2.out.below | refine Below.setCell ?_ (by simp) _))
set_option maxHeartbeats 4000000 in
theorem rline_ask (s R p0 : ByteArray) (w : World) (h1 : orielref34_cut.f 7000 s 2 = some [⟨#[97, 115, 107]⟩, R]) (h2 : orielref34_cut.f 7000 s 2 = some [⟨#[97, 115, 107]⟩, p0]) :
    Calls Tryd.prog 28 #[.string s] w (RLineRes (formR [97, 115, 107] [73] [p0]) w) := by
  have H1 := Aside0.mk h1
  have H2 := Aside0.mk h2
  clear h1 h2 
  go_enter Tryd.func28, Tryd.ntmps28
  go_wp2_with fail
  obtain ⟨w0, hw0⟩ : ∃ w0, w0 = w.alloc (.cells #[.int .i64 0, .int .i64 0, .int .i64 0, .int .i64 0, .int .i64 0, .int .i64 0, .slice none 0 0, .int .i64 0, .int .i64 0, .slice none 0 0] 54) := ⟨_, rfl⟩
  rw [← hw0]
  have HN0 := Aside0.mk (show w0.heap[w.heap.size]? = some (.cells #[.int .i64 0, .int .i64 0, .int .i64 0, .int .i64 0, .int .i64 0, .int .i64 0, .slice none 0 0, .int .i64 0, .int .i64 0, .slice none 0 0] 54 (0, 0)) by rw [hw0]; exact blk_new _ _)
  have HB0 := Aside0.mk (show Below w.heap.size w w0 by rw [hw0]; exact below_alloc (Below.refl _ _) _)
  clear hw0
  have HCC := Aside0.mk (orielref34_cut.calls 7000 s 2 _ w0 H1.out)
  refine HCC.out.mono ?_
  clear HCC
  rintro e w1 ⟨v, rfl, hR, hB⟩
  obtain ⟨A, c, rfl, hc, hC⟩ := Kd.R_reads hR
  obtain ⟨ad, rfl, ce⟩ := Kd.at_string hC 0 (by decide) (by simp)
  have ce' : w1.cell? ad = some (.string ⟨#[97, 115, 107]⟩) := by
    have : ad.add (Int.toNat 0) = ad := by simp [Addr.add]
    rw [this] at ce
    exact ce
  have HB1 := Aside0.mk (below_seq HB0.out hB)
  have HN1 := Aside0.mk (blk_below HN0.out hB)
  clear hR hB hC hc ce HB0 HN0
  simp only [List.length_cons, List.length_nil]
  go_wp2_with fail
  have HMC := Aside0.mk (many_any ⟨#[97, 115, 107]⟩ w1)
  rw [show manyP (⟨#[97, 115, 107]⟩ : ByteArray).toList = 2 by kernel_rfl] at HMC
  refine HMC.out.mono ?_
  clear HMC ce'
  rintro e w2 ⟨rfl, hB⟩
  have HB2 := Aside0.mk (below_seq HB1.out hB)
  have HN2 := Aside0.mk (blk_below HN1.out hB)
  clear hB HB1 HN1
  go_wp2_with fail
  obtain ⟨w3, hw3⟩ : ∃ w3, w3 = w2.alloc (.cells #[.slice none 0 0, .int .i64 0] 101) := ⟨_, rfl⟩
  rw [← hw3]
  have hb3 : Below w2.heap.size w2 w3 := by rw [hw3]; exact below_alloc (Below.refl _ _) _
  have hl3 : w3.heap[w2.heap.size]? = some (.cells #[.slice none 0 0, .int .i64 0] 101 (0, 0)) := by rw [hw3]; exact blk_new _ _
  have hz3 : w3.heap.size = w2.heap.size + 1 := by rw [hw3]; simp
  have HCC := Aside0.mk (orielref34_cut.calls 7000 s 2 _ w3 H2.out)
  refine HCC.out.mono ?_
  clear HCC hw3
  rintro e w4 ⟨v, rfl, hR, hB⟩
  have hbd := Kd.R_bound hR
  obtain ⟨g, cap, hv, -, -, -⟩ := Kd.R_form hR (by simp)
  subst hv
  have hg4 := hbd.1 g rfl
  have hC := (Kd.R_reads' hR).2.2
  have hl4 : w4.heap[w2.heap.size]? = some (.cells #[.slice none 0 0, .int .i64 0] 101 (0, 0)) := blk_below hl3 hB
  have hcells : ∀ i (hi : i < [⟨#[97, 115, 107]⟩, p0].length), w4.cell? ⟨g, 0 + i, none⟩ = some (.string ([⟨#[97, 115, 107]⟩, p0][i])) := by
    intro i hi
    obtain ⟨ad, hA, ce⟩ := Kd.at_string hC (i : Int) (by omega) (by have : i < 2 := hi; show (i : Int) < ((2 : Nat) : Int); omega)
    injection hA with hA
    subst hA
    rw [Int.toNat_natCast, add_plain] at ce
    rw [Nat.zero_add, ce, rdOf_nat hi]
  have hw4 : Below w.heap.size w w4 := below_seq (below_seq HB2.out hb3) hB
  have HGS := Aside0.mk (show g ≠ w2.heap.size ∧ g < w4.heap.size from ⟨by have := hg4.2.1; omega, hg4.2.2.1⟩)
  have HLL := Aside0.mk (show w2.heap.size < w4.heap.size from blk_lt hl4)
  have HCE := Aside0.mk hcells
  have HN4 := Aside0.mk (blk_below (blk_below HN2.out hb3) hB)
  have HB4 := Aside0.mk hw4
  have HL4 := Aside0.mk hl4
  have HW2 := Aside0.mk (blk_lt HN2.out)
  have r0 : w4.cell? ⟨w2.heap.size, 0, none⟩ = some (.slice none 0 0) := by rw [blk_cell hl4]; rfl
  have rf0 := blk_frozen hl4 0
  clear hR hB hC hbd hg4 hl3 hb3 hz3 hl4 hcells hw4 HB2 HN2
  simp only [List.length_cons, List.length_nil]
  go_wp2_with fail
  obtain ⟨w5, hw5⟩ : ∃ w5, w5 = (w4.setCell ⟨w2.heap.size, 0, none⟩ (.slice (some ⟨g, 0, none⟩) 2 cap)).alloc (.cells #[.int .i64 5, .int .i64 0, .int .i64 0, .int .i64 0, .int .i64 0, .int .i64 3, .slice none 0 0, .int .i64 0, .int .i64 0, .slice none 0 0] 54) := ⟨_, rfl⟩
  rw [← hw5]
  have hz5 : (w4.setCell ⟨w2.heap.size, 0, none⟩ (.slice (some ⟨g, 0, none⟩) 2 cap)).heap.size = w4.heap.size := set_size _ _ _
  have hgg : w5.heap[g]? = w4.heap[g]? := by
    rw [hw5, Lib.alloc_old _ _ g (by rw [hz5]; exact HGS.out.2)]
    exact Below.heap_setCell w4 ⟨w2.heap.size, 0, none⟩ _ g HGS.out.1
  have HR0 := Aside0.mk (show RSt w w2.heap.size w4.heap.size [⟨#[97, 115, 107]⟩, p0] 0 #[.int .i64 5, .int .i64 0, .int .i64 0, .int .i64 0, .int .i64 0, .int .i64 3, .slice none 0 0, .int .i64 0, .int .i64 0, .slice none 0 0] w5 from
    ⟨⟨g, 0, cap, by rw [hw5]; exact blk_alloc (blk_set HL4.out 0 _) _, HGS.out.1, by have := HGS.out.2; omega, by rw [hw5]; have := HGS.out.2; simp [set_size]; omega, fun i hi => by rw [cell_same hgg]; exact HCE.out i hi⟩,
      by rw [hw5]; exact blk_new_at hz5.symm,
      by rw [hw5]; refine blk_alloc ?_ _; rw [Below.heap_setCell w4 ⟨w2.heap.size, 0, none⟩ _ w.heap.size (by have := HW2.out; show w.heap.size ≠ w2.heap.size; omega)]; exact HN4.out,
      by rw [hw5]; exact below_alloc (HB4.out.setCell (p := ⟨w2.heap.size, 0, none⟩) (by have := HW2.out; show w.heap.size ≤ w2.heap.size; omega) _) _,
      HW2.out, HLL.out⟩)
  clear hz5 hgg hw5 r0 rf0 HGS HCE HN4 HB4 HL4 HW2 HLL
  have HCC := Aside0.mk (rnum_any w2.heap.size w4.heap.size _ _ 1 1 1 8 rfl (by simp) 73 rfl _ HR0.out.line)
  refine HCC.out.mono ?_
  clear HCC
  rintro e w6 ⟨⟨n0, b0⟩, rfl, hN, hL, hK⟩
  have HK0 := Aside0.mk (num_next hN (by decide) (by decide) (by decide) (by decide) (0))
  have HR1 := Aside0.mk (HR0.out.step hL hK)
  replace HR1 := Aside0.mk (show RSt w w2.heap.size w4.heap.size [⟨#[97, 115, 107]⟩, p0] (codeNext (0) p0 73) #[.int .i64 5, .int .i64 0, .int .i64 0, .int .i64 0, .int .i64 0, .int .i64 3, .slice none 0 0, .int .i64 0, .int .i64 0, .slice none 0 0] w6 from HK0.out.1 ▸ HR1.out)
  clear hN hL hK HR0
  have r : w6.cell? ⟨w4.heap.size, 1, none⟩ = some (.int .i64 0) := by rw [blk_cell HR1.out.ev]; rfl
  have f := blk_frozen HR1.out.ev 1
  have HR2 := Aside0.mk (HR1.out.put 1 (.int .i64 n0))
  simp only [List.setIfInBounds_toArray, List.set_cons_zero, List.set_cons_succ] at HR2
  obtain ⟨cd, hcd⟩ : ∃ cd, cd = codeNext (0) p0 73 := ⟨_, rfl⟩
  have HCD := Aside0.mk (show cd = codes 0 [73] [p0] from hcd)
  rw [← hcd] at HR2
  clear hcd
  have q1 : (w6.setCell ⟨w4.heap.size, 1, none⟩ (.int .i64 n0)).cell? ⟨w2.heap.size, 1, none⟩ = some (.int .i64 cd) := HR2.out.code
  have hn1 : ¬ w2.heap.size = w.heap.size := by have := HR2.out.lt1; omega
  have hn2 : ¬ w4.heap.size = w.heap.size := by have := HR2.out.lt1; have := HR2.out.lt2; omega
  obtain ⟨z0, z1, z2, z3, z4, z5, z6, z7, z8, z9⟩ := cells10 HR2.out.zero
  have zf : ∀ j, (w6.setCell ⟨w4.heap.size, 1, none⟩ (.int .i64 n0)).frozen? ⟨w.heap.size, j, none⟩ = false := fun j => blk_frozen HR2.out.zero j
  cases hq : (cd == 0) with
  | false =>
    have HQ := Aside0.mk hq
    go_wp2_with fail
    go_region
    all_goals go_wp2
    refine bodyPost_ret (results_ct (u := 3) (p := 2) (ty := 54) rfl _ _ w.heap.size 54 _ (0, 0) _ rfl (by repeat (first | with_reducible exact HR2.out.zero | with_reducible apply blk_alloc | with_reducible apply blk_drewN | with_reducible apply blk_drew | with_reducible apply blk_set)) Tryd.underlying54 rfl (by exact info54s)) rfl ?_
    have hcr := HCD.out.trans (codes_read [73] [p0])
    cases hra : readAll [73] [p0] with
    | ok ws => rw [hra] at hcr; exact absurd hcr (beq_eq_false_iff_ne.1 HQ.out)
    | error x =>
      rw [hra] at hcr
      rw [hcr, formR_err hra]
      refine RLineRes.fail _ _ _ ?_
      (repeat (first | with_reducible exact HR2.out.below | with_reducible apply below_alloc | with_reducible apply pw_below_drewN | with_reducible apply below_drew | refine Below.setCell ?_ (by simp) _))
  | true =>
    have HQ := Aside0.mk hq
    obtain ⟨s0, s1, s2, s3, s4, s5, s6, s7, s8, s9⟩ := cells10 HR2.out.ev
    go_wp2_with fail
    refine bodyPost_ret (results_ct (u := 3) (p := 2) (ty := 54) rfl _ _ w.heap.size 54 _ (0, 0) _ rfl (by with_reducible exact blk_set10 HR2.out.zero _ _ _ _ _ _ _ _ _ _) Tryd.underlying54 rfl (by exact info54s)) rfl ?_
    have hcr := HCD.out.trans (codes_read [73] [p0])
    rw [beq_iff_eq.1 HQ.out] at hcr
    cases hra : readAll [73] [p0] with
    | error x => rw [hra] at hcr; exact absurd hcr.symm (code_ne x)
    | ok ws =>
      obtain ⟨v0, l0, hv0, hr0, hw0⟩ := readAll_cons hra
      have hnil := readAll_nil hr0
      have e0 : v0.f0 = n0 := HK0.out.2 _ hv0
      subst hnil
      subst hw0
      have hx : eventP [97, 115, 107] [v0] = ⟨5, n0, 0, 0, 0, ⟨3, [], 0, 0⟩, []⟩ := by
        rw [← e0]
        simp [eventP, wd, z52]
      rw [formR_ok hra, hx]
      refine ⟨[.int .i64 5, .int .i64 n0, .int .i64 0, .int .i64 0, .int .i64 0, .int .i64 3, .slice none 0 0, .int .i64 0, .int .i64 0, .slice none 0 0], rfl, k54_mkM _ w.heap.size _ ⟨5, n0, 0, 0, 0, ⟨3, [], 0, 0⟩, []⟩ (Kd.R_nil _ _ _ _ _) (Kd.R_nil _ _ _ _ _), ?_⟩
      · (repeat (first | with_reducible exact HR2.out.below | refine Below.setCell ?_ (by simp) _))
set_option maxHeartbeats 4000000 in
theorem rline_free (s R p0 : ByteArray) (w : World) (h1 : orielref34_cut.f 7000 s 2 = some [⟨#[102, 114, 101, 101]⟩, R]) (h2 : orielref34_cut.f 7000 s 2 = some [⟨#[102, 114, 101, 101]⟩, p0]) :
    Calls Tryd.prog 28 #[.string s] w (RLineRes (formR [102, 114, 101, 101] [73] [p0]) w) := by
  have H1 := Aside0.mk h1
  have H2 := Aside0.mk h2
  clear h1 h2 
  go_enter Tryd.func28, Tryd.ntmps28
  go_wp2_with fail
  obtain ⟨w0, hw0⟩ : ∃ w0, w0 = w.alloc (.cells #[.int .i64 0, .int .i64 0, .int .i64 0, .int .i64 0, .int .i64 0, .int .i64 0, .slice none 0 0, .int .i64 0, .int .i64 0, .slice none 0 0] 54) := ⟨_, rfl⟩
  rw [← hw0]
  have HN0 := Aside0.mk (show w0.heap[w.heap.size]? = some (.cells #[.int .i64 0, .int .i64 0, .int .i64 0, .int .i64 0, .int .i64 0, .int .i64 0, .slice none 0 0, .int .i64 0, .int .i64 0, .slice none 0 0] 54 (0, 0)) by rw [hw0]; exact blk_new _ _)
  have HB0 := Aside0.mk (show Below w.heap.size w w0 by rw [hw0]; exact below_alloc (Below.refl _ _) _)
  clear hw0
  have HCC := Aside0.mk (orielref34_cut.calls 7000 s 2 _ w0 H1.out)
  refine HCC.out.mono ?_
  clear HCC
  rintro e w1 ⟨v, rfl, hR, hB⟩
  obtain ⟨A, c, rfl, hc, hC⟩ := Kd.R_reads hR
  obtain ⟨ad, rfl, ce⟩ := Kd.at_string hC 0 (by decide) (by simp)
  have ce' : w1.cell? ad = some (.string ⟨#[102, 114, 101, 101]⟩) := by
    have : ad.add (Int.toNat 0) = ad := by simp [Addr.add]
    rw [this] at ce
    exact ce
  have HB1 := Aside0.mk (below_seq HB0.out hB)
  have HN1 := Aside0.mk (blk_below HN0.out hB)
  clear hR hB hC hc ce HB0 HN0
  simp only [List.length_cons, List.length_nil]
  go_wp2_with fail
  have HMC := Aside0.mk (many_any ⟨#[102, 114, 101, 101]⟩ w1)
  rw [show manyP (⟨#[102, 114, 101, 101]⟩ : ByteArray).toList = 2 by kernel_rfl] at HMC
  refine HMC.out.mono ?_
  clear HMC ce'
  rintro e w2 ⟨rfl, hB⟩
  have HB2 := Aside0.mk (below_seq HB1.out hB)
  have HN2 := Aside0.mk (blk_below HN1.out hB)
  clear hB HB1 HN1
  go_wp2_with fail
  obtain ⟨w3, hw3⟩ : ∃ w3, w3 = w2.alloc (.cells #[.slice none 0 0, .int .i64 0] 101) := ⟨_, rfl⟩
  rw [← hw3]
  have hb3 : Below w2.heap.size w2 w3 := by rw [hw3]; exact below_alloc (Below.refl _ _) _
  have hl3 : w3.heap[w2.heap.size]? = some (.cells #[.slice none 0 0, .int .i64 0] 101 (0, 0)) := by rw [hw3]; exact blk_new _ _
  have hz3 : w3.heap.size = w2.heap.size + 1 := by rw [hw3]; simp
  have HCC := Aside0.mk (orielref34_cut.calls 7000 s 2 _ w3 H2.out)
  refine HCC.out.mono ?_
  clear HCC hw3
  rintro e w4 ⟨v, rfl, hR, hB⟩
  have hbd := Kd.R_bound hR
  obtain ⟨g, cap, hv, -, -, -⟩ := Kd.R_form hR (by simp)
  subst hv
  have hg4 := hbd.1 g rfl
  have hC := (Kd.R_reads' hR).2.2
  have hl4 : w4.heap[w2.heap.size]? = some (.cells #[.slice none 0 0, .int .i64 0] 101 (0, 0)) := blk_below hl3 hB
  have hcells : ∀ i (hi : i < [⟨#[102, 114, 101, 101]⟩, p0].length), w4.cell? ⟨g, 0 + i, none⟩ = some (.string ([⟨#[102, 114, 101, 101]⟩, p0][i])) := by
    intro i hi
    obtain ⟨ad, hA, ce⟩ := Kd.at_string hC (i : Int) (by omega) (by have : i < 2 := hi; show (i : Int) < ((2 : Nat) : Int); omega)
    injection hA with hA
    subst hA
    rw [Int.toNat_natCast, add_plain] at ce
    rw [Nat.zero_add, ce, rdOf_nat hi]
  have hw4 : Below w.heap.size w w4 := below_seq (below_seq HB2.out hb3) hB
  have HGS := Aside0.mk (show g ≠ w2.heap.size ∧ g < w4.heap.size from ⟨by have := hg4.2.1; omega, hg4.2.2.1⟩)
  have HLL := Aside0.mk (show w2.heap.size < w4.heap.size from blk_lt hl4)
  have HCE := Aside0.mk hcells
  have HN4 := Aside0.mk (blk_below (blk_below HN2.out hb3) hB)
  have HB4 := Aside0.mk hw4
  have HL4 := Aside0.mk hl4
  have HW2 := Aside0.mk (blk_lt HN2.out)
  have r0 : w4.cell? ⟨w2.heap.size, 0, none⟩ = some (.slice none 0 0) := by rw [blk_cell hl4]; rfl
  have rf0 := blk_frozen hl4 0
  clear hR hB hC hbd hg4 hl3 hb3 hz3 hl4 hcells hw4 HB2 HN2
  simp only [List.length_cons, List.length_nil]
  go_wp2_with fail
  obtain ⟨w5, hw5⟩ : ∃ w5, w5 = (w4.setCell ⟨w2.heap.size, 0, none⟩ (.slice (some ⟨g, 0, none⟩) 2 cap)).alloc (.cells #[.int .i64 5, .int .i64 0, .int .i64 0, .int .i64 0, .int .i64 0, .int .i64 4, .slice none 0 0, .int .i64 0, .int .i64 0, .slice none 0 0] 54) := ⟨_, rfl⟩
  rw [← hw5]
  have hz5 : (w4.setCell ⟨w2.heap.size, 0, none⟩ (.slice (some ⟨g, 0, none⟩) 2 cap)).heap.size = w4.heap.size := set_size _ _ _
  have hgg : w5.heap[g]? = w4.heap[g]? := by
    rw [hw5, Lib.alloc_old _ _ g (by rw [hz5]; exact HGS.out.2)]
    exact Below.heap_setCell w4 ⟨w2.heap.size, 0, none⟩ _ g HGS.out.1
  have HR0 := Aside0.mk (show RSt w w2.heap.size w4.heap.size [⟨#[102, 114, 101, 101]⟩, p0] 0 #[.int .i64 5, .int .i64 0, .int .i64 0, .int .i64 0, .int .i64 0, .int .i64 4, .slice none 0 0, .int .i64 0, .int .i64 0, .slice none 0 0] w5 from
    ⟨⟨g, 0, cap, by rw [hw5]; exact blk_alloc (blk_set HL4.out 0 _) _, HGS.out.1, by have := HGS.out.2; omega, by rw [hw5]; have := HGS.out.2; simp [set_size]; omega, fun i hi => by rw [cell_same hgg]; exact HCE.out i hi⟩,
      by rw [hw5]; exact blk_new_at hz5.symm,
      by rw [hw5]; refine blk_alloc ?_ _; rw [Below.heap_setCell w4 ⟨w2.heap.size, 0, none⟩ _ w.heap.size (by have := HW2.out; show w.heap.size ≠ w2.heap.size; omega)]; exact HN4.out,
      by rw [hw5]; exact below_alloc (HB4.out.setCell (p := ⟨w2.heap.size, 0, none⟩) (by have := HW2.out; show w.heap.size ≤ w2.heap.size; omega) _) _,
      HW2.out, HLL.out⟩)
  clear hz5 hgg hw5 r0 rf0 HGS HCE HN4 HB4 HL4 HW2 HLL
  have HCC := Aside0.mk (rnum_any w2.heap.size w4.heap.size _ _ 1 1 1 8 rfl (by simp) 73 rfl _ HR0.out.line)
  refine HCC.out.mono ?_
  clear HCC
  rintro e w6 ⟨⟨n0, b0⟩, rfl, hN, hL, hK⟩
  have HK0 := Aside0.mk (num_next hN (by decide) (by decide) (by decide) (by decide) (0))
  have HR1 := Aside0.mk (HR0.out.step hL hK)
  replace HR1 := Aside0.mk (show RSt w w2.heap.size w4.heap.size [⟨#[102, 114, 101, 101]⟩, p0] (codeNext (0) p0 73) #[.int .i64 5, .int .i64 0, .int .i64 0, .int .i64 0, .int .i64 0, .int .i64 4, .slice none 0 0, .int .i64 0, .int .i64 0, .slice none 0 0] w6 from HK0.out.1 ▸ HR1.out)
  clear hN hL hK HR0
  have r : w6.cell? ⟨w4.heap.size, 1, none⟩ = some (.int .i64 0) := by rw [blk_cell HR1.out.ev]; rfl
  have f := blk_frozen HR1.out.ev 1
  have HR2 := Aside0.mk (HR1.out.put 1 (.int .i64 n0))
  simp only [List.setIfInBounds_toArray, List.set_cons_zero, List.set_cons_succ] at HR2
  obtain ⟨cd, hcd⟩ : ∃ cd, cd = codeNext (0) p0 73 := ⟨_, rfl⟩
  have HCD := Aside0.mk (show cd = codes 0 [73] [p0] from hcd)
  rw [← hcd] at HR2
  clear hcd
  have q1 : (w6.setCell ⟨w4.heap.size, 1, none⟩ (.int .i64 n0)).cell? ⟨w2.heap.size, 1, none⟩ = some (.int .i64 cd) := HR2.out.code
  have hn1 : ¬ w2.heap.size = w.heap.size := by have := HR2.out.lt1; omega
  have hn2 : ¬ w4.heap.size = w.heap.size := by have := HR2.out.lt1; have := HR2.out.lt2; omega
  obtain ⟨z0, z1, z2, z3, z4, z5, z6, z7, z8, z9⟩ := cells10 HR2.out.zero
  have zf : ∀ j, (w6.setCell ⟨w4.heap.size, 1, none⟩ (.int .i64 n0)).frozen? ⟨w.heap.size, j, none⟩ = false := fun j => blk_frozen HR2.out.zero j
  cases hq : (cd == 0) with
  | false =>
    have HQ := Aside0.mk hq
    go_wp2_with fail
    go_region
    all_goals go_wp2
    refine bodyPost_ret (results_ct (u := 3) (p := 2) (ty := 54) rfl _ _ w.heap.size 54 _ (0, 0) _ rfl (by repeat (first | with_reducible exact HR2.out.zero | with_reducible apply blk_alloc | with_reducible apply blk_drewN | with_reducible apply blk_drew | with_reducible apply blk_set)) Tryd.underlying54 rfl (by exact info54s)) rfl ?_
    have hcr := HCD.out.trans (codes_read [73] [p0])
    cases hra : readAll [73] [p0] with
    | ok ws => rw [hra] at hcr; exact absurd hcr (beq_eq_false_iff_ne.1 HQ.out)
    | error x =>
      rw [hra] at hcr
      rw [hcr, formR_err hra]
      refine RLineRes.fail _ _ _ ?_
      (repeat (first | with_reducible exact HR2.out.below | with_reducible apply below_alloc | with_reducible apply pw_below_drewN | with_reducible apply below_drew | refine Below.setCell ?_ (by simp) _))
  | true =>
    have HQ := Aside0.mk hq
    obtain ⟨s0, s1, s2, s3, s4, s5, s6, s7, s8, s9⟩ := cells10 HR2.out.ev
    go_wp2_with fail
    refine bodyPost_ret (results_ct (u := 3) (p := 2) (ty := 54) rfl _ _ w.heap.size 54 _ (0, 0) _ rfl (by with_reducible exact blk_set10 HR2.out.zero _ _ _ _ _ _ _ _ _ _) Tryd.underlying54 rfl (by exact info54s)) rfl ?_
    have hcr := HCD.out.trans (codes_read [73] [p0])
    rw [beq_iff_eq.1 HQ.out] at hcr
    cases hra : readAll [73] [p0] with
    | error x => rw [hra] at hcr; exact absurd hcr.symm (code_ne x)
    | ok ws =>
      obtain ⟨v0, l0, hv0, hr0, hw0⟩ := readAll_cons hra
      have hnil := readAll_nil hr0
      have e0 : v0.f0 = n0 := HK0.out.2 _ hv0
      subst hnil
      subst hw0
      have hx : eventP [102, 114, 101, 101] [v0] = ⟨5, n0, 0, 0, 0, ⟨4, [], 0, 0⟩, []⟩ := by
        rw [← e0]
        simp [eventP, wd, z52]
      rw [formR_ok hra, hx]
      refine ⟨[.int .i64 5, .int .i64 n0, .int .i64 0, .int .i64 0, .int .i64 0, .int .i64 4, .slice none 0 0, .int .i64 0, .int .i64 0, .slice none 0 0], rfl, k54_mkM _ w.heap.size _ ⟨5, n0, 0, 0, 0, ⟨4, [], 0, 0⟩, []⟩ (Kd.R_nil _ _ _ _ _) (Kd.R_nil _ _ _ _ _), ?_⟩
      · (repeat (first | with_reducible exact HR2.out.below | refine Below.setCell ?_ (by simp) _))
end Go.Proofs.YtjpkphmihkbfeaaDoor.S34
