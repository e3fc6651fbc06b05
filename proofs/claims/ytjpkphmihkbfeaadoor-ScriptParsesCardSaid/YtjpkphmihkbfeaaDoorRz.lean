/- orielref34.Line walked: size, spoil, move, forge. -/
import Derived.Test.YtjpkphmihkbfeaaDoorRw
namespace Go.Proofs.YtjpkphmihkbfeaaDoor.S34
open Go.RowKit Go.Proofs.YtjpkphmihkbfeaaDoorW.PrintWords Go.Proofs.YtjpkphmihkbfeaaDoorW.PrintLast Go.Proofs.YtjpkphmihkbfeaaDoorW.PrintMore Go.Proofs.YtjpkphmihkbfeaaDoor.Q
set_option maxRecDepth 100000
set_option linter.unusedSimpArgs false
set_option maxHeartbeats 4000000 in
theorem rline_size (s R p0 p1 p2 : ByteArray) (w : World) (h1 : orielref34_cut.f 7000 s 2 = some [⟨#[115, 105, 122, 101]⟩, R]) (h2 : orielref34_cut.f 7000 s 4 = some [⟨#[115, 105, 122, 101]⟩, p0, p1, p2]) :
    Calls Tryd.prog 28 #[.string s] w (RLineRes (formR [115, 105, 122, 101] [73, 87, 87] [p0, p1, p2]) w) := by
  have H1 := Aside0.mk h1
  have H2 := Aside0.mk h2
  clear h1 h2 
  go_enter Tryd.func28, Tryd.ntmps28
  go_wp2_with fail
  obtain ⟨w0, hw0⟩ : ∃ w0, w0 = w.alloc (.cells #[.int .i64 0, .int .i64 0, .int .i64 0, .int .i64 0, .int .i64 0, .int .i64 0, .slice none 0 0, .int .i64 0, .int .i64 0, .slice none 0 0] 54) := ⟨_, rfl⟩
  rw [← hw0]
  have HN0 := Aside0.mk (show w0.heap[w.heap.size]? = some (.cells #[.int .i64 0, .int .i64 0, .int .i64 0, .int .i64 0, .int .i64 0, .int .i64 0, .slice none 0 0, .int .i64 0, .int .i64 0, .slice none 0 0] 54 (0, 0)) by rw [hw0]; exact blk_new _ _)
  have HB0 := Aside0.mk (show Below w.heap.size w w0 by rw [hw0]; exact below_alloc (Below.refl _ _) _)
  clear hw0
  have HCC := Aside0.mk (orielref34_cut.calls 7000 s 2 _ w0 H1.out)
  refine HCC.out.mono ?_
  clear HCC
  rintro e w1 ⟨v, rfl, hR, hB⟩
  obtain ⟨A, c, rfl, hc, hC⟩ := Kd.R_reads hR
  obtain ⟨ad, rfl, ce⟩ := Kd.at_string hC 0 (by decide) (by simp)
  have ce' : w1.cell? ad = some (.string ⟨#[115, 105, 122, 101]⟩) := by
    have : ad.add (Int.toNat 0) = ad := by simp [Addr.add]
    rw [this] at ce
    exact ce
  have HB1 := Aside0.mk (below_seq HB0.out hB)
  have HN1 := Aside0.mk (blk_below HN0.out hB)
  clear hR hB hC hc ce HB0 HN0
  simp only [List.length_cons, List.length_nil]
  go_wp2_with fail
  have HMC := Aside0.mk (many_any ⟨#[115, 105, 122, 101]⟩ w1)
  rw [show manyP (⟨#[115, 105, 122, 101]⟩ : ByteArray).toList = 4 by kernel_rfl] at HMC
  refine HMC.out.mono ?_
  clear HMC ce'
  rintro e w2 ⟨rfl, hB⟩
  have HB2 := Aside0.mk (below_seq HB1.out hB)
  have HN2 := Aside0.mk (blk_below HN1.out hB)
  clear hB HB1 HN1
  go_wp2_with fail
  obtain ⟨w3, hw3⟩ : ∃ w3, w3 = w2.alloc (.cells #[.slice none 0 0, .int .i64 0] 101) := ⟨_, rfl⟩
  rw [← hw3]
  have hb3 : Below w2.heap.size w2 w3 := by rw [hw3]; exact below_alloc (Below.refl _ _) _
  have hl3 : w3.heap[w2.heap.size]? = some (.cells #[.slice none 0 0, .int .i64 0] 101 (0, 0)) := by rw [hw3]; exact blk_new _ _
  have hz3 : w3.heap.size = w2.heap.size + 1 := by rw [hw3]; simp
  have HCC := Aside0.mk (orielref34_cut.calls 7000 s 4 _ w3 H2.out)
  refine HCC.out.mono ?_
  clear HCC hw3
  rintro e w4 ⟨v, rfl, hR, hB⟩
  have hbd := Kd.R_bound hR
  obtain ⟨g, cap, hv, -, -, -⟩ := Kd.R_form hR (by simp)
  subst hv
  have hg4 := hbd.1 g rfl
  have hC := (Kd.R_reads' hR).2.2
  have hl4 : w4.heap[w2.heap.size]? = some (.cells #[.slice none 0 0, .int .i64 0] 101 (0, 0)) := blk_below hl3 hB
  have hcells : ∀ i (hi : i < [⟨#[115, 105, 122, 101]⟩, p0, p1, p2].length), w4.cell? ⟨g, 0 + i, none⟩ = some (.string ([⟨#[115, 105, 122, 101]⟩, p0, p1, p2][i])) := by
    intro i hi
    obtain ⟨ad, hA, ce⟩ := Kd.at_string hC (i : Int) (by omega) (by have : i < 4 := hi; show (i : Int) < ((4 : Nat) : Int); omega)
    injection hA with hA
    subst hA
    rw [Int.toNat_natCast, add_plain] at ce
    rw [Nat.zero_add, ce, rdOf_nat hi]
  have hw4 : Below w.heap.size w w4 := below_seq (below_seq HB2.out hb3) hB
  have HGS := Aside0.mk (show g ≠ w2.heap.size ∧ g < w4.heap.size from ⟨by have := hg4.2.1; omega, hg4.2.2.1⟩)
  have HLL := Aside0.mk (show w2.heap.size < w4.heap.size from blk_lt hl4)
  have HCE := Aside0.mk hcells
  have HN4 := Aside0.mk (blk_below (blk_below HN2.out hb3) hB)
  have HB4 := Aside0.mk hw4
  have HL4 := Aside0.mk hl4
  have HW2 := Aside0.mk (blk_lt HN2.out)
  have r0 : w4.cell? ⟨w2.heap.size, 0, none⟩ = some (.slice none 0 0) := by rw [blk_cell hl4]; rfl
  have rf0 := blk_frozen hl4 0
  clear hR hB hC hbd hg4 hl3 hb3 hz3 hl4 hcells hw4 HB2 HN2
  simp only [List.length_cons, List.length_nil]
  go_wp2_with fail
  obtain ⟨w5, hw5⟩ : ∃ w5, w5 = (w4.setCell ⟨w2.heap.size, 0, none⟩ (.slice (some ⟨g, 0, none⟩) 4 cap)).alloc (.cells #[.int .i64 5, .int .i64 0, .int .i64 0, .int .i64 0, .int .i64 0, .int .i64 2, .slice none 0 0, .int .i64 0, .int .i64 0, .slice none 0 0] 54) := ⟨_, rfl⟩
  rw [← hw5]
  have hz5 : (w4.setCell ⟨w2.heap.size, 0, none⟩ (.slice (some ⟨g, 0, none⟩) 4 cap)).heap.size = w4.heap.size := set_size _ _ _
  have hgg : w5.heap[g]? = w4.heap[g]? := by
    rw [hw5, Lib.alloc_old _ _ g (by rw [hz5]; exact HGS.out.2)]
    exact Below.heap_setCell w4 ⟨w2.heap.size, 0, none⟩ _ g HGS.out.1
  have HR0 := Aside0.mk (show RSt w w2.heap.size w4.heap.size [⟨#[115, 105, 122, 101]⟩, p0, p1, p2] 0 #[.int .i64 5, .int .i64 0, .int .i64 0, .int .i64 0, .int .i64 0, .int .i64 2, .slice none 0 0, .int .i64 0, .int .i64 0, .slice none 0 0] w5 from
    ⟨⟨g, 0, cap, by rw [hw5]; exact blk_alloc (blk_set HL4.out 0 _) _, HGS.out.1, by have := HGS.out.2; omega, by rw [hw5]; have := HGS.out.2; simp [set_size]; omega, fun i hi => by rw [cell_same hgg]; exact HCE.out i hi⟩,
      by rw [hw5]; exact blk_new_at hz5.symm,
      by rw [hw5]; refine blk_alloc ?_ _; rw [Below.heap_setCell w4 ⟨w2.heap.size, 0, none⟩ _ w.heap.size (by have := HW2.out; show w.heap.size ≠ w2.heap.size; omega)]; exact HN4.out,
      by rw [hw5]; exact below_alloc (HB4.out.setCell (p := ⟨w2.heap.size, 0, none⟩) (by have := HW2.out; show w.heap.size ≤ w2.heap.size; omega) _) _,
      HW2.out, HLL.out⟩)
  clear hz5 hgg hw5 r0 rf0 HGS HCE HN4 HB4 HL4 HW2 HLL
  have HCC := Aside0.mk (rnum_any w2.heap.size w4.heap.size _ _ 1 1 1 8 rfl (by simp) 73 rfl _ HR0.out.line)
  refine HCC.out.mono ?_
  clear HCC
  rintro e w6 ⟨⟨n0, b0⟩, rfl, hN, hL, hK⟩
  have HK0 := Aside0.mk (num_next hN (by decide) (by decide) (by decide) (by decide) (0))
  have HR1 := Aside0.mk (HR0.out.step hL hK)
  replace HR1 := Aside0.mk (show RSt w w2.heap.size w4.heap.size [⟨#[115, 105, 122, 101]⟩, p0, p1, p2] (codeNext (0) p0 73) #[.int .i64 5, .int .i64 0, .int .i64 0, .int .i64 0, .int .i64 0, .int .i64 2, .slice none 0 0, .int .i64 0, .int .i64 0, .slice none 0 0] w6 from HK0.out.1 ▸ HR1.out)
  clear hN hL hK HR0
  have r : w6.cell? ⟨w4.heap.size, 1, none⟩ = some (.int .i64 0) := by rw [blk_cell HR1.out.ev]; rfl
  have f := blk_frozen HR1.out.ev 1
  go_wp2_with fail
  have HR2 := Aside0.mk (HR1.out.put 1 (.int .i64 n0))
  simp only [List.setIfInBounds_toArray, List.set_cons_zero, List.set_cons_succ] at HR2
  clear r f HR1
  have HCC := Aside0.mk (rnum_any w2.heap.size w4.heap.size _ _ 2 2 1 1000 rfl (by simp) 87 rfl _ HR2.out.line)
  refine HCC.out.mono ?_
  clear HCC
  rintro e w7 ⟨⟨n1, b1⟩, rfl, hN, hL, hK⟩
  have HK1 := Aside0.mk (num_next hN (by decide) (by decide) (by decide) (by decide) (codeNext (0) p0 73))
  have HR3 := Aside0.mk (HR2.out.step hL hK)
  replace HR3 := Aside0.mk (show RSt w w2.heap.size w4.heap.size [⟨#[115, 105, 122, 101]⟩, p0, p1, p2] (codeNext (codeNext (0) p0 73) p1 87) #[.int .i64 5, .int .i64 n0, .int .i64 0, .int .i64 0, .int .i64 0, .int .i64 2, .slice none 0 0, .int .i64 0, .int .i64 0, .slice none 0 0] w7 from HK1.out.1 ▸ HR3.out)
  clear hN hL hK HR2
  have r : w7.cell? ⟨w4.heap.size, 7, none⟩ = some (.int .i64 0) := by rw [blk_cell HR3.out.ev]; rfl
  have f := blk_frozen HR3.out.ev 7
  go_wp2_with fail
  have HR4 := Aside0.mk (HR3.out.put 7 (.int .i64 n1))
  simp only [List.setIfInBounds_toArray, List.set_cons_zero, List.set_cons_succ] at HR4
  clear r f HR3
  have HCC := Aside0.mk (rnum_any w2.heap.size w4.heap.size _ _ 3 3 1 1000 rfl (by simp) 87 rfl _ HR4.out.line)
  refine HCC.out.mono ?_
  clear HCC
  rintro e w8 ⟨⟨n2, b2⟩, rfl, hN, hL, hK⟩
  have HK2 := Aside0.mk (num_next hN (by decide) (by decide) (by decide) (by decide) (codeNext (codeNext (0) p0 73) p1 87))
  have HR5 := Aside0.mk (HR4.out.step hL hK)
  replace HR5 := Aside0.mk (show RSt w w2.heap.size w4.heap.size [⟨#[115, 105, 122, 101]⟩, p0, p1, p2] (codeNext (codeNext (codeNext (0) p0 73) p1 87) p2 87) #[.int .i64 5, .int .i64 n0, .int .i64 0, .int .i64 0, .int .i64 0, .int .i64 2, .slice none 0 0, .int .i64 n1, .int .i64 0, .slice none 0 0] w8 from HK2.out.1 ▸ HR5.out)
  clear hN hL hK HR4
  have r : w8.cell? ⟨w4.heap.size, 8, none⟩ = some (.int .i64 0) := by rw [blk_cell HR5.out.ev]; rfl
  have f := blk_frozen HR5.out.ev 8
  have HR6 := Aside0.mk (HR5.out.put 8 (.int .i64 n2))
  simp only [List.setIfInBounds_toArray, List.set_cons_zero, List.set_cons_succ] at HR6
  obtain ⟨cd, hcd⟩ : ∃ cd, cd = codeNext (codeNext (codeNext (0) p0 73) p1 87) p2 87 := ⟨_, rfl⟩
  have HCD := Aside0.mk (show cd = codes 0 [73, 87, 87] [p0, p1, p2] from hcd)
  rw [← hcd] at HR6
  clear hcd
  have q1 : (w8.setCell ⟨w4.heap.size, 8, none⟩ (.int .i64 n2)).cell? ⟨w2.heap.size, 1, none⟩ = some (.int .i64 cd) := HR6.out.code
  have hn1 : ¬ w2.heap.size = w.heap.size := by have := HR6.out.lt1; omega
  have hn2 : ¬ w4.heap.size = w.heap.size := by have := HR6.out.lt1; have := HR6.out.lt2; omega
  obtain ⟨z0, z1, z2, z3, z4, z5, z6, z7, z8, z9⟩ := cells10 HR6.out.zero
  have zf : ∀ j, (w8.setCell ⟨w4.heap.size, 8, none⟩ (.int .i64 n2)).frozen? ⟨w.heap.size, j, none⟩ = false := fun j => blk_frozen HR6.out.zero j
  cases hq : (cd == 0) with
  | false =>
    have HQ := Aside0.mk hq
    go_wp2_with fail
    go_region
    all_goals go_wp2
    refine bodyPost_ret (results_ct (u := 3) (p := 2) (ty := 54) rfl _ _ w.heap.size 54 _ (0, 0) _ rfl (by repeat (first | with_reducible exact HR6.out.zero | with_reducible apply blk_alloc | with_reducible apply blk_drewN | with_reducible apply blk_drew | with_reducible apply blk_set)) Tryd.underlying54 rfl (by exact info54s)) rfl ?_
    have hcr := HCD.out.trans (codes_read [73, 87, 87] [p0, p1, p2])
    cases hra : readAll [73, 87, 87] [p0, p1, p2] with
    | ok ws => rw [hra] at hcr; exact absurd hcr (beq_eq_false_iff_ne.1 HQ.out)
    | error x =>
      rw [hra] at hcr
      rw [hcr, formR_err hra]
      refine RLineRes.fail _ _ _ ?_
      (repeat (first | with_reducible exact HR6.out.below | with_reducible apply below_alloc | with_reducible apply pw_below_drewN | with_reducible apply below_drew | refine Below.setCell ?_ (by simp) _))
  | true =>
    have HQ := Aside0.mk hq
    obtain ⟨s0, s1, s2, s3, s4, s5, s6, s7, s8, s9⟩ := cells10 HR6.out.ev
    go_wp2_with fail
    refine bodyPost_ret (results_ct (u := 3) (p := 2) (ty := 54) rfl _ _ w.heap.size 54 _ (0, 0) _ rfl (by with_reducible exact blk_set10 HR6.out.zero _ _ _ _ _ _ _ _ _ _) Tryd.underlying54 rfl (by exact info54s)) rfl ?_
    have hcr := HCD.out.trans (codes_read [73, 87, 87] [p0, p1, p2])
    rw [beq_iff_eq.1 HQ.out] at hcr
    cases hra : readAll [73, 87, 87] [p0, p1, p2] with
    | error x => rw [hra] at hcr; exact absurd hcr.symm (code_ne x)
    | ok ws =>
      obtain ⟨v0, l0, hv0, hr0, hw0⟩ := readAll_cons hra
      obtain ⟨v1, l1, hv1, hr1, hw1⟩ := readAll_cons hr0
      obtain ⟨v2, l2, hv2, hr2, hw2⟩ := readAll_cons hr1
      have hnil := readAll_nil hr2
      have e0 : v0.f0 = n0 := HK0.out.2 _ hv0
      have e1 : v1.f0 = n1 := HK1.out.2 _ hv1
      have e2 : v2.f0 = n2 := HK2.out.2 _ hv2
      subst hnil
      subst hw2
      subst hw1
      subst hw0
      have hx : eventP [115, 105, 122, 101] [v0, v1, v2] = ⟨5, n0, 0, 0, 0, ⟨2, [], n1, n2⟩, []⟩ := by
        rw [← e0, ← e1, ← e2]
        simp [eventP, wd, z52]
      rw [formR_ok hra, hx]
      refine ⟨[.int .i64 5, .int .i64 n0, .int .i64 0, .int .i64 0, .int .i64 0, .int .i64 2, .slice none 0 0, .int .i64 n1, .int .i64 n2, .slice none 0 0], rfl, k54_mkM _ w.heap.size _ ⟨5, n0, 0, 0, 0, ⟨2, [], n1, n2⟩, []⟩ (Kd.R_nil _ _ _ _ _) (Kd.R_nil _ _ _ _ _), ?_⟩
      · (repeat (first | with_reducible exact HR6.out.below | refine Below.setCell ?_ (by simp) _))
set_option maxHeartbeats 4000000 in
theorem rline_spoil (s R p0 p1 : ByteArray) (w : World) (h1 : orielref34_cut.f 7000 s 2 = some [⟨#[115, 112, 111, 105, 108]⟩, R]) (h2 : orielref34_cut.f 7000 s 3 = some [⟨#[115, 112, 111, 105, 108]⟩, p0, p1]) :
    Calls Tryd.prog 28 #[.string s] w (RLineRes (formR [115, 112, 111, 105, 108] [80, 88] [p0, p1]) w) := by
  have H1 := Aside0.mk h1
  have H2 := Aside0.mk h2
  clear h1 h2 
  go_enter Tryd.func28, Tryd.ntmps28
  go_wp2_with fail
  obtain ⟨w0, hw0⟩ : ∃ w0, w0 = w.alloc (.cells #[.int .i64 0, .int .i64 0, .int .i64 0, .int .i64 0, .int .i64 0, .int .i64 0, .slice none 0 0, .int .i64 0, .int .i64 0, .slice none 0 0] 54) := ⟨_, rfl⟩
  rw [← hw0]
  have HN0 := Aside0.mk (show w0.heap[w.heap.size]? = some (.cells #[.int .i64 0, .int .i64 0, .int .i64 0, .int .i64 0, .int .i64 0, .int .i64 0, .slice none 0 0, .int .i64 0, .int .i64 0, .slice none 0 0] 54 (0, 0)) by rw [hw0]; exact blk_new _ _)
  have HB0 := Aside0.mk (show Below w.heap.size w w0 by rw [hw0]; exact below_alloc (Below.refl _ _) _)
  clear hw0
  have HCC := Aside0.mk (orielref34_cut.calls 7000 s 2 _ w0 H1.out)
  refine HCC.out.mono ?_
  clear HCC
  rintro e w1 ⟨v, rfl, hR, hB⟩
  obtain ⟨A, c, rfl, hc, hC⟩ := Kd.R_reads hR
  obtain ⟨ad, rfl, ce⟩ := Kd.at_string hC 0 (by decide) (by simp)
  have ce' : w1.cell? ad = some (.string ⟨#[115, 112, 111, 105, 108]⟩) := by
    have : ad.add (Int.toNat 0) = ad := by simp [Addr.add]
    rw [this] at ce
    exact ce
  have HB1 := Aside0.mk (below_seq HB0.out hB)
  have HN1 := Aside0.mk (blk_below HN0.out hB)
  clear hR hB hC hc ce HB0 HN0
  simp only [List.length_cons, List.length_nil]
  go_wp2_with fail
  have HMC := Aside0.mk (many_any ⟨#[115, 112, 111, 105, 108]⟩ w1)
  rw [show manyP (⟨#[115, 112, 111, 105, 108]⟩ : ByteArray).toList = 3 by kernel_rfl] at HMC
  refine HMC.out.mono ?_
  clear HMC ce'
  rintro e w2 ⟨rfl, hB⟩
  have HB2 := Aside0.mk (below_seq HB1.out hB)
  have HN2 := Aside0.mk (blk_below HN1.out hB)
  clear hB HB1 HN1
  go_wp2_with fail
  obtain ⟨w3, hw3⟩ : ∃ w3, w3 = w2.alloc (.cells #[.slice none 0 0, .int .i64 0] 101) := ⟨_, rfl⟩
  rw [← hw3]
  have hb3 : Below w2.heap.size w2 w3 := by rw [hw3]; exact below_alloc (Below.refl _ _) _
  have hl3 : w3.heap[w2.heap.size]? = some (.cells #[.slice none 0 0, .int .i64 0] 101 (0, 0)) := by rw [hw3]; exact blk_new _ _
  have hz3 : w3.heap.size = w2.heap.size + 1 := by rw [hw3]; simp
  have HCC := Aside0.mk (orielref34_cut.calls 7000 s 3 _ w3 H2.out)
  refine HCC.out.mono ?_
  clear HCC hw3
  rintro e w4 ⟨v, rfl, hR, hB⟩
  have hbd := Kd.R_bound hR
  obtain ⟨g, cap, hv, -, -, -⟩ := Kd.R_form hR (by simp)
  subst hv
  have hg4 := hbd.1 g rfl
  have hC := (Kd.R_reads' hR).2.2
  have hl4 : w4.heap[w2.heap.size]? = some (.cells #[.slice none 0 0, .int .i64 0] 101 (0, 0)) := blk_below hl3 hB
  have hcells : ∀ i (hi : i < [⟨#[115, 112, 111, 105, 108]⟩, p0, p1].length), w4.cell? ⟨g, 0 + i, none⟩ = some (.string ([⟨#[115, 112, 111, 105, 108]⟩, p0, p1][i])) := by
    intro i hi
    obtain ⟨ad, hA, ce⟩ := Kd.at_string hC (i : Int) (by omega) (by have : i < 3 := hi; show (i : Int) < ((3 : Nat) : Int); omega)
    injection hA with hA
    subst hA
    rw [Int.toNat_natCast, add_plain] at ce
    rw [Nat.zero_add, ce, rdOf_nat hi]
  have hw4 : Below w.heap.size w w4 := below_seq (below_seq HB2.out hb3) hB
  have HGS := Aside0.mk (show g ≠ w2.heap.size ∧ g < w4.heap.size from ⟨by have := hg4.2.1; omega, hg4.2.2.1⟩)
  have HLL := Aside0.mk (show w2.heap.size < w4.heap.size from blk_lt hl4)
  have HCE := Aside0.mk hcells
  have HN4 := Aside0.mk (blk_below (blk_below HN2.out hb3) hB)
  have HB4 := Aside0.mk hw4
  have HL4 := Aside0.mk hl4
  have HW2 := Aside0.mk (blk_lt HN2.out)
  have r0 : w4.cell? ⟨w2.heap.size, 0, none⟩ = some (.slice none 0 0) := by rw [blk_cell hl4]; rfl
  have rf0 := blk_frozen hl4 0
  clear hR hB hC hbd hg4 hl3 hb3 hz3 hl4 hcells hw4 HB2 HN2
  simp only [List.length_cons, List.length_nil]
  go_wp2_with fail
  obtain ⟨w5, hw5⟩ : ∃ w5, w5 = (w4.setCell ⟨w2.heap.size, 0, none⟩ (.slice (some ⟨g, 0, none⟩) 3 cap)).alloc (.cells #[.int .i64 8, .int .i64 0, .int .i64 0, .int .i64 0, .int .i64 0, .int .i64 0, .slice none 0 0, .int .i64 0, .int .i64 0, .slice none 0 0] 54) := ⟨_, rfl⟩
  rw [← hw5]
  have hz5 : (w4.setCell ⟨w2.heap.size, 0, none⟩ (.slice (some ⟨g, 0, none⟩) 3 cap)).heap.size = w4.heap.size := set_size _ _ _
  have hgg : w5.heap[g]? = w4.heap[g]? := by
    rw [hw5, Lib.alloc_old _ _ g (by rw [hz5]; exact HGS.out.2)]
    exact Below.heap_setCell w4 ⟨w2.heap.size, 0, none⟩ _ g HGS.out.1
  have HR0 := Aside0.mk (show RSt w w2.heap.size w4.heap.size [⟨#[115, 112, 111, 105, 108]⟩, p0, p1] 0 #[.int .i64 8, .int .i64 0, .int .i64 0, .int .i64 0, .int .i64 0, .int .i64 0, .slice none 0 0, .int .i64 0, .int .i64 0, .slice none 0 0] w5 from
    ⟨⟨g, 0, cap, by rw [hw5]; exact blk_alloc (blk_set HL4.out 0 _) _, HGS.out.1, by have := HGS.out.2; omega, by rw [hw5]; have := HGS.out.2; simp [set_size]; omega, fun i hi => by rw [cell_same hgg]; exact HCE.out i hi⟩,
      by rw [hw5]; exact blk_new_at hz5.symm,
      by rw [hw5]; refine blk_alloc ?_ _; rw [Below.heap_setCell w4 ⟨w2.heap.size, 0, none⟩ _ w.heap.size (by have := HW2.out; show w.heap.size ≠ w2.heap.size; omega)]; exact HN4.out,
      by rw [hw5]; exact below_alloc (HB4.out.setCell (p := ⟨w2.heap.size, 0, none⟩) (by have := HW2.out; show w.heap.size ≤ w2.heap.size; omega) _) _,
      HW2.out, HLL.out⟩)
  clear hz5 hgg hw5 r0 rf0 HGS HCE HN4 HB4 HL4 HW2 HLL
  have HCC := Aside0.mk (rnum_any w2.heap.size w4.heap.size _ _ 1 1 0 1073741824 rfl (by simp) 80 rfl _ HR0.out.line)
  refine HCC.out.mono ?_
  clear HCC
  rintro e w6 ⟨⟨n0, b0⟩, rfl, hN, hL, hK⟩
  have HK0 := Aside0.mk (num_next hN (by decide) (by decide) (by decide) (by decide) (0))
  have HR1 := Aside0.mk (HR0.out.step hL hK)
  replace HR1 := Aside0.mk (show RSt w w2.heap.size w4.heap.size [⟨#[115, 112, 111, 105, 108]⟩, p0, p1] (codeNext (0) p0 80) #[.int .i64 8, .int .i64 0, .int .i64 0, .int .i64 0, .int .i64 0, .int .i64 0, .slice none 0 0, .int .i64 0, .int .i64 0, .slice none 0 0] w6 from HK0.out.1 ▸ HR1.out)
  clear hN hL hK HR0
  have r : w6.cell? ⟨w4.heap.size, 2, none⟩ = some (.int .i64 0) := by rw [blk_cell HR1.out.ev]; rfl
  have f := blk_frozen HR1.out.ev 2
  go_wp2_with fail
  have HR2 := Aside0.mk (HR1.out.put 2 (.int .i64 n0))
  simp only [List.setIfInBounds_toArray, List.set_cons_zero, List.set_cons_succ] at HR2
  clear r f HR1
  have HCC := Aside0.mk (rnum_any w2.heap.size w4.heap.size _ _ 2 2 1 255 rfl (by simp) 88 rfl _ HR2.out.line)
  refine HCC.out.mono ?_
  clear HCC
  rintro e w7 ⟨⟨n1, b1⟩, rfl, hN, hL, hK⟩
  have HK1 := Aside0.mk (num_next hN (by decide) (by decide) (by decide) (by decide) (codeNext (0) p0 80))
  have HR3 := Aside0.mk (HR2.out.step hL hK)
  replace HR3 := Aside0.mk (show RSt w w2.heap.size w4.heap.size [⟨#[115, 112, 111, 105, 108]⟩, p0, p1] (codeNext (codeNext (0) p0 80) p1 88) #[.int .i64 8, .int .i64 0, .int .i64 n0, .int .i64 0, .int .i64 0, .int .i64 0, .slice none 0 0, .int .i64 0, .int .i64 0, .slice none 0 0] w7 from HK1.out.1 ▸ HR3.out)
  clear hN hL hK HR2
  have r : w7.cell? ⟨w4.heap.size, 3, none⟩ = some (.int .i64 0) := by rw [blk_cell HR3.out.ev]; rfl
  have f := blk_frozen HR3.out.ev 3
  have HR4 := Aside0.mk (HR3.out.put 3 (.int .i64 n1))
  simp only [List.setIfInBounds_toArray, List.set_cons_zero, List.set_cons_succ] at HR4
  obtain ⟨cd, hcd⟩ : ∃ cd, cd = codeNext (codeNext (0) p0 80) p1 88 := ⟨_, rfl⟩
  have HCD := Aside0.mk (show cd = codes 0 [80, 88] [p0, p1] from hcd)
  rw [← hcd] at HR4
  clear hcd
  have q1 : (w7.setCell ⟨w4.heap.size, 3, none⟩ (.int .i64 n1)).cell? ⟨w2.heap.size, 1, none⟩ = some (.int .i64 cd) := HR4.out.code
  have hn1 : ¬ w2.heap.size = w.heap.size := by have := HR4.out.lt1; omega
  have hn2 : ¬ w4.heap.size = w.heap.size := by have := HR4.out.lt1; have := HR4.out.lt2; omega
  obtain ⟨z0, z1, z2, z3, z4, z5, z6, z7, z8, z9⟩ := cells10 HR4.out.zero
  have zf : ∀ j, (w7.setCell ⟨w4.heap.size, 3, none⟩ (.int .i64 n1)).frozen? ⟨w.heap.size, j, none⟩ = false := fun j => blk_frozen HR4.out.zero j
  cases hq : (cd == 0) with
  | false =>
    have HQ := Aside0.mk hq
    go_wp2_with fail
    go_region
    all_goals go_wp2
    refine bodyPost_ret (results_ct (u := 3) (p := 2) (ty := 54) rfl _ _ w.heap.size 54 _ (0, 0) _ rfl (by repeat (first | with_reducible exact HR4.out.zero | with_reducible apply blk_alloc | with_reducible apply blk_drewN | with_reducible apply blk_drew | with_reducible apply blk_set)) Tryd.underlying54 rfl (by exact info54s)) rfl ?_
    have hcr := HCD.out.trans (codes_read [80, 88] [p0, p1])
    cases hra : readAll [80, 88] [p0, p1] with
    | ok ws => rw [hra] at hcr; exact absurd hcr (beq_eq_false_iff_ne.1 HQ.out)
    | error x =>
      rw [hra] at hcr
      rw [hcr, formR_err hra]
      refine RLineRes.fail _ _ _ ?_
      (repeat (first | with_reducible exact HR4.out.below | with_reducible apply below_alloc | with_reducible apply pw_below_drewN | with_reducible apply below_drew | refine Below.setCell ?_ (by simp) _))
  | true =>
    have HQ := Aside0.mk hq
    obtain ⟨s0, s1, s2, s3, s4, s5, s6, s7, s8, s9⟩ := cells10 HR4.out.ev
    go_wp2_with fail
    refine bodyPost_ret (results_ct (u := 3) (p := 2) (ty := 54) rfl _ _ w.heap.size 54 _ (0, 0) _ rfl (by with_reducible exact blk_set10 HR4.out.zero _ _ _ _ _ _ _ _ _ _) Tryd.underlying54 rfl (by exact info54s)) rfl ?_
    have hcr := HCD.out.trans (codes_read [80, 88] [p0, p1])
    rw [beq_iff_eq.1 HQ.out] at hcr
    cases hra : readAll [80, 88] [p0, p1] with
    | error x => rw [hra] at hcr; exact absurd hcr.symm (code_ne x)
    | ok ws =>
      obtain ⟨v0, l0, hv0, hr0, hw0⟩ := readAll_cons hra
      obtain ⟨v1, l1, hv1, hr1, hw1⟩ := readAll_cons hr0
      have hnil := readAll_nil hr1
      have e0 : v0.f0 = n0 := HK0.out.2 _ hv0
      have e1 : v1.f0 = n1 := HK1.out.2 _ hv1
      subst hnil
      subst hw1
      subst hw0
      have hx : eventP [115, 112, 111, 105, 108] [v0, v1] = ⟨8, 0, n0, n1, 0, ⟨0, [], 0, 0⟩, []⟩ := by
        rw [← e0, ← e1]
        simp [eventP, wd, z52]
      rw [formR_ok hra, hx]
      refine ⟨[.int .i64 8, .int .i64 0, .int .i64 n0, .int .i64 n1, .int .i64 0, .int .i64 0, .slice none 0 0, .int .i64 0, .int .i64 0, .slice none 0 0], rfl, k54_mkM _ w.heap.size _ ⟨8, 0, n0, n1, 0, ⟨0, [], 0, 0⟩, []⟩ (Kd.R_nil _ _ _ _ _) (Kd.R_nil _ _ _ _ _), ?_⟩
      · (repeat (first | with_reducible exact HR4.out.below | refine Below.setCell ?_ (by simp) _))
set_option maxHeartbeats 4000000 in
theorem rline_move (s R p0 p1 : ByteArray) (w : World) (h1 : orielref34_cut.f 7000 s 2 = some [⟨#[109, 111, 118, 101]⟩, R]) (h2 : orielref34_cut.f 7000 s 3 = some [⟨#[109, 111, 118, 101]⟩, p0, p1]) :
    Calls Tryd.prog 28 #[.string s] w (RLineRes (formR [109, 111, 118, 101] [73, 65] [p0, p1]) w) := by
  have H1 := Aside0.mk h1
  have H2 := Aside0.mk h2
  clear h1 h2 
  go_enter Tryd.func28, Tryd.ntmps28
  go_wp2_with fail
  obtain ⟨w0, hw0⟩ : ∃ w0, w0 = w.alloc (.cells #[.int .i64 0, .int .i64 0, .int .i64 0, .int .i64 0, .int .i64 0, .int .i64 0, .slice none 0 0, .int .i64 0, .int .i64 0, .slice none 0 0] 54) := ⟨_, rfl⟩
  rw [← hw0]
  have HN0 := Aside0.mk (show w0.heap[w.heap.size]? = some (.cells #[.int .i64 0, .int .i64 0, .int .i64 0, .int .i64 0, .int .i64 0, .int .i64 0, .slice none 0 0, .int .i64 0, .int .i64 0, .slice none 0 0] 54 (0, 0)) by rw [hw0]; exact blk_new _ _)
  have HB0 := Aside0.mk (show Below w.heap.size w w0 by rw [hw0]; exact below_alloc (Below.refl _ _) _)
  clear hw0
  have HCC := Aside0.mk (orielref34_cut.calls 7000 s 2 _ w0 H1.out)
  refine HCC.out.mono ?_
  clear HCC
  rintro e w1 ⟨v, rfl, hR, hB⟩
  obtain ⟨A, c, rfl, hc, hC⟩ := Kd.R_reads hR
  obtain ⟨ad, rfl, ce⟩ := Kd.at_string hC 0 (by decide) (by simp)
  have ce' : w1.cell? ad = some (.string ⟨#[109, 111, 118, 101]⟩) := by
    have : ad.add (Int.toNat 0) = ad := by simp [Addr.add]
    rw [this] at ce
    exact ce
  have HB1 := Aside0.mk (below_seq HB0.out hB)
  have HN1 := Aside0.mk (blk_below HN0.out hB)
  clear hR hB hC hc ce HB0 HN0
  simp only [List.length_cons, List.length_nil]
  go_wp2_with fail
  have HMC := Aside0.mk (many_any ⟨#[109, 111, 118, 101]⟩ w1)
  rw [show manyP (⟨#[109, 111, 118, 101]⟩ : ByteArray).toList = 3 by kernel_rfl] at HMC
  refine HMC.out.mono ?_
  clear HMC ce'
  rintro e w2 ⟨rfl, hB⟩
  have HB2 := Aside0.mk (below_seq HB1.out hB)
  have HN2 := Aside0.mk (blk_below HN1.out hB)
  clear hB HB1 HN1
  go_wp2_with fail
  obtain ⟨w3, hw3⟩ : ∃ w3, w3 = w2.alloc (.cells #[.slice none 0 0, .int .i64 0] 101) := ⟨_, rfl⟩
  rw [← hw3]
  have hb3 : Below w2.heap.size w2 w3 := by rw [hw3]; exact below_alloc (Below.refl _ _) _
  have hl3 : w3.heap[w2.heap.size]? = some (.cells #[.slice none 0 0, .int .i64 0] 101 (0, 0)) := by rw [hw3]; exact blk_new _ _
  have hz3 : w3.heap.size = w2.heap.size + 1 := by rw [hw3]; simp
  have HCC := Aside0.mk (orielref34_cut.calls 7000 s 3 _ w3 H2.out)
  refine HCC.out.mono ?_
  clear HCC hw3
  rintro e w4 ⟨v, rfl, hR, hB⟩
  have hbd := Kd.R_bound hR
  obtain ⟨g, cap, hv, -, -, -⟩ := Kd.R_form hR (by simp)
  subst hv
  have hg4 := hbd.1 g rfl
  have hC := (Kd.R_reads' hR).2.2
  have hl4 : w4.heap[w2.heap.size]? = some (.cells #[.slice none 0 0, .int .i64 0] 101 (0, 0)) := blk_below hl3 hB
  have hcells : ∀ i (hi : i < [⟨#[109, 111, 118, 101]⟩, p0, p1].length), w4.cell? ⟨g, 0 + i, none⟩ = some (.string ([⟨#[109, 111, 118, 101]⟩, p0, p1][i])) := by
    intro i hi
    obtain ⟨ad, hA, ce⟩ := Kd.at_string hC (i : Int) (by omega) (by have : i < 3 := hi; show (i : Int) < ((3 : Nat) : Int); omega)
    injection hA with hA
    subst hA
    rw [Int.toNat_natCast, add_plain] at ce
    rw [Nat.zero_add, ce, rdOf_nat hi]
  have hw4 : Below w.heap.size w w4 := below_seq (below_seq HB2.out hb3) hB
  have HGS := Aside0.mk (show g ≠ w2.heap.size ∧ g < w4.heap.size from ⟨by have := hg4.2.1; omega, hg4.2.2.1⟩)
  have HLL := Aside0.mk (show w2.heap.size < w4.heap.size from blk_lt hl4)
  have HCE := Aside0.mk hcells
  have HN4 := Aside0.mk (blk_below (blk_below HN2.out hb3) hB)
  have HB4 := Aside0.mk hw4
  have HL4 := Aside0.mk hl4
  have HW2 := Aside0.mk (blk_lt HN2.out)
  have r0 : w4.cell? ⟨w2.heap.size, 0, none⟩ = some (.slice none 0 0) := by rw [blk_cell hl4]; rfl
  have rf0 := blk_frozen hl4 0
  clear hR hB hC hbd hg4 hl3 hb3 hz3 hl4 hcells hw4 HB2 HN2
  simp only [List.length_cons, List.length_nil]
  go_wp2_with fail
  obtain ⟨w5, hw5⟩ : ∃ w5, w5 = (w4.setCell ⟨w2.heap.size, 0, none⟩ (.slice (some ⟨g, 0, none⟩) 3 cap)).alloc (.cells #[.int .i64 9, .int .i64 0, .int .i64 0, .int .i64 0, .int .i64 0, .int .i64 0, .slice none 0 0, .int .i64 0, .int .i64 0, .slice none 0 0] 54) := ⟨_, rfl⟩
  rw [← hw5]
  have hz5 : (w4.setCell ⟨w2.heap.size, 0, none⟩ (.slice (some ⟨g, 0, none⟩) 3 cap)).heap.size = w4.heap.size := set_size _ _ _
  have hgg : w5.heap[g]? = w4.heap[g]? := by
    rw [hw5, Lib.alloc_old _ _ g (by rw [hz5]; exact HGS.out.2)]
    exact Below.heap_setCell w4 ⟨w2.heap.size, 0, none⟩ _ g HGS.out.1
  have HR0 := Aside0.mk (show RSt w w2.heap.size w4.heap.size [⟨#[109, 111, 118, 101]⟩, p0, p1] 0 #[.int .i64 9, .int .i64 0, .int .i64 0, .int .i64 0, .int .i64 0, .int .i64 0, .slice none 0 0, .int .i64 0, .int .i64 0, .slice none 0 0] w5 from
    ⟨⟨g, 0, cap, by rw [hw5]; exact blk_alloc (blk_set HL4.out 0 _) _, HGS.out.1, by have := HGS.out.2; omega, by rw [hw5]; have := HGS.out.2; simp [set_size]; omega, fun i hi => by rw [cell_same hgg]; exact HCE.out i hi⟩,
      by rw [hw5]; exact blk_new_at hz5.symm,
      by rw [hw5]; refine blk_alloc ?_ _; rw [Below.heap_setCell w4 ⟨w2.heap.size, 0, none⟩ _ w.heap.size (by have := HW2.out; show w.heap.size ≠ w2.heap.size; omega)]; exact HN4.out,
      by rw [hw5]; exact below_alloc (HB4.out.setCell (p := ⟨w2.heap.size, 0, none⟩) (by have := HW2.out; show w.heap.size ≤ w2.heap.size; omega) _) _,
      HW2.out, HLL.out⟩)
  clear hz5 hgg hw5 r0 rf0 HGS HCE HN4 HB4 HL4 HW2 HLL
  have HCC := Aside0.mk (rnum_any w2.heap.size w4.heap.size _ _ 1 1 1 8 rfl (by simp) 73 rfl _ HR0.out.line)
  refine HCC.out.mono ?_
  clear HCC
  rintro e w6 ⟨⟨n0, b0⟩, rfl, hN, hL, hK⟩
  have HK0 := Aside0.mk (num_next hN (by decide) (by decide) (by decide) (by decide) (0))
  have HR1 := Aside0.mk (HR0.out.step hL hK)
  replace HR1 := Aside0.mk (show RSt w w2.heap.size w4.heap.size [⟨#[109, 111, 118, 101]⟩, p0, p1] (codeNext (0) p0 73) #[.int .i64 9, .int .i64 0, .int .i64 0, .int .i64 0, .int .i64 0, .int .i64 0, .slice none 0 0, .int .i64 0, .int .i64 0, .slice none 0 0] w6 from HK0.out.1 ▸ HR1.out)
  clear hN hL hK HR0
  have r : w6.cell? ⟨w4.heap.size, 1, none⟩ = some (.int .i64 0) := by rw [blk_cell HR1.out.ev]; rfl
  have f := blk_frozen HR1.out.ev 1
  go_wp2_with fail
  have HR2 := Aside0.mk (HR1.out.put 1 (.int .i64 n0))
  simp only [List.setIfInBounds_toArray, List.set_cons_zero, List.set_cons_succ] at HR2
  clear r f HR1
  have HCC := Aside0.mk (rnum_any w2.heap.size w4.heap.size _ _ 2 2 0 65535 rfl (by simp) 65 rfl _ HR2.out.line)
  refine HCC.out.mono ?_
  clear HCC
  rintro e w7 ⟨⟨n1, b1⟩, rfl, hN, hL, hK⟩
  have HK1 := Aside0.mk (num_next hN (by decide) (by decide) (by decide) (by decide) (codeNext (0) p0 73))
  have HR3 := Aside0.mk (HR2.out.step hL hK)
  replace HR3 := Aside0.mk (show RSt w w2.heap.size w4.heap.size [⟨#[109, 111, 118, 101]⟩, p0, p1] (codeNext (codeNext (0) p0 73) p1 65) #[.int .i64 9, .int .i64 n0, .int .i64 0, .int .i64 0, .int .i64 0, .int .i64 0, .slice none 0 0, .int .i64 0, .int .i64 0, .slice none 0 0] w7 from HK1.out.1 ▸ HR3.out)
  clear hN hL hK HR2
  have r : w7.cell? ⟨w4.heap.size, 2, none⟩ = some (.int .i64 0) := by rw [blk_cell HR3.out.ev]; rfl
  have f := blk_frozen HR3.out.ev 2
  have HR4 := Aside0.mk (HR3.out.put 2 (.int .i64 n1))
  simp only [List.setIfInBounds_toArray, List.set_cons_zero, List.set_cons_succ] at HR4
  obtain ⟨cd, hcd⟩ : ∃ cd, cd = codeNext (codeNext (0) p0 73) p1 65 := ⟨_, rfl⟩
  have HCD := Aside0.mk (show cd = codes 0 [73, 65] [p0, p1] from hcd)
  rw [← hcd] at HR4
  clear hcd
  have q1 : (w7.setCell ⟨w4.heap.size, 2, none⟩ (.int .i64 n1)).cell? ⟨w2.heap.size, 1, none⟩ = some (.int .i64 cd) := HR4.out.code
  have hn1 : ¬ w2.heap.size = w.heap.size := by have := HR4.out.lt1; omega
  have hn2 : ¬ w4.heap.size = w.heap.size := by have := HR4.out.lt1; have := HR4.out.lt2; omega
  obtain ⟨z0, z1, z2, z3, z4, z5, z6, z7, z8, z9⟩ := cells10 HR4.out.zero
  have zf : ∀ j, (w7.setCell ⟨w4.heap.size, 2, none⟩ (.int .i64 n1)).frozen? ⟨w.heap.size, j, none⟩ = false := fun j => blk_frozen HR4.out.zero j
  cases hq : (cd == 0) with
  | false =>
    have HQ := Aside0.mk hq
    go_wp2_with fail
    go_region
    all_goals go_wp2
    refine bodyPost_ret (results_ct (u := 3) (p := 2) (ty := 54) rfl _ _ w.heap.size 54 _ (0, 0) _ rfl (by repeat (first | with_reducible exact HR4.out.zero | with_reducible apply blk_alloc | with_reducible apply blk_drewN | with_reducible apply blk_drew | with_reducible apply blk_set)) Tryd.underlying54 rfl (by exact info54s)) rfl ?_
    have hcr := HCD.out.trans (codes_read [73, 65] [p0, p1])
    cases hra : readAll [73, 65] [p0, p1] with
    | ok ws => rw [hra] at hcr; exact absurd hcr (beq_eq_false_iff_ne.1 HQ.out)
    | error x =>
      rw [hra] at hcr
      rw [hcr, formR_err hra]
      refine RLineRes.fail _ _ _ ?_
      (repeat (first | with_reducible exact HR4.out.below | with_reducible apply below_alloc | with_reducible apply pw_below_drewN | with_reducible apply below_drew | refine Below.setCell ?_ (by simp) _))
  | true =>
    have HQ := Aside0.mk hq
    obtain ⟨s0, s1, s2, s3, s4, s5, s6, s7, s8, s9⟩ := cells10 HR4.out.ev
    go_wp2_with fail
    refine bodyPost_ret (results_ct (u := 3) (p := 2) (ty := 54) rfl _ _ w.heap.size 54 _ (0, 0) _ rfl (by with_reducible exact blk_set10 HR4.out.zero _ _ _ _ _ _ _ _ _ _) Tryd.underlying54 rfl (by exact info54s)) rfl ?_
    have hcr := HCD.out.trans (codes_read [73, 65] [p0, p1])
    rw [beq_iff_eq.1 HQ.out] at hcr
    cases hra : readAll [73, 65] [p0, p1] with
    | error x => rw [hra] at hcr; exact absurd hcr.symm (code_ne x)
    | ok ws =>
      obtain ⟨v0, l0, hv0, hr0, hw0⟩ := readAll_cons hra
      obtain ⟨v1, l1, hv1, hr1, hw1⟩ := readAll_cons hr0
      have hnil := readAll_nil hr1
      have e0 : v0.f0 = n0 := HK0.out.2 _ hv0
      have e1 : v1.f0 = n1 := HK1.out.2 _ hv1
      subst hnil
      subst hw1
      subst hw0
      have hx : eventP [109, 111, 118, 101] [v0, v1] = ⟨9, n0, n1, 0, 0, ⟨0, [], 0, 0⟩, []⟩ := by
        rw [← e0, ← e1]
        simp [eventP, wd, z52]
      rw [formR_ok hra, hx]
      refine ⟨[.int .i64 9, .int .i64 n0, .int .i64 n1, .int .i64 0, .int .i64 0, .int .i64 0, .slice none 0 0, .int .i64 0, .int .i64 0, .slice none 0 0], rfl, k54_mkM _ w.heap.size _ ⟨9, n0, n1, 0, 0, ⟨0, [], 0, 0⟩, []⟩ (Kd.R_nil _ _ _ _ _) (Kd.R_nil _ _ _ _ _), ?_⟩
      · (repeat (first | with_reducible exact HR4.out.below | refine Below.setCell ?_ (by simp) _))
set_option maxHeartbeats 4000000 in
theorem rline_forge (s R p0 p1 p2 p3 : ByteArray) (w : World) (h1 : orielref34_cut.f 7000 s 2 = some [⟨#[102, 111, 114, 103, 101]⟩, R]) (h2 : orielref34_cut.f 7000 s 5 = some [⟨#[102, 111, 114, 103, 101]⟩, p0, p1, p2, p3]) (z3 : p3.size ≤ 1000000) :
    Calls Tryd.prog 28 #[.string s] w (RLineRes (formR [102, 111, 114, 103, 101] [73, 65, 83, 84] [p0, p1, p2, p3]) w) := by
  have H1 := Aside0.mk h1
  have H2 := Aside0.mk h2
  have HZ3 := Aside0.mk z3
  clear h1 h2 z3
  go_enter Tryd.func28, Tryd.ntmps28
  go_wp2_with fail
  obtain ⟨w0, hw0⟩ : ∃ w0, w0 = w.alloc (.cells #[.int .i64 0, .int .i64 0, .int .i64 0, .int .i64 0, .int .i64 0, .int .i64 0, .slice none 0 0, .int .i64 0, .int .i64 0, .slice none 0 0] 54) := ⟨_, rfl⟩
  rw [← hw0]
  have HN0 := Aside0.mk (show w0.heap[w.heap.size]? = some (.cells #[.int .i64 0, .int .i64 0, .int .i64 0, .int .i64 0, .int .i64 0, .int .i64 0, .slice none 0 0, .int .i64 0, .int .i64 0, .slice none 0 0] 54 (0, 0)) by rw [hw0]; exact blk_new _ _)
  have HB0 := Aside0.mk (show Below w.heap.size w w0 by rw [hw0]; exact below_alloc (Below.refl _ _) _)
  clear hw0
  have HCC := Aside0.mk (orielref34_cut.calls 7000 s 2 _ w0 H1.out)
  refine HCC.out.mono ?_
  clear HCC
  rintro e w1 ⟨v, rfl, hR, hB⟩
  obtain ⟨A, c, rfl, hc, hC⟩ := Kd.R_reads hR
  obtain ⟨ad, rfl, ce⟩ := Kd.at_string hC 0 (by decide) (by simp)
  have ce' : w1.cell? ad = some (.string ⟨#[102, 111, 114, 103, 101]⟩) := by
    have : ad.add (Int.toNat 0) = ad := by simp [Addr.add]
    rw [this] at ce
    exact ce
  have HB1 := Aside0.mk (below_seq HB0.out hB)
  have HN1 := Aside0.mk (blk_below HN0.out hB)
  clear hR hB hC hc ce HB0 HN0
  simp only [List.length_cons, List.length_nil]
  go_wp2_with fail
  have HMC := Aside0.mk (many_any ⟨#[102, 111, 114, 103, 101]⟩ w1)
  rw [show manyP (⟨#[102, 111, 114, 103, 101]⟩ : ByteArray).toList = 5 by kernel_rfl] at HMC
  refine HMC.out.mono ?_
  clear HMC ce'
  rintro e w2 ⟨rfl, hB⟩
  have HB2 := Aside0.mk (below_seq HB1.out hB)
  have HN2 := Aside0.mk (blk_below HN1.out hB)
  clear hB HB1 HN1
  go_wp2_with fail
  obtain ⟨w3, hw3⟩ : ∃ w3, w3 = w2.alloc (.cells #[.slice none 0 0, .int .i64 0] 101) := ⟨_, rfl⟩
  rw [← hw3]
  have hb3 : Below w2.heap.size w2 w3 := by rw [hw3]; exact below_alloc (Below.refl _ _) _
  have hl3 : w3.heap[w2.heap.size]? = some (.cells #[.slice none 0 0, .int .i64 0] 101 (0, 0)) := by rw [hw3]; exact blk_new _ _
  have hz3 : w3.heap.size = w2.heap.size + 1 := by rw [hw3]; simp
  have HCC := Aside0.mk (orielref34_cut.calls 7000 s 5 _ w3 H2.out)
  refine HCC.out.mono ?_
  clear HCC hw3
  rintro e w4 ⟨v, rfl, hR, hB⟩
  have hbd := Kd.R_bound hR
  obtain ⟨g, cap, hv, -, -, -⟩ := Kd.R_form hR (by simp)
  subst hv
  have hg4 := hbd.1 g rfl
  have hC := (Kd.R_reads' hR).2.2
  have hl4 : w4.heap[w2.heap.size]? = some (.cells #[.slice none 0 0, .int .i64 0] 101 (0, 0)) := blk_below hl3 hB
  have hcells : ∀ i (hi : i < [⟨#[102, 111, 114, 103, 101]⟩, p0, p1, p2, p3].length), w4.cell? ⟨g, 0 + i, none⟩ = some (.string ([⟨#[102, 111, 114, 103, 101]⟩, p0, p1, p2, p3][i])) := by
    intro i hi
    obtain ⟨ad, hA, ce⟩ := Kd.at_string hC (i : Int) (by omega) (by have : i < 5 := hi; show (i : Int) < ((5 : Nat) : Int); omega)
    injection hA with hA
    subst hA
    rw [Int.toNat_natCast, add_plain] at ce
    rw [Nat.zero_add, ce, rdOf_nat hi]
  have hw4 : Below w.heap.size w w4 := below_seq (below_seq HB2.out hb3) hB
  have HGS := Aside0.mk (show g ≠ w2.heap.size ∧ g < w4.heap.size from ⟨by have := hg4.2.1; omega, hg4.2.2.1⟩)
  have HLL := Aside0.mk (show w2.heap.size < w4.heap.size from blk_lt hl4)
  have HCE := Aside0.mk hcells
  have HN4 := Aside0.mk (blk_below (blk_below HN2.out hb3) hB)
  have HB4 := Aside0.mk hw4
  have HL4 := Aside0.mk hl4
  have HW2 := Aside0.mk (blk_lt HN2.out)
  have r0 : w4.cell? ⟨w2.heap.size, 0, none⟩ = some (.slice none 0 0) := by rw [blk_cell hl4]; rfl
  have rf0 := blk_frozen hl4 0
  clear hR hB hC hbd hg4 hl3 hb3 hz3 hl4 hcells hw4 HB2 HN2
  simp only [List.length_cons, List.length_nil]
  go_wp2_with fail
  obtain ⟨w5, hw5⟩ : ∃ w5, w5 = (w4.setCell ⟨w2.heap.size, 0, none⟩ (.slice (some ⟨g, 0, none⟩) 5 cap)).alloc (.cells #[.int .i64 10, .int .i64 0, .int .i64 0, .int .i64 0, .int .i64 0, .int .i64 0, .slice none 0 0, .int .i64 0, .int .i64 0, .slice none 0 0] 54) := ⟨_, rfl⟩
  rw [← hw5]
  have hz5 : (w4.setCell ⟨w2.heap.size, 0, none⟩ (.slice (some ⟨g, 0, none⟩) 5 cap)).heap.size = w4.heap.size := set_size _ _ _
  have hgg : w5.heap[g]? = w4.heap[g]? := by
    rw [hw5, Lib.alloc_old _ _ g (by rw [hz5]; exact HGS.out.2)]
    exact Below.heap_setCell w4 ⟨w2.heap.size, 0, none⟩ _ g HGS.out.1
  have HR0 := Aside0.mk (show RSt w w2.heap.size w4.heap.size [⟨#[102, 111, 114, 103, 101]⟩, p0, p1, p2, p3] 0 #[.int .i64 10, .int .i64 0, .int .i64 0, .int .i64 0, .int .i64 0, .int .i64 0, .slice none 0 0, .int .i64 0, .int .i64 0, .slice none 0 0] w5 from
    ⟨⟨g, 0, cap, by rw [hw5]; exact blk_alloc (blk_set HL4.out 0 _) _, HGS.out.1, by have := HGS.out.2; omega, by rw [hw5]; have := HGS.out.2; simp [set_size]; omega, fun i hi => by rw [cell_same hgg]; exact HCE.out i hi⟩,
      by rw [hw5]; exact blk_new_at hz5.symm,
      by rw [hw5]; refine blk_alloc ?_ _; rw [Below.heap_setCell w4 ⟨w2.heap.size, 0, none⟩ _ w.heap.size (by have := HW2.out; show w.heap.size ≠ w2.heap.size; omega)]; exact HN4.out,
      by rw [hw5]; exact below_alloc (HB4.out.setCell (p := ⟨w2.heap.size, 0, none⟩) (by have := HW2.out; show w.heap.size ≤ w2.heap.size; omega) _) _,
      HW2.out, HLL.out⟩)
  clear hz5 hgg hw5 r0 rf0 HGS HCE HN4 HB4 HL4 HW2 HLL
  have HCC := Aside0.mk (rnum_any w2.heap.size w4.heap.size _ _ 1 1 1 8 rfl (by simp) 73 rfl _ HR0.out.line)
  refine HCC.out.mono ?_
  clear HCC
  rintro e w6 ⟨⟨n0, b0⟩, rfl, hN, hL, hK⟩
  have HK0 := Aside0.mk (num_next hN (by decide) (by decide) (by decide) (by decide) (0))
  have HR1 := Aside0.mk (HR0.out.step hL hK)
  replace HR1 := Aside0.mk (show RSt w w2.heap.size w4.heap.size [⟨#[102, 111, 114, 103, 101]⟩, p0, p1, p2, p3] (codeNext (0) p0 73) #[.int .i64 10, .int .i64 0, .int .i64 0, .int .i64 0, .int .i64 0, .int .i64 0, .slice none 0 0, .int .i64 0, .int .i64 0, .slice none 0 0] w6 from HK0.out.1 ▸ HR1.out)
  clear hN hL hK HR0
  have r : w6.cell? ⟨w4.heap.size, 1, none⟩ = some (.int .i64 0) := by rw [blk_cell HR1.out.ev]; rfl
  have f := blk_frozen HR1.out.ev 1
  go_wp2_with fail
  have HR2 := Aside0.mk (HR1.out.put 1 (.int .i64 n0))
  simp only [List.setIfInBounds_toArray, List.set_cons_zero, List.set_cons_succ] at HR2
  clear r f HR1
  have HCC := Aside0.mk (rnum_any w2.heap.size w4.heap.size _ _ 2 2 0 65535 rfl (by simp) 65 rfl _ HR2.out.line)
  refine HCC.out.mono ?_
  clear HCC
  rintro e w7 ⟨⟨n1, b1⟩, rfl, hN, hL, hK⟩
  have HK1 := Aside0.mk (num_next hN (by decide) (by decide) (by decide) (by decide) (codeNext (0) p0 73))
  have HR3 := Aside0.mk (HR2.out.step hL hK)
  replace HR3 := Aside0.mk (show RSt w w2.heap.size w4.heap.size [⟨#[102, 111, 114, 103, 101]⟩, p0, p1, p2, p3] (codeNext (codeNext (0) p0 73) p1 65) #[.int .i64 10, .int .i64 n0, .int .i64 0, .int .i64 0, .int .i64 0, .int .i64 0, .slice none 0 0, .int .i64 0, .int .i64 0, .slice none 0 0] w7 from HK1.out.1 ▸ HR3.out)
  clear hN hL hK HR2
  have r : w7.cell? ⟨w4.heap.size, 2, none⟩ = some (.int .i64 0) := by rw [blk_cell HR3.out.ev]; rfl
  have f := blk_frozen HR3.out.ev 2
  go_wp2_with fail
  have HR4 := Aside0.mk (HR3.out.put 2 (.int .i64 n1))
  simp only [List.setIfInBounds_toArray, List.set_cons_zero, List.set_cons_succ] at HR4
  clear r f HR3
  have HCC := Aside0.mk (rone_any w2.heap.size w4.heap.size _ _ 3 3 rfl (by simp) ⟨#[104, 117, 98]⟩ ⟨#[118, 105, 101, 119]⟩ (by decide +kernel) _ HR4.out.line)
  refine HCC.out.mono ?_
  clear HCC
  rintro e w8 ⟨rfl, hL, hK⟩
  have HK2 := Aside0.mk (one_next (p := p2) (z := ⟨#[104, 117, 98]⟩) (o := ⟨#[118, 105, 101, 119]⟩) (kd := 83) rfl (codeNext (codeNext (0) p0 73) p1 65))
  have h01 := choice_01 p2 ⟨#[104, 117, 98]⟩ ⟨#[118, 105, 101, 119]⟩
  have HR5 := Aside0.mk (HR4.out.step hL hK)
  obtain ⟨n2, hn2⟩ : ∃ n : Int, n = choiceV p2 ⟨#[104, 117, 98]⟩ ⟨#[118, 105, 101, 119]⟩ := ⟨_, rfl⟩
  replace HR5 := Aside0.mk (show RSt w w2.heap.size w4.heap.size [⟨#[102, 111, 114, 103, 101]⟩, p0, p1, p2, p3] (codeNext (codeNext (codeNext (0) p0 73) p1 65) p2 83) #[.int .i64 10, .int .i64 n0, .int .i64 n1, .int .i64 0, .int .i64 0, .int .i64 0, .slice none 0 0, .int .i64 0, .int .i64 0, .slice none 0 0] w8 from HK2.out.1 ▸ HR5.out)
  replace HK2 := Aside0.mk (show ∀ v, readP p2 83 = .ok v → v.f0 = n2 from fun v hv => (HK2.out.2 v hv).trans hn2.symm)
  simp only [List.getElem_cons_succ, List.getElem_cons_zero]
  rw [← hn2] at h01 ⊢
  obtain ⟨h02, h12⟩ := h01
  clear hL hK HR4 hn2
  have r : w8.cell? ⟨w4.heap.size, 3, none⟩ = some (.int .i64 0) := by rw [blk_cell HR5.out.ev]; rfl
  have f := blk_frozen HR5.out.ev 3
  go_wp2_with fail
  have HR6 := Aside0.mk (HR5.out.put 3 (.int .i64 n2))
  simp only [List.setIfInBounds_toArray, List.set_cons_zero, List.set_cons_succ] at HR6
  clear r f HR5
  have HCC := Aside0.mk (rtext_any w2.heap.size w4.heap.size [⟨#[102, 111, 114, 103, 101]⟩, p0, p1, p2, p3] _ 4 4 0 1000 rfl (by simp) (show p3.size ≤ _ from HZ3.out) _ HR6.out.line)
  have HBW := Aside0.mk HR6.out.below.size
  have HEV := Aside0.mk (blk_lt HR6.out.ev)
  refine HCC.out.mono ?_
  clear HCC
  rintro e w9 ⟨v, xs, rfl, hx, hV, hL, hK⟩
  obtain ⟨A, cc, rfl⟩ := Kd.R_slice hV
  have HX := Aside0.mk (show ∀ u, textP p3 0 1000 = .ok u → xs = u.f1 from hx)
  have HV := Aside0.mk hV
  have HR7 := Aside0.mk (HR6.out.step hL hK)
  replace HR7 := Aside0.mk (show RSt w w2.heap.size w4.heap.size [⟨#[102, 111, 114, 103, 101]⟩, p0, p1, p2, p3] (codeNext (codeNext (codeNext (codeNext (0) p0 73) p1 65) p2 83) p3 84) #[.int .i64 10, .int .i64 n0, .int .i64 n1, .int .i64 n2, .int .i64 0, .int .i64 0, .slice none 0 0, .int .i64 0, .int .i64 0, .slice none 0 0] w9 from (text_next (p := p3) (kd := 84) rfl (codeNext (codeNext (codeNext (0) p0 73) p1 65) p2 83)) ▸ HR7.out)
  clear hx hV hL hK HR6
  have r : w9.cell? ⟨w4.heap.size, 9, none⟩ = some (.slice none 0 0) := by rw [blk_cell HR7.out.ev]; rfl
  have f := blk_frozen HR7.out.ev 9
  have HR8 := Aside0.mk (HR7.out.put 9 (.slice A xs.length cc))
  simp only [List.setIfInBounds_toArray, List.set_cons_zero, List.set_cons_succ] at HR8
  obtain ⟨cd, hcd⟩ : ∃ cd, cd = codeNext (codeNext (codeNext (codeNext (0) p0 73) p1 65) p2 83) p3 84 := ⟨_, rfl⟩
  have HCD := Aside0.mk (show cd = codes 0 [73, 65, 83, 84] [p0, p1, p2, p3] from hcd)
  rw [← hcd] at HR8
  clear hcd
  have q1 : (w9.setCell ⟨w4.heap.size, 9, none⟩ (.slice A xs.length cc)).cell? ⟨w2.heap.size, 1, none⟩ = some (.int .i64 cd) := HR8.out.code
  have hn1 : ¬ w2.heap.size = w.heap.size := by have := HR8.out.lt1; omega
  have hn2 : ¬ w4.heap.size = w.heap.size := by have := HR8.out.lt1; have := HR8.out.lt2; omega
  obtain ⟨z0, z1, z2, z3, z4, z5, z6, z7, z8, z9⟩ := cells10 HR8.out.zero
  have zf : ∀ j, (w9.setCell ⟨w4.heap.size, 9, none⟩ (.slice A xs.length cc)).frozen? ⟨w.heap.size, j, none⟩ = false := fun j => blk_frozen HR8.out.zero j
  cases hq : (cd == 0) with
  | false =>
    have HQ := Aside0.mk hq
    go_wp2_with fail
    go_region
    all_goals go_wp2
    refine bodyPost_ret (results_ct (u := 3) (p := 2) (ty := 54) rfl _ _ w.heap.size 54 _ (0, 0) _ rfl (by repeat (first | with_reducible exact HR8.out.zero | with_reducible apply blk_alloc | with_reducible apply blk_drewN | with_reducible apply blk_drew | with_reducible apply blk_set)) Tryd.underlying54 rfl (by exact info54s)) rfl ?_
    have hcr := HCD.out.trans (codes_read [73, 65, 83, 84] [p0, p1, p2, p3])
    cases hra : readAll [73, 65, 83, 84] [p0, p1, p2, p3] with
    | ok ws => rw [hra] at hcr; exact absurd hcr (beq_eq_false_iff_ne.1 HQ.out)
    | error x =>
      rw [hra] at hcr
      rw [hcr, formR_err hra]
      refine RLineRes.fail _ _ _ ?_
      (repeat (first | with_reducible exact HR8.out.below | with_reducible apply below_alloc | with_reducible apply pw_below_drewN | with_reducible apply below_drew | refine Below.setCell ?_ (by simp) _))
  | true =>
    have HQ := Aside0.mk hq
    obtain ⟨s0, s1, s2, s3, s4, s5, s6, s7, s8, s9⟩ := cells10 HR8.out.ev
    go_wp2_with fail
    refine bodyPost_ret (results_ct (u := 3) (p := 2) (ty := 54) rfl _ _ w.heap.size 54 _ (0, 0) _ rfl (by with_reducible exact blk_set10 HR8.out.zero _ _ _ _ _ _ _ _ _ _) Tryd.underlying54 rfl (by exact info54s)) rfl ?_
    have hcr := HCD.out.trans (codes_read [73, 65, 83, 84] [p0, p1, p2, p3])
    rw [beq_iff_eq.1 HQ.out] at hcr
    cases hra : readAll [73, 65, 83, 84] [p0, p1, p2, p3] with
    | error x => rw [hra] at hcr; exact absurd hcr.symm (code_ne x)
    | ok ws =>
      obtain ⟨v0, l0, hv0, hr0, hw0⟩ := readAll_cons hra
      obtain ⟨v1, l1, hv1, hr1, hw1⟩ := readAll_cons hr0
      obtain ⟨v2, l2, hv2, hr2, hw2⟩ := readAll_cons hr1
      obtain ⟨v3, l3, hv3, hr3, hw3⟩ := readAll_cons hr2
      have hnil := readAll_nil hr3
      have e0 : v0.f0 = n0 := HK0.out.2 _ hv0
      have e1 : v1.f0 = n1 := HK1.out.2 _ hv1
      have e2 : v2.f0 = n2 := HK2.out _ hv2
      have e3 : v3.f1 = xs := (HX.out _ hv3).symm
      subst hnil
      subst hw3
      subst hw2
      subst hw1
      subst hw0
      have hx : eventP [102, 111, 114, 103, 101] [v0, v1, v2, v3] = ⟨10, n0, n1, n2, 0, ⟨0, [], 0, 0⟩, xs⟩ := by
        rw [← e0, ← e1, ← e2, ← e3]
        simp [eventP, wd, z52]
      rw [formR_ok hra, hx]
      refine ⟨[.int .i64 10, .int .i64 n0, .int .i64 n1, .int .i64 n2, .int .i64 0, .int .i64 0, .slice none 0 0, .int .i64 0, .int .i64 0, .slice A xs.length cc], rfl, k54_mkM _ w.heap.size _ ⟨10, n0, n1, n2, 0, ⟨0, [], 0, 0⟩, xs⟩ (Kd.R_nil _ _ _ _ _) (R_fin HV.out HBW.out ?_), ?_⟩
      · intro k hk
        have hev := HEV.out
        have hlt1 := HR8.out.lt1
        have hlt2 := HR8.out.lt2
        have k1 : k ≠ w.heap.size := by omega
        have k2 : k ≠ w4.heap.size := by omega
        (repeat (first | with_reducible rfl | refine (Below.heap_setCell _ _ _ k k1).trans ?_ | refine (Below.heap_setCell _ _ _ k k2).trans ?_))
      · (repeat (first | with_reducible exact HR8.out.below | refine Below.setCell ?_ (by simp) _))
end Go.Proofs.YtjpkphmihkbfeaaDoor.S34
