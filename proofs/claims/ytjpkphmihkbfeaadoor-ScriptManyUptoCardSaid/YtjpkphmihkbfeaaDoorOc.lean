/- orielref34.Print by contracts: out, leave. -/
import Derived.Test.YtjpkphmihkbfeaaDoorRu
namespace Go.Proofs.YtjpkphmihkbfeaaDoor.S34
open Go.RowKit Go.Proofs.YtjpkphmihkbfeaaDoorW.PrintWords Go.Proofs.YtjpkphmihkbfeaaDoorW.PrintLast Go.Proofs.YtjpkphmihkbfeaaDoorW.PrintMore Go.Proofs.YtjpkphmihkbfeaaDoor.Q
set_option maxRecDepth 100000
set_option linter.unusedSimpArgs false
set_option linter.unusedVariables false
set_option maxHeartbeats 8000000 in
theorem print_out (x : S54) (A6 A9 : Option Addr) (c6 c9 : Nat) (w : World) (hx : EvIn x A6 A9 c6 c9 w) (hn6 : x.f5.f1.length ≤ 1200000) (hn9 : x.f6.length ≤ 1200000) (hk : x.f0 = 4) :
    Calls Tryd.prog 23 #[evArg x A6 A9 c6 c9] w (PrRes (refPrint x) w) := by
  have k1 : (x.f0 == 1) = false := by rw [hk]; rfl
  have k3 : (x.f0 == 3) = false := by rw [hk]; rfl
  have k2 : (x.f0 == 2) = false := by rw [hk]; rfl
  have k4 : (x.f0 == 4) = true := by rw [hk]; rfl
  have k5 : (x.f0 == 5) = false := by rw [hk]; rfl
  have k6 : (x.f0 == 6) = false := by rw [hk]; rfl
  have k7 : (x.f0 == 7) = false := by rw [hk]; rfl
  have k8 : (x.f0 == 8) = false := by rw [hk]; rfl
  have k9 : (x.f0 == 9) = false := by rw [hk]; rfl
  have k10 : (x.f0 == 10) = false := by rw [hk]; rfl
  have sq9 : (quoteB x.f6).size ≤ 4000000 := by have := quoteB_size x.f6; omega
  have hp : refPrint x = if x.f6.length ≤ 1000 then (if x = (⟨x.f0, 0, 0, 0, 0, z52, x.f6⟩ : S54) then some ((⟨#[111, 117, 116, 32]⟩ : ByteArray) ++ quoteB x.f6) else none) else none := by
    unfold refPrint refOk refRest wordsP
    rw [hk]
    by_cases h : x.f6.length ≤ 1000
    · simp [h]
    · simp [h]
  have HPP := Aside0.mk hp
  clear hp
  have hlb := hn9
  have HX := Aside0.mk hx
  have HN := Aside0.mk (And.intro hn6 hn9)
  obtain ⟨idb, hid⟩ : ∃ b, b = idOk x.f1 := ⟨_, rfl⟩
  have HID := Aside0.mk hid
  obtain ⟨w0, hw0⟩ : ∃ w0, w0 = w.alloc (.cells #[.int .i64 x.f0, .int .i64 x.f1, .int .i64 x.f2, .int .i64 x.f3, .int .i64 x.f4, .int .i64 x.f5.f0, .slice A6 x.f5.f1.length c6, .int .i64 x.f5.f2, .int .i64 x.f5.f3, .slice A9 x.f6.length c9] 54) := ⟨_, rfl⟩
  have hb0 : Below w.heap.size w w0 := by rw [hw0]; exact below_alloc (Below.refl _ _) _
  have hblk0 : EvBlk w.heap.size x A6 A9 c6 c9 w0 := by rw [hw0]; exact blk_new _ _
  obtain ⟨c0, c1, c2, c3, c4, c5, c6_, c7, c8, c9_⟩ := evCells hblk0 (Below.refl _ _)
  have HS0 := Aside0.mk (PrSt.new hw0)
  have HW0 := Aside0.mk hw0
  clear hx hn6 hn9 hid hw0 hb0 hblk0 hk
  go_enter Tryd.func23, Tryd.ntmps23
  go_upto_region 1 with (fail)
  rw [← HW0.out]
  go_cut [4] (fun v4 wc => v4 = .bool idb ∧ wc = w0)
  case first =>
    by_cases i1 : 1 ≤ x.f1
    · by_cases i8 : x.f1 ≤ 8
      · have ib : idb = true := by rw [HID.out]; unfold idOk; simp [i1, i8]
        have IB := Aside0.mk ib
        clear ib
        go_wp2
        go_meet
        case rel => exact ⟨by rw [IB.out]; try (simp; omega), rfl⟩
      · have ib : idb = false := by rw [HID.out]; unfold idOk; simp [i8]
        have i8' : 8 < x.f1 := by omega
        have IB := Aside0.mk ib
        clear ib i8
        go_wp2
        go_meet
        case rel => exact ⟨by rw [IB.out]; try (simp; omega), rfl⟩
    · have ib : idb = false := by rw [HID.out]; unfold idOk; simp [i1]
      have i1' : x.f1 < 1 := by omega
      have IB := Aside0.mk ib
      clear ib i1
      go_wp2
      go_meet
      case rel => exact ⟨by rw [IB.out]; try (simp; omega), rfl⟩
  case rest =>
    obtain ⟨rfl, hwc⟩ := hcut
    subst wc
    go_upto_region 3 with (fail)
    clear c0 c1 c2 c3 c4 c5 c6_ c7 c8 c9_
    obtain ⟨wn1, hwn1⟩ : ∃ W_, W_ = (w0.alloc (.cells #[.int .i64 0, .int .i64 0, .int .i64 0, .int .i64 0, .int .i64 0, .int .i64 0, .slice none 0 0, .int .i64 0, .int .i64 0, .slice none 0 0] 54)) := ⟨_, rfl⟩
    rw [← hwn1]
    have HS1 : Aside0 (PrSt w w0.heap.size x A6 A9 c6 c9 #[.int .i64 0, .int .i64 0, .int .i64 0, .int .i64 0, .int .i64 0, .int .i64 0, .slice none 0 0, .int .i64 0, .int .i64 0, .slice none 0 0] wn1) := ⟨by rw [hwn1]; exact HS0.out⟩
    clear hwn1 HS0
    obtain ⟨c0, c1, c2, c3, c4, c5, c6_, c7, c8, c9_⟩ := evCells HS1.out.ev (Below.refl _ _)
    obtain ⟨r0, r1, r2, r3, r4, r5, r6, r7, r8, r9⟩ := cellsF HS1.out.rest
    have rf0 := blk_frozen HS1.out.rest 0
    have rf1 := blk_frozen HS1.out.rest 1
    have rf2 := blk_frozen HS1.out.rest 2
    have rf3 := blk_frozen HS1.out.rest 3
    have rf4 := blk_frozen HS1.out.rest 4
    have rf5 := blk_frozen HS1.out.rest 5
    have rf6 := blk_frozen HS1.out.rest 6
    have rf7 := blk_frozen HS1.out.rest 7
    have rf8 := blk_frozen HS1.out.rest 8
    have rf9 := blk_frozen HS1.out.rest 9
    go_upto_region 4 with (fail)
    clear c0 c1 c2 c3 c4 c5 c6_ c7 c8 c9_ r0 r1 r2 r3 r4 r5 r6 r7 r8 r9 rf0 rf1 rf2 rf3 rf4 rf5 rf6 rf7 rf8 rf9
    obtain ⟨wn2, hwn2⟩ : ∃ W_, W_ = (wn1.setCell ⟨w0.heap.size, 0, none⟩ (.int .i64 x.f0)) := ⟨_, rfl⟩
    rw [← hwn2]
    have HS2 : Aside0 (PrSt w w0.heap.size x A6 A9 c6 c9 #[.int .i64 x.f0, .int .i64 0, .int .i64 0, .int .i64 0, .int .i64 0, .int .i64 0, .slice none 0 0, .int .i64 0, .int .i64 0, .slice none 0 0] wn2) := ⟨by rw [hwn2]; exact (HS1.out.set 0 (.int .i64 x.f0))⟩
    clear hwn2 HS1
    obtain ⟨c0, c1, c2, c3, c4, c5, c6_, c7, c8, c9_⟩ := evCells HS2.out.ev (Below.refl _ _)
    obtain ⟨r0, r1, r2, r3, r4, r5, r6, r7, r8, r9⟩ := cellsF HS2.out.rest
    have rf0 := blk_frozen HS2.out.rest 0
    have rf1 := blk_frozen HS2.out.rest 1
    have rf2 := blk_frozen HS2.out.rest 2
    have rf3 := blk_frozen HS2.out.rest 3
    have rf4 := blk_frozen HS2.out.rest 4
    have rf5 := blk_frozen HS2.out.rest 5
    have rf6 := blk_frozen HS2.out.rest 6
    have rf7 := blk_frozen HS2.out.rest 7
    have rf8 := blk_frozen HS2.out.rest 8
    have rf9 := blk_frozen HS2.out.rest 9
    go_upto_region 28 with (fail)
    clear c0 c1 c2 c3 c4 c5 c6_ c7 c8 c9_ r0 r1 r2 r3 r4 r5 r6 r7 r8 r9 rf0 rf1 rf2 rf3 rf4 rf5 rf6 rf7 rf8 rf9
    obtain ⟨wn3, hwn3⟩ : ∃ W_, W_ = (wn2.setCell ⟨w0.heap.size, 9, none⟩ (.slice A9 x.f6.length c9)) := ⟨_, rfl⟩
    rw [← hwn3]
    have HS3 : Aside0 (PrSt w w0.heap.size x A6 A9 c6 c9 #[.int .i64 x.f0, .int .i64 0, .int .i64 0, .int .i64 0, .int .i64 0, .int .i64 0, .slice none 0 0, .int .i64 0, .int .i64 0, .slice A9 x.f6.length c9] wn3) := ⟨by rw [hwn3]; exact (HS2.out.set 9 (.slice A9 x.f6.length c9))⟩
    clear hwn3 HS2
    obtain ⟨c0, c1, c2, c3, c4, c5, c6_, c7, c8, c9_⟩ := evCells HS3.out.ev (Below.refl _ _)
    obtain ⟨r0, r1, r2, r3, r4, r5, r6, r7, r8, r9⟩ := cellsF HS3.out.rest
    have rf0 := blk_frozen HS3.out.rest 0
    have rf1 := blk_frozen HS3.out.rest 1
    have rf2 := blk_frozen HS3.out.rest 2
    have rf3 := blk_frozen HS3.out.rest 3
    have rf4 := blk_frozen HS3.out.rest 4
    have rf5 := blk_frozen HS3.out.rest 5
    have rf6 := blk_frozen HS3.out.rest 6
    have rf7 := blk_frozen HS3.out.rest 7
    have rf8 := blk_frozen HS3.out.rest 8
    have rf9 := blk_frozen HS3.out.rest 9
    by_cases hq1 : x.f6.length ≤ 1000
    · skip
      have t1 : (x.f6.length : Int) ≤ 1000 := by omega
      have HP := Aside0.mk (HPP.out.trans (if_pos hq1))
      clear hq1
      go_wp2_with fail
      have HPC := Aside0.mk (refquoted_any x.f6 A9 c9 wn3 (HX.out.below HS3.out.below).q9 HX.out.h9 HX.out.b9 (by have := HN.out.2; omega))
      refine HPC.out.mono ?_
      clear HPC
      rintro e wn4 ⟨rfl, hB⟩
      have HS4 := Aside0.mk (HS3.out.step hB)
      clear hB HS3
      clear c0 c1 c2 c3 c4 c5 c6_ c7 c8 c9_ r0 r1 r2 r3 r4 r5 r6 r7 r8 r9 rf0 rf1 rf2 rf3 rf4 rf5 rf6 rf7 rf8 rf9
      obtain ⟨c0, c1, c2, c3, c4, c5, c6_, c7, c8, c9_⟩ := evCells HS4.out.ev (Below.refl _ _)
      obtain ⟨r0, r1, r2, r3, r4, r5, r6, r7, r8, r9⟩ := cellsF HS4.out.rest
      have rf0 := blk_frozen HS4.out.rest 0
      have rf1 := blk_frozen HS4.out.rest 1
      have rf2 := blk_frozen HS4.out.rest 2
      have rf3 := blk_frozen HS4.out.rest 3
      have rf4 := blk_frozen HS4.out.rest 4
      have rf5 := blk_frozen HS4.out.rest 5
      have rf6 := blk_frozen HS4.out.rest 6
      have rf7 := blk_frozen HS4.out.rest 7
      have rf8 := blk_frozen HS4.out.rest 8
      have rf9 := blk_frozen HS4.out.rest 9
      go_wp2_with fail
      have HIN := HX.out.below HS4.out.below
      have HPC : Aside0 (Calls Tryd.prog 29 #[evArg x A6 A9 c6 c9, .agg #[.int .i64 x.f0, .int .i64 0, .int .i64 0, .int .i64 0, .int .i64 0, .int .i64 0, .slice none 0 0, .int .i64 0, .int .i64 0, .slice A9 x.f6.length c9]] wn4 fun r w' => r = .returned (.bool (sameP x (⟨x.f0, 0, 0, 0, 0, z52, x.f6⟩ : S54))) ∧ Below wn4.heap.size wn4 w') := ⟨ref_same x (⟨x.f0, 0, 0, 0, 0, z52, x.f6⟩ : S54) A6 A9 none A9 c6 c9 0 c9 wn4 HIN (ev_b HX.out.i0 i64z i64z i64z (HX.out.below HS4.out.below).q9 HX.out.h9 HX.out.b9)⟩
      clear HIN
      refine HPC.out.mono ?_
      clear HPC
      rintro e wz ⟨rfl, hB⟩
      have HBZ := Aside0.mk (below_seq HS4.out.below hB)
      clear hB
      clear c0 c1 c2 c3 c4 c5 c6_ c7 c8 c9_ r0 r1 r2 r3 r4 r5 r6 r7 r8 r9 rf0 rf1 rf2 rf3 rf4 rf5 rf6 rf7 rf8 rf9
      obtain ⟨sb, hsb⟩ : ∃ b, b = sameP x (⟨x.f0, 0, 0, 0, 0, z52, x.f6⟩ : S54) := ⟨_, rfl⟩
      rw [← hsb]
      have HSB := Aside0.mk hsb
      clear hsb
      cases sb with
      | true =>
        go_wp2_with fail
        go_ret2
        have hq : x = (⟨x.f0, 0, 0, 0, 0, z52, x.f6⟩ : S54) := of_decide_eq_true HSB.out.symm
        rw [HP.out, if_pos hq]
        exact ⟨(by refine congrArg (fun b => Ending.returned (.tuple #[.string b, .bool true])) ?_; first | rfl | (apply ba_eq; simp)), HBZ.out⟩
      | false =>
        go_wp2_with fail
        go_ret2
        have hq : ¬ x = (⟨x.f0, 0, 0, 0, 0, z52, x.f6⟩ : S54) := of_decide_eq_false HSB.out.symm
        rw [HP.out, if_neg hq]
        exact ⟨rfl, HBZ.out⟩
    have t1 : (1000 : Int) < (x.f6.length : Int) := by omega
    have HP := Aside0.mk (HPP.out.trans (if_neg hq1))
    clear hq1
    go_wp2_with fail
    have HPC := Aside0.mk (refquoted_any x.f6 A9 c9 wn3 (HX.out.below HS3.out.below).q9 HX.out.h9 HX.out.b9 (by have := HN.out.2; omega))
    refine HPC.out.mono ?_
    clear HPC
    rintro e wn4 ⟨rfl, hB⟩
    have HS4 := Aside0.mk (HS3.out.step hB)
    clear hB HS3
    clear c0 c1 c2 c3 c4 c5 c6_ c7 c8 c9_ r0 r1 r2 r3 r4 r5 r6 r7 r8 r9 rf0 rf1 rf2 rf3 rf4 rf5 rf6 rf7 rf8 rf9
    obtain ⟨c0, c1, c2, c3, c4, c5, c6_, c7, c8, c9_⟩ := evCells HS4.out.ev (Below.refl _ _)
    obtain ⟨r0, r1, r2, r3, r4, r5, r6, r7, r8, r9⟩ := cellsF HS4.out.rest
    have rf0 := blk_frozen HS4.out.rest 0
    have rf1 := blk_frozen HS4.out.rest 1
    have rf2 := blk_frozen HS4.out.rest 2
    have rf3 := blk_frozen HS4.out.rest 3
    have rf4 := blk_frozen HS4.out.rest 4
    have rf5 := blk_frozen HS4.out.rest 5
    have rf6 := blk_frozen HS4.out.rest 6
    have rf7 := blk_frozen HS4.out.rest 7
    have rf8 := blk_frozen HS4.out.rest 8
    have rf9 := blk_frozen HS4.out.rest 9
    go_wp2_with fail
    go_ret2
    rw [HP.out]
    exact ⟨rfl, HS4.out.below⟩
set_option maxHeartbeats 8000000 in
theorem print_leave (x : S54) (A6 A9 : Option Addr) (c6 c9 : Nat) (w : World) (hx : EvIn x A6 A9 c6 c9 w) (hn6 : x.f5.f1.length ≤ 1200000) (hn9 : x.f6.length ≤ 1200000) (hk : x.f0 = 2) :
    Calls Tryd.prog 23 #[evArg x A6 A9 c6 c9] w (PrRes (refPrint x) w) := by
  have k1 : (x.f0 == 1) = false := by rw [hk]; rfl
  have k3 : (x.f0 == 3) = false := by rw [hk]; rfl
  have k2 : (x.f0 == 2) = true := by rw [hk]; rfl
  have k4 : (x.f0 == 4) = false := by rw [hk]; rfl
  have k5 : (x.f0 == 5) = false := by rw [hk]; rfl
  have k6 : (x.f0 == 6) = false := by rw [hk]; rfl
  have k7 : (x.f0 == 7) = false := by rw [hk]; rfl
  have k8 : (x.f0 == 8) = false := by rw [hk]; rfl
  have k9 : (x.f0 == 9) = false := by rw [hk]; rfl
  have k10 : (x.f0 == 10) = false := by rw [hk]; rfl
  have si1 := numB_le hx.i1
  have hp : refPrint x = if 1 ≤ x.f1 ∧ x.f1 ≤ 8 then (if x = (⟨x.f0, x.f1, 0, 0, 0, z52, []⟩ : S54) then some ((⟨#[108, 101, 97, 118, 101, 32]⟩ : ByteArray) ++ numB x.f1) else none) else none := by
    unfold refPrint refOk refRest wordsP
    rw [hk]
    by_cases h : 1 ≤ x.f1 ∧ x.f1 ≤ 8
    · simp [h]
    · simp [h]
  have HPP := Aside0.mk hp
  clear hp
  have HX := Aside0.mk hx
  have HN := Aside0.mk (And.intro hn6 hn9)
  obtain ⟨idb, hid⟩ : ∃ b, b = idOk x.f1 := ⟨_, rfl⟩
  have HID := Aside0.mk hid
  obtain ⟨w0, hw0⟩ : ∃ w0, w0 = w.alloc (.cells #[.int .i64 x.f0, .int .i64 x.f1, .int .i64 x.f2, .int .i64 x.f3, .int .i64 x.f4, .int .i64 x.f5.f0, .slice A6 x.f5.f1.length c6, .int .i64 x.f5.f2, .int .i64 x.f5.f3, .slice A9 x.f6.length c9] 54) := ⟨_, rfl⟩
  have hb0 : Below w.heap.size w w0 := by rw [hw0]; exact below_alloc (Below.refl _ _) _
  have hblk0 : EvBlk w.heap.size x A6 A9 c6 c9 w0 := by rw [hw0]; exact blk_new _ _
  obtain ⟨c0, c1, c2, c3, c4, c5, c6_, c7, c8, c9_⟩ := evCells hblk0 (Below.refl _ _)
  have HS0 := Aside0.mk (PrSt.new hw0)
  have HW0 := Aside0.mk hw0
  clear hx hn6 hn9 hid hw0 hb0 hblk0 hk
  go_enter Tryd.func23, Tryd.ntmps23
  go_upto_region 1 with (fail)
  rw [← HW0.out]
  go_cut [4] (fun v4 wc => v4 = .bool idb ∧ wc = w0)
  case first =>
    by_cases i1 : 1 ≤ x.f1
    · by_cases i8 : x.f1 ≤ 8
      · have ib : idb = true := by rw [HID.out]; unfold idOk; simp [i1, i8]
        have IB := Aside0.mk ib
        clear ib
        go_wp2
        go_meet
        case rel => exact ⟨by rw [IB.out]; try (simp; omega), rfl⟩
      · have ib : idb = false := by rw [HID.out]; unfold idOk; simp [i8]
        have i8' : 8 < x.f1 := by omega
        have IB := Aside0.mk ib
        clear ib i8
        go_wp2
        go_meet
        case rel => exact ⟨by rw [IB.out]; try (simp; omega), rfl⟩
    · have ib : idb = false := by rw [HID.out]; unfold idOk; simp [i1]
      have i1' : x.f1 < 1 := by omega
      have IB := Aside0.mk ib
      clear ib i1
      go_wp2
      go_meet
      case rel => exact ⟨by rw [IB.out]; try (simp; omega), rfl⟩
  case rest =>
    obtain ⟨rfl, hwc⟩ := hcut
    subst wc
    go_upto_region 3 with (fail)
    clear c0 c1 c2 c3 c4 c5 c6_ c7 c8 c9_
    obtain ⟨wn1, hwn1⟩ : ∃ W_, W_ = (w0.alloc (.cells #[.int .i64 0, .int .i64 0, .int .i64 0, .int .i64 0, .int .i64 0, .int .i64 0, .slice none 0 0, .int .i64 0, .int .i64 0, .slice none 0 0] 54)) := ⟨_, rfl⟩
    rw [← hwn1]
    have HS1 : Aside0 (PrSt w w0.heap.size x A6 A9 c6 c9 #[.int .i64 0, .int .i64 0, .int .i64 0, .int .i64 0, .int .i64 0, .int .i64 0, .slice none 0 0, .int .i64 0, .int .i64 0, .slice none 0 0] wn1) := ⟨by rw [hwn1]; exact HS0.out⟩
    clear hwn1 HS0
    obtain ⟨c0, c1, c2, c3, c4, c5, c6_, c7, c8, c9_⟩ := evCells HS1.out.ev (Below.refl _ _)
    obtain ⟨r0, r1, r2, r3, r4, r5, r6, r7, r8, r9⟩ := cellsF HS1.out.rest
    have rf0 := blk_frozen HS1.out.rest 0
    have rf1 := blk_frozen HS1.out.rest 1
    have rf2 := blk_frozen HS1.out.rest 2
    have rf3 := blk_frozen HS1.out.rest 3
    have rf4 := blk_frozen HS1.out.rest 4
    have rf5 := blk_frozen HS1.out.rest 5
    have rf6 := blk_frozen HS1.out.rest 6
    have rf7 := blk_frozen HS1.out.rest 7
    have rf8 := blk_frozen HS1.out.rest 8
    have rf9 := blk_frozen HS1.out.rest 9
    go_upto_region 4 with (fail)
    clear c0 c1 c2 c3 c4 c5 c6_ c7 c8 c9_ r0 r1 r2 r3 r4 r5 r6 r7 r8 r9 rf0 rf1 rf2 rf3 rf4 rf5 rf6 rf7 rf8 rf9
    obtain ⟨wn2, hwn2⟩ : ∃ W_, W_ = (wn1.setCell ⟨w0.heap.size, 0, none⟩ (.int .i64 x.f0)) := ⟨_, rfl⟩
    rw [← hwn2]
    have HS2 : Aside0 (PrSt w w0.heap.size x A6 A9 c6 c9 #[.int .i64 x.f0, .int .i64 0, .int .i64 0, .int .i64 0, .int .i64 0, .int .i64 0, .slice none 0 0, .int .i64 0, .int .i64 0, .slice none 0 0] wn2) := ⟨by rw [hwn2]; exact (HS1.out.set 0 (.int .i64 x.f0))⟩
    clear hwn2 HS1
    obtain ⟨c0, c1, c2, c3, c4, c5, c6_, c7, c8, c9_⟩ := evCells HS2.out.ev (Below.refl _ _)
    obtain ⟨r0, r1, r2, r3, r4, r5, r6, r7, r8, r9⟩ := cellsF HS2.out.rest
    have rf0 := blk_frozen HS2.out.rest 0
    have rf1 := blk_frozen HS2.out.rest 1
    have rf2 := blk_frozen HS2.out.rest 2
    have rf3 := blk_frozen HS2.out.rest 3
    have rf4 := blk_frozen HS2.out.rest 4
    have rf5 := blk_frozen HS2.out.rest 5
    have rf6 := blk_frozen HS2.out.rest 6
    have rf7 := blk_frozen HS2.out.rest 7
    have rf8 := blk_frozen HS2.out.rest 8
    have rf9 := blk_frozen HS2.out.rest 9
    go_upto_region 12 with (fail)
    clear c0 c1 c2 c3 c4 c5 c6_ c7 c8 c9_ r0 r1 r2 r3 r4 r5 r6 r7 r8 r9 rf0 rf1 rf2 rf3 rf4 rf5 rf6 rf7 rf8 rf9
    obtain ⟨wn3, hwn3⟩ : ∃ W_, W_ = (wn2.setCell ⟨w0.heap.size, 1, none⟩ (.int .i64 x.f1)) := ⟨_, rfl⟩
    rw [← hwn3]
    have HS3 : Aside0 (PrSt w w0.heap.size x A6 A9 c6 c9 #[.int .i64 x.f0, .int .i64 x.f1, .int .i64 0, .int .i64 0, .int .i64 0, .int .i64 0, .slice none 0 0, .int .i64 0, .int .i64 0, .slice none 0 0] wn3) := ⟨by rw [hwn3]; exact (HS2.out.set 1 (.int .i64 x.f1))⟩
    clear hwn3 HS2
    obtain ⟨c0, c1, c2, c3, c4, c5, c6_, c7, c8, c9_⟩ := evCells HS3.out.ev (Below.refl _ _)
    obtain ⟨r0, r1, r2, r3, r4, r5, r6, r7, r8, r9⟩ := cellsF HS3.out.rest
    have rf0 := blk_frozen HS3.out.rest 0
    have rf1 := blk_frozen HS3.out.rest 1
    have rf2 := blk_frozen HS3.out.rest 2
    have rf3 := blk_frozen HS3.out.rest 3
    have rf4 := blk_frozen HS3.out.rest 4
    have rf5 := blk_frozen HS3.out.rest 5
    have rf6 := blk_frozen HS3.out.rest 6
    have rf7 := blk_frozen HS3.out.rest 7
    have rf8 := blk_frozen HS3.out.rest 8
    have rf9 := blk_frozen HS3.out.rest 9
    cases idb with
    | true =>
      have hi := idOk_true HID.out
      have HI := Aside0.mk hi
      obtain ⟨hi1, hi8⟩ := hi
      have HP := Aside0.mk (HPP.out.trans (if_pos HI.out))
      go_wp2_with fail
      have HPC := Aside0.mk (digits_any x.f1 wn3 (by omega) (by omega))
      refine HPC.out.mono ?_
      clear HPC
      rintro e wn4 ⟨rfl, hB⟩
      have HS4 := Aside0.mk (HS3.out.step hB)
      clear hB HS3
      clear c0 c1 c2 c3 c4 c5 c6_ c7 c8 c9_ r0 r1 r2 r3 r4 r5 r6 r7 r8 r9 rf0 rf1 rf2 rf3 rf4 rf5 rf6 rf7 rf8 rf9
      obtain ⟨c0, c1, c2, c3, c4, c5, c6_, c7, c8, c9_⟩ := evCells HS4.out.ev (Below.refl _ _)
      obtain ⟨r0, r1, r2, r3, r4, r5, r6, r7, r8, r9⟩ := cellsF HS4.out.rest
      have rf0 := blk_frozen HS4.out.rest 0
      have rf1 := blk_frozen HS4.out.rest 1
      have rf2 := blk_frozen HS4.out.rest 2
      have rf3 := blk_frozen HS4.out.rest 3
      have rf4 := blk_frozen HS4.out.rest 4
      have rf5 := blk_frozen HS4.out.rest 5
      have rf6 := blk_frozen HS4.out.rest 6
      have rf7 := blk_frozen HS4.out.rest 7
      have rf8 := blk_frozen HS4.out.rest 8
      have rf9 := blk_frozen HS4.out.rest 9
      go_wp2_with fail
      have HIN := HX.out.below HS4.out.below
      have HPC : Aside0 (Calls Tryd.prog 29 #[evArg x A6 A9 c6 c9, .agg #[.int .i64 x.f0, .int .i64 x.f1, .int .i64 0, .int .i64 0, .int .i64 0, .int .i64 0, .slice none 0 0, .int .i64 0, .int .i64 0, .slice none 0 0]] wn4 fun r w' => r = .returned (.bool (sameP x (⟨x.f0, x.f1, 0, 0, 0, z52, []⟩ : S54))) ∧ Below wn4.heap.size wn4 w') := ⟨ref_same x (⟨x.f0, x.f1, 0, 0, 0, z52, []⟩ : S54) A6 A9 none none c6 c9 0 0 wn4 HIN (ev_none HX.out.i0 HX.out.i1 i64z i64z i64z)⟩
      clear HIN
      refine HPC.out.mono ?_
      clear HPC
      rintro e wz ⟨rfl, hB⟩
      have HBZ := Aside0.mk (below_seq HS4.out.below hB)
      clear hB
      clear c0 c1 c2 c3 c4 c5 c6_ c7 c8 c9_ r0 r1 r2 r3 r4 r5 r6 r7 r8 r9 rf0 rf1 rf2 rf3 rf4 rf5 rf6 rf7 rf8 rf9
      obtain ⟨sb, hsb⟩ : ∃ b, b = sameP x (⟨x.f0, x.f1, 0, 0, 0, z52, []⟩ : S54) := ⟨_, rfl⟩
      rw [← hsb]
      have HSB := Aside0.mk hsb
      clear hsb
      cases sb with
      | true =>
        go_wp2_with fail
        go_ret2
        have hq : x = (⟨x.f0, x.f1, 0, 0, 0, z52, []⟩ : S54) := of_decide_eq_true HSB.out.symm
        rw [HP.out, if_pos hq]
        exact ⟨(by refine congrArg (fun b => Ending.returned (.tuple #[.string b, .bool true])) ?_; first | rfl | (apply ba_eq; simp)), HBZ.out⟩
      | false =>
        go_wp2_with fail
        go_ret2
        have hq : ¬ x = (⟨x.f0, x.f1, 0, 0, 0, z52, []⟩ : S54) := of_decide_eq_false HSB.out.symm
        rw [HP.out, if_neg hq]
        exact ⟨rfl, HBZ.out⟩
    | false =>
      have hi := idOk_false HID.out
      have HI := Aside0.mk hi
      clear hi
      have HP := Aside0.mk (HPP.out.trans (if_neg HI.out))
      go_wp2_with fail
      go_ret2
      rw [HP.out]
      exact ⟨rfl, HS3.out.below⟩
end Go.Proofs.YtjpkphmihkbfeaaDoor.S34
