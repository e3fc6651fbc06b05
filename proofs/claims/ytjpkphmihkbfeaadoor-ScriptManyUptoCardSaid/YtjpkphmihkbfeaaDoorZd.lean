/- E1, E2, E3, E4, E5, E6, E7, E8, E9 of wip, in one text. -/
import Derived.Test.YtjpkphmihkbfeaaDoorZc
namespace Go.Proofs.YtjpkphmihkbfeaaDoor.S34
open Go.RowKit Go.Proofs.YtjpkphmihkbfeaaDoorW.PrintWords Go.Proofs.YtjpkphmihkbfeaaDoorW.PrintLast Go.Proofs.YtjpkphmihkbfeaaDoorW.PrintMore Go.Proofs.YtjpkphmihkbfeaaDoor.Q
set_option maxRecDepth 100000
set_option linter.unusedSimpArgs false
set_option linter.unusedVariables false
set_option maxHeartbeats 8000000 in
theorem words_join (g : Er → Addr) (x : S54) (A6 A9 : Option Addr) (c6 c9 : Nat) (w : World) (hg : Glob g w) (hx : EvIn x A6 A9 c6 c9 w) (hn6 : x.f5.f1.length ≤ 16) (hn9 : x.f6.length ≤ 1000) (hk : x.f0 = 1) :
    Calls Tryd.prog 35 #[evArg x A6 A9 c6 c9] w fun e w' => e = .returned (.string ((⟨#[106, 111, 105, 110, 32]⟩ : ByteArray) ++ numB x.f1 ++ roleB x.f4)) ∧ Below w.heap.size w w' := by
  have k1 : (x.f0 == 1) = true := by rw [hk]; rfl
  have si1 := numB_le hx.i1
  have sr := roleB_le x.f4
  have HG := Aside0.mk hg
  have HX := Aside0.mk hx
  have HN := Aside0.mk (And.intro hn6 hn9)
  clear hg hx hn6 hn9 hk
  go_enter Tryd.func35, Tryd.ntmps35
  go_upto_block 0 with (fail)
  have hblk : EvBlk w.heap.size x A6 A9 c6 c9 (w.alloc (.cells #[.int .i64 x.f0, .int .i64 x.f1, .int .i64 x.f2, .int .i64 x.f3, .int .i64 x.f4, .int .i64 x.f5.f0, .slice A6 x.f5.f1.length c6, .int .i64 x.f5.f2, .int .i64 x.f5.f3, .slice A9 x.f6.length c9] 54)) := blk_new _ _
  have hw0 : Below w.heap.size w (w.alloc (.cells #[.int .i64 x.f0, .int .i64 x.f1, .int .i64 x.f2, .int .i64 x.f3, .int .i64 x.f4, .int .i64 x.f5.f0, .slice A6 x.f5.f1.length c6, .int .i64 x.f5.f2, .int .i64 x.f5.f3, .slice A9 x.f6.length c9] 54)) := below_alloc (Below.refl _ _) _
  generalize hgw : w.alloc (.cells #[.int .i64 x.f0, .int .i64 x.f1, .int .i64 x.f2, .int .i64 x.f3, .int .i64 x.f4, .int .i64 x.f5.f0, .slice A6 x.f5.f1.length c6, .int .i64 x.f5.f2, .int .i64 x.f5.f3, .slice A9 x.f6.length c9] 54) = w0 at hblk hw0 ⊢
  clear hgw
  have hg0 := HG.out.below hw0
  have hx0 := HX.out.below hw0
  have Hi1 := Aside0.mk (ev_itoa g x.f1 hg0 hx0.i1 hblk)
  obtain ⟨c0, c1, c2, c3, c4, c5, c6_, c7, c8, c9_⟩ := evCells hblk (Below.refl _ _)
  have HW0 := Aside0.mk hw0
  clear hw0 hblk HG HX HN hg0 hx0
  go_cut [4] (fun v4 wc => v4 = .string (roleB x.f4) ∧ wc = w0)
  case first =>
    by_cases r1 : x.f4 = 1
    · have er : roleB x.f4 = ⟨#[32, 119, 97, 116, 99, 104]⟩ := by rw [r1]; rfl
      have q1 : (x.f4 == 1) = true := by rw [r1]; rfl
      have ER := Aside0.mk er
      clear r1 er
      go_wp2
      go_meet
      case rel => exact ⟨by rw [ER.out], rfl⟩
    · have q1 : (x.f4 == 1) = false := beq_eq_false_iff_ne.2 r1
      by_cases r2 : x.f4 = 2
      · have er : roleB x.f4 = ⟨#[32, 119, 114, 105, 116, 101]⟩ := by rw [r2]; rfl
        have q2 : (x.f4 == 2) = true := by rw [r2]; rfl
        have ER := Aside0.mk er
        clear r1 r2 er
        go_wp2
        go_meet
        case rel => exact ⟨by rw [ER.out], rfl⟩
      · have q2 : (x.f4 == 2) = false := beq_eq_false_iff_ne.2 r2
        have er : roleB x.f4 = ⟨#[]⟩ := by unfold roleB; rw [if_neg r1, if_neg r2]
        have ER := Aside0.mk er
        clear r1 r2 er
        go_wp2
        go_meet
        case rel => exact ⟨by rw [ER.out], rfl⟩
  case rest =>
    obtain ⟨rfl, hwc⟩ := hcut
    subst wc
    go_wp2_with fail
    refine (Hi1.out _ (by (repeat (first | with_reducible exact Below.refl _ _ | with_reducible assumption | with_reducible apply pw_below_drewN | with_reducible apply below_drew)))).mono ?_
    rintro e w1 ⟨rfl, hB, c0, c1, c2, c3, c4, c5, c6_, c7, c8, c9_⟩
    have HB := Aside0.mk hB
    clear hB
    go_wp2_with fail
    go_ret
    exact ⟨rfl, HW0.out.trans (HB.out.mono HW0.out.size)⟩
set_option maxHeartbeats 8000000 in
theorem words_leave (g : Er → Addr) (x : S54) (A6 A9 : Option Addr) (c6 c9 : Nat) (w : World) (hg : Glob g w) (hx : EvIn x A6 A9 c6 c9 w) (hn6 : x.f5.f1.length ≤ 16) (hn9 : x.f6.length ≤ 1000) (hk : x.f0 = 2) :
    Calls Tryd.prog 35 #[evArg x A6 A9 c6 c9] w fun e w' => e = .returned (.string ((⟨#[108, 101, 97, 118, 101, 32]⟩ : ByteArray) ++ numB x.f1)) ∧ Below w.heap.size w w' := by
  have k1 : (x.f0 == 1) = false := by rw [hk]; rfl
  have k2 : (x.f0 == 2) = true := by rw [hk]; rfl
  have si1 := numB_le hx.i1
  have sr := roleB_le x.f4
  have HG := Aside0.mk hg
  have HX := Aside0.mk hx
  have HN := Aside0.mk (And.intro hn6 hn9)
  clear hg hx hn6 hn9 hk
  go_enter Tryd.func35, Tryd.ntmps35
  go_upto_block 0 with (fail)
  have hblk : EvBlk w.heap.size x A6 A9 c6 c9 (w.alloc (.cells #[.int .i64 x.f0, .int .i64 x.f1, .int .i64 x.f2, .int .i64 x.f3, .int .i64 x.f4, .int .i64 x.f5.f0, .slice A6 x.f5.f1.length c6, .int .i64 x.f5.f2, .int .i64 x.f5.f3, .slice A9 x.f6.length c9] 54)) := blk_new _ _
  have hw0 : Below w.heap.size w (w.alloc (.cells #[.int .i64 x.f0, .int .i64 x.f1, .int .i64 x.f2, .int .i64 x.f3, .int .i64 x.f4, .int .i64 x.f5.f0, .slice A6 x.f5.f1.length c6, .int .i64 x.f5.f2, .int .i64 x.f5.f3, .slice A9 x.f6.length c9] 54)) := below_alloc (Below.refl _ _) _
  generalize hgw : w.alloc (.cells #[.int .i64 x.f0, .int .i64 x.f1, .int .i64 x.f2, .int .i64 x.f3, .int .i64 x.f4, .int .i64 x.f5.f0, .slice A6 x.f5.f1.length c6, .int .i64 x.f5.f2, .int .i64 x.f5.f3, .slice A9 x.f6.length c9] 54) = w0 at hblk hw0 ⊢
  clear hgw
  have hg0 := HG.out.below hw0
  have hx0 := HX.out.below hw0
  have Hi1 := Aside0.mk (ev_itoa g x.f1 hg0 hx0.i1 hblk)
  obtain ⟨c0, c1, c2, c3, c4, c5, c6_, c7, c8, c9_⟩ := evCells hblk (Below.refl _ _)
  have HW0 := Aside0.mk hw0
  clear hw0 hblk HG HX HN hg0 hx0
  go_cut [4] (fun v4 wc => v4 = .string (roleB x.f4) ∧ wc = w0)
  case first =>
    by_cases r1 : x.f4 = 1
    · have er : roleB x.f4 = ⟨#[32, 119, 97, 116, 99, 104]⟩ := by rw [r1]; rfl
      have q1 : (x.f4 == 1) = true := by rw [r1]; rfl
      have ER := Aside0.mk er
      clear r1 er
      go_wp2
      go_meet
      case rel => exact ⟨by rw [ER.out], rfl⟩
    · have q1 : (x.f4 == 1) = false := beq_eq_false_iff_ne.2 r1
      by_cases r2 : x.f4 = 2
      · have er : roleB x.f4 = ⟨#[32, 119, 114, 105, 116, 101]⟩ := by rw [r2]; rfl
        have q2 : (x.f4 == 2) = true := by rw [r2]; rfl
        have ER := Aside0.mk er
        clear r1 r2 er
        go_wp2
        go_meet
        case rel => exact ⟨by rw [ER.out], rfl⟩
      · have q2 : (x.f4 == 2) = false := beq_eq_false_iff_ne.2 r2
        have er : roleB x.f4 = ⟨#[]⟩ := by unfold roleB; rw [if_neg r1, if_neg r2]
        have ER := Aside0.mk er
        clear r1 r2 er
        go_wp2
        go_meet
        case rel => exact ⟨by rw [ER.out], rfl⟩
  case rest =>
    obtain ⟨rfl, hwc⟩ := hcut
    subst wc
    go_wp2_with fail
    refine (Hi1.out _ (by (repeat (first | with_reducible exact Below.refl _ _ | with_reducible assumption | with_reducible apply pw_below_drewN | with_reducible apply below_drew)))).mono ?_
    rintro e w1 ⟨rfl, hB, c0, c1, c2, c3, c4, c5, c6_, c7, c8, c9_⟩
    have HB := Aside0.mk hB
    clear hB
    go_wp2_with fail
    go_ret
    exact ⟨rfl, HW0.out.trans (HB.out.mono HW0.out.size)⟩
set_option maxHeartbeats 8000000 in
theorem words_role (g : Er → Addr) (x : S54) (A6 A9 : Option Addr) (c6 c9 : Nat) (w : World) (hg : Glob g w) (hx : EvIn x A6 A9 c6 c9 w) (hn6 : x.f5.f1.length ≤ 16) (hn9 : x.f6.length ≤ 1000) (hk : x.f0 = 3) :
    Calls Tryd.prog 35 #[evArg x A6 A9 c6 c9] w fun e w' => e = .returned (.string ((⟨#[114, 111, 108, 101, 32]⟩ : ByteArray) ++ numB x.f1 ++ roleB x.f4)) ∧ Below w.heap.size w w' := by
  have k1 : (x.f0 == 1) = false := by rw [hk]; rfl
  have k2 : (x.f0 == 2) = false := by rw [hk]; rfl
  have k3 : (x.f0 == 3) = true := by rw [hk]; rfl
  have si1 := numB_le hx.i1
  have sr := roleB_le x.f4
  have HG := Aside0.mk hg
  have HX := Aside0.mk hx
  have HN := Aside0.mk (And.intro hn6 hn9)
  clear hg hx hn6 hn9 hk
  go_enter Tryd.func35, Tryd.ntmps35
  go_upto_block 0 with (fail)
  have hblk : EvBlk w.heap.size x A6 A9 c6 c9 (w.alloc (.cells #[.int .i64 x.f0, .int .i64 x.f1, .int .i64 x.f2, .int .i64 x.f3, .int .i64 x.f4, .int .i64 x.f5.f0, .slice A6 x.f5.f1.length c6, .int .i64 x.f5.f2, .int .i64 x.f5.f3, .slice A9 x.f6.length c9] 54)) := blk_new _ _
  have hw0 : Below w.heap.size w (w.alloc (.cells #[.int .i64 x.f0, .int .i64 x.f1, .int .i64 x.f2, .int .i64 x.f3, .int .i64 x.f4, .int .i64 x.f5.f0, .slice A6 x.f5.f1.length c6, .int .i64 x.f5.f2, .int .i64 x.f5.f3, .slice A9 x.f6.length c9] 54)) := below_alloc (Below.refl _ _) _
  generalize hgw : w.alloc (.cells #[.int .i64 x.f0, .int .i64 x.f1, .int .i64 x.f2, .int .i64 x.f3, .int .i64 x.f4, .int .i64 x.f5.f0, .slice A6 x.f5.f1.length c6, .int .i64 x.f5.f2, .int .i64 x.f5.f3, .slice A9 x.f6.length c9] 54) = w0 at hblk hw0 ⊢
  clear hgw
  have hg0 := HG.out.below hw0
  have hx0 := HX.out.below hw0
  have Hi1 := Aside0.mk (ev_itoa g x.f1 hg0 hx0.i1 hblk)
  obtain ⟨c0, c1, c2, c3, c4, c5, c6_, c7, c8, c9_⟩ := evCells hblk (Below.refl _ _)
  have HW0 := Aside0.mk hw0
  clear hw0 hblk HG HX HN hg0 hx0
  go_cut [4] (fun v4 wc => v4 = .string (roleB x.f4) ∧ wc = w0)
  case first =>
    by_cases r1 : x.f4 = 1
    · have er : roleB x.f4 = ⟨#[32, 119, 97, 116, 99, 104]⟩ := by rw [r1]; rfl
      have q1 : (x.f4 == 1) = true := by rw [r1]; rfl
      have ER := Aside0.mk er
      clear r1 er
      go_wp2
      go_meet
      case rel => exact ⟨by rw [ER.out], rfl⟩
    · have q1 : (x.f4 == 1) = false := beq_eq_false_iff_ne.2 r1
      by_cases r2 : x.f4 = 2
      · have er : roleB x.f4 = ⟨#[32, 119, 114, 105, 116, 101]⟩ := by rw [r2]; rfl
        have q2 : (x.f4 == 2) = true := by rw [r2]; rfl
        have ER := Aside0.mk er
        clear r1 r2 er
        go_wp2
        go_meet
        case rel => exact ⟨by rw [ER.out], rfl⟩
      · have q2 : (x.f4 == 2) = false := beq_eq_false_iff_ne.2 r2
        have er : roleB x.f4 = ⟨#[]⟩ := by unfold roleB; rw [if_neg r1, if_neg r2]
        have ER := Aside0.mk er
        clear r1 r2 er
        go_wp2
        go_meet
        case rel => exact ⟨by rw [ER.out], rfl⟩
  case rest =>
    obtain ⟨rfl, hwc⟩ := hcut
    subst wc
    go_wp2_with fail
    refine (Hi1.out _ (by (repeat (first | with_reducible exact Below.refl _ _ | with_reducible assumption | with_reducible apply pw_below_drewN | with_reducible apply below_drew)))).mono ?_
    rintro e w1 ⟨rfl, hB, c0, c1, c2, c3, c4, c5, c6_, c7, c8, c9_⟩
    have HB := Aside0.mk hB
    clear hB
    go_wp2_with fail
    go_ret
    exact ⟨rfl, HW0.out.trans (HB.out.mono HW0.out.size)⟩
set_option maxHeartbeats 8000000 in
theorem words_out (g : Er → Addr) (x : S54) (A6 A9 : Option Addr) (c6 c9 : Nat) (w : World) (hg : Glob g w) (hx : EvIn x A6 A9 c6 c9 w) (hn6 : x.f5.f1.length ≤ 16) (hn9 : x.f6.length ≤ 1000) (hk : x.f0 = 4) :
    Calls Tryd.prog 35 #[evArg x A6 A9 c6 c9] w fun e w' => e = .returned (.string ((⟨#[111, 117, 116, 32]⟩ : ByteArray) ++ quoteB x.f6)) ∧ Below w.heap.size w w' := by
  have k1 : (x.f0 == 1) = false := by rw [hk]; rfl
  have k2 : (x.f0 == 2) = false := by rw [hk]; rfl
  have k3 : (x.f0 == 3) = false := by rw [hk]; rfl
  have k4 : (x.f0 == 4) = true := by rw [hk]; rfl
  have sq9 : (quoteB x.f6).size ≤ 3002 := by have := quoteB_size x.f6; omega
  have sr := roleB_le x.f4
  have HG := Aside0.mk hg
  have HX := Aside0.mk hx
  have HN := Aside0.mk (And.intro hn6 hn9)
  clear hg hx hn6 hn9 hk
  go_enter Tryd.func35, Tryd.ntmps35
  go_upto_block 0 with (fail)
  have hblk : EvBlk w.heap.size x A6 A9 c6 c9 (w.alloc (.cells #[.int .i64 x.f0, .int .i64 x.f1, .int .i64 x.f2, .int .i64 x.f3, .int .i64 x.f4, .int .i64 x.f5.f0, .slice A6 x.f5.f1.length c6, .int .i64 x.f5.f2, .int .i64 x.f5.f3, .slice A9 x.f6.length c9] 54)) := blk_new _ _
  have hw0 : Below w.heap.size w (w.alloc (.cells #[.int .i64 x.f0, .int .i64 x.f1, .int .i64 x.f2, .int .i64 x.f3, .int .i64 x.f4, .int .i64 x.f5.f0, .slice A6 x.f5.f1.length c6, .int .i64 x.f5.f2, .int .i64 x.f5.f3, .slice A9 x.f6.length c9] 54)) := below_alloc (Below.refl _ _) _
  generalize hgw : w.alloc (.cells #[.int .i64 x.f0, .int .i64 x.f1, .int .i64 x.f2, .int .i64 x.f3, .int .i64 x.f4, .int .i64 x.f5.f0, .slice A6 x.f5.f1.length c6, .int .i64 x.f5.f2, .int .i64 x.f5.f3, .slice A9 x.f6.length c9] 54) = w0 at hblk hw0 ⊢
  clear hgw
  have hg0 := HG.out.below hw0
  have hx0 := HX.out.below hw0
  have HQ9 := Aside0.mk (ev_quote x.f6 A9 c9 hx0.q9 hx0.h9 hx0.b9 HN.out.2 hblk)
  obtain ⟨c0, c1, c2, c3, c4, c5, c6_, c7, c8, c9_⟩ := evCells hblk (Below.refl _ _)
  have HW0 := Aside0.mk hw0
  clear hw0 hblk HG HX HN hg0 hx0
  go_cut [4] (fun v4 wc => v4 = .string (roleB x.f4) ∧ wc = w0)
  case first =>
    by_cases r1 : x.f4 = 1
    · have er : roleB x.f4 = ⟨#[32, 119, 97, 116, 99, 104]⟩ := by rw [r1]; rfl
      have q1 : (x.f4 == 1) = true := by rw [r1]; rfl
      have ER := Aside0.mk er
      clear r1 er
      go_wp2
      go_meet
      case rel => exact ⟨by rw [ER.out], rfl⟩
    · have q1 : (x.f4 == 1) = false := beq_eq_false_iff_ne.2 r1
      by_cases r2 : x.f4 = 2
      · have er : roleB x.f4 = ⟨#[32, 119, 114, 105, 116, 101]⟩ := by rw [r2]; rfl
        have q2 : (x.f4 == 2) = true := by rw [r2]; rfl
        have ER := Aside0.mk er
        clear r1 r2 er
        go_wp2
        go_meet
        case rel => exact ⟨by rw [ER.out], rfl⟩
      · have q2 : (x.f4 == 2) = false := beq_eq_false_iff_ne.2 r2
        have er : roleB x.f4 = ⟨#[]⟩ := by unfold roleB; rw [if_neg r1, if_neg r2]
        have ER := Aside0.mk er
        clear r1 r2 er
        go_wp2
        go_meet
        case rel => exact ⟨by rw [ER.out], rfl⟩
  case rest =>
    obtain ⟨rfl, hwc⟩ := hcut
    subst wc
    go_wp2_with fail
    refine (HQ9.out _ (by (repeat (first | with_reducible exact Below.refl _ _ | with_reducible assumption | with_reducible apply pw_below_drewN | with_reducible apply below_drew)))).mono ?_
    rintro e w1 ⟨rfl, hB, c0, c1, c2, c3, c4, c5, c6_, c7, c8, c9_⟩
    have HB := Aside0.mk hB
    clear hB
    go_wp2_with fail
    go_ret
    exact ⟨rfl, HW0.out.trans (HB.out.mono HW0.out.size)⟩
end Go.Proofs.YtjpkphmihkbfeaaDoor.S34
/- script.words: ask, free, tick, deliver. -/
namespace Go.Proofs.YtjpkphmihkbfeaaDoor.S34
open Go.RowKit Go.Proofs.YtjpkphmihkbfeaaDoorW.PrintWords Go.Proofs.YtjpkphmihkbfeaaDoorW.PrintLast Go.Proofs.YtjpkphmihkbfeaaDoorW.PrintMore Go.Proofs.YtjpkphmihkbfeaaDoor.Q
set_option maxRecDepth 100000
set_option linter.unusedSimpArgs false
set_option linter.unusedVariables false
set_option maxHeartbeats 8000000 in
theorem words_ask (g : Er → Addr) (x : S54) (A6 A9 : Option Addr) (c6 c9 : Nat) (w : World) (hg : Glob g w) (hx : EvIn x A6 A9 c6 c9 w) (hn6 : x.f5.f1.length ≤ 16) (hn9 : x.f6.length ≤ 1000) (hk : x.f0 = 5) (hd : x.f5.f0 = 3) :
    Calls Tryd.prog 35 #[evArg x A6 A9 c6 c9] w fun e w' => e = .returned (.string ((⟨#[97, 115, 107, 32]⟩ : ByteArray) ++ numB x.f1)) ∧ Below w.heap.size w w' := by
  have k1 : (x.f0 == 1) = false := by rw [hk]; rfl
  have k2 : (x.f0 == 2) = false := by rw [hk]; rfl
  have k3 : (x.f0 == 3) = false := by rw [hk]; rfl
  have k4 : (x.f0 == 4) = false := by rw [hk]; rfl
  have k5 : (x.f0 == 5) = true := by rw [hk]; rfl
  have d1 : (x.f5.f0 == 1) = false := by rw [hd]; rfl
  have d2 : (x.f5.f0 == 2) = false := by rw [hd]; rfl
  have d3 : (x.f5.f0 == 3) = true := by rw [hd]; rfl
  have si1 := numB_le hx.i1
  have sr := roleB_le x.f4
  have HG := Aside0.mk hg
  have HX := Aside0.mk hx
  have HN := Aside0.mk (And.intro hn6 hn9)
  clear hg hx hn6 hn9 hk hd
  go_enter Tryd.func35, Tryd.ntmps35
  go_upto_block 0 with (fail)
  have hblk : EvBlk w.heap.size x A6 A9 c6 c9 (w.alloc (.cells #[.int .i64 x.f0, .int .i64 x.f1, .int .i64 x.f2, .int .i64 x.f3, .int .i64 x.f4, .int .i64 x.f5.f0, .slice A6 x.f5.f1.length c6, .int .i64 x.f5.f2, .int .i64 x.f5.f3, .slice A9 x.f6.length c9] 54)) := blk_new _ _
  have hw0 : Below w.heap.size w (w.alloc (.cells #[.int .i64 x.f0, .int .i64 x.f1, .int .i64 x.f2, .int .i64 x.f3, .int .i64 x.f4, .int .i64 x.f5.f0, .slice A6 x.f5.f1.length c6, .int .i64 x.f5.f2, .int .i64 x.f5.f3, .slice A9 x.f6.length c9] 54)) := below_alloc (Below.refl _ _) _
  generalize hgw : w.alloc (.cells #[.int .i64 x.f0, .int .i64 x.f1, .int .i64 x.f2, .int .i64 x.f3, .int .i64 x.f4, .int .i64 x.f5.f0, .slice A6 x.f5.f1.length c6, .int .i64 x.f5.f2, .int .i64 x.f5.f3, .slice A9 x.f6.length c9] 54) = w0 at hblk hw0 ⊢
  clear hgw
  have hg0 := HG.out.below hw0
  have hx0 := HX.out.below hw0
  have Hi1 := Aside0.mk (ev_itoa g x.f1 hg0 hx0.i1 hblk)
  obtain ⟨c0, c1, c2, c3, c4, c5, c6_, c7, c8, c9_⟩ := evCells hblk (Below.refl _ _)
  have HW0 := Aside0.mk hw0
  clear hw0 hblk HG HX HN hg0 hx0
  go_cut [4] (fun v4 wc => v4 = .string (roleB x.f4) ∧ wc = w0)
  case first =>
    by_cases r1 : x.f4 = 1
    · have er : roleB x.f4 = ⟨#[32, 119, 97, 116, 99, 104]⟩ := by rw [r1]; rfl
      have q1 : (x.f4 == 1) = true := by rw [r1]; rfl
      have ER := Aside0.mk er
      clear r1 er
      go_wp2
      go_meet
      case rel => exact ⟨by rw [ER.out], rfl⟩
    · have q1 : (x.f4 == 1) = false := beq_eq_false_iff_ne.2 r1
      by_cases r2 : x.f4 = 2
      · have er : roleB x.f4 = ⟨#[32, 119, 114, 105, 116, 101]⟩ := by rw [r2]; rfl
        have q2 : (x.f4 == 2) = true := by rw [r2]; rfl
        have ER := Aside0.mk er
        clear r1 r2 er
        go_wp2
        go_meet
        case rel => exact ⟨by rw [ER.out], rfl⟩
      · have q2 : (x.f4 == 2) = false := beq_eq_false_iff_ne.2 r2
        have er : roleB x.f4 = ⟨#[]⟩ := by unfold roleB; rw [if_neg r1, if_neg r2]
        have ER := Aside0.mk er
        clear r1 r2 er
        go_wp2
        go_meet
        case rel => exact ⟨by rw [ER.out], rfl⟩
  case rest =>
    obtain ⟨rfl, hwc⟩ := hcut
    subst wc
    go_wp2_with fail
    refine (Hi1.out _ (by (repeat (first | with_reducible exact Below.refl _ _ | with_reducible assumption | with_reducible apply pw_below_drewN | with_reducible apply below_drew)))).mono ?_
    rintro e w1 ⟨rfl, hB, c0, c1, c2, c3, c4, c5, c6_, c7, c8, c9_⟩
    have HB := Aside0.mk hB
    clear hB
    go_wp2_with fail
    go_ret
    exact ⟨rfl, HW0.out.trans (HB.out.mono HW0.out.size)⟩
set_option maxHeartbeats 8000000 in
theorem words_free (g : Er → Addr) (x : S54) (A6 A9 : Option Addr) (c6 c9 : Nat) (w : World) (hg : Glob g w) (hx : EvIn x A6 A9 c6 c9 w) (hn6 : x.f5.f1.length ≤ 16) (hn9 : x.f6.length ≤ 1000) (hk : x.f0 = 5) (hd1 : x.f5.f0 ≠ 1) (hd2 : x.f5.f0 ≠ 2) (hd3 : x.f5.f0 ≠ 3) :
    Calls Tryd.prog 35 #[evArg x A6 A9 c6 c9] w fun e w' => e = .returned (.string ((⟨#[102, 114, 101, 101, 32]⟩ : ByteArray) ++ numB x.f1)) ∧ Below w.heap.size w w' := by
  have k1 : (x.f0 == 1) = false := by rw [hk]; rfl
  have k2 : (x.f0 == 2) = false := by rw [hk]; rfl
  have k3 : (x.f0 == 3) = false := by rw [hk]; rfl
  have k4 : (x.f0 == 4) = false := by rw [hk]; rfl
  have k5 : (x.f0 == 5) = true := by rw [hk]; rfl
  have d1 : (x.f5.f0 == 1) = false := beq_eq_false_iff_ne.2 hd1
  have d2 : (x.f5.f0 == 2) = false := beq_eq_false_iff_ne.2 hd2
  have d3 : (x.f5.f0 == 3) = false := beq_eq_false_iff_ne.2 hd3
  have si1 := numB_le hx.i1
  have sr := roleB_le x.f4
  have HG := Aside0.mk hg
  have HX := Aside0.mk hx
  have HN := Aside0.mk (And.intro hn6 hn9)
  clear hg hx hn6 hn9 hk hd1 hd2 hd3
  go_enter Tryd.func35, Tryd.ntmps35
  go_upto_block 0 with (fail)
  have hblk : EvBlk w.heap.size x A6 A9 c6 c9 (w.alloc (.cells #[.int .i64 x.f0, .int .i64 x.f1, .int .i64 x.f2, .int .i64 x.f3, .int .i64 x.f4, .int .i64 x.f5.f0, .slice A6 x.f5.f1.length c6, .int .i64 x.f5.f2, .int .i64 x.f5.f3, .slice A9 x.f6.length c9] 54)) := blk_new _ _
  have hw0 : Below w.heap.size w (w.alloc (.cells #[.int .i64 x.f0, .int .i64 x.f1, .int .i64 x.f2, .int .i64 x.f3, .int .i64 x.f4, .int .i64 x.f5.f0, .slice A6 x.f5.f1.length c6, .int .i64 x.f5.f2, .int .i64 x.f5.f3, .slice A9 x.f6.length c9] 54)) := below_alloc (Below.refl _ _) _
  generalize hgw : w.alloc (.cells #[.int .i64 x.f0, .int .i64 x.f1, .int .i64 x.f2, .int .i64 x.f3, .int .i64 x.f4, .int .i64 x.f5.f0, .slice A6 x.f5.f1.length c6, .int .i64 x.f5.f2, .int .i64 x.f5.f3, .slice A9 x.f6.length c9] 54) = w0 at hblk hw0 ⊢
  clear hgw
  have hg0 := HG.out.below hw0
  have hx0 := HX.out.below hw0
  have Hi1 := Aside0.mk (ev_itoa g x.f1 hg0 hx0.i1 hblk)
  obtain ⟨c0, c1, c2, c3, c4, c5, c6_, c7, c8, c9_⟩ := evCells hblk (Below.refl _ _)
  have HW0 := Aside0.mk hw0
  clear hw0 hblk HG HX HN hg0 hx0
  go_cut [4] (fun v4 wc => v4 = .string (roleB x.f4) ∧ wc = w0)
  case first =>
    by_cases r1 : x.f4 = 1
    · have er : roleB x.f4 = ⟨#[32, 119, 97, 116, 99, 104]⟩ := by rw [r1]; rfl
      have q1 : (x.f4 == 1) = true := by rw [r1]; rfl
      have ER := Aside0.mk er
      clear r1 er
      go_wp2
      go_meet
      case rel => exact ⟨by rw [ER.out], rfl⟩
    · have q1 : (x.f4 == 1) = false := beq_eq_false_iff_ne.2 r1
      by_cases r2 : x.f4 = 2
      · have er : roleB x.f4 = ⟨#[32, 119, 114, 105, 116, 101]⟩ := by rw [r2]; rfl
        have q2 : (x.f4 == 2) = true := by rw [r2]; rfl
        have ER := Aside0.mk er
        clear r1 r2 er
        go_wp2
        go_meet
        case rel => exact ⟨by rw [ER.out], rfl⟩
      · have q2 : (x.f4 == 2) = false := beq_eq_false_iff_ne.2 r2
        have er : roleB x.f4 = ⟨#[]⟩ := by unfold roleB; rw [if_neg r1, if_neg r2]
        have ER := Aside0.mk er
        clear r1 r2 er
        go_wp2
        go_meet
        case rel => exact ⟨by rw [ER.out], rfl⟩
  case rest =>
    obtain ⟨rfl, hwc⟩ := hcut
    subst wc
    go_wp2_with fail
    refine (Hi1.out _ (by (repeat (first | with_reducible exact Below.refl _ _ | with_reducible assumption | with_reducible apply pw_below_drewN | with_reducible apply below_drew)))).mono ?_
    rintro e w1 ⟨rfl, hB, c0, c1, c2, c3, c4, c5, c6_, c7, c8, c9_⟩
    have HB := Aside0.mk hB
    clear hB
    go_wp2_with fail
    go_ret
    exact ⟨rfl, HW0.out.trans (HB.out.mono HW0.out.size)⟩
set_option maxHeartbeats 8000000 in
theorem words_tick (g : Er → Addr) (x : S54) (A6 A9 : Option Addr) (c6 c9 : Nat) (w : World) (hg : Glob g w) (hx : EvIn x A6 A9 c6 c9 w) (hn6 : x.f5.f1.length ≤ 16) (hn9 : x.f6.length ≤ 1000) (hk : x.f0 = 6) :
    Calls Tryd.prog 35 #[evArg x A6 A9 c6 c9] w fun e w' => e = .returned (.string ((⟨#[116, 105, 99, 107, 32]⟩ : ByteArray) ++ numB x.f2)) ∧ Below w.heap.size w w' := by
  have k1 : (x.f0 == 1) = false := by rw [hk]; rfl
  have k2 : (x.f0 == 2) = false := by rw [hk]; rfl
  have k3 : (x.f0 == 3) = false := by rw [hk]; rfl
  have k4 : (x.f0 == 4) = false := by rw [hk]; rfl
  have k5 : (x.f0 == 5) = false := by rw [hk]; rfl
  have k6 : (x.f0 == 6) = true := by rw [hk]; rfl
  have si2 := numB_le hx.i2
  have sr := roleB_le x.f4
  have HG := Aside0.mk hg
  have HX := Aside0.mk hx
  have HN := Aside0.mk (And.intro hn6 hn9)
  clear hg hx hn6 hn9 hk
  go_enter Tryd.func35, Tryd.ntmps35
  go_upto_block 0 with (fail)
  have hblk : EvBlk w.heap.size x A6 A9 c6 c9 (w.alloc (.cells #[.int .i64 x.f0, .int .i64 x.f1, .int .i64 x.f2, .int .i64 x.f3, .int .i64 x.f4, .int .i64 x.f5.f0, .slice A6 x.f5.f1.length c6, .int .i64 x.f5.f2, .int .i64 x.f5.f3, .slice A9 x.f6.length c9] 54)) := blk_new _ _
  have hw0 : Below w.heap.size w (w.alloc (.cells #[.int .i64 x.f0, .int .i64 x.f1, .int .i64 x.f2, .int .i64 x.f3, .int .i64 x.f4, .int .i64 x.f5.f0, .slice A6 x.f5.f1.length c6, .int .i64 x.f5.f2, .int .i64 x.f5.f3, .slice A9 x.f6.length c9] 54)) := below_alloc (Below.refl _ _) _
  generalize hgw : w.alloc (.cells #[.int .i64 x.f0, .int .i64 x.f1, .int .i64 x.f2, .int .i64 x.f3, .int .i64 x.f4, .int .i64 x.f5.f0, .slice A6 x.f5.f1.length c6, .int .i64 x.f5.f2, .int .i64 x.f5.f3, .slice A9 x.f6.length c9] 54) = w0 at hblk hw0 ⊢
  clear hgw
  have hg0 := HG.out.below hw0
  have hx0 := HX.out.below hw0
  have Hi2 := Aside0.mk (ev_itoa g x.f2 hg0 hx0.i2 hblk)
  obtain ⟨c0, c1, c2, c3, c4, c5, c6_, c7, c8, c9_⟩ := evCells hblk (Below.refl _ _)
  have HW0 := Aside0.mk hw0
  clear hw0 hblk HG HX HN hg0 hx0
  go_cut [4] (fun v4 wc => v4 = .string (roleB x.f4) ∧ wc = w0)
  case first =>
    by_cases r1 : x.f4 = 1
    · have er : roleB x.f4 = ⟨#[32, 119, 97, 116, 99, 104]⟩ := by rw [r1]; rfl
      have q1 : (x.f4 == 1) = true := by rw [r1]; rfl
      have ER := Aside0.mk er
      clear r1 er
      go_wp2
      go_meet
      case rel => exact ⟨by rw [ER.out], rfl⟩
    · have q1 : (x.f4 == 1) = false := beq_eq_false_iff_ne.2 r1
      by_cases r2 : x.f4 = 2
      · have er : roleB x.f4 = ⟨#[32, 119, 114, 105, 116, 101]⟩ := by rw [r2]; rfl
        have q2 : (x.f4 == 2) = true := by rw [r2]; rfl
        have ER := Aside0.mk er
        clear r1 r2 er
        go_wp2
        go_meet
        case rel => exact ⟨by rw [ER.out], rfl⟩
      · have q2 : (x.f4 == 2) = false := beq_eq_false_iff_ne.2 r2
        have er : roleB x.f4 = ⟨#[]⟩ := by unfold roleB; rw [if_neg r1, if_neg r2]
        have ER := Aside0.mk er
        clear r1 r2 er
        go_wp2
        go_meet
        case rel => exact ⟨by rw [ER.out], rfl⟩
  case rest =>
    obtain ⟨rfl, hwc⟩ := hcut
    subst wc
    go_wp2_with fail
    refine (Hi2.out _ (by (repeat (first | with_reducible exact Below.refl _ _ | with_reducible assumption | with_reducible apply pw_below_drewN | with_reducible apply below_drew)))).mono ?_
    rintro e w1 ⟨rfl, hB, c0, c1, c2, c3, c4, c5, c6_, c7, c8, c9_⟩
    have HB := Aside0.mk hB
    clear hB
    go_wp2_with fail
    go_ret
    exact ⟨rfl, HW0.out.trans (HB.out.mono HW0.out.size)⟩
set_option maxHeartbeats 8000000 in
theorem words_deliver (g : Er → Addr) (x : S54) (A6 A9 : Option Addr) (c6 c9 : Nat) (w : World) (hg : Glob g w) (hx : EvIn x A6 A9 c6 c9 w) (hn6 : x.f5.f1.length ≤ 16) (hn9 : x.f6.length ≤ 1000) (hk : x.f0 = 7) :
    Calls Tryd.prog 35 #[evArg x A6 A9 c6 c9] w fun e w' => e = .returned (.string ((⟨#[100, 101, 108, 105, 118, 101, 114, 32]⟩ : ByteArray) ++ numB x.f2)) ∧ Below w.heap.size w w' := by
  have k1 : (x.f0 == 1) = false := by rw [hk]; rfl
  have k2 : (x.f0 == 2) = false := by rw [hk]; rfl
  have k3 : (x.f0 == 3) = false := by rw [hk]; rfl
  have k4 : (x.f0 == 4) = false := by rw [hk]; rfl
  have k5 : (x.f0 == 5) = false := by rw [hk]; rfl
  have k6 : (x.f0 == 6) = false := by rw [hk]; rfl
  have k7 : (x.f0 == 7) = true := by rw [hk]; rfl
  have si2 := numB_le hx.i2
  have sr := roleB_le x.f4
  have HG := Aside0.mk hg
  have HX := Aside0.mk hx
  have HN := Aside0.mk (And.intro hn6 hn9)
  clear hg hx hn6 hn9 hk
  go_enter Tryd.func35, Tryd.ntmps35
  go_upto_block 0 with (fail)
  have hblk : EvBlk w.heap.size x A6 A9 c6 c9 (w.alloc (.cells #[.int .i64 x.f0, .int .i64 x.f1, .int .i64 x.f2, .int .i64 x.f3, .int .i64 x.f4, .int .i64 x.f5.f0, .slice A6 x.f5.f1.length c6, .int .i64 x.f5.f2, .int .i64 x.f5.f3, .slice A9 x.f6.length c9] 54)) := blk_new _ _
  have hw0 : Below w.heap.size w (w.alloc (.cells #[.int .i64 x.f0, .int .i64 x.f1, .int .i64 x.f2, .int .i64 x.f3, .int .i64 x.f4, .int .i64 x.f5.f0, .slice A6 x.f5.f1.length c6, .int .i64 x.f5.f2, .int .i64 x.f5.f3, .slice A9 x.f6.length c9] 54)) := below_alloc (Below.refl _ _) _
  generalize hgw : w.alloc (.cells #[.int .i64 x.f0, .int .i64 x.f1, .int .i64 x.f2, .int .i64 x.f3, .int .i64 x.f4, .int .i64 x.f5.f0, .slice A6 x.f5.f1.length c6, .int .i64 x.f5.f2, .int .i64 x.f5.f3, .slice A9 x.f6.length c9] 54) = w0 at hblk hw0 ⊢
  clear hgw
  have hg0 := HG.out.below hw0
  have hx0 := HX.out.below hw0
  have Hi2 := Aside0.mk (ev_itoa g x.f2 hg0 hx0.i2 hblk)
  obtain ⟨c0, c1, c2, c3, c4, c5, c6_, c7, c8, c9_⟩ := evCells hblk (Below.refl _ _)
  have HW0 := Aside0.mk hw0
  clear hw0 hblk HG HX HN hg0 hx0
  go_cut [4] (fun v4 wc => v4 = .string (roleB x.f4) ∧ wc = w0)
  case first =>
    by_cases r1 : x.f4 = 1
    · have er : roleB x.f4 = ⟨#[32, 119, 97, 116, 99, 104]⟩ := by rw [r1]; rfl
      have q1 : (x.f4 == 1) = true := by rw [r1]; rfl
      have ER := Aside0.mk er
      clear r1 er
      go_wp2
      go_meet
      case rel => exact ⟨by rw [ER.out], rfl⟩
    · have q1 : (x.f4 == 1) = false := beq_eq_false_iff_ne.2 r1
      by_cases r2 : x.f4 = 2
      · have er : roleB x.f4 = ⟨#[32, 119, 114, 105, 116, 101]⟩ := by rw [r2]; rfl
        have q2 : (x.f4 == 2) = true := by rw [r2]; rfl
        have ER := Aside0.mk er
        clear r1 r2 er
        go_wp2
        go_meet
        case rel => exact ⟨by rw [ER.out], rfl⟩
      · have q2 : (x.f4 == 2) = false := beq_eq_false_iff_ne.2 r2
        have er : roleB x.f4 = ⟨#[]⟩ := by unfold roleB; rw [if_neg r1, if_neg r2]
        have ER := Aside0.mk er
        clear r1 r2 er
        go_wp2
        go_meet
        case rel => exact ⟨by rw [ER.out], rfl⟩
  case rest =>
    obtain ⟨rfl, hwc⟩ := hcut
    subst wc
    go_wp2_with fail
    refine (Hi2.out _ (by (repeat (first | with_reducible exact Below.refl _ _ | with_reducible assumption | with_reducible apply pw_below_drewN | with_reducible apply below_drew)))).mono ?_
    rintro e w1 ⟨rfl, hB, c0, c1, c2, c3, c4, c5, c6_, c7, c8, c9_⟩
    have HB := Aside0.mk hB
    clear hB
    go_wp2_with fail
    go_ret
    exact ⟨rfl, HW0.out.trans (HB.out.mono HW0.out.size)⟩
end Go.Proofs.YtjpkphmihkbfeaaDoor.S34
/- script.words: keys. -/
namespace Go.Proofs.YtjpkphmihkbfeaaDoor.S34
open Go.RowKit Go.Proofs.YtjpkphmihkbfeaaDoorW.PrintWords Go.Proofs.YtjpkphmihkbfeaaDoorW.PrintLast Go.Proofs.YtjpkphmihkbfeaaDoorW.PrintMore Go.Proofs.YtjpkphmihkbfeaaDoor.Q
set_option maxRecDepth 100000
set_option linter.unusedSimpArgs false
set_option linter.unusedVariables false
set_option maxHeartbeats 8000000 in
theorem words_keys (g : Er → Addr) (x : S54) (A6 A9 : Option Addr) (c6 c9 : Nat) (w : World) (hg : Glob g w) (hx : EvIn x A6 A9 c6 c9 w) (hn6 : x.f5.f1.length ≤ 16) (hn9 : x.f6.length ≤ 1000) (hk : x.f0 = 5) (hd : x.f5.f0 = 1) :
    Calls Tryd.prog 35 #[evArg x A6 A9 c6 c9] w fun e w' => e = .returned (.string ((⟨#[107, 101, 121, 115, 32]⟩ : ByteArray) ++ numB x.f1 ++ ⟨#[32]⟩ ++ quoteB x.f5.f1)) ∧ Below w.heap.size w w' := by
  have k1 : (x.f0 == 1) = false := by rw [hk]; rfl
  have k2 : (x.f0 == 2) = false := by rw [hk]; rfl
  have k3 : (x.f0 == 3) = false := by rw [hk]; rfl
  have k4 : (x.f0 == 4) = false := by rw [hk]; rfl
  have k5 : (x.f0 == 5) = true := by rw [hk]; rfl
  have d1 : (x.f5.f0 == 1) = true := by rw [hd]; rfl
  have si1 := numB_le hx.i1
  have sq6 : (quoteB x.f5.f1).size ≤ 50 := by have := quoteB_size x.f5.f1; omega
  have sr := roleB_le x.f4
  have HG := Aside0.mk hg
  have HX := Aside0.mk hx
  have HN := Aside0.mk (And.intro hn6 hn9)
  clear hg hx hn6 hn9 hk hd
  go_enter Tryd.func35, Tryd.ntmps35
  go_upto_block 0 with (fail)
  have hblk : EvBlk w.heap.size x A6 A9 c6 c9 (w.alloc (.cells #[.int .i64 x.f0, .int .i64 x.f1, .int .i64 x.f2, .int .i64 x.f3, .int .i64 x.f4, .int .i64 x.f5.f0, .slice A6 x.f5.f1.length c6, .int .i64 x.f5.f2, .int .i64 x.f5.f3, .slice A9 x.f6.length c9] 54)) := blk_new _ _
  have hw0 : Below w.heap.size w (w.alloc (.cells #[.int .i64 x.f0, .int .i64 x.f1, .int .i64 x.f2, .int .i64 x.f3, .int .i64 x.f4, .int .i64 x.f5.f0, .slice A6 x.f5.f1.length c6, .int .i64 x.f5.f2, .int .i64 x.f5.f3, .slice A9 x.f6.length c9] 54)) := below_alloc (Below.refl _ _) _
  generalize hgw : w.alloc (.cells #[.int .i64 x.f0, .int .i64 x.f1, .int .i64 x.f2, .int .i64 x.f3, .int .i64 x.f4, .int .i64 x.f5.f0, .slice A6 x.f5.f1.length c6, .int .i64 x.f5.f2, .int .i64 x.f5.f3, .slice A9 x.f6.length c9] 54) = w0 at hblk hw0 ⊢
  clear hgw
  have hg0 := HG.out.below hw0
  have hx0 := HX.out.below hw0
  have Hi1 := Aside0.mk (ev_itoa g x.f1 hg0 hx0.i1 hblk)
  have HQ6 := Aside0.mk (ev_quote x.f5.f1 A6 c6 hx0.q6 hx0.h6 hx0.b6 (by have := HN.out.1; omega) hblk)
  obtain ⟨c0, c1, c2, c3, c4, c5, c6_, c7, c8, c9_⟩ := evCells hblk (Below.refl _ _)
  have HW0 := Aside0.mk hw0
  have HBLK := Aside0.mk hblk
  clear hw0 hblk HG HX HN hg0 hx0
  go_cut [4] (fun v4 wc => v4 = .string (roleB x.f4) ∧ wc = w0)
  case first =>
    by_cases r1 : x.f4 = 1
    · have er : roleB x.f4 = ⟨#[32, 119, 97, 116, 99, 104]⟩ := by rw [r1]; rfl
      have q1 : (x.f4 == 1) = true := by rw [r1]; rfl
      have ER := Aside0.mk er
      clear r1 er
      go_wp2
      go_meet
      case rel => exact ⟨by rw [ER.out], rfl⟩
    · have q1 : (x.f4 == 1) = false := beq_eq_false_iff_ne.2 r1
      by_cases r2 : x.f4 = 2
      · have er : roleB x.f4 = ⟨#[32, 119, 114, 105, 116, 101]⟩ := by rw [r2]; rfl
        have q2 : (x.f4 == 2) = true := by rw [r2]; rfl
        have ER := Aside0.mk er
        clear r1 r2 er
        go_wp2
        go_meet
        case rel => exact ⟨by rw [ER.out], rfl⟩
      · have q2 : (x.f4 == 2) = false := beq_eq_false_iff_ne.2 r2
        have er : roleB x.f4 = ⟨#[]⟩ := by unfold roleB; rw [if_neg r1, if_neg r2]
        have ER := Aside0.mk er
        clear r1 r2 er
        go_wp2
        go_meet
        case rel => exact ⟨by rw [ER.out], rfl⟩
  case rest =>
    obtain ⟨rfl, hwc⟩ := hcut
    subst wc
    go_wp2_with fail
    refine start_ (n := 12) (S := fun W => Below w0.heap.size w0 W) (ds := []) #[false, false, false, false, false, false, false, false, false, false, false, false] (by kernel_rfl) rfl rfl (below_drew (Below.refl _ _)) (fun hHeld => ?_)
    generalize w0.drew = wr at hHeld ⊢
    refine pure_ (i := 0) (N := (some 51)) (v := ?_) (a' := ?_) #[true, false, false, false, false, false, false, false, false, false, false, false] rfl rfl (by kernel_rfl) (fun _ _ _ h => h) (Or.inl ⟨by rfl, ?_⟩) ?_ ?_
    rotate_left
    · intro w'
      go_simp
      first | with_reducible rfl | (rw [if_neg (by omega)]; done) | (rw [if_neg (by omega)]; with_reducible rfl)
    rotate_left
    · simp only [Act.put, List.setIfInBounds_toArray, List.set_cons_zero, List.set_cons_succ, i64_w, i32_w]
      rfl
    refine pure_ (i := 1) (N := (some 52)) (v := ?_) (a' := ?_) #[true, true, false, false, false, false, false, false, false, false, false, false] rfl rfl (by kernel_rfl) (fun _ _ _ h => h) (Or.inl ⟨by rfl, ?_⟩) ?_ ?_
    rotate_left
    · intro w'
      go_simp
      first | with_reducible rfl | (rw [if_neg (by omega)]; done) | (rw [if_neg (by omega)]; with_reducible rfl)
    rotate_left
    · simp only [Act.put, List.setIfInBounds_toArray, List.set_cons_zero, List.set_cons_succ, i64_w, i32_w]
      rfl
    refine pure_ (i := 6) (N := (some 57)) (v := ?_) (a' := ?_) #[true, true, false, false, false, false, true, false, false, false, false, false] rfl rfl (by kernel_rfl) (fun _ _ _ h => h) (Or.inl ⟨by rfl, ?_⟩) ?_ ?_
    rotate_left
    · intro w'
      go_simp
      first | with_reducible rfl | (rw [if_neg (by omega)]; done) | (rw [if_neg (by omega)]; with_reducible rfl)
    rotate_left
    · simp only [Act.put, List.setIfInBounds_toArray, List.set_cons_zero, List.set_cons_succ, i64_w, i32_w]
      rfl
    refine pure_ (i := 7) (N := (some 58)) (v := ?_) (a' := ?_) #[true, true, false, false, false, false, true, true, false, false, false, false] rfl rfl (by kernel_rfl) (fun _ _ _ h => h) (Or.inl ⟨by rfl, ?_⟩) ?_ ?_
    rotate_left
    · intro w'
      go_simp
      first | with_reducible rfl | (rw [if_neg (by omega)]; done) | (rw [if_neg (by omega)]; with_reducible rfl)
    rotate_left
    · simp only [Act.put, List.setIfInBounds_toArray, List.set_cons_zero, List.set_cons_succ, i64_w, i32_w]
      rfl
    refine take_ (i := 2) (N := (some 53)) (v := ?_) (a' := ?_) #[true, true, true, false, false, false, true, true, false, false, false, false] rfl rfl (by kernel_rfl) (fun _ _ _ h => h) (Or.inl ⟨by rfl, ?_⟩) hHeld ?_ ?_
    rotate_left
    · intro w' hS
      have hc := evCells HBLK.out hS
      have c : w'.cell? ⟨w.heap.size, 1, none⟩ = some (.int .i64 x.f1) := hc.2.1
      clear hc
      go_simp
      first | with_reducible rfl | (rw [if_neg (by omega)]; done) | (rw [if_neg (by omega)]; with_reducible rfl)
    rotate_left
    · simp only [Act.put, List.setIfInBounds_toArray, List.set_cons_zero, List.set_cons_succ, i64_w, i32_w]
      rfl
    refine take_ (i := 8) (N := (some 59)) (v := ?_) (a' := ?_) #[true, true, true, false, false, false, true, true, true, false, false, false] rfl rfl (by kernel_rfl) (fun _ _ _ h => h) (Or.inl ⟨by rfl, ?_⟩) hHeld ?_ ?_
    rotate_left
    · intro w' hS
      have hc := evCells HBLK.out hS
      have c : w'.cell? ⟨w.heap.size, 6, none⟩ = some (.slice A6 x.f5.f1.length c6) := hc.2.2.2.2.2.2.1
      clear hc
      go_simp
      first | with_reducible rfl | (rw [if_neg (by omega)]; done) | (rw [if_neg (by omega)]; with_reducible rfl)
    rotate_left
    · simp only [Act.put, List.setIfInBounds_toArray, List.set_cons_zero, List.set_cons_succ, i64_w, i32_w]
      rfl
    refine one_ (i := 3) (N := (some 54)) #[true, true, true, true, false, false, true, true, true, false, false, false] rfl rfl (by kernel_rfl) (by decide) (fun K hK => ?_)
    refine call_ 32 #[.int .i64 x.f1] (by rfl) rfl (by
      have he := enters_ Tryd.func32 (by kernel_rfl) rfl #[.int .i64 x.f1] wr
      unfold execOp
      simp [resolve, Deferred.ofValue, invoke, Act.eval, he]) ?_
    refine (Hi1.out wr hHeld).mono ?_
    rintro e wc1 ⟨rfl, hB, -⟩
    refine ⟨_, rfl, hK.out _ _ hB (fun hHeld => ?_)⟩
    clear hK K hB
    refine norm_ (a' := ?_) ?_ ?_
    rotate_left
    · show Act.put _ (some 54) _ = _
      simp only [Act.put, List.setIfInBounds_toArray, List.set_cons_zero, List.set_cons_succ, i64_w, i32_w]
      rfl
    refine pure_ (i := 4) (N := (some 55)) (v := ?_) (a' := ?_) #[true, true, true, true, true, false, true, true, true, false, false, false] rfl rfl (by kernel_rfl) (fun _ _ _ h => h) (Or.inl ⟨by rfl, ?_⟩) ?_ ?_
    rotate_left
    · intro w'
      go_simp
      first | with_reducible rfl | (rw [if_neg (by omega)]; done) | (rw [if_neg (by omega)]; with_reducible rfl)
    rotate_left
    · simp only [Act.put, List.setIfInBounds_toArray, List.set_cons_zero, List.set_cons_succ, i64_w, i32_w]
      rfl
    refine pure_ (i := 5) (N := (some 56)) (v := ?_) (a' := ?_) #[true, true, true, true, true, true, true, true, true, false, false, false] rfl rfl (by kernel_rfl) (fun _ _ _ h => h) (Or.inl ⟨by rfl, ?_⟩) ?_ ?_
    rotate_left
    · intro w'
      go_simp
      first | with_reducible rfl | (rw [if_neg (by omega)]; done) | (rw [if_neg (by omega)]; with_reducible rfl)
    rotate_left
    · simp only [Act.put, List.setIfInBounds_toArray, List.set_cons_zero, List.set_cons_succ, i64_w, i32_w]
      rfl
    refine one_ (i := 9) (N := (some 60)) #[true, true, true, true, true, true, true, true, true, true, false, false] rfl rfl (by kernel_rfl) (by decide) (fun K hK => ?_)
    refine call_ 59 #[.slice A6 x.f5.f1.length c6] (by rfl) rfl (by
      have he := enters_ Tryd.func59 (by kernel_rfl) rfl #[.slice A6 x.f5.f1.length c6] wc1
      unfold execOp
      simp [resolve, Deferred.ofValue, invoke, Act.eval, he]) ?_
    refine (HQ6.out wc1 hHeld).mono ?_
    rintro e wc2 ⟨rfl, hB, -⟩
    refine ⟨_, rfl, hK.out _ _ hB (fun hHeld => ?_)⟩
    clear hK K hB
    refine norm_ (a' := ?_) ?_ ?_
    rotate_left
    · show Act.put _ (some 60) _ = _
      simp only [Act.put, List.setIfInBounds_toArray, List.set_cons_zero, List.set_cons_succ, i64_w, i32_w]
      rfl
    refine pure_ (i := 10) (N := (some 61)) (v := ?_) (a' := ?_) #[true, true, true, true, true, true, true, true, true, true, true, false] rfl rfl (by kernel_rfl) (fun _ _ _ h => h) (Or.inl ⟨by rfl, ?_⟩) ?_ ?_
    rotate_left
    · intro w'
      go_simp
      first | with_reducible rfl | (rw [if_neg (by omega)]; done) | (rw [if_neg (by omega)]; with_reducible rfl)
    rotate_left
    · simp only [Act.put, List.setIfInBounds_toArray, List.set_cons_zero, List.set_cons_succ, i64_w, i32_w]
      rfl
    refine pure_ (i := 11) (N := (some 2)) (v := ?_) (a' := ?_) #[true, true, true, true, true, true, true, true, true, true, true, true] rfl rfl (by kernel_rfl) (fun _ _ _ h => h) (Or.inl ⟨by rfl, ?_⟩) ?_ ?_
    rotate_left
    · intro w'
      go_simp
      first | with_reducible rfl | (rw [if_neg (by omega)]; done) | (rw [if_neg (by omega)]; with_reducible rfl)
    rotate_left
    · simp only [Act.put, List.setIfInBounds_toArray, List.set_cons_zero, List.set_cons_succ, i64_w, i32_w]
      rfl
    refine done_ (by kernel_rfl) ?_
    go_wp2_with fail
    go_ret
    exact ⟨rfl, HW0.out.trans (hHeld.mono HW0.out.size)⟩
end Go.Proofs.YtjpkphmihkbfeaaDoor.S34
/- script.words: spoil, move. -/
namespace Go.Proofs.YtjpkphmihkbfeaaDoor.S34
open Go.RowKit Go.Proofs.YtjpkphmihkbfeaaDoorW.PrintWords Go.Proofs.YtjpkphmihkbfeaaDoorW.PrintLast Go.Proofs.YtjpkphmihkbfeaaDoorW.PrintMore Go.Proofs.YtjpkphmihkbfeaaDoor.Q
set_option maxRecDepth 100000
set_option linter.unusedSimpArgs false
set_option linter.unusedVariables false
set_option maxHeartbeats 8000000 in
theorem words_spoil (g : Er → Addr) (x : S54) (A6 A9 : Option Addr) (c6 c9 : Nat) (w : World) (hg : Glob g w) (hx : EvIn x A6 A9 c6 c9 w) (hn6 : x.f5.f1.length ≤ 16) (hn9 : x.f6.length ≤ 1000) (hk : x.f0 = 8) :
    Calls Tryd.prog 35 #[evArg x A6 A9 c6 c9] w fun e w' => e = .returned (.string ((⟨#[115, 112, 111, 105, 108, 32]⟩ : ByteArray) ++ numB x.f2 ++ ⟨#[32]⟩ ++ numB x.f3)) ∧ Below w.heap.size w w' := by
  have k1 : (x.f0 == 1) = false := by rw [hk]; rfl
  have k2 : (x.f0 == 2) = false := by rw [hk]; rfl
  have k3 : (x.f0 == 3) = false := by rw [hk]; rfl
  have k4 : (x.f0 == 4) = false := by rw [hk]; rfl
  have k5 : (x.f0 == 5) = false := by rw [hk]; rfl
  have k6 : (x.f0 == 6) = false := by rw [hk]; rfl
  have k7 : (x.f0 == 7) = false := by rw [hk]; rfl
  have k8 : (x.f0 == 8) = true := by rw [hk]; rfl
  have si2 := numB_le hx.i2
  have si3 := numB_le hx.i3
  have sr := roleB_le x.f4
  have HG := Aside0.mk hg
  have HX := Aside0.mk hx
  have HN := Aside0.mk (And.intro hn6 hn9)
  clear hg hx hn6 hn9 hk
  go_enter Tryd.func35, Tryd.ntmps35
  go_upto_block 0 with (fail)
  have hblk : EvBlk w.heap.size x A6 A9 c6 c9 (w.alloc (.cells #[.int .i64 x.f0, .int .i64 x.f1, .int .i64 x.f2, .int .i64 x.f3, .int .i64 x.f4, .int .i64 x.f5.f0, .slice A6 x.f5.f1.length c6, .int .i64 x.f5.f2, .int .i64 x.f5.f3, .slice A9 x.f6.length c9] 54)) := blk_new _ _
  have hw0 : Below w.heap.size w (w.alloc (.cells #[.int .i64 x.f0, .int .i64 x.f1, .int .i64 x.f2, .int .i64 x.f3, .int .i64 x.f4, .int .i64 x.f5.f0, .slice A6 x.f5.f1.length c6, .int .i64 x.f5.f2, .int .i64 x.f5.f3, .slice A9 x.f6.length c9] 54)) := below_alloc (Below.refl _ _) _
  generalize hgw : w.alloc (.cells #[.int .i64 x.f0, .int .i64 x.f1, .int .i64 x.f2, .int .i64 x.f3, .int .i64 x.f4, .int .i64 x.f5.f0, .slice A6 x.f5.f1.length c6, .int .i64 x.f5.f2, .int .i64 x.f5.f3, .slice A9 x.f6.length c9] 54) = w0 at hblk hw0 ⊢
  clear hgw
  have hg0 := HG.out.below hw0
  have hx0 := HX.out.below hw0
  have Hi2 := Aside0.mk (ev_itoa g x.f2 hg0 hx0.i2 hblk)
  have Hi3 := Aside0.mk (ev_itoa g x.f3 hg0 hx0.i3 hblk)
  obtain ⟨c0, c1, c2, c3, c4, c5, c6_, c7, c8, c9_⟩ := evCells hblk (Below.refl _ _)
  have HW0 := Aside0.mk hw0
  have HBLK := Aside0.mk hblk
  clear hw0 hblk HG HX HN hg0 hx0
  go_cut [4] (fun v4 wc => v4 = .string (roleB x.f4) ∧ wc = w0)
  case first =>
    by_cases r1 : x.f4 = 1
    · have er : roleB x.f4 = ⟨#[32, 119, 97, 116, 99, 104]⟩ := by rw [r1]; rfl
      have q1 : (x.f4 == 1) = true := by rw [r1]; rfl
      have ER := Aside0.mk er
      clear r1 er
      go_wp2
      go_meet
      case rel => exact ⟨by rw [ER.out], rfl⟩
    · have q1 : (x.f4 == 1) = false := beq_eq_false_iff_ne.2 r1
      by_cases r2 : x.f4 = 2
      · have er : roleB x.f4 = ⟨#[32, 119, 114, 105, 116, 101]⟩ := by rw [r2]; rfl
        have q2 : (x.f4 == 2) = true := by rw [r2]; rfl
        have ER := Aside0.mk er
        clear r1 r2 er
        go_wp2
        go_meet
        case rel => exact ⟨by rw [ER.out], rfl⟩
      · have q2 : (x.f4 == 2) = false := beq_eq_false_iff_ne.2 r2
        have er : roleB x.f4 = ⟨#[]⟩ := by unfold roleB; rw [if_neg r1, if_neg r2]
        have ER := Aside0.mk er
        clear r1 r2 er
        go_wp2
        go_meet
        case rel => exact ⟨by rw [ER.out], rfl⟩
  case rest =>
    obtain ⟨rfl, hwc⟩ := hcut
    subst wc
    go_wp2_with fail
    refine start_ (n := 12) (S := fun W => Below w0.heap.size w0 W) (ds := []) #[false, false, false, false, false, false, false, false, false, false, false, false] (by kernel_rfl) rfl rfl (below_drew (Below.refl _ _)) (fun hHeld => ?_)
    generalize w0.drew = wr at hHeld ⊢
    refine pure_ (i := 0) (N := (some 111)) (v := ?_) (a' := ?_) #[true, false, false, false, false, false, false, false, false, false, false, false] rfl rfl (by kernel_rfl) (fun _ _ _ h => h) (Or.inl ⟨by rfl, ?_⟩) ?_ ?_
    rotate_left
    · intro w'
      go_simp
      first | with_reducible rfl | (rw [if_neg (by omega)]; done) | (rw [if_neg (by omega)]; with_reducible rfl)
    rotate_left
    · simp only [Act.put, List.setIfInBounds_toArray, List.set_cons_zero, List.set_cons_succ, i64_w, i32_w]
      rfl
    refine pure_ (i := 1) (N := (some 112)) (v := ?_) (a' := ?_) #[true, true, false, false, false, false, false, false, false, false, false, false] rfl rfl (by kernel_rfl) (fun _ _ _ h => h) (Or.inl ⟨by rfl, ?_⟩) ?_ ?_
    rotate_left
    · intro w'
      go_simp
      first | with_reducible rfl | (rw [if_neg (by omega)]; done) | (rw [if_neg (by omega)]; with_reducible rfl)
    rotate_left
    · simp only [Act.put, List.setIfInBounds_toArray, List.set_cons_zero, List.set_cons_succ, i64_w, i32_w]
      rfl
    refine pure_ (i := 6) (N := (some 117)) (v := ?_) (a' := ?_) #[true, true, false, false, false, false, true, false, false, false, false, false] rfl rfl (by kernel_rfl) (fun _ _ _ h => h) (Or.inl ⟨by rfl, ?_⟩) ?_ ?_
    rotate_left
    · intro w'
      go_simp
      first | with_reducible rfl | (rw [if_neg (by omega)]; done) | (rw [if_neg (by omega)]; with_reducible rfl)
    rotate_left
    · simp only [Act.put, List.setIfInBounds_toArray, List.set_cons_zero, List.set_cons_succ, i64_w, i32_w]
      rfl
    refine pure_ (i := 7) (N := (some 118)) (v := ?_) (a' := ?_) #[true, true, false, false, false, false, true, true, false, false, false, false] rfl rfl (by kernel_rfl) (fun _ _ _ h => h) (Or.inl ⟨by rfl, ?_⟩) ?_ ?_
    rotate_left
    · intro w'
      go_simp
      first | with_reducible rfl | (rw [if_neg (by omega)]; done) | (rw [if_neg (by omega)]; with_reducible rfl)
    rotate_left
    · simp only [Act.put, List.setIfInBounds_toArray, List.set_cons_zero, List.set_cons_succ, i64_w, i32_w]
      rfl
    refine take_ (i := 2) (N := (some 113)) (v := ?_) (a' := ?_) #[true, true, true, false, false, false, true, true, false, false, false, false] rfl rfl (by kernel_rfl) (fun _ _ _ h => h) (Or.inl ⟨by rfl, ?_⟩) hHeld ?_ ?_
    rotate_left
    · intro w' hS
      have hc := evCells HBLK.out hS
      have c : w'.cell? ⟨w.heap.size, 2, none⟩ = some (.int .i64 x.f2) := hc.2.2.1
      clear hc
      go_simp
      first | with_reducible rfl | (rw [if_neg (by omega)]; done) | (rw [if_neg (by omega)]; with_reducible rfl)
    rotate_left
    · simp only [Act.put, List.setIfInBounds_toArray, List.set_cons_zero, List.set_cons_succ, i64_w, i32_w]
      rfl
    refine take_ (i := 8) (N := (some 119)) (v := ?_) (a' := ?_) #[true, true, true, false, false, false, true, true, true, false, false, false] rfl rfl (by kernel_rfl) (fun _ _ _ h => h) (Or.inl ⟨by rfl, ?_⟩) hHeld ?_ ?_
    rotate_left
    · intro w' hS
      have hc := evCells HBLK.out hS
      have c : w'.cell? ⟨w.heap.size, 3, none⟩ = some (.int .i64 x.f3) := hc.2.2.2.1
      clear hc
      go_simp
      first | with_reducible rfl | (rw [if_neg (by omega)]; done) | (rw [if_neg (by omega)]; with_reducible rfl)
    rotate_left
    · simp only [Act.put, List.setIfInBounds_toArray, List.set_cons_zero, List.set_cons_succ, i64_w, i32_w]
      rfl
    refine one_ (i := 3) (N := (some 114)) #[true, true, true, true, false, false, true, true, true, false, false, false] rfl rfl (by kernel_rfl) (by decide) (fun K hK => ?_)
    refine call_ 32 #[.int .i64 x.f2] (by rfl) rfl (by
      have he := enters_ Tryd.func32 (by kernel_rfl) rfl #[.int .i64 x.f2] wr
      unfold execOp
      simp [resolve, Deferred.ofValue, invoke, Act.eval, he]) ?_
    refine (Hi2.out wr hHeld).mono ?_
    rintro e wc1 ⟨rfl, hB, -⟩
    refine ⟨_, rfl, hK.out _ _ hB (fun hHeld => ?_)⟩
    clear hK K hB
    refine norm_ (a' := ?_) ?_ ?_
    rotate_left
    · show Act.put _ (some 114) _ = _
      simp only [Act.put, List.setIfInBounds_toArray, List.set_cons_zero, List.set_cons_succ, i64_w, i32_w]
      rfl
    refine pure_ (i := 4) (N := (some 115)) (v := ?_) (a' := ?_) #[true, true, true, true, true, false, true, true, true, false, false, false] rfl rfl (by kernel_rfl) (fun _ _ _ h => h) (Or.inl ⟨by rfl, ?_⟩) ?_ ?_
    rotate_left
    · intro w'
      go_simp
      first | with_reducible rfl | (rw [if_neg (by omega)]; done) | (rw [if_neg (by omega)]; with_reducible rfl)
    rotate_left
    · simp only [Act.put, List.setIfInBounds_toArray, List.set_cons_zero, List.set_cons_succ, i64_w, i32_w]
      rfl
    refine pure_ (i := 5) (N := (some 116)) (v := ?_) (a' := ?_) #[true, true, true, true, true, true, true, true, true, false, false, false] rfl rfl (by kernel_rfl) (fun _ _ _ h => h) (Or.inl ⟨by rfl, ?_⟩) ?_ ?_
    rotate_left
    · intro w'
      go_simp
      first | with_reducible rfl | (rw [if_neg (by omega)]; done) | (rw [if_neg (by omega)]; with_reducible rfl)
    rotate_left
    · simp only [Act.put, List.setIfInBounds_toArray, List.set_cons_zero, List.set_cons_succ, i64_w, i32_w]
      rfl
    refine one_ (i := 9) (N := (some 120)) #[true, true, true, true, true, true, true, true, true, true, false, false] rfl rfl (by kernel_rfl) (by decide) (fun K hK => ?_)
    refine call_ 32 #[.int .i64 x.f3] (by rfl) rfl (by
      have he := enters_ Tryd.func32 (by kernel_rfl) rfl #[.int .i64 x.f3] wc1
      unfold execOp
      simp [resolve, Deferred.ofValue, invoke, Act.eval, he]) ?_
    refine (Hi3.out wc1 hHeld).mono ?_
    rintro e wc2 ⟨rfl, hB, -⟩
    refine ⟨_, rfl, hK.out _ _ hB (fun hHeld => ?_)⟩
    clear hK K hB
    refine norm_ (a' := ?_) ?_ ?_
    rotate_left
    · show Act.put _ (some 120) _ = _
      simp only [Act.put, List.setIfInBounds_toArray, List.set_cons_zero, List.set_cons_succ, i64_w, i32_w]
      rfl
    refine pure_ (i := 10) (N := (some 121)) (v := ?_) (a' := ?_) #[true, true, true, true, true, true, true, true, true, true, true, false] rfl rfl (by kernel_rfl) (fun _ _ _ h => h) (Or.inl ⟨by rfl, ?_⟩) ?_ ?_
    rotate_left
    · intro w'
      go_simp
      first | with_reducible rfl | (rw [if_neg (by omega)]; done) | (rw [if_neg (by omega)]; with_reducible rfl)
    rotate_left
    · simp only [Act.put, List.setIfInBounds_toArray, List.set_cons_zero, List.set_cons_succ, i64_w, i32_w]
      rfl
    refine pure_ (i := 11) (N := (some 2)) (v := ?_) (a' := ?_) #[true, true, true, true, true, true, true, true, true, true, true, true] rfl rfl (by kernel_rfl) (fun _ _ _ h => h) (Or.inl ⟨by rfl, ?_⟩) ?_ ?_
    rotate_left
    · intro w'
      go_simp
      first | with_reducible rfl | (rw [if_neg (by omega)]; done) | (rw [if_neg (by omega)]; with_reducible rfl)
    rotate_left
    · simp only [Act.put, List.setIfInBounds_toArray, List.set_cons_zero, List.set_cons_succ, i64_w, i32_w]
      rfl
    refine done_ (by kernel_rfl) ?_
    go_wp2_with fail
    go_ret
    exact ⟨rfl, HW0.out.trans (hHeld.mono HW0.out.size)⟩
set_option maxHeartbeats 8000000 in
theorem words_move (g : Er → Addr) (x : S54) (A6 A9 : Option Addr) (c6 c9 : Nat) (w : World) (hg : Glob g w) (hx : EvIn x A6 A9 c6 c9 w) (hn6 : x.f5.f1.length ≤ 16) (hn9 : x.f6.length ≤ 1000) (hk : x.f0 = 9) :
    Calls Tryd.prog 35 #[evArg x A6 A9 c6 c9] w fun e w' => e = .returned (.string ((⟨#[109, 111, 118, 101, 32]⟩ : ByteArray) ++ numB x.f1 ++ ⟨#[32]⟩ ++ numB x.f2)) ∧ Below w.heap.size w w' := by
  have k1 : (x.f0 == 1) = false := by rw [hk]; rfl
  have k2 : (x.f0 == 2) = false := by rw [hk]; rfl
  have k3 : (x.f0 == 3) = false := by rw [hk]; rfl
  have k4 : (x.f0 == 4) = false := by rw [hk]; rfl
  have k5 : (x.f0 == 5) = false := by rw [hk]; rfl
  have k6 : (x.f0 == 6) = false := by rw [hk]; rfl
  have k7 : (x.f0 == 7) = false := by rw [hk]; rfl
  have k8 : (x.f0 == 8) = false := by rw [hk]; rfl
  have k9 : (x.f0 == 9) = true := by rw [hk]; rfl
  have si1 := numB_le hx.i1
  have si2 := numB_le hx.i2
  have sr := roleB_le x.f4
  have HG := Aside0.mk hg
  have HX := Aside0.mk hx
  have HN := Aside0.mk (And.intro hn6 hn9)
  clear hg hx hn6 hn9 hk
  go_enter Tryd.func35, Tryd.ntmps35
  go_upto_block 0 with (fail)
  have hblk : EvBlk w.heap.size x A6 A9 c6 c9 (w.alloc (.cells #[.int .i64 x.f0, .int .i64 x.f1, .int .i64 x.f2, .int .i64 x.f3, .int .i64 x.f4, .int .i64 x.f5.f0, .slice A6 x.f5.f1.length c6, .int .i64 x.f5.f2, .int .i64 x.f5.f3, .slice A9 x.f6.length c9] 54)) := blk_new _ _
  have hw0 : Below w.heap.size w (w.alloc (.cells #[.int .i64 x.f0, .int .i64 x.f1, .int .i64 x.f2, .int .i64 x.f3, .int .i64 x.f4, .int .i64 x.f5.f0, .slice A6 x.f5.f1.length c6, .int .i64 x.f5.f2, .int .i64 x.f5.f3, .slice A9 x.f6.length c9] 54)) := below_alloc (Below.refl _ _) _
  generalize hgw : w.alloc (.cells #[.int .i64 x.f0, .int .i64 x.f1, .int .i64 x.f2, .int .i64 x.f3, .int .i64 x.f4, .int .i64 x.f5.f0, .slice A6 x.f5.f1.length c6, .int .i64 x.f5.f2, .int .i64 x.f5.f3, .slice A9 x.f6.length c9] 54) = w0 at hblk hw0 ⊢
  clear hgw
  have hg0 := HG.out.below hw0
  have hx0 := HX.out.below hw0
  have Hi1 := Aside0.mk (ev_itoa g x.f1 hg0 hx0.i1 hblk)
  have Hi2 := Aside0.mk (ev_itoa g x.f2 hg0 hx0.i2 hblk)
  obtain ⟨c0, c1, c2, c3, c4, c5, c6_, c7, c8, c9_⟩ := evCells hblk (Below.refl _ _)
  have HW0 := Aside0.mk hw0
  have HBLK := Aside0.mk hblk
  clear hw0 hblk HG HX HN hg0 hx0
  go_cut [4] (fun v4 wc => v4 = .string (roleB x.f4) ∧ wc = w0)
  case first =>
    by_cases r1 : x.f4 = 1
    · have er : roleB x.f4 = ⟨#[32, 119, 97, 116, 99, 104]⟩ := by rw [r1]; rfl
      have q1 : (x.f4 == 1) = true := by rw [r1]; rfl
      have ER := Aside0.mk er
      clear r1 er
      go_wp2
      go_meet
      case rel => exact ⟨by rw [ER.out], rfl⟩
    · have q1 : (x.f4 == 1) = false := beq_eq_false_iff_ne.2 r1
      by_cases r2 : x.f4 = 2
      · have er : roleB x.f4 = ⟨#[32, 119, 114, 105, 116, 101]⟩ := by rw [r2]; rfl
        have q2 : (x.f4 == 2) = true := by rw [r2]; rfl
        have ER := Aside0.mk er
        clear r1 r2 er
        go_wp2
        go_meet
        case rel => exact ⟨by rw [ER.out], rfl⟩
      · have q2 : (x.f4 == 2) = false := beq_eq_false_iff_ne.2 r2
        have er : roleB x.f4 = ⟨#[]⟩ := by unfold roleB; rw [if_neg r1, if_neg r2]
        have ER := Aside0.mk er
        clear r1 r2 er
        go_wp2
        go_meet
        case rel => exact ⟨by rw [ER.out], rfl⟩
  case rest =>
    obtain ⟨rfl, hwc⟩ := hcut
    subst wc
    go_wp2_with fail
    refine start_ (n := 12) (S := fun W => Below w0.heap.size w0 W) (ds := []) #[false, false, false, false, false, false, false, false, false, false, false, false] (by kernel_rfl) rfl rfl (below_drew (Below.refl _ _)) (fun hHeld => ?_)
    generalize w0.drew = wr at hHeld ⊢
    refine pure_ (i := 0) (N := (some 124)) (v := ?_) (a' := ?_) #[true, false, false, false, false, false, false, false, false, false, false, false] rfl rfl (by kernel_rfl) (fun _ _ _ h => h) (Or.inl ⟨by rfl, ?_⟩) ?_ ?_
    rotate_left
    · intro w'
      go_simp
      first | with_reducible rfl | (rw [if_neg (by omega)]; done) | (rw [if_neg (by omega)]; with_reducible rfl)
    rotate_left
    · simp only [Act.put, List.setIfInBounds_toArray, List.set_cons_zero, List.set_cons_succ, i64_w, i32_w]
      rfl
    refine pure_ (i := 1) (N := (some 125)) (v := ?_) (a' := ?_) #[true, true, false, false, false, false, false, false, false, false, false, false] rfl rfl (by kernel_rfl) (fun _ _ _ h => h) (Or.inl ⟨by rfl, ?_⟩) ?_ ?_
    rotate_left
    · intro w'
      go_simp
      first | with_reducible rfl | (rw [if_neg (by omega)]; done) | (rw [if_neg (by omega)]; with_reducible rfl)
    rotate_left
    · simp only [Act.put, List.setIfInBounds_toArray, List.set_cons_zero, List.set_cons_succ, i64_w, i32_w]
      rfl
    refine pure_ (i := 6) (N := (some 130)) (v := ?_) (a' := ?_) #[true, true, false, false, false, false, true, false, false, false, false, false] rfl rfl (by kernel_rfl) (fun _ _ _ h => h) (Or.inl ⟨by rfl, ?_⟩) ?_ ?_
    rotate_left
    · intro w'
      go_simp
      first | with_reducible rfl | (rw [if_neg (by omega)]; done) | (rw [if_neg (by omega)]; with_reducible rfl)
    rotate_left
    · simp only [Act.put, List.setIfInBounds_toArray, List.set_cons_zero, List.set_cons_succ, i64_w, i32_w]
      rfl
    refine pure_ (i := 7) (N := (some 131)) (v := ?_) (a' := ?_) #[true, true, false, false, false, false, true, true, false, false, false, false] rfl rfl (by kernel_rfl) (fun _ _ _ h => h) (Or.inl ⟨by rfl, ?_⟩) ?_ ?_
    rotate_left
    · intro w'
      go_simp
      first | with_reducible rfl | (rw [if_neg (by omega)]; done) | (rw [if_neg (by omega)]; with_reducible rfl)
    rotate_left
    · simp only [Act.put, List.setIfInBounds_toArray, List.set_cons_zero, List.set_cons_succ, i64_w, i32_w]
      rfl
    refine take_ (i := 2) (N := (some 126)) (v := ?_) (a' := ?_) #[true, true, true, false, false, false, true, true, false, false, false, false] rfl rfl (by kernel_rfl) (fun _ _ _ h => h) (Or.inl ⟨by rfl, ?_⟩) hHeld ?_ ?_
    rotate_left
    · intro w' hS
      have hc := evCells HBLK.out hS
      have c : w'.cell? ⟨w.heap.size, 1, none⟩ = some (.int .i64 x.f1) := hc.2.1
      clear hc
      go_simp
      first | with_reducible rfl | (rw [if_neg (by omega)]; done) | (rw [if_neg (by omega)]; with_reducible rfl)
    rotate_left
    · simp only [Act.put, List.setIfInBounds_toArray, List.set_cons_zero, List.set_cons_succ, i64_w, i32_w]
      rfl
    refine take_ (i := 8) (N := (some 132)) (v := ?_) (a' := ?_) #[true, true, true, false, false, false, true, true, true, false, false, false] rfl rfl (by kernel_rfl) (fun _ _ _ h => h) (Or.inl ⟨by rfl, ?_⟩) hHeld ?_ ?_
    rotate_left
    · intro w' hS
      have hc := evCells HBLK.out hS
      have c : w'.cell? ⟨w.heap.size, 2, none⟩ = some (.int .i64 x.f2) := hc.2.2.1
      clear hc
      go_simp
      first | with_reducible rfl | (rw [if_neg (by omega)]; done) | (rw [if_neg (by omega)]; with_reducible rfl)
    rotate_left
    · simp only [Act.put, List.setIfInBounds_toArray, List.set_cons_zero, List.set_cons_succ, i64_w, i32_w]
      rfl
    refine one_ (i := 3) (N := (some 127)) #[true, true, true, true, false, false, true, true, true, false, false, false] rfl rfl (by kernel_rfl) (by decide) (fun K hK => ?_)
    refine call_ 32 #[.int .i64 x.f1] (by rfl) rfl (by
      have he := enters_ Tryd.func32 (by kernel_rfl) rfl #[.int .i64 x.f1] wr
      unfold execOp
      simp [resolve, Deferred.ofValue, invoke, Act.eval, he]) ?_
    refine (Hi1.out wr hHeld).mono ?_
    rintro e wc1 ⟨rfl, hB, -⟩
    refine ⟨_, rfl, hK.out _ _ hB (fun hHeld => ?_)⟩
    clear hK K hB
    refine norm_ (a' := ?_) ?_ ?_
    rotate_left
    · show Act.put _ (some 127) _ = _
      simp only [Act.put, List.setIfInBounds_toArray, List.set_cons_zero, List.set_cons_succ, i64_w, i32_w]
      rfl
    refine pure_ (i := 4) (N := (some 128)) (v := ?_) (a' := ?_) #[true, true, true, true, true, false, true, true, true, false, false, false] rfl rfl (by kernel_rfl) (fun _ _ _ h => h) (Or.inl ⟨by rfl, ?_⟩) ?_ ?_
    rotate_left
    · intro w'
      go_simp
      first | with_reducible rfl | (rw [if_neg (by omega)]; done) | (rw [if_neg (by omega)]; with_reducible rfl)
    rotate_left
    · simp only [Act.put, List.setIfInBounds_toArray, List.set_cons_zero, List.set_cons_succ, i64_w, i32_w]
      rfl
    refine pure_ (i := 5) (N := (some 129)) (v := ?_) (a' := ?_) #[true, true, true, true, true, true, true, true, true, false, false, false] rfl rfl (by kernel_rfl) (fun _ _ _ h => h) (Or.inl ⟨by rfl, ?_⟩) ?_ ?_
    rotate_left
    · intro w'
      go_simp
      first | with_reducible rfl | (rw [if_neg (by omega)]; done) | (rw [if_neg (by omega)]; with_reducible rfl)
    rotate_left
    · simp only [Act.put, List.setIfInBounds_toArray, List.set_cons_zero, List.set_cons_succ, i64_w, i32_w]
      rfl
    refine one_ (i := 9) (N := (some 133)) #[true, true, true, true, true, true, true, true, true, true, false, false] rfl rfl (by kernel_rfl) (by decide) (fun K hK => ?_)
    refine call_ 32 #[.int .i64 x.f2] (by rfl) rfl (by
      have he := enters_ Tryd.func32 (by kernel_rfl) rfl #[.int .i64 x.f2] wc1
      unfold execOp
      simp [resolve, Deferred.ofValue, invoke, Act.eval, he]) ?_
    refine (Hi2.out wc1 hHeld).mono ?_
    rintro e wc2 ⟨rfl, hB, -⟩
    refine ⟨_, rfl, hK.out _ _ hB (fun hHeld => ?_)⟩
    clear hK K hB
    refine norm_ (a' := ?_) ?_ ?_
    rotate_left
    · show Act.put _ (some 133) _ = _
      simp only [Act.put, List.setIfInBounds_toArray, List.set_cons_zero, List.set_cons_succ, i64_w, i32_w]
      rfl
    refine pure_ (i := 10) (N := (some 134)) (v := ?_) (a' := ?_) #[true, true, true, true, true, true, true, true, true, true, true, false] rfl rfl (by kernel_rfl) (fun _ _ _ h => h) (Or.inl ⟨by rfl, ?_⟩) ?_ ?_
    rotate_left
    · intro w'
      go_simp
      first | with_reducible rfl | (rw [if_neg (by omega)]; done) | (rw [if_neg (by omega)]; with_reducible rfl)
    rotate_left
    · simp only [Act.put, List.setIfInBounds_toArray, List.set_cons_zero, List.set_cons_succ, i64_w, i32_w]
      rfl
    refine pure_ (i := 11) (N := (some 2)) (v := ?_) (a' := ?_) #[true, true, true, true, true, true, true, true, true, true, true, true] rfl rfl (by kernel_rfl) (fun _ _ _ h => h) (Or.inl ⟨by rfl, ?_⟩) ?_ ?_
    rotate_left
    · intro w'
      go_simp
      first | with_reducible rfl | (rw [if_neg (by omega)]; done) | (rw [if_neg (by omega)]; with_reducible rfl)
    rotate_left
    · simp only [Act.put, List.setIfInBounds_toArray, List.set_cons_zero, List.set_cons_succ, i64_w, i32_w]
      rfl
    refine done_ (by kernel_rfl) ?_
    go_wp2_with fail
    go_ret
    exact ⟨rfl, HW0.out.trans (hHeld.mono HW0.out.size)⟩
end Go.Proofs.YtjpkphmihkbfeaaDoor.S34
/- script.words: size. -/
namespace Go.Proofs.YtjpkphmihkbfeaaDoor.S34
open Go.RowKit Go.Proofs.YtjpkphmihkbfeaaDoorW.PrintWords Go.Proofs.YtjpkphmihkbfeaaDoorW.PrintLast Go.Proofs.YtjpkphmihkbfeaaDoorW.PrintMore Go.Proofs.YtjpkphmihkbfeaaDoor.Q
set_option maxRecDepth 100000
set_option linter.unusedSimpArgs false
set_option linter.unusedVariables false
set_option maxHeartbeats 8000000 in
theorem words_size (g : Er → Addr) (x : S54) (A6 A9 : Option Addr) (c6 c9 : Nat) (w : World) (hg : Glob g w) (hx : EvIn x A6 A9 c6 c9 w) (hn6 : x.f5.f1.length ≤ 16) (hn9 : x.f6.length ≤ 1000) (hk : x.f0 = 5) (hd : x.f5.f0 = 2) :
    Calls Tryd.prog 35 #[evArg x A6 A9 c6 c9] w fun e w' => e = .returned (.string ((⟨#[115, 105, 122, 101, 32]⟩ : ByteArray) ++ numB x.f1 ++ ⟨#[32]⟩ ++ numB x.f5.f2 ++ ⟨#[32]⟩ ++ numB x.f5.f3)) ∧ Below w.heap.size w w' := by
  have k1 : (x.f0 == 1) = false := by rw [hk]; rfl
  have k2 : (x.f0 == 2) = false := by rw [hk]; rfl
  have k3 : (x.f0 == 3) = false := by rw [hk]; rfl
  have k4 : (x.f0 == 4) = false := by rw [hk]; rfl
  have k5 : (x.f0 == 5) = true := by rw [hk]; rfl
  have d1 : (x.f5.f0 == 1) = false := by rw [hd]; rfl
  have d2 : (x.f5.f0 == 2) = true := by rw [hd]; rfl
  have si1 := numB_le hx.i1
  have sj2 := numB_le hx.j2
  have sj3 := numB_le hx.j3
  have sr := roleB_le x.f4
  have HG := Aside0.mk hg
  have HX := Aside0.mk hx
  have HN := Aside0.mk (And.intro hn6 hn9)
  clear hg hx hn6 hn9 hk hd
  go_enter Tryd.func35, Tryd.ntmps35
  go_upto_block 0 with (fail)
  have hblk : EvBlk w.heap.size x A6 A9 c6 c9 (w.alloc (.cells #[.int .i64 x.f0, .int .i64 x.f1, .int .i64 x.f2, .int .i64 x.f3, .int .i64 x.f4, .int .i64 x.f5.f0, .slice A6 x.f5.f1.length c6, .int .i64 x.f5.f2, .int .i64 x.f5.f3, .slice A9 x.f6.length c9] 54)) := blk_new _ _
  have hw0 : Below w.heap.size w (w.alloc (.cells #[.int .i64 x.f0, .int .i64 x.f1, .int .i64 x.f2, .int .i64 x.f3, .int .i64 x.f4, .int .i64 x.f5.f0, .slice A6 x.f5.f1.length c6, .int .i64 x.f5.f2, .int .i64 x.f5.f3, .slice A9 x.f6.length c9] 54)) := below_alloc (Below.refl _ _) _
  generalize hgw : w.alloc (.cells #[.int .i64 x.f0, .int .i64 x.f1, .int .i64 x.f2, .int .i64 x.f3, .int .i64 x.f4, .int .i64 x.f5.f0, .slice A6 x.f5.f1.length c6, .int .i64 x.f5.f2, .int .i64 x.f5.f3, .slice A9 x.f6.length c9] 54) = w0 at hblk hw0 ⊢
  clear hgw
  have hg0 := HG.out.below hw0
  have hx0 := HX.out.below hw0
  have Hi1 := Aside0.mk (ev_itoa g x.f1 hg0 hx0.i1 hblk)
  have Hj2 := Aside0.mk (ev_itoa g x.f5.f2 hg0 hx0.j2 hblk)
  have Hj3 := Aside0.mk (ev_itoa g x.f5.f3 hg0 hx0.j3 hblk)
  obtain ⟨c0, c1, c2, c3, c4, c5, c6_, c7, c8, c9_⟩ := evCells hblk (Below.refl _ _)
  have HW0 := Aside0.mk hw0
  have HBLK := Aside0.mk hblk
  clear hw0 hblk HG HX HN hg0 hx0
  go_cut [4] (fun v4 wc => v4 = .string (roleB x.f4) ∧ wc = w0)
  case first =>
    by_cases r1 : x.f4 = 1
    · have er : roleB x.f4 = ⟨#[32, 119, 97, 116, 99, 104]⟩ := by rw [r1]; rfl
      have q1 : (x.f4 == 1) = true := by rw [r1]; rfl
      have ER := Aside0.mk er
      clear r1 er
      go_wp2
      go_meet
      case rel => exact ⟨by rw [ER.out], rfl⟩
    · have q1 : (x.f4 == 1) = false := beq_eq_false_iff_ne.2 r1
      by_cases r2 : x.f4 = 2
      · have er : roleB x.f4 = ⟨#[32, 119, 114, 105, 116, 101]⟩ := by rw [r2]; rfl
        have q2 : (x.f4 == 2) = true := by rw [r2]; rfl
        have ER := Aside0.mk er
        clear r1 r2 er
        go_wp2
        go_meet
        case rel => exact ⟨by rw [ER.out], rfl⟩
      · have q2 : (x.f4 == 2) = false := beq_eq_false_iff_ne.2 r2
        have er : roleB x.f4 = ⟨#[]⟩ := by unfold roleB; rw [if_neg r1, if_neg r2]
        have ER := Aside0.mk er
        clear r1 r2 er
        go_wp2
        go_meet
        case rel => exact ⟨by rw [ER.out], rfl⟩
  case rest =>
    obtain ⟨rfl, hwc⟩ := hcut
    subst wc
    go_wp2_with fail
    refine start_ (n := 20) (S := fun W => Below w0.heap.size w0 W) (ds := []) #[false, false, false, false, false, false, false, false, false, false, false, false, false, false, false, false, false, false, false, false] (by kernel_rfl) rfl rfl (below_drew (Below.refl _ _)) (fun hHeld => ?_)
    generalize w0.drew = wr at hHeld ⊢
    refine pure_ (i := 0) (N := (some 64)) (v := ?_) (a' := ?_) #[true, false, false, false, false, false, false, false, false, false, false, false, false, false, false, false, false, false, false, false] rfl rfl (by kernel_rfl) (fun _ _ _ h => h) (Or.inl ⟨by rfl, ?_⟩) ?_ ?_
    rotate_left
    · intro w'
      go_simp
      first | with_reducible rfl | (rw [if_neg (by omega)]; done) | (rw [if_neg (by omega)]; with_reducible rfl)
    rotate_left
    · simp only [Act.put, List.setIfInBounds_toArray, List.set_cons_zero, List.set_cons_succ, i64_w, i32_w]
      rfl
    refine pure_ (i := 1) (N := (some 65)) (v := ?_) (a' := ?_) #[true, true, false, false, false, false, false, false, false, false, false, false, false, false, false, false, false, false, false, false] rfl rfl (by kernel_rfl) (fun _ _ _ h => h) (Or.inl ⟨by rfl, ?_⟩) ?_ ?_
    rotate_left
    · intro w'
      go_simp
      first | with_reducible rfl | (rw [if_neg (by omega)]; done) | (rw [if_neg (by omega)]; with_reducible rfl)
    rotate_left
    · simp only [Act.put, List.setIfInBounds_toArray, List.set_cons_zero, List.set_cons_succ, i64_w, i32_w]
      rfl
    refine pure_ (i := 6) (N := (some 70)) (v := ?_) (a' := ?_) #[true, true, false, false, false, false, true, false, false, false, false, false, false, false, false, false, false, false, false, false] rfl rfl (by kernel_rfl) (fun _ _ _ h => h) (Or.inl ⟨by rfl, ?_⟩) ?_ ?_
    rotate_left
    · intro w'
      go_simp
      first | with_reducible rfl | (rw [if_neg (by omega)]; done) | (rw [if_neg (by omega)]; with_reducible rfl)
    rotate_left
    · simp only [Act.put, List.setIfInBounds_toArray, List.set_cons_zero, List.set_cons_succ, i64_w, i32_w]
      rfl
    refine pure_ (i := 7) (N := (some 71)) (v := ?_) (a' := ?_) #[true, true, false, false, false, false, true, true, false, false, false, false, false, false, false, false, false, false, false, false] rfl rfl (by kernel_rfl) (fun _ _ _ h => h) (Or.inl ⟨by rfl, ?_⟩) ?_ ?_
    rotate_left
    · intro w'
      go_simp
      first | with_reducible rfl | (rw [if_neg (by omega)]; done) | (rw [if_neg (by omega)]; with_reducible rfl)
    rotate_left
    · simp only [Act.put, List.setIfInBounds_toArray, List.set_cons_zero, List.set_cons_succ, i64_w, i32_w]
      rfl
    refine pure_ (i := 8) (N := (some 72)) (v := ?_) (a' := ?_) #[true, true, false, false, false, false, true, true, true, false, false, false, false, false, false, false, false, false, false, false] rfl rfl (by kernel_rfl) (fun _ _ _ h => h) (Or.inl ⟨by rfl, ?_⟩) ?_ ?_
    rotate_left
    · intro w'
      go_simp
      first | with_reducible rfl | (rw [if_neg (by omega)]; done) | (rw [if_neg (by omega)]; with_reducible rfl)
    rotate_left
    · simp only [Act.put, List.setIfInBounds_toArray, List.set_cons_zero, List.set_cons_succ, i64_w, i32_w]
      rfl
    refine pure_ (i := 13) (N := (some 77)) (v := ?_) (a' := ?_) #[true, true, false, false, false, false, true, true, true, false, false, false, false, true, false, false, false, false, false, false] rfl rfl (by kernel_rfl) (fun _ _ _ h => h) (Or.inl ⟨by rfl, ?_⟩) ?_ ?_
    rotate_left
    · intro w'
      go_simp
      first | with_reducible rfl | (rw [if_neg (by omega)]; done) | (rw [if_neg (by omega)]; with_reducible rfl)
    rotate_left
    · simp only [Act.put, List.setIfInBounds_toArray, List.set_cons_zero, List.set_cons_succ, i64_w, i32_w]
      rfl
    refine pure_ (i := 14) (N := (some 78)) (v := ?_) (a' := ?_) #[true, true, false, false, false, false, true, true, true, false, false, false, false, true, true, false, false, false, false, false] rfl rfl (by kernel_rfl) (fun _ _ _ h => h) (Or.inl ⟨by rfl, ?_⟩) ?_ ?_
    rotate_left
    · intro w'
      go_simp
      first | with_reducible rfl | (rw [if_neg (by omega)]; done) | (rw [if_neg (by omega)]; with_reducible rfl)
    rotate_left
    · simp only [Act.put, List.setIfInBounds_toArray, List.set_cons_zero, List.set_cons_succ, i64_w, i32_w]
      rfl
    refine pure_ (i := 15) (N := (some 79)) (v := ?_) (a' := ?_) #[true, true, false, false, false, false, true, true, true, false, false, false, false, true, true, true, false, false, false, false] rfl rfl (by kernel_rfl) (fun _ _ _ h => h) (Or.inl ⟨by rfl, ?_⟩) ?_ ?_
    rotate_left
    · intro w'
      go_simp
      first | with_reducible rfl | (rw [if_neg (by omega)]; done) | (rw [if_neg (by omega)]; with_reducible rfl)
    rotate_left
    · simp only [Act.put, List.setIfInBounds_toArray, List.set_cons_zero, List.set_cons_succ, i64_w, i32_w]
      rfl
    refine take_ (i := 2) (N := (some 66)) (v := ?_) (a' := ?_) #[true, true, true, false, false, false, true, true, true, false, false, false, false, true, true, true, false, false, false, false] rfl rfl (by kernel_rfl) (fun _ _ _ h => h) (Or.inl ⟨by rfl, ?_⟩) hHeld ?_ ?_
    rotate_left
    · intro w' hS
      have hc := evCells HBLK.out hS
      have c : w'.cell? ⟨w.heap.size, 1, none⟩ = some (.int .i64 x.f1) := hc.2.1
      clear hc
      go_simp
      first | with_reducible rfl | (rw [if_neg (by omega)]; done) | (rw [if_neg (by omega)]; with_reducible rfl)
    rotate_left
    · simp only [Act.put, List.setIfInBounds_toArray, List.set_cons_zero, List.set_cons_succ, i64_w, i32_w]
      rfl
    refine take_ (i := 9) (N := (some 73)) (v := ?_) (a' := ?_) #[true, true, true, false, false, false, true, true, true, true, false, false, false, true, true, true, false, false, false, false] rfl rfl (by kernel_rfl) (fun _ _ _ h => h) (Or.inl ⟨by rfl, ?_⟩) hHeld ?_ ?_
    rotate_left
    · intro w' hS
      have hc := evCells HBLK.out hS
      have c : w'.cell? ⟨w.heap.size, 7, none⟩ = some (.int .i64 x.f5.f2) := hc.2.2.2.2.2.2.2.1
      clear hc
      go_simp
      first | with_reducible rfl | (rw [if_neg (by omega)]; done) | (rw [if_neg (by omega)]; with_reducible rfl)
    rotate_left
    · simp only [Act.put, List.setIfInBounds_toArray, List.set_cons_zero, List.set_cons_succ, i64_w, i32_w]
      rfl
    refine take_ (i := 16) (N := (some 80)) (v := ?_) (a' := ?_) #[true, true, true, false, false, false, true, true, true, true, false, false, false, true, true, true, true, false, false, false] rfl rfl (by kernel_rfl) (fun _ _ _ h => h) (Or.inl ⟨by rfl, ?_⟩) hHeld ?_ ?_
    rotate_left
    · intro w' hS
      have hc := evCells HBLK.out hS
      have c : w'.cell? ⟨w.heap.size, 8, none⟩ = some (.int .i64 x.f5.f3) := hc.2.2.2.2.2.2.2.2.1
      clear hc
      go_simp
      first | with_reducible rfl | (rw [if_neg (by omega)]; done) | (rw [if_neg (by omega)]; with_reducible rfl)
    rotate_left
    · simp only [Act.put, List.setIfInBounds_toArray, List.set_cons_zero, List.set_cons_succ, i64_w, i32_w]
      rfl
    refine one_ (i := 3) (N := (some 67)) #[true, true, true, true, false, false, true, true, true, true, false, false, false, true, true, true, true, false, false, false] rfl rfl (by kernel_rfl) (by decide) (fun K hK => ?_)
    refine call_ 32 #[.int .i64 x.f1] (by rfl) rfl (by
      have he := enters_ Tryd.func32 (by kernel_rfl) rfl #[.int .i64 x.f1] wr
      unfold execOp
      simp [resolve, Deferred.ofValue, invoke, Act.eval, he]) ?_
    refine (Hi1.out wr hHeld).mono ?_
    rintro e wc1 ⟨rfl, hB, -⟩
    refine ⟨_, rfl, hK.out _ _ hB (fun hHeld => ?_)⟩
    clear hK K hB
    refine norm_ (a' := ?_) ?_ ?_
    rotate_left
    · show Act.put _ (some 67) _ = _
      simp only [Act.put, List.setIfInBounds_toArray, List.set_cons_zero, List.set_cons_succ, i64_w, i32_w]
      rfl
    refine pure_ (i := 4) (N := (some 68)) (v := ?_) (a' := ?_) #[true, true, true, true, true, false, true, true, true, true, false, false, false, true, true, true, true, false, false, false] rfl rfl (by kernel_rfl) (fun _ _ _ h => h) (Or.inl ⟨by rfl, ?_⟩) ?_ ?_
    rotate_left
    · intro w'
      go_simp
      first | with_reducible rfl | (rw [if_neg (by omega)]; done) | (rw [if_neg (by omega)]; with_reducible rfl)
    rotate_left
    · simp only [Act.put, List.setIfInBounds_toArray, List.set_cons_zero, List.set_cons_succ, i64_w, i32_w]
      rfl
    refine pure_ (i := 5) (N := (some 69)) (v := ?_) (a' := ?_) #[true, true, true, true, true, true, true, true, true, true, false, false, false, true, true, true, true, false, false, false] rfl rfl (by kernel_rfl) (fun _ _ _ h => h) (Or.inl ⟨by rfl, ?_⟩) ?_ ?_
    rotate_left
    · intro w'
      go_simp
      first | with_reducible rfl | (rw [if_neg (by omega)]; done) | (rw [if_neg (by omega)]; with_reducible rfl)
    rotate_left
    · simp only [Act.put, List.setIfInBounds_toArray, List.set_cons_zero, List.set_cons_succ, i64_w, i32_w]
      rfl
    refine one_ (i := 10) (N := (some 74)) #[true, true, true, true, true, true, true, true, true, true, true, false, false, true, true, true, true, false, false, false] rfl rfl (by kernel_rfl) (by decide) (fun K hK => ?_)
    refine call_ 32 #[.int .i64 x.f5.f2] (by rfl) rfl (by
      have he := enters_ Tryd.func32 (by kernel_rfl) rfl #[.int .i64 x.f5.f2] wc1
      unfold execOp
      simp [resolve, Deferred.ofValue, invoke, Act.eval, he]) ?_
    refine (Hj2.out wc1 hHeld).mono ?_
    rintro e wc2 ⟨rfl, hB, -⟩
    refine ⟨_, rfl, hK.out _ _ hB (fun hHeld => ?_)⟩
    clear hK K hB
    refine norm_ (a' := ?_) ?_ ?_
    rotate_left
    · show Act.put _ (some 74) _ = _
      simp only [Act.put, List.setIfInBounds_toArray, List.set_cons_zero, List.set_cons_succ, i64_w, i32_w]
      rfl
    refine pure_ (i := 11) (N := (some 75)) (v := ?_) (a' := ?_) #[true, true, true, true, true, true, true, true, true, true, true, true, false, true, true, true, true, false, false, false] rfl rfl (by kernel_rfl) (fun _ _ _ h => h) (Or.inl ⟨by rfl, ?_⟩) ?_ ?_
    rotate_left
    · intro w'
      go_simp
      first | with_reducible rfl | (rw [if_neg (by omega)]; done) | (rw [if_neg (by omega)]; with_reducible rfl)
    rotate_left
    · simp only [Act.put, List.setIfInBounds_toArray, List.set_cons_zero, List.set_cons_succ, i64_w, i32_w]
      rfl
    refine pure_ (i := 12) (N := (some 76)) (v := ?_) (a' := ?_) #[true, true, true, true, true, true, true, true, true, true, true, true, true, true, true, true, true, false, false, false] rfl rfl (by kernel_rfl) (fun _ _ _ h => h) (Or.inl ⟨by rfl, ?_⟩) ?_ ?_
    rotate_left
    · intro w'
      go_simp
      first | with_reducible rfl | (rw [if_neg (by omega)]; done) | (rw [if_neg (by omega)]; with_reducible rfl)
    rotate_left
    · simp only [Act.put, List.setIfInBounds_toArray, List.set_cons_zero, List.set_cons_succ, i64_w, i32_w]
      rfl
    refine one_ (i := 17) (N := (some 81)) #[true, true, true, true, true, true, true, true, true, true, true, true, true, true, true, true, true, true, false, false] rfl rfl (by kernel_rfl) (by decide) (fun K hK => ?_)
    refine call_ 32 #[.int .i64 x.f5.f3] (by rfl) rfl (by
      have he := enters_ Tryd.func32 (by kernel_rfl) rfl #[.int .i64 x.f5.f3] wc2
      unfold execOp
      simp [resolve, Deferred.ofValue, invoke, Act.eval, he]) ?_
    refine (Hj3.out wc2 hHeld).mono ?_
    rintro e wc3 ⟨rfl, hB, -⟩
    refine ⟨_, rfl, hK.out _ _ hB (fun hHeld => ?_)⟩
    clear hK K hB
    refine norm_ (a' := ?_) ?_ ?_
    rotate_left
    · show Act.put _ (some 81) _ = _
      simp only [Act.put, List.setIfInBounds_toArray, List.set_cons_zero, List.set_cons_succ, i64_w, i32_w]
      rfl
    refine pure_ (i := 18) (N := (some 82)) (v := ?_) (a' := ?_) #[true, true, true, true, true, true, true, true, true, true, true, true, true, true, true, true, true, true, true, false] rfl rfl (by kernel_rfl) (fun _ _ _ h => h) (Or.inl ⟨by rfl, ?_⟩) ?_ ?_
    rotate_left
    · intro w'
      go_simp
      first | with_reducible rfl | (rw [if_neg (by omega)]; done) | (rw [if_neg (by omega)]; with_reducible rfl)
    rotate_left
    · simp only [Act.put, List.setIfInBounds_toArray, List.set_cons_zero, List.set_cons_succ, i64_w, i32_w]
      rfl
    refine pure_ (i := 19) (N := (some 2)) (v := ?_) (a' := ?_) #[true, true, true, true, true, true, true, true, true, true, true, true, true, true, true, true, true, true, true, true] rfl rfl (by kernel_rfl) (fun _ _ _ h => h) (Or.inl ⟨by rfl, ?_⟩) ?_ ?_
    rotate_left
    · intro w'
      go_simp
      first | with_reducible rfl | (rw [if_neg (by omega)]; done) | (rw [if_neg (by omega)]; with_reducible rfl)
    rotate_left
    · simp only [Act.put, List.setIfInBounds_toArray, List.set_cons_zero, List.set_cons_succ, i64_w, i32_w]
      rfl
    refine done_ (by kernel_rfl) ?_
    go_wp2_with fail
    go_ret
    exact ⟨rfl, HW0.out.trans (hHeld.mono HW0.out.size)⟩
end Go.Proofs.YtjpkphmihkbfeaaDoor.S34
/- script.words: hub. -/
namespace Go.Proofs.YtjpkphmihkbfeaaDoor.S34
open Go.RowKit Go.Proofs.YtjpkphmihkbfeaaDoorW.PrintWords Go.Proofs.YtjpkphmihkbfeaaDoorW.PrintLast Go.Proofs.YtjpkphmihkbfeaaDoorW.PrintMore Go.Proofs.YtjpkphmihkbfeaaDoor.Q
set_option maxRecDepth 100000
set_option linter.unusedSimpArgs false
set_option linter.unusedVariables false
set_option maxHeartbeats 8000000 in
theorem words_hub (g : Er → Addr) (x : S54) (A6 A9 : Option Addr) (c6 c9 : Nat) (w : World) (hg : Glob g w) (hx : EvIn x A6 A9 c6 c9 w) (hn6 : x.f5.f1.length ≤ 16) (hn9 : x.f6.length ≤ 1000) (hk1 : x.f0 ≠ 1) (hk2 : x.f0 ≠ 2) (hk3 : x.f0 ≠ 3) (hk4 : x.f0 ≠ 4) (hk5 : x.f0 ≠ 5) (hk6 : x.f0 ≠ 6) (hk7 : x.f0 ≠ 7) (hk8 : x.f0 ≠ 8) (hk9 : x.f0 ≠ 9) (hm : x.f3 = 0) :
    Calls Tryd.prog 35 #[evArg x A6 A9 c6 c9] w fun e w' => e = .returned (.string ((⟨#[102, 111, 114, 103, 101, 32]⟩ : ByteArray) ++ numB x.f1 ++ ⟨#[32]⟩ ++ numB x.f2 ++ ⟨#[32, 104, 117, 98, 32]⟩ ++ quoteB x.f6)) ∧ Below w.heap.size w w' := by
  have k1 : (x.f0 == 1) = false := beq_eq_false_iff_ne.2 hk1
  have k2 : (x.f0 == 2) = false := beq_eq_false_iff_ne.2 hk2
  have k3 : (x.f0 == 3) = false := beq_eq_false_iff_ne.2 hk3
  have k4 : (x.f0 == 4) = false := beq_eq_false_iff_ne.2 hk4
  have k5 : (x.f0 == 5) = false := beq_eq_false_iff_ne.2 hk5
  have k6 : (x.f0 == 6) = false := beq_eq_false_iff_ne.2 hk6
  have k7 : (x.f0 == 7) = false := beq_eq_false_iff_ne.2 hk7
  have k8 : (x.f0 == 8) = false := beq_eq_false_iff_ne.2 hk8
  have k9 : (x.f0 == 9) = false := beq_eq_false_iff_ne.2 hk9
  have m0 : (x.f3 == 0) = true := by rw [hm]; rfl
  have si1 := numB_le hx.i1
  have si2 := numB_le hx.i2
  have sq9 : (quoteB x.f6).size ≤ 3002 := by have := quoteB_size x.f6; omega
  have sr := roleB_le x.f4
  have HG := Aside0.mk hg
  have HX := Aside0.mk hx
  have HN := Aside0.mk (And.intro hn6 hn9)
  clear hg hx hn6 hn9 hk1 hk2 hk3 hk4 hk5 hk6 hk7 hk8 hk9 hm
  go_enter Tryd.func35, Tryd.ntmps35
  go_upto_block 0 with (fail)
  have hblk : EvBlk w.heap.size x A6 A9 c6 c9 (w.alloc (.cells #[.int .i64 x.f0, .int .i64 x.f1, .int .i64 x.f2, .int .i64 x.f3, .int .i64 x.f4, .int .i64 x.f5.f0, .slice A6 x.f5.f1.length c6, .int .i64 x.f5.f2, .int .i64 x.f5.f3, .slice A9 x.f6.length c9] 54)) := blk_new _ _
  have hw0 : Below w.heap.size w (w.alloc (.cells #[.int .i64 x.f0, .int .i64 x.f1, .int .i64 x.f2, .int .i64 x.f3, .int .i64 x.f4, .int .i64 x.f5.f0, .slice A6 x.f5.f1.length c6, .int .i64 x.f5.f2, .int .i64 x.f5.f3, .slice A9 x.f6.length c9] 54)) := below_alloc (Below.refl _ _) _
  generalize hgw : w.alloc (.cells #[.int .i64 x.f0, .int .i64 x.f1, .int .i64 x.f2, .int .i64 x.f3, .int .i64 x.f4, .int .i64 x.f5.f0, .slice A6 x.f5.f1.length c6, .int .i64 x.f5.f2, .int .i64 x.f5.f3, .slice A9 x.f6.length c9] 54) = w0 at hblk hw0 ⊢
  clear hgw
  have hg0 := HG.out.below hw0
  have hx0 := HX.out.below hw0
  have Hi1 := Aside0.mk (ev_itoa g x.f1 hg0 hx0.i1 hblk)
  have Hi2 := Aside0.mk (ev_itoa g x.f2 hg0 hx0.i2 hblk)
  have HQ9 := Aside0.mk (ev_quote x.f6 A9 c9 hx0.q9 hx0.h9 hx0.b9 HN.out.2 hblk)
  obtain ⟨c0, c1, c2, c3, c4, c5, c6_, c7, c8, c9_⟩ := evCells hblk (Below.refl _ _)
  have HW0 := Aside0.mk hw0
  have HBLK := Aside0.mk hblk
  clear hw0 hblk HG HX HN hg0 hx0
  go_cut [4] (fun v4 wc => v4 = .string (roleB x.f4) ∧ wc = w0)
  case first =>
    by_cases r1 : x.f4 = 1
    · have er : roleB x.f4 = ⟨#[32, 119, 97, 116, 99, 104]⟩ := by rw [r1]; rfl
      have q1 : (x.f4 == 1) = true := by rw [r1]; rfl
      have ER := Aside0.mk er
      clear r1 er
      go_wp2
      go_meet
      case rel => exact ⟨by rw [ER.out], rfl⟩
    · have q1 : (x.f4 == 1) = false := beq_eq_false_iff_ne.2 r1
      by_cases r2 : x.f4 = 2
      · have er : roleB x.f4 = ⟨#[32, 119, 114, 105, 116, 101]⟩ := by rw [r2]; rfl
        have q2 : (x.f4 == 2) = true := by rw [r2]; rfl
        have ER := Aside0.mk er
        clear r1 r2 er
        go_wp2
        go_meet
        case rel => exact ⟨by rw [ER.out], rfl⟩
      · have q2 : (x.f4 == 2) = false := beq_eq_false_iff_ne.2 r2
        have er : roleB x.f4 = ⟨#[]⟩ := by unfold roleB; rw [if_neg r1, if_neg r2]
        have ER := Aside0.mk er
        clear r1 r2 er
        go_wp2
        go_meet
        case rel => exact ⟨by rw [ER.out], rfl⟩
  case rest =>
    obtain ⟨rfl, hwc⟩ := hcut
    subst wc
    go_wp2_with fail
    refine start_ (n := 17) (S := fun W => Below w0.heap.size w0 W) (ds := []) #[false, false, false, false, false, false, false, false, false, false, false, false, false, false, false, false, false] (by kernel_rfl) rfl rfl (below_drew (Below.refl _ _)) (fun hHeld => ?_)
    generalize w0.drew = wr at hHeld ⊢
    refine pure_ (i := 0) (N := (some 138)) (v := ?_) (a' := ?_) #[true, false, false, false, false, false, false, false, false, false, false, false, false, false, false, false, false] rfl rfl (by kernel_rfl) (fun _ _ _ h => h) (Or.inl ⟨by rfl, ?_⟩) ?_ ?_
    rotate_left
    · intro w'
      go_simp
      first | with_reducible rfl | (rw [if_neg (by omega)]; done) | (rw [if_neg (by omega)]; with_reducible rfl)
    rotate_left
    · simp only [Act.put, List.setIfInBounds_toArray, List.set_cons_zero, List.set_cons_succ, i64_w, i32_w]
      rfl
    refine pure_ (i := 1) (N := (some 139)) (v := ?_) (a' := ?_) #[true, true, false, false, false, false, false, false, false, false, false, false, false, false, false, false, false] rfl rfl (by kernel_rfl) (fun _ _ _ h => h) (Or.inl ⟨by rfl, ?_⟩) ?_ ?_
    rotate_left
    · intro w'
      go_simp
      first | with_reducible rfl | (rw [if_neg (by omega)]; done) | (rw [if_neg (by omega)]; with_reducible rfl)
    rotate_left
    · simp only [Act.put, List.setIfInBounds_toArray, List.set_cons_zero, List.set_cons_succ, i64_w, i32_w]
      rfl
    refine pure_ (i := 6) (N := (some 144)) (v := ?_) (a' := ?_) #[true, true, false, false, false, false, true, false, false, false, false, false, false, false, false, false, false] rfl rfl (by kernel_rfl) (fun _ _ _ h => h) (Or.inl ⟨by rfl, ?_⟩) ?_ ?_
    rotate_left
    · intro w'
      go_simp
      first | with_reducible rfl | (rw [if_neg (by omega)]; done) | (rw [if_neg (by omega)]; with_reducible rfl)
    rotate_left
    · simp only [Act.put, List.setIfInBounds_toArray, List.set_cons_zero, List.set_cons_succ, i64_w, i32_w]
      rfl
    refine pure_ (i := 7) (N := (some 145)) (v := ?_) (a' := ?_) #[true, true, false, false, false, false, true, true, false, false, false, false, false, false, false, false, false] rfl rfl (by kernel_rfl) (fun _ _ _ h => h) (Or.inl ⟨by rfl, ?_⟩) ?_ ?_
    rotate_left
    · intro w'
      go_simp
      first | with_reducible rfl | (rw [if_neg (by omega)]; done) | (rw [if_neg (by omega)]; with_reducible rfl)
    rotate_left
    · simp only [Act.put, List.setIfInBounds_toArray, List.set_cons_zero, List.set_cons_succ, i64_w, i32_w]
      rfl
    refine pure_ (i := 12) (N := (some 150)) (v := ?_) (a' := ?_) #[true, true, false, false, false, false, true, true, false, false, false, false, true, false, false, false, false] rfl rfl (by kernel_rfl) (fun _ _ _ h => h) (Or.inl ⟨by rfl, ?_⟩) ?_ ?_
    rotate_left
    · intro w'
      go_simp
      first | with_reducible rfl | (rw [if_neg (by omega)]; done) | (rw [if_neg (by omega)]; with_reducible rfl)
    rotate_left
    · simp only [Act.put, List.setIfInBounds_toArray, List.set_cons_zero, List.set_cons_succ, i64_w, i32_w]
      rfl
    refine take_ (i := 2) (N := (some 140)) (v := ?_) (a' := ?_) #[true, true, true, false, false, false, true, true, false, false, false, false, true, false, false, false, false] rfl rfl (by kernel_rfl) (fun _ _ _ h => h) (Or.inl ⟨by rfl, ?_⟩) hHeld ?_ ?_
    rotate_left
    · intro w' hS
      have hc := evCells HBLK.out hS
      have c : w'.cell? ⟨w.heap.size, 1, none⟩ = some (.int .i64 x.f1) := hc.2.1
      clear hc
      go_simp
      first | with_reducible rfl | (rw [if_neg (by omega)]; done) | (rw [if_neg (by omega)]; with_reducible rfl)
    rotate_left
    · simp only [Act.put, List.setIfInBounds_toArray, List.set_cons_zero, List.set_cons_succ, i64_w, i32_w]
      rfl
    refine take_ (i := 8) (N := (some 146)) (v := ?_) (a' := ?_) #[true, true, true, false, false, false, true, true, true, false, false, false, true, false, false, false, false] rfl rfl (by kernel_rfl) (fun _ _ _ h => h) (Or.inl ⟨by rfl, ?_⟩) hHeld ?_ ?_
    rotate_left
    · intro w' hS
      have hc := evCells HBLK.out hS
      have c : w'.cell? ⟨w.heap.size, 2, none⟩ = some (.int .i64 x.f2) := hc.2.2.1
      clear hc
      go_simp
      first | with_reducible rfl | (rw [if_neg (by omega)]; done) | (rw [if_neg (by omega)]; with_reducible rfl)
    rotate_left
    · simp only [Act.put, List.setIfInBounds_toArray, List.set_cons_zero, List.set_cons_succ, i64_w, i32_w]
      rfl
    refine take_ (i := 13) (N := (some 151)) (v := ?_) (a' := ?_) #[true, true, true, false, false, false, true, true, true, false, false, false, true, true, false, false, false] rfl rfl (by kernel_rfl) (fun _ _ _ h => h) (Or.inl ⟨by rfl, ?_⟩) hHeld ?_ ?_
    rotate_left
    · intro w' hS
      have hc := evCells HBLK.out hS
      have c : w'.cell? ⟨w.heap.size, 9, none⟩ = some (.slice A9 x.f6.length c9) := hc.2.2.2.2.2.2.2.2.2
      clear hc
      go_simp
      first | with_reducible rfl | (rw [if_neg (by omega)]; done) | (rw [if_neg (by omega)]; with_reducible rfl)
    rotate_left
    · simp only [Act.put, List.setIfInBounds_toArray, List.set_cons_zero, List.set_cons_succ, i64_w, i32_w]
      rfl
    refine one_ (i := 3) (N := (some 141)) #[true, true, true, true, false, false, true, true, true, false, false, false, true, true, false, false, false] rfl rfl (by kernel_rfl) (by decide) (fun K hK => ?_)
    refine call_ 32 #[.int .i64 x.f1] (by rfl) rfl (by
      have he := enters_ Tryd.func32 (by kernel_rfl) rfl #[.int .i64 x.f1] wr
      unfold execOp
      simp [resolve, Deferred.ofValue, invoke, Act.eval, he]) ?_
    refine (Hi1.out wr hHeld).mono ?_
    rintro e wc1 ⟨rfl, hB, -⟩
    refine ⟨_, rfl, hK.out _ _ hB (fun hHeld => ?_)⟩
    clear hK K hB
    refine norm_ (a' := ?_) ?_ ?_
    rotate_left
    · show Act.put _ (some 141) _ = _
      simp only [Act.put, List.setIfInBounds_toArray, List.set_cons_zero, List.set_cons_succ, i64_w, i32_w]
      rfl
    refine pure_ (i := 4) (N := (some 142)) (v := ?_) (a' := ?_) #[true, true, true, true, true, false, true, true, true, false, false, false, true, true, false, false, false] rfl rfl (by kernel_rfl) (fun _ _ _ h => h) (Or.inl ⟨by rfl, ?_⟩) ?_ ?_
    rotate_left
    · intro w'
      go_simp
      first | with_reducible rfl | (rw [if_neg (by omega)]; done) | (rw [if_neg (by omega)]; with_reducible rfl)
    rotate_left
    · simp only [Act.put, List.setIfInBounds_toArray, List.set_cons_zero, List.set_cons_succ, i64_w, i32_w]
      rfl
    refine pure_ (i := 5) (N := (some 143)) (v := ?_) (a' := ?_) #[true, true, true, true, true, true, true, true, true, false, false, false, true, true, false, false, false] rfl rfl (by kernel_rfl) (fun _ _ _ h => h) (Or.inl ⟨by rfl, ?_⟩) ?_ ?_
    rotate_left
    · intro w'
      go_simp
      first | with_reducible rfl | (rw [if_neg (by omega)]; done) | (rw [if_neg (by omega)]; with_reducible rfl)
    rotate_left
    · simp only [Act.put, List.setIfInBounds_toArray, List.set_cons_zero, List.set_cons_succ, i64_w, i32_w]
      rfl
    refine one_ (i := 9) (N := (some 147)) #[true, true, true, true, true, true, true, true, true, true, false, false, true, true, false, false, false] rfl rfl (by kernel_rfl) (by decide) (fun K hK => ?_)
    refine call_ 32 #[.int .i64 x.f2] (by rfl) rfl (by
      have he := enters_ Tryd.func32 (by kernel_rfl) rfl #[.int .i64 x.f2] wc1
      unfold execOp
      simp [resolve, Deferred.ofValue, invoke, Act.eval, he]) ?_
    refine (Hi2.out wc1 hHeld).mono ?_
    rintro e wc2 ⟨rfl, hB, -⟩
    refine ⟨_, rfl, hK.out _ _ hB (fun hHeld => ?_)⟩
    clear hK K hB
    refine norm_ (a' := ?_) ?_ ?_
    rotate_left
    · show Act.put _ (some 147) _ = _
      simp only [Act.put, List.setIfInBounds_toArray, List.set_cons_zero, List.set_cons_succ, i64_w, i32_w]
      rfl
    refine pure_ (i := 10) (N := (some 148)) (v := ?_) (a' := ?_) #[true, true, true, true, true, true, true, true, true, true, true, false, true, true, false, false, false] rfl rfl (by kernel_rfl) (fun _ _ _ h => h) (Or.inl ⟨by rfl, ?_⟩) ?_ ?_
    rotate_left
    · intro w'
      go_simp
      first | with_reducible rfl | (rw [if_neg (by omega)]; done) | (rw [if_neg (by omega)]; with_reducible rfl)
    rotate_left
    · simp only [Act.put, List.setIfInBounds_toArray, List.set_cons_zero, List.set_cons_succ, i64_w, i32_w]
      rfl
    refine pure_ (i := 11) (N := (some 149)) (v := ?_) (a' := ?_) #[true, true, true, true, true, true, true, true, true, true, true, true, true, true, false, false, false] rfl rfl (by kernel_rfl) (fun _ _ _ h => h) (Or.inl ⟨by rfl, ?_⟩) ?_ ?_
    rotate_left
    · intro w'
      go_simp
      first | with_reducible rfl | (rw [if_neg (by omega)]; done) | (rw [if_neg (by omega)]; with_reducible rfl)
    rotate_left
    · simp only [Act.put, List.setIfInBounds_toArray, List.set_cons_zero, List.set_cons_succ, i64_w, i32_w]
      rfl
    refine one_ (i := 14) (N := (some 152)) #[true, true, true, true, true, true, true, true, true, true, true, true, true, true, true, false, false] rfl rfl (by kernel_rfl) (by decide) (fun K hK => ?_)
    refine call_ 59 #[.slice A9 x.f6.length c9] (by rfl) rfl (by
      have he := enters_ Tryd.func59 (by kernel_rfl) rfl #[.slice A9 x.f6.length c9] wc2
      unfold execOp
      simp [resolve, Deferred.ofValue, invoke, Act.eval, he]) ?_
    refine (HQ9.out wc2 hHeld).mono ?_
    rintro e wc3 ⟨rfl, hB, -⟩
    refine ⟨_, rfl, hK.out _ _ hB (fun hHeld => ?_)⟩
    clear hK K hB
    refine norm_ (a' := ?_) ?_ ?_
    rotate_left
    · show Act.put _ (some 152) _ = _
      simp only [Act.put, List.setIfInBounds_toArray, List.set_cons_zero, List.set_cons_succ, i64_w, i32_w]
      rfl
    refine pure_ (i := 15) (N := (some 153)) (v := ?_) (a' := ?_) #[true, true, true, true, true, true, true, true, true, true, true, true, true, true, true, true, false] rfl rfl (by kernel_rfl) (fun _ _ _ h => h) (Or.inl ⟨by rfl, ?_⟩) ?_ ?_
    rotate_left
    · intro w'
      go_simp
      first | with_reducible rfl | (rw [if_neg (by omega)]; done) | (rw [if_neg (by omega)]; with_reducible rfl)
    rotate_left
    · simp only [Act.put, List.setIfInBounds_toArray, List.set_cons_zero, List.set_cons_succ, i64_w, i32_w]
      rfl
    refine pure_ (i := 16) (N := (some 2)) (v := ?_) (a' := ?_) #[true, true, true, true, true, true, true, true, true, true, true, true, true, true, true, true, true] rfl rfl (by kernel_rfl) (fun _ _ _ h => h) (Or.inl ⟨by rfl, ?_⟩) ?_ ?_
    rotate_left
    · intro w'
      go_simp
      first | with_reducible rfl | (rw [if_neg (by omega)]; done) | (rw [if_neg (by omega)]; with_reducible rfl)
    rotate_left
    · simp only [Act.put, List.setIfInBounds_toArray, List.set_cons_zero, List.set_cons_succ, i64_w, i32_w]
      rfl
    refine done_ (by kernel_rfl) ?_
    go_wp2_with fail
    go_ret
    exact ⟨rfl, HW0.out.trans (hHeld.mono HW0.out.size)⟩
end Go.Proofs.YtjpkphmihkbfeaaDoor.S34
/- script.words: view. -/
namespace Go.Proofs.YtjpkphmihkbfeaaDoor.S34
open Go.RowKit Go.Proofs.YtjpkphmihkbfeaaDoorW.PrintWords Go.Proofs.YtjpkphmihkbfeaaDoorW.PrintLast Go.Proofs.YtjpkphmihkbfeaaDoorW.PrintMore Go.Proofs.YtjpkphmihkbfeaaDoor.Q
set_option maxRecDepth 100000
set_option linter.unusedSimpArgs false
set_option linter.unusedVariables false
set_option maxHeartbeats 8000000 in
theorem words_view (g : Er → Addr) (x : S54) (A6 A9 : Option Addr) (c6 c9 : Nat) (w : World) (hg : Glob g w) (hx : EvIn x A6 A9 c6 c9 w) (hn6 : x.f5.f1.length ≤ 16) (hn9 : x.f6.length ≤ 1000) (hk1 : x.f0 ≠ 1) (hk2 : x.f0 ≠ 2) (hk3 : x.f0 ≠ 3) (hk4 : x.f0 ≠ 4) (hk5 : x.f0 ≠ 5) (hk6 : x.f0 ≠ 6) (hk7 : x.f0 ≠ 7) (hk8 : x.f0 ≠ 8) (hk9 : x.f0 ≠ 9) (hm : x.f3 ≠ 0) :
    Calls Tryd.prog 35 #[evArg x A6 A9 c6 c9] w fun e w' => e = .returned (.string ((⟨#[102, 111, 114, 103, 101, 32]⟩ : ByteArray) ++ numB x.f1 ++ ⟨#[32]⟩ ++ numB x.f2 ++ ⟨#[32, 118, 105, 101, 119, 32]⟩ ++ quoteB x.f6)) ∧ Below w.heap.size w w' := by
  have k1 : (x.f0 == 1) = false := beq_eq_false_iff_ne.2 hk1
  have k2 : (x.f0 == 2) = false := beq_eq_false_iff_ne.2 hk2
  have k3 : (x.f0 == 3) = false := beq_eq_false_iff_ne.2 hk3
  have k4 : (x.f0 == 4) = false := beq_eq_false_iff_ne.2 hk4
  have k5 : (x.f0 == 5) = false := beq_eq_false_iff_ne.2 hk5
  have k6 : (x.f0 == 6) = false := beq_eq_false_iff_ne.2 hk6
  have k7 : (x.f0 == 7) = false := beq_eq_false_iff_ne.2 hk7
  have k8 : (x.f0 == 8) = false := beq_eq_false_iff_ne.2 hk8
  have k9 : (x.f0 == 9) = false := beq_eq_false_iff_ne.2 hk9
  have m0 : (x.f3 == 0) = false := beq_eq_false_iff_ne.2 hm
  have si1 := numB_le hx.i1
  have si2 := numB_le hx.i2
  have sq9 : (quoteB x.f6).size ≤ 3002 := by have := quoteB_size x.f6; omega
  have sr := roleB_le x.f4
  have HG := Aside0.mk hg
  have HX := Aside0.mk hx
  have HN := Aside0.mk (And.intro hn6 hn9)
  clear hg hx hn6 hn9 hk1 hk2 hk3 hk4 hk5 hk6 hk7 hk8 hk9 hm
  go_enter Tryd.func35, Tryd.ntmps35
  go_upto_block 0 with (fail)
  have hblk : EvBlk w.heap.size x A6 A9 c6 c9 (w.alloc (.cells #[.int .i64 x.f0, .int .i64 x.f1, .int .i64 x.f2, .int .i64 x.f3, .int .i64 x.f4, .int .i64 x.f5.f0, .slice A6 x.f5.f1.length c6, .int .i64 x.f5.f2, .int .i64 x.f5.f3, .slice A9 x.f6.length c9] 54)) := blk_new _ _
  have hw0 : Below w.heap.size w (w.alloc (.cells #[.int .i64 x.f0, .int .i64 x.f1, .int .i64 x.f2, .int .i64 x.f3, .int .i64 x.f4, .int .i64 x.f5.f0, .slice A6 x.f5.f1.length c6, .int .i64 x.f5.f2, .int .i64 x.f5.f3, .slice A9 x.f6.length c9] 54)) := below_alloc (Below.refl _ _) _
  generalize hgw : w.alloc (.cells #[.int .i64 x.f0, .int .i64 x.f1, .int .i64 x.f2, .int .i64 x.f3, .int .i64 x.f4, .int .i64 x.f5.f0, .slice A6 x.f5.f1.length c6, .int .i64 x.f5.f2, .int .i64 x.f5.f3, .slice A9 x.f6.length c9] 54) = w0 at hblk hw0 ⊢
  clear hgw
  have hg0 := HG.out.below hw0
  have hx0 := HX.out.below hw0
  have Hi1 := Aside0.mk (ev_itoa g x.f1 hg0 hx0.i1 hblk)
  have Hi2 := Aside0.mk (ev_itoa g x.f2 hg0 hx0.i2 hblk)
  have HQ9 := Aside0.mk (ev_quote x.f6 A9 c9 hx0.q9 hx0.h9 hx0.b9 HN.out.2 hblk)
  obtain ⟨c0, c1, c2, c3, c4, c5, c6_, c7, c8, c9_⟩ := evCells hblk (Below.refl _ _)
  have HW0 := Aside0.mk hw0
  have HBLK := Aside0.mk hblk
  clear hw0 hblk HG HX HN hg0 hx0
  go_cut [4] (fun v4 wc => v4 = .string (roleB x.f4) ∧ wc = w0)
  case first =>
    by_cases r1 : x.f4 = 1
    · have er : roleB x.f4 = ⟨#[32, 119, 97, 116, 99, 104]⟩ := by rw [r1]; rfl
      have q1 : (x.f4 == 1) = true := by rw [r1]; rfl
      have ER := Aside0.mk er
      clear r1 er
      go_wp2
      go_meet
      case rel => exact ⟨by rw [ER.out], rfl⟩
    · have q1 : (x.f4 == 1) = false := beq_eq_false_iff_ne.2 r1
      by_cases r2 : x.f4 = 2
      · have er : roleB x.f4 = ⟨#[32, 119, 114, 105, 116, 101]⟩ := by rw [r2]; rfl
        have q2 : (x.f4 == 2) = true := by rw [r2]; rfl
        have ER := Aside0.mk er
        clear r1 r2 er
        go_wp2
        go_meet
        case rel => exact ⟨by rw [ER.out], rfl⟩
      · have q2 : (x.f4 == 2) = false := beq_eq_false_iff_ne.2 r2
        have er : roleB x.f4 = ⟨#[]⟩ := by unfold roleB; rw [if_neg r1, if_neg r2]
        have ER := Aside0.mk er
        clear r1 r2 er
        go_wp2
        go_meet
        case rel => exact ⟨by rw [ER.out], rfl⟩
  case rest =>
    obtain ⟨rfl, hwc⟩ := hcut
    subst wc
    go_wp2_with fail
    refine start_ (n := 17) (S := fun W => Below w0.heap.size w0 W) (ds := []) #[false, false, false, false, false, false, false, false, false, false, false, false, false, false, false, false, false] (by kernel_rfl) rfl rfl (below_drew (Below.refl _ _)) (fun hHeld => ?_)
    generalize w0.drew = wr at hHeld ⊢
    refine pure_ (i := 0) (N := (some 154)) (v := ?_) (a' := ?_) #[true, false, false, false, false, false, false, false, false, false, false, false, false, false, false, false, false] rfl rfl (by kernel_rfl) (fun _ _ _ h => h) (Or.inl ⟨by rfl, ?_⟩) ?_ ?_
    rotate_left
    · intro w'
      go_simp
      first | with_reducible rfl | (rw [if_neg (by omega)]; done) | (rw [if_neg (by omega)]; with_reducible rfl)
    rotate_left
    · simp only [Act.put, List.setIfInBounds_toArray, List.set_cons_zero, List.set_cons_succ, i64_w, i32_w]
      rfl
    refine pure_ (i := 1) (N := (some 155)) (v := ?_) (a' := ?_) #[true, true, false, false, false, false, false, false, false, false, false, false, false, false, false, false, false] rfl rfl (by kernel_rfl) (fun _ _ _ h => h) (Or.inl ⟨by rfl, ?_⟩) ?_ ?_
    rotate_left
    · intro w'
      go_simp
      first | with_reducible rfl | (rw [if_neg (by omega)]; done) | (rw [if_neg (by omega)]; with_reducible rfl)
    rotate_left
    · simp only [Act.put, List.setIfInBounds_toArray, List.set_cons_zero, List.set_cons_succ, i64_w, i32_w]
      rfl
    refine pure_ (i := 6) (N := (some 160)) (v := ?_) (a' := ?_) #[true, true, false, false, false, false, true, false, false, false, false, false, false, false, false, false, false] rfl rfl (by kernel_rfl) (fun _ _ _ h => h) (Or.inl ⟨by rfl, ?_⟩) ?_ ?_
    rotate_left
    · intro w'
      go_simp
      first | with_reducible rfl | (rw [if_neg (by omega)]; done) | (rw [if_neg (by omega)]; with_reducible rfl)
    rotate_left
    · simp only [Act.put, List.setIfInBounds_toArray, List.set_cons_zero, List.set_cons_succ, i64_w, i32_w]
      rfl
    refine pure_ (i := 7) (N := (some 161)) (v := ?_) (a' := ?_) #[true, true, false, false, false, false, true, true, false, false, false, false, false, false, false, false, false] rfl rfl (by kernel_rfl) (fun _ _ _ h => h) (Or.inl ⟨by rfl, ?_⟩) ?_ ?_
    rotate_left
    · intro w'
      go_simp
      first | with_reducible rfl | (rw [if_neg (by omega)]; done) | (rw [if_neg (by omega)]; with_reducible rfl)
    rotate_left
    · simp only [Act.put, List.setIfInBounds_toArray, List.set_cons_zero, List.set_cons_succ, i64_w, i32_w]
      rfl
    refine pure_ (i := 12) (N := (some 166)) (v := ?_) (a' := ?_) #[true, true, false, false, false, false, true, true, false, false, false, false, true, false, false, false, false] rfl rfl (by kernel_rfl) (fun _ _ _ h => h) (Or.inl ⟨by rfl, ?_⟩) ?_ ?_
    rotate_left
    · intro w'
      go_simp
      first | with_reducible rfl | (rw [if_neg (by omega)]; done) | (rw [if_neg (by omega)]; with_reducible rfl)
    rotate_left
    · simp only [Act.put, List.setIfInBounds_toArray, List.set_cons_zero, List.set_cons_succ, i64_w, i32_w]
      rfl
    refine take_ (i := 2) (N := (some 156)) (v := ?_) (a' := ?_) #[true, true, true, false, false, false, true, true, false, false, false, false, true, false, false, false, false] rfl rfl (by kernel_rfl) (fun _ _ _ h => h) (Or.inl ⟨by rfl, ?_⟩) hHeld ?_ ?_
    rotate_left
    · intro w' hS
      have hc := evCells HBLK.out hS
      have c : w'.cell? ⟨w.heap.size, 1, none⟩ = some (.int .i64 x.f1) := hc.2.1
      clear hc
      go_simp
      first | with_reducible rfl | (rw [if_neg (by omega)]; done) | (rw [if_neg (by omega)]; with_reducible rfl)
    rotate_left
    · simp only [Act.put, List.setIfInBounds_toArray, List.set_cons_zero, List.set_cons_succ, i64_w, i32_w]
      rfl
    refine take_ (i := 8) (N := (some 162)) (v := ?_) (a' := ?_) #[true, true, true, false, false, false, true, true, true, false, false, false, true, false, false, false, false] rfl rfl (by kernel_rfl) (fun _ _ _ h => h) (Or.inl ⟨by rfl, ?_⟩) hHeld ?_ ?_
    rotate_left
    · intro w' hS
      have hc := evCells HBLK.out hS
      have c : w'.cell? ⟨w.heap.size, 2, none⟩ = some (.int .i64 x.f2) := hc.2.2.1
      clear hc
      go_simp
      first | with_reducible rfl | (rw [if_neg (by omega)]; done) | (rw [if_neg (by omega)]; with_reducible rfl)
    rotate_left
    · simp only [Act.put, List.setIfInBounds_toArray, List.set_cons_zero, List.set_cons_succ, i64_w, i32_w]
      rfl
    refine take_ (i := 13) (N := (some 167)) (v := ?_) (a' := ?_) #[true, true, true, false, false, false, true, true, true, false, false, false, true, true, false, false, false] rfl rfl (by kernel_rfl) (fun _ _ _ h => h) (Or.inl ⟨by rfl, ?_⟩) hHeld ?_ ?_
    rotate_left
    · intro w' hS
      have hc := evCells HBLK.out hS
      have c : w'.cell? ⟨w.heap.size, 9, none⟩ = some (.slice A9 x.f6.length c9) := hc.2.2.2.2.2.2.2.2.2
      clear hc
      go_simp
      first | with_reducible rfl | (rw [if_neg (by omega)]; done) | (rw [if_neg (by omega)]; with_reducible rfl)
    rotate_left
    · simp only [Act.put, List.setIfInBounds_toArray, List.set_cons_zero, List.set_cons_succ, i64_w, i32_w]
      rfl
    refine one_ (i := 3) (N := (some 157)) #[true, true, true, true, false, false, true, true, true, false, false, false, true, true, false, false, false] rfl rfl (by kernel_rfl) (by decide) (fun K hK => ?_)
    refine call_ 32 #[.int .i64 x.f1] (by rfl) rfl (by
      have he := enters_ Tryd.func32 (by kernel_rfl) rfl #[.int .i64 x.f1] wr
      unfold execOp
      simp [resolve, Deferred.ofValue, invoke, Act.eval, he]) ?_
    refine (Hi1.out wr hHeld).mono ?_
    rintro e wc1 ⟨rfl, hB, -⟩
    refine ⟨_, rfl, hK.out _ _ hB (fun hHeld => ?_)⟩
    clear hK K hB
    refine norm_ (a' := ?_) ?_ ?_
    rotate_left
    · show Act.put _ (some 157) _ = _
      simp only [Act.put, List.setIfInBounds_toArray, List.set_cons_zero, List.set_cons_succ, i64_w, i32_w]
      rfl
    refine pure_ (i := 4) (N := (some 158)) (v := ?_) (a' := ?_) #[true, true, true, true, true, false, true, true, true, false, false, false, true, true, false, false, false] rfl rfl (by kernel_rfl) (fun _ _ _ h => h) (Or.inl ⟨by rfl, ?_⟩) ?_ ?_
    rotate_left
    · intro w'
      go_simp
      first | with_reducible rfl | (rw [if_neg (by omega)]; done) | (rw [if_neg (by omega)]; with_reducible rfl)
    rotate_left
    · simp only [Act.put, List.setIfInBounds_toArray, List.set_cons_zero, List.set_cons_succ, i64_w, i32_w]
      rfl
    refine pure_ (i := 5) (N := (some 159)) (v := ?_) (a' := ?_) #[true, true, true, true, true, true, true, true, true, false, false, false, true, true, false, false, false] rfl rfl (by kernel_rfl) (fun _ _ _ h => h) (Or.inl ⟨by rfl, ?_⟩) ?_ ?_
    rotate_left
    · intro w'
      go_simp
      first | with_reducible rfl | (rw [if_neg (by omega)]; done) | (rw [if_neg (by omega)]; with_reducible rfl)
    rotate_left
    · simp only [Act.put, List.setIfInBounds_toArray, List.set_cons_zero, List.set_cons_succ, i64_w, i32_w]
      rfl
    refine one_ (i := 9) (N := (some 163)) #[true, true, true, true, true, true, true, true, true, true, false, false, true, true, false, false, false] rfl rfl (by kernel_rfl) (by decide) (fun K hK => ?_)
    refine call_ 32 #[.int .i64 x.f2] (by rfl) rfl (by
      have he := enters_ Tryd.func32 (by kernel_rfl) rfl #[.int .i64 x.f2] wc1
      unfold execOp
      simp [resolve, Deferred.ofValue, invoke, Act.eval, he]) ?_
    refine (Hi2.out wc1 hHeld).mono ?_
    rintro e wc2 ⟨rfl, hB, -⟩
    refine ⟨_, rfl, hK.out _ _ hB (fun hHeld => ?_)⟩
    clear hK K hB
    refine norm_ (a' := ?_) ?_ ?_
    rotate_left
    · show Act.put _ (some 163) _ = _
      simp only [Act.put, List.setIfInBounds_toArray, List.set_cons_zero, List.set_cons_succ, i64_w, i32_w]
      rfl
    refine pure_ (i := 10) (N := (some 164)) (v := ?_) (a' := ?_) #[true, true, true, true, true, true, true, true, true, true, true, false, true, true, false, false, false] rfl rfl (by kernel_rfl) (fun _ _ _ h => h) (Or.inl ⟨by rfl, ?_⟩) ?_ ?_
    rotate_left
    · intro w'
      go_simp
      first | with_reducible rfl | (rw [if_neg (by omega)]; done) | (rw [if_neg (by omega)]; with_reducible rfl)
    rotate_left
    · simp only [Act.put, List.setIfInBounds_toArray, List.set_cons_zero, List.set_cons_succ, i64_w, i32_w]
      rfl
    refine pure_ (i := 11) (N := (some 165)) (v := ?_) (a' := ?_) #[true, true, true, true, true, true, true, true, true, true, true, true, true, true, false, false, false] rfl rfl (by kernel_rfl) (fun _ _ _ h => h) (Or.inl ⟨by rfl, ?_⟩) ?_ ?_
    rotate_left
    · intro w'
      go_simp
      first | with_reducible rfl | (rw [if_neg (by omega)]; done) | (rw [if_neg (by omega)]; with_reducible rfl)
    rotate_left
    · simp only [Act.put, List.setIfInBounds_toArray, List.set_cons_zero, List.set_cons_succ, i64_w, i32_w]
      rfl
    refine one_ (i := 14) (N := (some 168)) #[true, true, true, true, true, true, true, true, true, true, true, true, true, true, true, false, false] rfl rfl (by kernel_rfl) (by decide) (fun K hK => ?_)
    refine call_ 59 #[.slice A9 x.f6.length c9] (by rfl) rfl (by
      have he := enters_ Tryd.func59 (by kernel_rfl) rfl #[.slice A9 x.f6.length c9] wc2
      unfold execOp
      simp [resolve, Deferred.ofValue, invoke, Act.eval, he]) ?_
    refine (HQ9.out wc2 hHeld).mono ?_
    rintro e wc3 ⟨rfl, hB, -⟩
    refine ⟨_, rfl, hK.out _ _ hB (fun hHeld => ?_)⟩
    clear hK K hB
    refine norm_ (a' := ?_) ?_ ?_
    rotate_left
    · show Act.put _ (some 168) _ = _
      simp only [Act.put, List.setIfInBounds_toArray, List.set_cons_zero, List.set_cons_succ, i64_w, i32_w]
      rfl
    refine pure_ (i := 15) (N := (some 169)) (v := ?_) (a' := ?_) #[true, true, true, true, true, true, true, true, true, true, true, true, true, true, true, true, false] rfl rfl (by kernel_rfl) (fun _ _ _ h => h) (Or.inl ⟨by rfl, ?_⟩) ?_ ?_
    rotate_left
    · intro w'
      go_simp
      first | with_reducible rfl | (rw [if_neg (by omega)]; done) | (rw [if_neg (by omega)]; with_reducible rfl)
    rotate_left
    · simp only [Act.put, List.setIfInBounds_toArray, List.set_cons_zero, List.set_cons_succ, i64_w, i32_w]
      rfl
    refine pure_ (i := 16) (N := (some 2)) (v := ?_) (a' := ?_) #[true, true, true, true, true, true, true, true, true, true, true, true, true, true, true, true, true] rfl rfl (by kernel_rfl) (fun _ _ _ h => h) (Or.inl ⟨by rfl, ?_⟩) ?_ ?_
    rotate_left
    · intro w'
      go_simp
      first | with_reducible rfl | (rw [if_neg (by omega)]; done) | (rw [if_neg (by omega)]; with_reducible rfl)
    rotate_left
    · simp only [Act.put, List.setIfInBounds_toArray, List.set_cons_zero, List.set_cons_succ, i64_w, i32_w]
      rfl
    refine done_ (by kernel_rfl) ?_
    go_wp2_with fail
    go_ret
    exact ⟨rfl, HW0.out.trans (hHeld.mono HW0.out.size)⟩
end Go.Proofs.YtjpkphmihkbfeaaDoor.S34
/- script.words by a contract. -/
namespace Go.Proofs.YtjpkphmihkbfeaaDoor.S34
open Go.RowKit Go.Proofs.YtjpkphmihkbfeaaDoorW.PrintWords Go.Proofs.YtjpkphmihkbfeaaDoor.Q
set_option maxRecDepth 100000
theorem words_any (g : Er → Addr) (x : S54) (A6 A9 : Option Addr) (c6 c9 : Nat) (w : World) (hg : Glob g w) (hx : EvIn x A6 A9 c6 c9 w) (hn6 : x.f5.f1.length ≤ 16) (hn9 : x.f6.length ≤ 1000) :
    Calls Tryd.prog 35 #[evArg x A6 A9 c6 c9] w fun e w' => e = .returned (.string (wordsP x)) ∧ Below w.heap.size w w' := by
  unfold wordsP
  by_cases h1 : x.f0 = 1
  · rw [if_pos h1]
    exact words_join g x A6 A9 c6 c9 w hg hx hn6 hn9 h1
  by_cases h2 : x.f0 = 2
  · rw [if_neg h1, if_pos h2]
    exact words_leave g x A6 A9 c6 c9 w hg hx hn6 hn9 h2
  by_cases h3 : x.f0 = 3
  · rw [if_neg h1, if_neg h2, if_pos h3]
    exact words_role g x A6 A9 c6 c9 w hg hx hn6 hn9 h3
  by_cases h4 : x.f0 = 4
  · rw [if_neg h1, if_neg h2, if_neg h3, if_pos h4]
    exact words_out g x A6 A9 c6 c9 w hg hx hn6 hn9 h4
  by_cases h5 : x.f0 = 5
  · rw [if_neg h1, if_neg h2, if_neg h3, if_neg h4, if_pos h5]
    by_cases d1 : x.f5.f0 = 1
    · rw [if_pos d1]; exact words_keys g x A6 A9 c6 c9 w hg hx hn6 hn9 h5 d1
    by_cases d2 : x.f5.f0 = 2
    · rw [if_neg d1, if_pos d2]; exact words_size g x A6 A9 c6 c9 w hg hx hn6 hn9 h5 d2
    by_cases d3 : x.f5.f0 = 3
    · rw [if_neg d1, if_neg d2, if_pos d3]; exact words_ask g x A6 A9 c6 c9 w hg hx hn6 hn9 h5 d3
    rw [if_neg d1, if_neg d2, if_neg d3]; exact words_free g x A6 A9 c6 c9 w hg hx hn6 hn9 h5 d1 d2 d3
  by_cases h6 : x.f0 = 6
  · rw [if_neg h1, if_neg h2, if_neg h3, if_neg h4, if_neg h5, if_pos h6]
    exact words_tick g x A6 A9 c6 c9 w hg hx hn6 hn9 h6
  by_cases h7 : x.f0 = 7
  · rw [if_neg h1, if_neg h2, if_neg h3, if_neg h4, if_neg h5, if_neg h6, if_pos h7]
    exact words_deliver g x A6 A9 c6 c9 w hg hx hn6 hn9 h7
  by_cases h8 : x.f0 = 8
  · rw [if_neg h1, if_neg h2, if_neg h3, if_neg h4, if_neg h5, if_neg h6, if_neg h7, if_pos h8]
    exact words_spoil g x A6 A9 c6 c9 w hg hx hn6 hn9 h8
  by_cases h9 : x.f0 = 9
  · rw [if_neg h1, if_neg h2, if_neg h3, if_neg h4, if_neg h5, if_neg h6, if_neg h7, if_neg h8, if_pos h9]
    exact words_move g x A6 A9 c6 c9 w hg hx hn6 hn9 h9
  by_cases m : x.f3 = 0
  · rw [if_neg h1, if_neg h2, if_neg h3, if_neg h4, if_neg h5, if_neg h6, if_neg h7, if_neg h8, if_neg h9, if_pos m]; exact words_hub g x A6 A9 c6 c9 w hg hx hn6 hn9 h1 h2 h3 h4 h5 h6 h7 h8 h9 m
  rw [if_neg h1, if_neg h2, if_neg h3, if_neg h4, if_neg h5, if_neg h6, if_neg h7, if_neg h8, if_neg h9, if_neg m]; exact words_view g x A6 A9 c6 c9 w hg hx hn6 hn9 h1 h2 h3 h4 h5 h6 h7 h8 h9 m
theorem ite_size {c : Prop} [Decidable c] {a b : ByteArray} {n : Nat} (ha : a.size ≤ n) (hb : b.size ≤ n) : (if c then a else b).size ≤ n := by
  split <;> assumption
theorem wordsP_size {x : S54} (hx : EvGood x) (hn6 : x.f5.f1.length ≤ 16) (hn9 : x.f6.length ≤ 1000) : (wordsP x).size ≤ 3100 := by
  have n1 := numB_le hx.i1
  have n2 := numB_le hx.i2
  have n3 := numB_le hx.i3
  have m2 := numB_le hx.j2
  have m3 := numB_le hx.j3
  have r := roleB_le x.f4
  have q6 := quoteB_size x.f5.f1
  have q9 := quoteB_size x.f6
  have z0 : (⟨#[106, 111, 105, 110, 32]⟩ : ByteArray).size = 5 := rfl
  have z1 : (⟨#[108, 101, 97, 118, 101, 32]⟩ : ByteArray).size = 6 := rfl
  have z2 : (⟨#[114, 111, 108, 101, 32]⟩ : ByteArray).size = 5 := rfl
  have z3 : (⟨#[111, 117, 116, 32]⟩ : ByteArray).size = 4 := rfl
  have z4 : (⟨#[107, 101, 121, 115, 32]⟩ : ByteArray).size = 5 := rfl
  have z5 : (⟨#[115, 105, 122, 101, 32]⟩ : ByteArray).size = 5 := rfl
  have z6 : (⟨#[97, 115, 107, 32]⟩ : ByteArray).size = 4 := rfl
  have z7 : (⟨#[102, 114, 101, 101, 32]⟩ : ByteArray).size = 5 := rfl
  have z8 : (⟨#[116, 105, 99, 107, 32]⟩ : ByteArray).size = 5 := rfl
  have z9 : (⟨#[100, 101, 108, 105, 118, 101, 114, 32]⟩ : ByteArray).size = 8 := rfl
  have z10 : (⟨#[115, 112, 111, 105, 108, 32]⟩ : ByteArray).size = 6 := rfl
  have z11 : (⟨#[109, 111, 118, 101, 32]⟩ : ByteArray).size = 5 := rfl
  have z12 : (⟨#[102, 111, 114, 103, 101, 32]⟩ : ByteArray).size = 6 := rfl
  have z13 : (⟨#[32]⟩ : ByteArray).size = 1 := rfl
  have z14 : (⟨#[32, 104, 117, 98, 32]⟩ : ByteArray).size = 5 := rfl
  have z15 : (⟨#[32, 118, 105, 101, 119, 32]⟩ : ByteArray).size = 6 := rfl
  unfold wordsP
  repeat' refine ite_size ?_ ?_
  all_goals (simp only [ByteArray.size_append]; omega)
end Go.Proofs.YtjpkphmihkbfeaaDoor.S34
