/- ScriptMany walked. -/
import Derived.Test.YtjpkphmihkbfeaaDoorMp
import Derived.Test.YtjpkphmihkbfeaaDoorPl
import Derived.Test.YtjpkphmihkbfeaaDoorZe
import Derived.Test.YtjpkphmihkbfeaaDoorLp
namespace Go.Proofs.YtjpkphmihkbfeaaDoor.S34
open Go.RowKit Go.Proofs.YtjpkphmihkbfeaaDoorW.PrintWords Go.Proofs.YtjpkphmihkbfeaaDoorW.PrintLast Go.Proofs.YtjpkphmihkbfeaaDoorW.PrintMore Go.Proofs.YtjpkphmihkbfeaaDoor.Q
set_option maxRecDepth 100000
set_option linter.unusedSimpArgs false
set_option linter.unusedVariables false
set_option maxHeartbeats 8000000 in
theorem many_none (g : Er → Addr) (n : Int) (x : S54) (A6 A9 : Option Addr) (c6 c9 : Nat) (w : World) (hg : Glob g w) (hn : I64 n) (hx : EvIn x A6 A9 c6 c9 w) (h6 : x.f5.f1.length ≤ 1200000) (h9 : x.f6.length ≤ 1200000) (ho : lineP x = none) :
    Calls Tryd.prog 9 #[.int .i64 n, evArg x A6 A9 c6 c9] w fun e w' => e = .returned (.bool true) ∧ Below w.heap.size w w' := by
  have HO := Aside0.mk ho
  clear ho
  have hn1 := hn.1
  have hn2 := hn.2
  obtain ⟨w0, hw0⟩ : ∃ w0, w0 = w.alloc (.cells #[.int .i64 x.f0, .int .i64 x.f1, .int .i64 x.f2, .int .i64 x.f3, .int .i64 x.f4, .int .i64 x.f5.f0, .slice A6 x.f5.f1.length c6, .int .i64 x.f5.f2, .int .i64 x.f5.f3, .slice A9 x.f6.length c9] 54) := ⟨_, rfl⟩
  have hb0 : Below w.heap.size w w0 := by rw [hw0]; exact below_alloc (Below.refl _ _) _
  have hblk0 : EvBlk w.heap.size x A6 A9 c6 c9 w0 := by rw [hw0]; exact blk_new _ _
  have HG := Aside0.mk (hg.below hb0)
  have HX := Aside0.mk (hx.below hb0)
  have HB0 := Aside0.mk hb0
  have HBLK := Aside0.mk hblk0
  have HW0 := Aside0.mk hw0
  have HN := Aside0.mk (And.intro h6 h9)
  have HI := Aside0.mk hn
  clear hg hx hb0 hblk0 hw0 h6 h9 hn
  go_enter Tryd.func9, Tryd.ntmps9
  go_upto_region 1 with (fail)
  rw [← HW0.out]
  go_wp2_with fail
  refine (known_any g w0 HG.out).mono ?_
  rintro e w1 ⟨rfl, hB⟩
  have HG1 := Aside0.mk (HG.out.below hB)
  have HX1 := Aside0.mk (HX.out.below hB)
  have HB1 := Aside0.mk (below_seq HB0.out hB)
  have HBLK1 := Aside0.mk (blk_below HBLK.out hB)
  clear hB HG HX HB0 HBLK
  obtain ⟨c0, c1, c2, c3, c4, c5, c6_, c7, c8, c9_⟩ := evCells HBLK1.out (Below.refl _ _)
  go_wp2_with fail
  have HPC := Aside0.mk (rprint_any x A6 A9 c6 c9 w1 HX1.out HN.out.1 HN.out.2)
  rw [HO.out] at HPC
  refine HPC.out.mono ?_
  clear HPC
  rintro e w2 hq
  have hq2 : e = .returned (.tuple #[.string ⟨#[]⟩, .bool false]) ∧ Below w1.heap.size w1 w2 := hq
  clear hq
  obtain ⟨rfl, hB⟩ := hq2
  clear c0 c1 c2 c3 c4 c5 c6_ c7 c8 c9_
  have HG2 := Aside0.mk (HG1.out.below hB)
  have HX2 := Aside0.mk (HX1.out.below hB)
  have HB2 := Aside0.mk (below_seq HB1.out hB)
  have HBLK2 := Aside0.mk (blk_below HBLK1.out hB)
  clear hB HG1 HX1 HB1 HBLK1
  clear hn1 hn2
  by_cases m0 : n < 0
  · go_wp2
    go_ret
    exact ⟨rfl, HB2.out⟩
  · by_cases m1 : 1100 < n
    · have m2 : 0 ≤ n := by omega
      clear m0
      go_wp2
      go_ret
      exact ⟨rfl, HB2.out⟩
    · have m2 : 0 ≤ n := by omega
      have m3 : n ≤ 1100 := by omega
      clear m0 m1
      go_wp2
      go_ret
      exact ⟨rfl, HB2.out⟩
set_option maxHeartbeats 8000000 in
theorem many_big (g : Er → Addr) (n : Int) (x : S54) (A6 A9 : Option Addr) (c6 c9 : Nat) (w : World) (hg : Glob g w) (hn : I64 n) (hx : EvIn x A6 A9 c6 c9 w) (h6 : x.f5.f1.length ≤ 1200000) (h9 : x.f6.length ≤ 1200000) (t : ByteArray) (ho : lineP x = some t) (h : n < 0 ∨ 1100 < n ∨ 60 < t.size) :
    Calls Tryd.prog 9 #[.int .i64 n, evArg x A6 A9 c6 c9] w fun e w' => e = .returned (.bool true) ∧ Below w.heap.size w w' := by
  have st : t.size ≤ 3100 := line_size ho hx.good
  have HO := Aside0.mk ho
  clear ho
  have HH := Aside0.mk h
  clear h
  obtain ⟨w0, hw0⟩ : ∃ w0, w0 = w.alloc (.cells #[.int .i64 x.f0, .int .i64 x.f1, .int .i64 x.f2, .int .i64 x.f3, .int .i64 x.f4, .int .i64 x.f5.f0, .slice A6 x.f5.f1.length c6, .int .i64 x.f5.f2, .int .i64 x.f5.f3, .slice A9 x.f6.length c9] 54) := ⟨_, rfl⟩
  have hb0 : Below w.heap.size w w0 := by rw [hw0]; exact below_alloc (Below.refl _ _) _
  have hblk0 : EvBlk w.heap.size x A6 A9 c6 c9 w0 := by rw [hw0]; exact blk_new _ _
  have HG := Aside0.mk (hg.below hb0)
  have HX := Aside0.mk (hx.below hb0)
  have HB0 := Aside0.mk hb0
  have HBLK := Aside0.mk hblk0
  have HW0 := Aside0.mk hw0
  have HN := Aside0.mk (And.intro h6 h9)
  have HI := Aside0.mk hn
  clear hg hx hb0 hblk0 hw0 h6 h9 hn
  go_enter Tryd.func9, Tryd.ntmps9
  go_upto_region 1 with (fail)
  rw [← HW0.out]
  go_wp2_with fail
  refine (known_any g w0 HG.out).mono ?_
  rintro e w1 ⟨rfl, hB⟩
  have HG1 := Aside0.mk (HG.out.below hB)
  have HX1 := Aside0.mk (HX.out.below hB)
  have HB1 := Aside0.mk (below_seq HB0.out hB)
  have HBLK1 := Aside0.mk (blk_below HBLK.out hB)
  clear hB HG HX HB0 HBLK
  obtain ⟨c0, c1, c2, c3, c4, c5, c6_, c7, c8, c9_⟩ := evCells HBLK1.out (Below.refl _ _)
  go_wp2_with fail
  have HPC := Aside0.mk (rprint_any x A6 A9 c6 c9 w1 HX1.out HN.out.1 HN.out.2)
  rw [HO.out] at HPC
  refine HPC.out.mono ?_
  clear HPC
  rintro e w2 hq
  have hq2 : e = .returned (.tuple #[.string t, .bool true]) ∧ Below w1.heap.size w1 w2 := hq
  clear hq
  obtain ⟨rfl, hB⟩ := hq2
  clear c0 c1 c2 c3 c4 c5 c6_ c7 c8 c9_
  have HG2 := Aside0.mk (HG1.out.below hB)
  have HX2 := Aside0.mk (HX1.out.below hB)
  have HB2 := Aside0.mk (below_seq HB1.out hB)
  have HBLK2 := Aside0.mk (blk_below HBLK1.out hB)
  clear hB HG1 HX1 HB1 HBLK1
  by_cases m0 : n < 0
  · go_wp2
    go_ret
    exact ⟨rfl, HB2.out⟩
  · by_cases m1 : 1100 < n
    · have m2 : 0 ≤ n := by omega
      clear m0
      go_wp2
      go_ret
      exact ⟨rfl, HB2.out⟩
    · have m2 : 0 ≤ n := by omega
      have m3 : n ≤ 1100 := by omega
      have m4 : decide ((60 : Int) < (t.size : Int)) = true := decide_eq_true (by have := HH.out; omega)
      clear m0 m1
      go_wp2
      go_ret
      exact ⟨rfl, HB2.out⟩
set_option maxHeartbeats 8000000 in
theorem many_few (g : Er → Addr) (n : Int) (x : S54) (A6 A9 : Option Addr) (c6 c9 : Nat) (w : World) (hg : Glob g w) (hn : I64 n) (hx : EvIn x A6 A9 c6 c9 w) (h6 : x.f5.f1.length ≤ 1200000) (h9 : x.f6.length ≤ 1200000) (t : ByteArray) (ho : lineP x = some t) (N : Nat) (hN : n = (N : Int)) (h1 : N ≤ 1100) (ht : t.size ≤ 60) (h2 : N ≤ 1000) :
    Calls Tryd.prog 9 #[.int .i64 n, evArg x A6 A9 c6 c9] w fun e w' => e = .returned (.bool true) ∧ Below w.heap.size w w' := by
  subst hN
  have HPP := Aside0.mk (parseAll_rep ho hx.good N)
  have HPA := Aside0.mk (printAll_rep ho N)
  have HO := Aside0.mk ho
  have m2 : (0 : Int) ≤ (N : Int) := by omega
  have m3 : (N : Int) ≤ 1100 := by omega
  have m4 : decide ((60 : Int) < (t.size : Int)) = false := decide_eq_false (by omega)
  clear ho
  obtain ⟨w0, hw0⟩ : ∃ w0, w0 = w.alloc (.cells #[.int .i64 x.f0, .int .i64 x.f1, .int .i64 x.f2, .int .i64 x.f3, .int .i64 x.f4, .int .i64 x.f5.f0, .slice A6 x.f5.f1.length c6, .int .i64 x.f5.f2, .int .i64 x.f5.f3, .slice A9 x.f6.length c9] 54) := ⟨_, rfl⟩
  have hb0 : Below w.heap.size w w0 := by rw [hw0]; exact below_alloc (Below.refl _ _) _
  have hblk0 : EvBlk w.heap.size x A6 A9 c6 c9 w0 := by rw [hw0]; exact blk_new _ _
  have HG := Aside0.mk (hg.below hb0)
  have HX := Aside0.mk (hx.below hb0)
  have HB0 := Aside0.mk hb0
  have HBLK := Aside0.mk hblk0
  have HW0 := Aside0.mk hw0
  have HN := Aside0.mk (And.intro h6 h9)
  have HI := Aside0.mk hn
  clear hg hx hb0 hblk0 hw0 h6 h9 hn
  go_enter Tryd.func9, Tryd.ntmps9
  go_upto_region 1 with (fail)
  rw [← HW0.out]
  go_wp2_with fail
  refine (known_any g w0 HG.out).mono ?_
  rintro e w1 ⟨rfl, hB⟩
  have HG1 := Aside0.mk (HG.out.below hB)
  have HX1 := Aside0.mk (HX.out.below hB)
  have HB1 := Aside0.mk (below_seq HB0.out hB)
  have HBLK1 := Aside0.mk (blk_below HBLK.out hB)
  clear hB HG HX HB0 HBLK
  obtain ⟨c0, c1, c2, c3, c4, c5, c6_, c7, c8, c9_⟩ := evCells HBLK1.out (Below.refl _ _)
  go_wp2_with fail
  have HPC := Aside0.mk (rprint_any x A6 A9 c6 c9 w1 HX1.out HN.out.1 HN.out.2)
  rw [HO.out] at HPC
  refine HPC.out.mono ?_
  clear HPC
  rintro e w2 hq
  have hq2 : e = .returned (.tuple #[.string t, .bool true]) ∧ Below w1.heap.size w1 w2 := hq
  clear hq
  obtain ⟨rfl, hB⟩ := hq2
  clear c0 c1 c2 c3 c4 c5 c6_ c7 c8 c9_
  have HG2 := Aside0.mk (HG1.out.below hB)
  have HX2 := Aside0.mk (HX1.out.below hB)
  have HB2 := Aside0.mk (below_seq HB1.out hB)
  have HBLK2 := Aside0.mk (blk_below HBLK1.out hB)
  clear hB HG1 HX1 HB1 HBLK1
  clear HO HW0 HI
  have e0 : Kd.R (Kd.fixed k54 w2) 54 w2 w2.heap.size (fun _ => True) (.slice none 0 0) [] := Kd.R_nil _ _ _ _ _
  have HO := Aside0.mk e0
  have HB := Aside0.mk (Below.refl w2.heap.size w2)
  clear e0
  obtain ⟨c0, c1, c2, c3, c4, c5, c6_, c7, c8, c9_⟩ := evCells HBLK2.out (Below.refl _ _)
  go_wp2_with fail
  go_loopg [7, 8, 9] (N + 1) (fun kq v7 v8 v9 wr => ∃ (k : Nat) (s : ByteArray) (es : List S54), v7 = .string s ∧ v9 = .int .i64 (k : Int) ∧ Aside0 (k + kq = N + 1 ∧ k ≤ N ∧ s = repS t k ∧ es = List.replicate k x) ∧ Aside0 (Kd.R (Kd.fixed k54 w2) 54 wr w2.heap.size (fun _ => True) v8 es) ∧ Aside0 (Below w2.heap.size w2 wr))
  case atStart => exact ⟨0, ⟨#[]⟩, [], rfl, rfl, ⟨by omega, by omega, rfl, rfl⟩, ⟨(by (with_reducible repeat (first | apply Kd.R_alloc | apply Kd.R_drewN | apply Kd.R_drew)); exact HO.out)⟩, ⟨(by repeat (first | (with_reducible first | exact HB.out | apply below_alloc | apply pw_below_drewN | apply below_drew1) | exact HB.out))⟩⟩
  case round =>
    clear HO HB c0 c1 c2 c3 c4 c5 c6_ c7 c8 c9_
    obtain ⟨k, s, es, rfl, rfl, HA, HO, HB⟩ := hrel
    obtain ⟨hk1, hk2, hs, hes⟩ := HA.out
    have hsz : s.size ≤ 70000 := by
      rw [hs, repS_size]
      have : k * (t.size + 1) ≤ 1100 * 61 := Nat.mul_le_mul (by omega) (by omega)
      omega
    have hel : es.length ≤ 1100 := by rw [hes, List.length_replicate]; omega
    have hk0 : (0 : Int) ≤ (k : Int) := by omega
    have hk3 : (k : Int) ≤ 1100 := by omega
    cases gk with
    | zero => exact absurd hk1 (by omega)
    | succ k1 =>
      by_cases hlt : k < N
      · have d1 : decide (k < N) = true := decide_eq_true hlt
        have d2 : decide ((k : Int) < (N : Int)) = true := decide_eq_true (by omega)
        have HK := Aside0.mk (And.intro hk1 (And.intro hk2 (And.intro hs (And.intro hes hlt))))
        clear hk1 hk2 hs hes hlt HA
        obtain ⟨c0, c1, c2, c3, c4, c5, c6_, c7, c8, c9_⟩ := evCells (blk_below HBLK2.out HB.out) (Below.refl _ _)
        have HM := Aside0.mk (k54_mk w2 x HX2.out.h6 HX2.out.q6 HX2.out.h9 HX2.out.q9)
        go_wp2_with ((with_reducible refine gate_builtin (b := .append) (xs := #[.tmp 47, .tmp 49]) rfl ?_); at_builtin; refine Kd.R_append (Kd.fixed k54 w2) (w0 := w2) w2.heap.size rfl (.tmp 47) (.tmp 49) 23 54 (.agg #[.int .i64 0, .int .i64 0, .int .i64 0, .int .i64 0, .int .i64 0, .int .i64 0, .slice none 0 0, .int .i64 0, .int .i64 0, .slice none 0 0]) 112 rfl Tryd.underlying23 info54 rfl (show 0 < 10 from by decide) (by decide) _ es x [.int .i64 x.f0, .int .i64 x.f1, .int .i64 x.f2, .int .i64 x.f3, .int .i64 x.f4, .int .i64 x.f5.f0, .slice A6 x.f5.f1.length c6, .int .i64 x.f5.f2, .int .i64 x.f5.f3, .slice A9 x.f6.length c9] (fun _ => True) (fun _ => False) rfl rfl ?aP (fun _ hk => hk.elim) ?aF ?aO ?aB ?aS ?aL ?_; (case aP => exact HM.out); (case aB => exact (by repeat (first | (with_reducible first | exact HB.out | apply below_alloc | apply pw_below_drewN | apply below_drew1) | exact HB.out))); (case aF => exact (fun _ _ => trivial)); (case aO => exact (by (with_reducible repeat (first | apply Kd.R_alloc | apply Kd.R_drewN | apply Kd.R_drew)); exact HO.out)); (case aS => exact (below_size (by repeat (first | (with_reducible first | exact HB.out | apply below_alloc | apply pw_below_drewN | apply below_drew1) | exact HB.out)))); (case aL => omega); intro v1 w3 ho hb hgr hat; have n0_ := Aside0.mk ho; have n1_ := Aside0.mk hb; clear HO HB ho hb hgr hat; have HO := n0_; have HB := n1_; clear n0_ n1_)
        go_roundg k1
        case measure => have := HK.out; omega
        case rel =>
          obtain ⟨hk1, hk2, hs, hes, hlt⟩ := HK.out
          exact ⟨k + 1, s ++ (t ++ ⟨#[10]⟩), es ++ [x], rfl, by go_num, ⟨by omega, by omega, by rw [hs]; rfl, by rw [hes, List.replicate_succ']⟩, ⟨(by (with_reducible repeat (first | apply Kd.R_alloc | apply Kd.R_drewN | apply Kd.R_drew)); exact HO.out)⟩, ⟨(by repeat (first | (with_reducible first | exact HB.out | apply below_alloc | apply pw_below_drewN | apply below_drew1) | exact HB.out))⟩⟩
      · have hkN : k = N := by omega
        subst hkN
        have d1 : decide (k < k) = false := decide_eq_false (by omega)
        have d2 : decide ((k : Int) < (k : Int)) = false := decide_eq_false (by omega)
        obtain ⟨Av, cv, hv, hcv, hC⟩ := Kd.R_reads HO.out
        have HC := Aside0.mk (show Kd.C k54 wr Av es.length es from ReadsRow.imp_ hC (Below.refl _ _) (fun _ _ h => k54.K_below HB.out h))
        subst hv
        rw [← hs] at HPP HPA
        rw [← hes] at HPP HPA
        have HL := Aside0.mk (show es.length = k by rw [hes, List.length_replicate])
        have HGd := Aside0.mk (show ∀ y ∈ es, EvGood y by rw [hes]; intro y hy; rw [(List.mem_replicate.1 hy).2]; exact HX2.out.good)
        have HG3 := Aside0.mk (HG2.out.below HB.out)
        have HB3 := Aside0.mk (below_seq HB2.out HB.out)
        clear hk1 hk2 hs hes hlt HA hC HO HB HB2 HG2
        rw [HL.out] at HC
        rw [if_pos h2] at HPP HPA
        have hk4 : (k : Int) ≤ 1000 := by omega
        have d3 : decide ((1000 : Int) < (k : Int)) = false := decide_eq_false (by omega)
        clear h2
        go_wp2_with fail
        have HPC := Aside0.mk (Parse_any g s wr HG3.out (by omega))
        rw [HPP.out] at HPC
        refine HPC.out.mono ?_
        clear HPC
        rintro e w3 ⟨v, rfl, hR, hB⟩
        obtain ⟨Av3, cv3, rfl, hcv3, -⟩ := Kd.R_reads hR
        have HG4 := Aside0.mk (HG3.out.below hB)
        have HC4 := Aside0.mk (Kd.C_below HC.out hB)
        have HB4 := Aside0.mk (below_seq HB3.out hB)
        clear hR hB HG3 HC HB3
        rw [HL.out]
        go_wp2_with fail
        have HPC := Aside0.mk (print_any g es Av cv w3 HG4.out (by rw [HL.out]; exact HC4.out) HGd.out)
        rw [HPA.out, HL.out] at HPC
        refine HPC.out.mono ?_
        clear HPC
        rintro e w4 ⟨rfl, hB⟩
        have HB5 := Aside0.mk (below_seq HB4.out hB)
        clear hB
        go_wp2_with fail
        go_ret
        exact ⟨rfl, HB5.out⟩
set_option maxHeartbeats 8000000 in
theorem many_more (g : Er → Addr) (n : Int) (x : S54) (A6 A9 : Option Addr) (c6 c9 : Nat) (w : World) (hg : Glob g w) (hn : I64 n) (hx : EvIn x A6 A9 c6 c9 w) (h6 : x.f5.f1.length ≤ 1200000) (h9 : x.f6.length ≤ 1200000) (t : ByteArray) (ho : lineP x = some t) (N : Nat) (hN : n = (N : Int)) (h1 : N ≤ 1100) (ht : t.size ≤ 60) (h2 : 1000 < N) :
    Calls Tryd.prog 9 #[.int .i64 n, evArg x A6 A9 c6 c9] w fun e w' => e = .returned (.bool true) ∧ Below w.heap.size w w' := by
  subst hN
  have HPP := Aside0.mk (parseAll_rep ho hx.good N)
  have HPA := Aside0.mk (printAll_rep ho N)
  have HO := Aside0.mk ho
  have m2 : (0 : Int) ≤ (N : Int) := by omega
  have m3 : (N : Int) ≤ 1100 := by omega
  have m4 : decide ((60 : Int) < (t.size : Int)) = false := decide_eq_false (by omega)
  clear ho
  obtain ⟨w0, hw0⟩ : ∃ w0, w0 = w.alloc (.cells #[.int .i64 x.f0, .int .i64 x.f1, .int .i64 x.f2, .int .i64 x.f3, .int .i64 x.f4, .int .i64 x.f5.f0, .slice A6 x.f5.f1.length c6, .int .i64 x.f5.f2, .int .i64 x.f5.f3, .slice A9 x.f6.length c9] 54) := ⟨_, rfl⟩
  have hb0 : Below w.heap.size w w0 := by rw [hw0]; exact below_alloc (Below.refl _ _) _
  have hblk0 : EvBlk w.heap.size x A6 A9 c6 c9 w0 := by rw [hw0]; exact blk_new _ _
  have HG := Aside0.mk (hg.below hb0)
  have HX := Aside0.mk (hx.below hb0)
  have HB0 := Aside0.mk hb0
  have HBLK := Aside0.mk hblk0
  have HW0 := Aside0.mk hw0
  have HN := Aside0.mk (And.intro h6 h9)
  have HI := Aside0.mk hn
  clear hg hx hb0 hblk0 hw0 h6 h9 hn
  go_enter Tryd.func9, Tryd.ntmps9
  go_upto_region 1 with (fail)
  rw [← HW0.out]
  go_wp2_with fail
  refine (known_any g w0 HG.out).mono ?_
  rintro e w1 ⟨rfl, hB⟩
  have HG1 := Aside0.mk (HG.out.below hB)
  have HX1 := Aside0.mk (HX.out.below hB)
  have HB1 := Aside0.mk (below_seq HB0.out hB)
  have HBLK1 := Aside0.mk (blk_below HBLK.out hB)
  clear hB HG HX HB0 HBLK
  obtain ⟨c0, c1, c2, c3, c4, c5, c6_, c7, c8, c9_⟩ := evCells HBLK1.out (Below.refl _ _)
  go_wp2_with fail
  have HPC := Aside0.mk (rprint_any x A6 A9 c6 c9 w1 HX1.out HN.out.1 HN.out.2)
  rw [HO.out] at HPC
  refine HPC.out.mono ?_
  clear HPC
  rintro e w2 hq
  have hq2 : e = .returned (.tuple #[.string t, .bool true]) ∧ Below w1.heap.size w1 w2 := hq
  clear hq
  obtain ⟨rfl, hB⟩ := hq2
  clear c0 c1 c2 c3 c4 c5 c6_ c7 c8 c9_
  have HG2 := Aside0.mk (HG1.out.below hB)
  have HX2 := Aside0.mk (HX1.out.below hB)
  have HB2 := Aside0.mk (below_seq HB1.out hB)
  have HBLK2 := Aside0.mk (blk_below HBLK1.out hB)
  clear hB HG1 HX1 HB1 HBLK1
  clear HO HW0 HI
  have e0 : Kd.R (Kd.fixed k54 w2) 54 w2 w2.heap.size (fun _ => True) (.slice none 0 0) [] := Kd.R_nil _ _ _ _ _
  have HO := Aside0.mk e0
  have HB := Aside0.mk (Below.refl w2.heap.size w2)
  clear e0
  obtain ⟨c0, c1, c2, c3, c4, c5, c6_, c7, c8, c9_⟩ := evCells HBLK2.out (Below.refl _ _)
  go_wp2_with fail
  go_loopg [7, 8, 9] (N + 1) (fun kq v7 v8 v9 wr => ∃ (k : Nat) (s : ByteArray) (es : List S54), v7 = .string s ∧ v9 = .int .i64 (k : Int) ∧ Aside0 (k + kq = N + 1 ∧ k ≤ N ∧ s = repS t k ∧ es = List.replicate k x) ∧ Aside0 (Kd.R (Kd.fixed k54 w2) 54 wr w2.heap.size (fun _ => True) v8 es) ∧ Aside0 (Below w2.heap.size w2 wr))
  case atStart => exact ⟨0, ⟨#[]⟩, [], rfl, rfl, ⟨by omega, by omega, rfl, rfl⟩, ⟨(by (with_reducible repeat (first | apply Kd.R_alloc | apply Kd.R_drewN | apply Kd.R_drew)); exact HO.out)⟩, ⟨(by repeat (first | (with_reducible first | exact HB.out | apply below_alloc | apply pw_below_drewN | apply below_drew1) | exact HB.out))⟩⟩
  case round =>
    clear HO HB c0 c1 c2 c3 c4 c5 c6_ c7 c8 c9_
    obtain ⟨k, s, es, rfl, rfl, HA, HO, HB⟩ := hrel
    obtain ⟨hk1, hk2, hs, hes⟩ := HA.out
    have hsz : s.size ≤ 70000 := by
      rw [hs, repS_size]
      have : k * (t.size + 1) ≤ 1100 * 61 := Nat.mul_le_mul (by omega) (by omega)
      omega
    have hel : es.length ≤ 1100 := by rw [hes, List.length_replicate]; omega
    have hk0 : (0 : Int) ≤ (k : Int) := by omega
    have hk3 : (k : Int) ≤ 1100 := by omega
    cases gk with
    | zero => exact absurd hk1 (by omega)
    | succ k1 =>
      by_cases hlt : k < N
      · have d1 : decide (k < N) = true := decide_eq_true hlt
        have d2 : decide ((k : Int) < (N : Int)) = true := decide_eq_true (by omega)
        have HK := Aside0.mk (And.intro hk1 (And.intro hk2 (And.intro hs (And.intro hes hlt))))
        clear hk1 hk2 hs hes hlt HA
        obtain ⟨c0, c1, c2, c3, c4, c5, c6_, c7, c8, c9_⟩ := evCells (blk_below HBLK2.out HB.out) (Below.refl _ _)
        have HM := Aside0.mk (k54_mk w2 x HX2.out.h6 HX2.out.q6 HX2.out.h9 HX2.out.q9)
        go_wp2_with ((with_reducible refine gate_builtin (b := .append) (xs := #[.tmp 47, .tmp 49]) rfl ?_); at_builtin; refine Kd.R_append (Kd.fixed k54 w2) (w0 := w2) w2.heap.size rfl (.tmp 47) (.tmp 49) 23 54 (.agg #[.int .i64 0, .int .i64 0, .int .i64 0, .int .i64 0, .int .i64 0, .int .i64 0, .slice none 0 0, .int .i64 0, .int .i64 0, .slice none 0 0]) 112 rfl Tryd.underlying23 info54 rfl (show 0 < 10 from by decide) (by decide) _ es x [.int .i64 x.f0, .int .i64 x.f1, .int .i64 x.f2, .int .i64 x.f3, .int .i64 x.f4, .int .i64 x.f5.f0, .slice A6 x.f5.f1.length c6, .int .i64 x.f5.f2, .int .i64 x.f5.f3, .slice A9 x.f6.length c9] (fun _ => True) (fun _ => False) rfl rfl ?aP (fun _ hk => hk.elim) ?aF ?aO ?aB ?aS ?aL ?_; (case aP => exact HM.out); (case aB => exact (by repeat (first | (with_reducible first | exact HB.out | apply below_alloc | apply pw_below_drewN | apply below_drew1) | exact HB.out))); (case aF => exact (fun _ _ => trivial)); (case aO => exact (by (with_reducible repeat (first | apply Kd.R_alloc | apply Kd.R_drewN | apply Kd.R_drew)); exact HO.out)); (case aS => exact (below_size (by repeat (first | (with_reducible first | exact HB.out | apply below_alloc | apply pw_below_drewN | apply below_drew1) | exact HB.out)))); (case aL => omega); intro v1 w3 ho hb hgr hat; have n0_ := Aside0.mk ho; have n1_ := Aside0.mk hb; clear HO HB ho hb hgr hat; have HO := n0_; have HB := n1_; clear n0_ n1_)
        go_roundg k1
        case measure => have := HK.out; omega
        case rel =>
          obtain ⟨hk1, hk2, hs, hes, hlt⟩ := HK.out
          exact ⟨k + 1, s ++ (t ++ ⟨#[10]⟩), es ++ [x], rfl, by go_num, ⟨by omega, by omega, by rw [hs]; rfl, by rw [hes, List.replicate_succ']⟩, ⟨(by (with_reducible repeat (first | apply Kd.R_alloc | apply Kd.R_drewN | apply Kd.R_drew)); exact HO.out)⟩, ⟨(by repeat (first | (with_reducible first | exact HB.out | apply below_alloc | apply pw_below_drewN | apply below_drew1) | exact HB.out))⟩⟩
      · have hkN : k = N := by omega
        subst hkN
        have d1 : decide (k < k) = false := decide_eq_false (by omega)
        have d2 : decide ((k : Int) < (k : Int)) = false := decide_eq_false (by omega)
        obtain ⟨Av, cv, hv, hcv, hC⟩ := Kd.R_reads HO.out
        have HC := Aside0.mk (show Kd.C k54 wr Av es.length es from ReadsRow.imp_ hC (Below.refl _ _) (fun _ _ h => k54.K_below HB.out h))
        subst hv
        rw [← hs] at HPP HPA
        rw [← hes] at HPP HPA
        have HL := Aside0.mk (show es.length = k by rw [hes, List.length_replicate])
        have HGd := Aside0.mk (show ∀ y ∈ es, EvGood y by rw [hes]; intro y hy; rw [(List.mem_replicate.1 hy).2]; exact HX2.out.good)
        have HG3 := Aside0.mk (HG2.out.below HB.out)
        have HB3 := Aside0.mk (below_seq HB2.out HB.out)
        clear hk1 hk2 hs hes hlt HA hC HO HB HB2 HG2
        rw [HL.out] at HC
        rw [if_neg (by omega)] at HPP HPA
        have hk4 : (1000 : Int) < (k : Int) := by omega
        have d3 : decide ((1000 : Int) < (k : Int)) = true := decide_eq_true (by omega)
        clear h2
        go_wp2_with fail
        have HPC := Aside0.mk (Parse_any g s wr HG3.out (by omega))
        rw [HPP.out] at HPC
        refine HPC.out.mono ?_
        clear HPC
        rintro e w3 ⟨b, rfl, hF, hle, hB⟩
        have HG4 := Aside0.mk (HG3.out.below hB)
        have HC4 := Aside0.mk (Kd.C_below HC.out hB)
        have HB4 := Aside0.mk (below_seq HB3.out hB)
        have HF4 := Aside0.mk hF
        clear hF hB hle HG3 HC HB3
        rw [HL.out]
        go_wp2_with fail
        have HPC := Aside0.mk (print_any g es Av cv w3 HG4.out (by rw [HL.out]; exact HC4.out) HGd.out)
        rw [HPA.out, HL.out] at HPC
        refine HPC.out.mono ?_
        clear HPC
        rintro e w4 ⟨rfl, hB⟩
        have HG5 := Aside0.mk (HG4.out.below hB)
        have HF5 := Aside0.mk (show FaultAt g .long 1001 b w4 from blk_below HF4.out hB)
        have HB5 := Aside0.mk (below_seq HB4.out hB)
        clear hB HF4 HG4
        go_wp2_with fail
        have HPC := Aside0.mk (fault_any g .long 1001 b w4 HG5.out HF5.out)
        refine HPC.out.mono ?_
        clear HPC
        rintro e w5 hq
        have hq2 : e = .returned (.tuple #[.int .i64 1001, .int .i64 1]) ∧ Below w4.heap.size w4 w5 := hq
        clear hq
        obtain ⟨rfl, hB⟩ := hq2
        have HB6 := Aside0.mk (below_seq HB5.out hB)
        clear hB
        go_wp2_with fail
        go_ret
        exact ⟨rfl, HB6.out⟩
theorem many_law (g : Er → Addr) (n : Int) (x : S54) (A6 A9 : Option Addr) (c6 c9 : Nat) (w : World) (hg : Glob g w) (hn : I64 n) (hx : EvIn x A6 A9 c6 c9 w) (h6 : x.f5.f1.length ≤ 1200000) (h9 : x.f6.length ≤ 1200000) :
    Calls Tryd.prog 9 #[.int .i64 n, evArg x A6 A9 c6 c9] w fun e w' => e = .returned (.bool true) ∧ Below w.heap.size w w' := by
  cases ho : lineP x with
  | none => exact many_none g n x A6 A9 c6 c9 w hg hn hx h6 h9 ho
  | some t =>
    by_cases h : n < 0 ∨ 1100 < n ∨ 60 < t.size
    · exact many_big g n x A6 A9 c6 c9 w hg hn hx h6 h9 t ho h
    · obtain ⟨N, rfl⟩ : ∃ N : Nat, n = (N : Int) := ⟨n.toNat, by omega⟩
      by_cases h2 : N ≤ 1000
      · exact many_few g _ x A6 A9 c6 c9 w hg hn hx h6 h9 t ho N rfl (by omega) (by omega) h2
      · exact many_more g _ x A6 A9 c6 c9 w hg hn hx h6 h9 t ho N rfl (by omega) (by omega) (by omega)
end Go.Proofs.YtjpkphmihkbfeaaDoor.S34
