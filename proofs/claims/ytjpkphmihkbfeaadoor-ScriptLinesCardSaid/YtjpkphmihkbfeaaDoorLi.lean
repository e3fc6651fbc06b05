/- ScriptLines walked. -/
import Derived.Test.YtjpkphmihkbfeaaDoorOa
import Derived.Test.YtjpkphmihkbfeaaDoorOb
import Derived.Test.YtjpkphmihkbfeaaDoorOc
import Derived.Test.YtjpkphmihkbfeaaDoorOd
import Derived.Test.YtjpkphmihkbfeaaDoorOe
import Derived.Test.YtjpkphmihkbfeaaDoorOf
import Derived.Test.YtjpkphmihkbfeaaDoorOg
import Derived.Test.YtjpkphmihkbfeaaDoorOh
import Derived.Test.YtjpkphmihkbfeaaDoorPl
import Derived.Test.YtjpkphmihkbfeaaDoorZe
namespace Go.Proofs.YtjpkphmihkbfeaaDoor.S34
open Go.RowKit Go.Proofs.YtjpkphmihkbfeaaDoorW.PrintWords Go.Proofs.YtjpkphmihkbfeaaDoorW.PrintLast Go.Proofs.YtjpkphmihkbfeaaDoorW.PrintMore Go.Proofs.YtjpkphmihkbfeaaDoor.Q
set_option maxRecDepth 100000
set_option linter.unusedSimpArgs false
set_option linter.unusedVariables false
theorem lineP_ref (x : S54) (hb6 : Bytes x.f6) (hb5 : Bytes x.f5.f1) : lineP x = refPrint x := by
  unfold lineP refPrint
  by_cases h : refOk x = true ∧ x = refRest x
  · have hg := good_line hb6 hb5 h.1 h.2
    rw [if_pos h, hg.1, if_neg (by omega), if_neg (by omega)]
    simp
  · rw [if_neg h]
    split
    · rfl
    · split
      · rfl
      · cases hp : parseP (wordsP x) with
        | error => rfl
        | ok y =>
          dsimp only
          by_cases hy : y = x
          · subst hy
            exact absurd (parse_good hp) h
          · rw [if_neg hy]

theorem rprint_any (x : S54) (A6 A9 : Option Addr) (c6 c9 : Nat) (w : World) (hx : EvIn x A6 A9 c6 c9 w) (hn6 : x.f5.f1.length ≤ 1100) (hn9 : x.f6.length ≤ 1100) :
    Calls Tryd.prog 23 #[evArg x A6 A9 c6 c9] w (PrRes (lineP x) w) := by
  rw [lineP_ref x hx.b9 hx.b6]
  by_cases k1 : x.f0 = 1
  · exact print_join x A6 A9 c6 c9 w hx hn6 hn9 k1
  by_cases k2 : x.f0 = 2
  · exact print_leave x A6 A9 c6 c9 w hx hn6 hn9 k2
  by_cases k3 : x.f0 = 3
  · exact print_role x A6 A9 c6 c9 w hx hn6 hn9 k3
  by_cases k4 : x.f0 = 4
  · exact print_out x A6 A9 c6 c9 w hx hn6 hn9 k4
  by_cases k5 : x.f0 = 5
  · exact print_do x A6 A9 c6 c9 w hx hn6 hn9 k5
  by_cases k6 : x.f0 = 6
  · exact print_tick x A6 A9 c6 c9 w hx hn6 hn9 k6
  by_cases k7 : x.f0 = 7
  · exact print_deliver x A6 A9 c6 c9 w hx hn6 hn9 k7
  by_cases k8 : x.f0 = 8
  · exact print_spoil x A6 A9 c6 c9 w hx hn6 hn9 k8
  by_cases k9 : x.f0 = 9
  · exact print_move x A6 A9 c6 c9 w hx hn6 hn9 k9
  by_cases k10 : x.f0 = 10
  · exact print_forge x A6 A9 c6 c9 w hx hn6 hn9 k10
  exact print_other x A6 A9 c6 c9 w hx hn6 hn9 ⟨k1, k2, k3, k4, k5, k6, k7, k8, k9, k10⟩
theorem add_plain' (b i k : Nat) : (⟨b, i, none⟩ : Addr).add k = ⟨b, i + k, none⟩ := by
  simp [Addr.add]
theorem two_row {x : S54} {A6 A9 : Option Addr} {c6 c9 : Nat} {W : World} (hx : EvIn x A6 A9 c6 c9 W) :
    Kd.C k54 (W.alloc (.cells #[.int .i64 x.f0, .int .i64 x.f1, .int .i64 x.f2, .int .i64 x.f3, .int .i64 x.f4, .int .i64 x.f5.f0, .slice A6 x.f5.f1.length c6, .int .i64 x.f5.f2, .int .i64 x.f5.f3, .slice A9 x.f6.length c9, .int .i64 x.f0, .int .i64 x.f1, .int .i64 x.f2, .int .i64 x.f3, .int .i64 x.f4, .int .i64 x.f5.f0, .slice A6 x.f5.f1.length c6, .int .i64 x.f5.f2, .int .i64 x.f5.f3, .slice A9 x.f6.length c9] 54)) (some ⟨W.heap.size, 0, none⟩) [x, x].length [x, x] := by
  have hin := hx.below (below_alloc (Below.refl W.heap.size W) (.cells #[.int .i64 x.f0, .int .i64 x.f1, .int .i64 x.f2, .int .i64 x.f3, .int .i64 x.f4, .int .i64 x.f5.f0, .slice A6 x.f5.f1.length c6, .int .i64 x.f5.f2, .int .i64 x.f5.f3, .slice A9 x.f6.length c9, .int .i64 x.f0, .int .i64 x.f1, .int .i64 x.f2, .int .i64 x.f3, .int .i64 x.f4, .int .i64 x.f5.f0, .slice A6 x.f5.f1.length c6, .int .i64 x.f5.f2, .int .i64 x.f5.f3, .slice A9 x.f6.length c9] 54))
  have hh : (W.alloc (.cells #[.int .i64 x.f0, .int .i64 x.f1, .int .i64 x.f2, .int .i64 x.f3, .int .i64 x.f4, .int .i64 x.f5.f0, .slice A6 x.f5.f1.length c6, .int .i64 x.f5.f2, .int .i64 x.f5.f3, .slice A9 x.f6.length c9, .int .i64 x.f0, .int .i64 x.f1, .int .i64 x.f2, .int .i64 x.f3, .int .i64 x.f4, .int .i64 x.f5.f0, .slice A6 x.f5.f1.length c6, .int .i64 x.f5.f2, .int .i64 x.f5.f3, .slice A9 x.f6.length c9] 54)).heap[W.heap.size]? = some (.cells #[.int .i64 x.f0, .int .i64 x.f1, .int .i64 x.f2, .int .i64 x.f3, .int .i64 x.f4, .int .i64 x.f5.f0, .slice A6 x.f5.f1.length c6, .int .i64 x.f5.f2, .int .i64 x.f5.f3, .slice A9 x.f6.length c9, .int .i64 x.f0, .int .i64 x.f1, .int .i64 x.f2, .int .i64 x.f3, .int .i64 x.f4, .int .i64 x.f5.f0, .slice A6 x.f5.f1.length c6, .int .i64 x.f5.f2, .int .i64 x.f5.f3, .slice A9 x.f6.length c9] 54 (0, 0)) := blk_new _ _
  generalize W.alloc (.cells #[.int .i64 x.f0, .int .i64 x.f1, .int .i64 x.f2, .int .i64 x.f3, .int .i64 x.f4, .int .i64 x.f5.f0, .slice A6 x.f5.f1.length c6, .int .i64 x.f5.f2, .int .i64 x.f5.f3, .slice A9 x.f6.length c9, .int .i64 x.f0, .int .i64 x.f1, .int .i64 x.f2, .int .i64 x.f3, .int .i64 x.f4, .int .i64 x.f5.f0, .slice A6 x.f5.f1.length c6, .int .i64 x.f5.f2, .int .i64 x.f5.f3, .slice A9 x.f6.length c9] 54) = W1 at hin hh ⊢
  have hK := k54_mk W1 x hin.h6 hin.q6 hin.h9 hin.q9
  have hcell : ∀ k, W1.cell? ⟨W.heap.size, k, none⟩ = (([.int .i64 x.f0, .int .i64 x.f1, .int .i64 x.f2, .int .i64 x.f3, .int .i64 x.f4, .int .i64 x.f5.f0, .slice A6 x.f5.f1.length c6, .int .i64 x.f5.f2, .int .i64 x.f5.f3, .slice A9 x.f6.length c9] : List Value) ++ [.int .i64 x.f0, .int .i64 x.f1, .int .i64 x.f2, .int .i64 x.f3, .int .i64 x.f4, .int .i64 x.f5.f0, .slice A6 x.f5.f1.length c6, .int .i64 x.f5.f2, .int .i64 x.f5.f3, .slice A9 x.f6.length c9])[k]? := by
    intro k
    rw [blk_cell hh]
    simp
  refine ⟨rfl, by simp, fun _ => ⟨_, rfl, fun j p hj => ?_⟩⟩
  have hsz : k54.sz = 10 := rfl
  rcases j with _ | _ | j
  · obtain rfl : x = p := by simpa using hj
    refine ⟨_, rfl, hK, fun i u hu => ?_⟩
    have hi : i < 10 := (List.getElem?_eq_some_iff.1 hu).1
    rw [hsz]
    rw [add_plain', show 0 + (0 * 10 + i) = i by omega, hcell, List.getElem?_append_left hi]
    exact hu
  · obtain rfl : x = p := by simpa using hj
    refine ⟨_, rfl, hK, fun i u hu => ?_⟩
    rw [hsz]
    rw [add_plain', show 0 + ((0 + 1) * 10 + i) = 10 + i by omega, hcell, List.getElem?_append_right (by simp)]
    rw [show 10 + i - ([.int .i64 x.f0, .int .i64 x.f1, .int .i64 x.f2, .int .i64 x.f3, .int .i64 x.f4, .int .i64 x.f5.f0, .slice A6 x.f5.f1.length c6, .int .i64 x.f5.f2, .int .i64 x.f5.f3, .slice A9 x.f6.length c9] : List Value).length = i by simp]
    exact hu
  · exact absurd hj (by simp)
theorem printAll_two_none {x : S54} (h : lineP x = none) : printAll [x, x] = (⟨#[]⟩, 0) := by
  unfold printAll
  rw [printFrom, h]
theorem printAll_two {x : S54} {t : ByteArray} (h : lineP x = some t) : printAll [x, x] = (t ++ ⟨#[10]⟩ ++ t ++ ⟨#[10]⟩, 2) := by
  unfold printAll
  rw [printFrom, h]
  dsimp only
  rw [if_neg (by omega), printFrom, h]
  dsimp only
  rw [if_neg (by omega), printFrom]
  have e : (⟨#[]⟩ : ByteArray) ++ t = t := by
    apply ba_eq
    simp
  rw [e]
set_option maxHeartbeats 8000000 in
theorem lines_big9 (g : Er → Addr) (x : S54) (A6 A9 : Option Addr) (c6 c9 : Nat) (w : World) (hg : Glob g w) (hx : EvIn x A6 A9 c6 c9 w) (h : 1100 < x.f6.length) :
    Calls Tryd.prog 8 #[evArg x A6 A9 c6 c9] w fun e w' => e = .returned (.bool true) ∧ Below w.heap.size w w' := by
  have d9 : decide ((1100 : Int) < (x.f6.length : Int)) = true := decide_eq_true (by omega)
  have l6 : x.f5.f1.length ≤ 9223372036854775807 := Kd.C_max hx.q6
  have l9 : x.f6.length ≤ 9223372036854775807 := Kd.C_max hx.q9
  obtain ⟨w0, hw0⟩ : ∃ w0, w0 = w.alloc (.cells #[.int .i64 x.f0, .int .i64 x.f1, .int .i64 x.f2, .int .i64 x.f3, .int .i64 x.f4, .int .i64 x.f5.f0, .slice A6 x.f5.f1.length c6, .int .i64 x.f5.f2, .int .i64 x.f5.f3, .slice A9 x.f6.length c9] 54) := ⟨_, rfl⟩
  have hb0 : Below w.heap.size w w0 := by rw [hw0]; exact below_alloc (Below.refl _ _) _
  have hblk0 : EvBlk w.heap.size x A6 A9 c6 c9 w0 := by rw [hw0]; exact blk_new _ _
  have HG := Aside0.mk (hg.below hb0)
  have HX := Aside0.mk (hx.below hb0)
  have HB := Aside0.mk hb0
  have HBLK := Aside0.mk hblk0
  have HW0 := Aside0.mk hw0
  clear hg hx hb0 hblk0 hw0
  go_enter Tryd.func8, Tryd.ntmps8
  go_upto_region 1 with (fail)
  rw [← HW0.out]
  go_wp2_with fail
  refine (known_any g w0 HG.out).mono ?_
  rintro e w1 ⟨rfl, hB⟩
  have HG1 := Aside0.mk (HG.out.below hB)
  have HX1 := Aside0.mk (HX.out.below hB)
  have HB1 := Aside0.mk (below_seq HB.out hB)
  have HBLK1 := Aside0.mk (blk_below HBLK.out hB)
  clear hB HG HX HB HBLK
  obtain ⟨c0, c1, c2, c3, c4, c5, c6_, c7, c8, c9_⟩ := evCells HBLK1.out (Below.refl _ _)
  clear h
  go_wp2
  go_ret
  exact ⟨rfl, HB1.out⟩
set_option maxHeartbeats 8000000 in
theorem lines_big6 (g : Er → Addr) (x : S54) (A6 A9 : Option Addr) (c6 c9 : Nat) (w : World) (hg : Glob g w) (hx : EvIn x A6 A9 c6 c9 w) (h9 : x.f6.length ≤ 1100) (h : 1100 < x.f5.f1.length) :
    Calls Tryd.prog 8 #[evArg x A6 A9 c6 c9] w fun e w' => e = .returned (.bool true) ∧ Below w.heap.size w w' := by
  have d9 : decide ((1100 : Int) < (x.f6.length : Int)) = false := decide_eq_false (by omega)
  have d6 : decide ((1100 : Int) < (x.f5.f1.length : Int)) = true := decide_eq_true (by omega)
  have l6 : x.f5.f1.length ≤ 9223372036854775807 := Kd.C_max hx.q6
  have l9 : x.f6.length ≤ 9223372036854775807 := Kd.C_max hx.q9
  obtain ⟨w0, hw0⟩ : ∃ w0, w0 = w.alloc (.cells #[.int .i64 x.f0, .int .i64 x.f1, .int .i64 x.f2, .int .i64 x.f3, .int .i64 x.f4, .int .i64 x.f5.f0, .slice A6 x.f5.f1.length c6, .int .i64 x.f5.f2, .int .i64 x.f5.f3, .slice A9 x.f6.length c9] 54) := ⟨_, rfl⟩
  have hb0 : Below w.heap.size w w0 := by rw [hw0]; exact below_alloc (Below.refl _ _) _
  have hblk0 : EvBlk w.heap.size x A6 A9 c6 c9 w0 := by rw [hw0]; exact blk_new _ _
  have HG := Aside0.mk (hg.below hb0)
  have HX := Aside0.mk (hx.below hb0)
  have HB := Aside0.mk hb0
  have HBLK := Aside0.mk hblk0
  have HW0 := Aside0.mk hw0
  clear hg hx hb0 hblk0 hw0
  go_enter Tryd.func8, Tryd.ntmps8
  go_upto_region 1 with (fail)
  rw [← HW0.out]
  go_wp2_with fail
  refine (known_any g w0 HG.out).mono ?_
  rintro e w1 ⟨rfl, hB⟩
  have HG1 := Aside0.mk (HG.out.below hB)
  have HX1 := Aside0.mk (HX.out.below hB)
  have HB1 := Aside0.mk (below_seq HB.out hB)
  have HBLK1 := Aside0.mk (blk_below HBLK.out hB)
  clear hB HG HX HB HBLK
  obtain ⟨c0, c1, c2, c3, c4, c5, c6_, c7, c8, c9_⟩ := evCells HBLK1.out (Below.refl _ _)
  clear h h9
  go_wp2
  go_ret
  exact ⟨rfl, HB1.out⟩
set_option maxHeartbeats 8000000 in
theorem lines_none (g : Er → Addr) (x : S54) (A6 A9 : Option Addr) (c6 c9 : Nat) (w : World) (hg : Glob g w) (hx : EvIn x A6 A9 c6 c9 w) (h9 : x.f6.length ≤ 1100) (h6 : x.f5.f1.length ≤ 1100) (ho : lineP x = none) :
    Calls Tryd.prog 8 #[evArg x A6 A9 c6 c9] w fun e w' => e = .returned (.bool true) ∧ Below w.heap.size w w' := by
  have d9 : decide ((1100 : Int) < (x.f6.length : Int)) = false := decide_eq_false (by omega)
  have d6 : decide ((1100 : Int) < (x.f5.f1.length : Int)) = false := decide_eq_false (by omega)
  have HPA := Aside0.mk (printAll_two_none ho)
  have HO := Aside0.mk ho
  have HN := Aside0.mk (And.intro h6 h9)
  clear ho h6 h9
  have l6 : x.f5.f1.length ≤ 9223372036854775807 := Kd.C_max hx.q6
  have l9 : x.f6.length ≤ 9223372036854775807 := Kd.C_max hx.q9
  obtain ⟨w0, hw0⟩ : ∃ w0, w0 = w.alloc (.cells #[.int .i64 x.f0, .int .i64 x.f1, .int .i64 x.f2, .int .i64 x.f3, .int .i64 x.f4, .int .i64 x.f5.f0, .slice A6 x.f5.f1.length c6, .int .i64 x.f5.f2, .int .i64 x.f5.f3, .slice A9 x.f6.length c9] 54) := ⟨_, rfl⟩
  have hb0 : Below w.heap.size w w0 := by rw [hw0]; exact below_alloc (Below.refl _ _) _
  have hblk0 : EvBlk w.heap.size x A6 A9 c6 c9 w0 := by rw [hw0]; exact blk_new _ _
  have HG := Aside0.mk (hg.below hb0)
  have HX := Aside0.mk (hx.below hb0)
  have HB := Aside0.mk hb0
  have HBLK := Aside0.mk hblk0
  have HW0 := Aside0.mk hw0
  clear hg hx hb0 hblk0 hw0
  go_enter Tryd.func8, Tryd.ntmps8
  go_upto_region 1 with (fail)
  rw [← HW0.out]
  go_wp2_with fail
  refine (known_any g w0 HG.out).mono ?_
  rintro e w1 ⟨rfl, hB⟩
  have HG1 := Aside0.mk (HG.out.below hB)
  have HX1 := Aside0.mk (HX.out.below hB)
  have HB1 := Aside0.mk (below_seq HB.out hB)
  have HBLK1 := Aside0.mk (blk_below HBLK.out hB)
  clear hB HG HX HB HBLK
  obtain ⟨c0, c1, c2, c3, c4, c5, c6_, c7, c8, c9_⟩ := evCells HBLK1.out (Below.refl _ _)
  go_wp2_with fail
  have HPC := Aside0.mk (line_any g x A6 A9 c6 c9 w1 HG1.out HX1.out)
  rw [HO.out] at HPC
  refine HPC.out.mono ?_
  clear HPC
  rintro e w2 hq
  have hq2 : e = .returned (.tuple #[.string ⟨#[]⟩, .bool false]) ∧ Below w1.heap.size w1 w2 := hq
  clear hq
  obtain ⟨rfl, hB⟩ := hq2
  clear c0 c1 c2 c3 c4 c5 c6_ c7 c8 c9_
  have HG2 := Aside0.mk (HG1.out.below hB)
  have HX2 := Aside0.mk (HX1.out.below hB)
  have HB2 := Aside0.mk (below_seq HB1.out hB)
  have HBLK2 := Aside0.mk (blk_below HBLK1.out hB)
  clear hB HG1 HX1 HB1 HBLK1
  obtain ⟨c0, c1, c2, c3, c4, c5, c6_, c7, c8, c9_⟩ := evCells HBLK2.out (Below.refl _ _)
  go_wp2_with fail
  have HPC := Aside0.mk (rprint_any x A6 A9 c6 c9 w2 HX2.out HN.out.1 HN.out.2)
  rw [HO.out] at HPC
  refine HPC.out.mono ?_
  clear HPC
  rintro e w3 hq
  have hq2 : e = .returned (.tuple #[.string ⟨#[]⟩, .bool false]) ∧ Below w2.heap.size w2 w3 := hq
  clear hq
  obtain ⟨rfl, hB⟩ := hq2
  clear c0 c1 c2 c3 c4 c5 c6_ c7 c8 c9_
  have HG3 := Aside0.mk (HG2.out.below hB)
  have HX3 := Aside0.mk (HX2.out.below hB)
  have HB3 := Aside0.mk (below_seq HB2.out hB)
  have HBLK3 := Aside0.mk (blk_below HBLK2.out hB)
  clear hB HG2 HX2 HB2 HBLK2
  obtain ⟨c0, c1, c2, c3, c4, c5, c6_, c7, c8, c9_⟩ := evCells HBLK3.out (Below.refl _ _)
  go_wp2_with fail
  obtain ⟨w4, hw4⟩ : ∃ w4, w4 = w3.alloc (.cells #[.int .i64 x.f0, .int .i64 x.f1, .int .i64 x.f2, .int .i64 x.f3, .int .i64 x.f4, .int .i64 x.f5.f0, .slice A6 x.f5.f1.length c6, .int .i64 x.f5.f2, .int .i64 x.f5.f3, .slice A9 x.f6.length c9, .int .i64 x.f0, .int .i64 x.f1, .int .i64 x.f2, .int .i64 x.f3, .int .i64 x.f4, .int .i64 x.f5.f0, .slice A6 x.f5.f1.length c6, .int .i64 x.f5.f2, .int .i64 x.f5.f3, .slice A9 x.f6.length c9] 54) := ⟨_, rfl⟩
  rw [← hw4]
  have hB : Below w3.heap.size w3 w4 := by rw [hw4]; exact below_alloc (Below.refl _ _) _
  have HC := Aside0.mk (show Kd.C k54 w4 (some ⟨w3.heap.size, 0, none⟩) [x, x].length [x, x] by rw [hw4]; exact two_row HX3.out)
  clear hw4
  clear c0 c1 c2 c3 c4 c5 c6_ c7 c8 c9_
  have HG4 := Aside0.mk (HG3.out.below hB)
  have HX4 := Aside0.mk (HX3.out.below hB)
  have HB4 := Aside0.mk (below_seq HB3.out hB)
  have HBLK4 := Aside0.mk (blk_below HBLK3.out hB)
  clear hB HG3 HX3 HB3 HBLK3
  obtain ⟨c0, c1, c2, c3, c4, c5, c6_, c7, c8, c9_⟩ := evCells HBLK4.out (Below.refl _ _)
  clear c0 c1 c2 c3 c4 c5 c6_ c7 c8 c9_
  have HPC := Aside0.mk (print_any g [x, x] (some ⟨w3.heap.size, 0, none⟩) 2 w4 HG4.out HC.out (by intro y hy; simp at hy; subst hy; exact HX4.out.good))
  rw [HPA.out] at HPC
  refine HPC.out.mono ?_
  clear HPC
  rintro e w5 hq
  have hq2 : e = .returned (.tuple #[.string ⟨#[]⟩, .int .i64 0]) ∧ Below w4.heap.size w4 w5 := hq
  clear hq
  obtain ⟨rfl, hB⟩ := hq2
  have HB5 := Aside0.mk (below_seq HB4.out hB)
  clear hB
  go_wp2_with fail
  go_ret
  exact ⟨rfl, HB5.out⟩
set_option maxHeartbeats 8000000 in
theorem lines_some (g : Er → Addr) (x : S54) (A6 A9 : Option Addr) (c6 c9 : Nat) (w : World) (hg : Glob g w) (hx : EvIn x A6 A9 c6 c9 w) (h9 : x.f6.length ≤ 1100) (h6 : x.f5.f1.length ≤ 1100) (t : ByteArray) (ho : lineP x = some t) :
    Calls Tryd.prog 8 #[evArg x A6 A9 c6 c9] w fun e w' => e = .returned (.bool true) ∧ Below w.heap.size w w' := by
  have d9 : decide ((1100 : Int) < (x.f6.length : Int)) = false := decide_eq_false (by omega)
  have d6 : decide ((1100 : Int) < (x.f5.f1.length : Int)) = false := decide_eq_false (by omega)
  have st : t.size ≤ 3100 := line_size ho hx.good
  have HPA := Aside0.mk (printAll_two ho)
  have HO := Aside0.mk ho
  have HN := Aside0.mk (And.intro h6 h9)
  clear ho h6 h9
  have l6 : x.f5.f1.length ≤ 9223372036854775807 := Kd.C_max hx.q6
  have l9 : x.f6.length ≤ 9223372036854775807 := Kd.C_max hx.q9
  obtain ⟨w0, hw0⟩ : ∃ w0, w0 = w.alloc (.cells #[.int .i64 x.f0, .int .i64 x.f1, .int .i64 x.f2, .int .i64 x.f3, .int .i64 x.f4, .int .i64 x.f5.f0, .slice A6 x.f5.f1.length c6, .int .i64 x.f5.f2, .int .i64 x.f5.f3, .slice A9 x.f6.length c9] 54) := ⟨_, rfl⟩
  have hb0 : Below w.heap.size w w0 := by rw [hw0]; exact below_alloc (Below.refl _ _) _
  have hblk0 : EvBlk w.heap.size x A6 A9 c6 c9 w0 := by rw [hw0]; exact blk_new _ _
  have HG := Aside0.mk (hg.below hb0)
  have HX := Aside0.mk (hx.below hb0)
  have HB := Aside0.mk hb0
  have HBLK := Aside0.mk hblk0
  have HW0 := Aside0.mk hw0
  clear hg hx hb0 hblk0 hw0
  go_enter Tryd.func8, Tryd.ntmps8
  go_upto_region 1 with (fail)
  rw [← HW0.out]
  go_wp2_with fail
  refine (known_any g w0 HG.out).mono ?_
  rintro e w1 ⟨rfl, hB⟩
  have HG1 := Aside0.mk (HG.out.below hB)
  have HX1 := Aside0.mk (HX.out.below hB)
  have HB1 := Aside0.mk (below_seq HB.out hB)
  have HBLK1 := Aside0.mk (blk_below HBLK.out hB)
  clear hB HG HX HB HBLK
  obtain ⟨c0, c1, c2, c3, c4, c5, c6_, c7, c8, c9_⟩ := evCells HBLK1.out (Below.refl _ _)
  go_wp2_with fail
  have HPC := Aside0.mk (line_any g x A6 A9 c6 c9 w1 HG1.out HX1.out)
  rw [HO.out] at HPC
  refine HPC.out.mono ?_
  clear HPC
  rintro e w2 hq
  have hq2 : e = .returned (.tuple #[.string t, .bool true]) ∧ Below w1.heap.size w1 w2 := hq
  clear hq
  obtain ⟨rfl, hB⟩ := hq2
  clear c0 c1 c2 c3 c4 c5 c6_ c7 c8 c9_
  have HG2 := Aside0.mk (HG1.out.below hB)
  have HX2 := Aside0.mk (HX1.out.below hB)
  have HB2 := Aside0.mk (below_seq HB1.out hB)
  have HBLK2 := Aside0.mk (blk_below HBLK1.out hB)
  clear hB HG1 HX1 HB1 HBLK1
  obtain ⟨c0, c1, c2, c3, c4, c5, c6_, c7, c8, c9_⟩ := evCells HBLK2.out (Below.refl _ _)
  go_wp2_with fail
  have HPC := Aside0.mk (rprint_any x A6 A9 c6 c9 w2 HX2.out HN.out.1 HN.out.2)
  rw [HO.out] at HPC
  refine HPC.out.mono ?_
  clear HPC
  rintro e w3 hq
  have hq2 : e = .returned (.tuple #[.string t, .bool true]) ∧ Below w2.heap.size w2 w3 := hq
  clear hq
  obtain ⟨rfl, hB⟩ := hq2
  clear c0 c1 c2 c3 c4 c5 c6_ c7 c8 c9_
  have HG3 := Aside0.mk (HG2.out.below hB)
  have HX3 := Aside0.mk (HX2.out.below hB)
  have HB3 := Aside0.mk (below_seq HB2.out hB)
  have HBLK3 := Aside0.mk (blk_below HBLK2.out hB)
  clear hB HG2 HX2 HB2 HBLK2
  obtain ⟨c0, c1, c2, c3, c4, c5, c6_, c7, c8, c9_⟩ := evCells HBLK3.out (Below.refl _ _)
  go_wp2_with fail
  obtain ⟨w4, hw4⟩ : ∃ w4, w4 = w3.alloc (.cells #[.int .i64 x.f0, .int .i64 x.f1, .int .i64 x.f2, .int .i64 x.f3, .int .i64 x.f4, .int .i64 x.f5.f0, .slice A6 x.f5.f1.length c6, .int .i64 x.f5.f2, .int .i64 x.f5.f3, .slice A9 x.f6.length c9, .int .i64 x.f0, .int .i64 x.f1, .int .i64 x.f2, .int .i64 x.f3, .int .i64 x.f4, .int .i64 x.f5.f0, .slice A6 x.f5.f1.length c6, .int .i64 x.f5.f2, .int .i64 x.f5.f3, .slice A9 x.f6.length c9] 54) := ⟨_, rfl⟩
  rw [← hw4]
  have hB : Below w3.heap.size w3 w4 := by rw [hw4]; exact below_alloc (Below.refl _ _) _
  have HC := Aside0.mk (show Kd.C k54 w4 (some ⟨w3.heap.size, 0, none⟩) [x, x].length [x, x] by rw [hw4]; exact two_row HX3.out)
  clear hw4
  clear c0 c1 c2 c3 c4 c5 c6_ c7 c8 c9_
  have HG4 := Aside0.mk (HG3.out.below hB)
  have HX4 := Aside0.mk (HX3.out.below hB)
  have HB4 := Aside0.mk (below_seq HB3.out hB)
  have HBLK4 := Aside0.mk (blk_below HBLK3.out hB)
  clear hB HG3 HX3 HB3 HBLK3
  obtain ⟨c0, c1, c2, c3, c4, c5, c6_, c7, c8, c9_⟩ := evCells HBLK4.out (Below.refl _ _)
  clear c0 c1 c2 c3 c4 c5 c6_ c7 c8 c9_
  have HPC := Aside0.mk (print_any g [x, x] (some ⟨w3.heap.size, 0, none⟩) 2 w4 HG4.out HC.out (by intro y hy; simp at hy; subst hy; exact HX4.out.good))
  rw [HPA.out] at HPC
  refine HPC.out.mono ?_
  clear HPC
  rintro e w5 hq
  have hq2 : e = .returned (.tuple #[.string (t ++ ⟨#[10]⟩ ++ t ++ ⟨#[10]⟩), .int .i64 2]) ∧ Below w4.heap.size w4 w5 := hq
  clear hq
  obtain ⟨rfl, hB⟩ := hq2
  have HB5 := Aside0.mk (below_seq HB4.out hB)
  clear hB
  go_wp2_with fail
  go_ret
  exact ⟨rfl, HB5.out⟩
theorem lines_law (g : Er → Addr) (x : S54) (A6 A9 : Option Addr) (c6 c9 : Nat) (w : World) (hg : Glob g w) (hx : EvIn x A6 A9 c6 c9 w) :
    Calls Tryd.prog 8 #[evArg x A6 A9 c6 c9] w fun e w' => e = .returned (.bool true) ∧ Below w.heap.size w w' := by
  by_cases h9 : 1100 < x.f6.length
  · exact lines_big9 g x A6 A9 c6 c9 w hg hx h9
  by_cases h6 : 1100 < x.f5.f1.length
  · exact lines_big6 g x A6 A9 c6 c9 w hg hx (by omega) h6
  cases ho : lineP x with
  | none => exact lines_none g x A6 A9 c6 c9 w hg hx (by omega) (by omega) ho
  | some t => exact lines_some g x A6 A9 c6 c9 w hg hx (by omega) (by omega) t ho
end Go.Proofs.YtjpkphmihkbfeaaDoor.S34
