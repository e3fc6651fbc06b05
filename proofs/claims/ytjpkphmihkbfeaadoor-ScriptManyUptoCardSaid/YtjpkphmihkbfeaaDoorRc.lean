/- orielref34.deed by a contract. -/
import Derived.Test.YtjpkphmihkbfeaaDoorRg
namespace Go.Proofs.YtjpkphmihkbfeaaDoor.S34
open Go.RowKit Go.Proofs.YtjpkphmihkbfeaaDoorW.PrintWords Go.Proofs.YtjpkphmihkbfeaaDoorW.PrintLast Go.Proofs.YtjpkphmihkbfeaaDoorW.PrintMore Go.Proofs.YtjpkphmihkbfeaaDoor.Q
set_option maxRecDepth 100000
set_option linter.unusedSimpArgs false
set_option linter.unusedVariables false
theorem ev_digits (v : Int) {n : Nat} {x : S54} {A6 A9 : Option Addr} {c6 c9 : Nat} {w0 : World} (h0 : 0 ≤ v) (h1 : v ≤ 9223372036854775807) (hb : EvBlk n x A6 A9 c6 c9 w0) :
    ∀ W, Below w0.heap.size w0 W → Calls Tryd.prog 19 #[.int .i64 v] W (EvStr (numB v) w0 n x A6 A9 c6 c9) :=
  fun W h => (digits_any v W h0 h1).mono fun _ _ hh => ⟨hh.1, below_seq h hh.2, evCells hb (below_seq h hh.2)⟩
theorem ev_rquote (l : List Int) (A : Option Addr) (c : Nat) {n : Nat} {x : S54} {A6 A9 : Option Addr} {c6 c9 : Nat} {w0 : World} (hr : Kd.C (Kd.int .u8) w0 A l.length l) (hc : l.length ≤ c) (hy : Bytes l) (hl : l.length ≤ 1200000)
    (hb : EvBlk n x A6 A9 c6 c9 w0) : ∀ W, Below w0.heap.size w0 W → Calls Tryd.prog 37 #[.slice A l.length c] W (EvStr (quoteB l) w0 n x A6 A9 c6 c9) :=
  fun W h => (refquoted_any l A c W (Kd.C_below hr h) hc hy (by omega)).mono fun _ _ hh => ⟨hh.1, below_seq h hh.2, evCells hb (below_seq h hh.2)⟩
theorem num_le {n : Int} (h0 : 0 ≤ n) (h1 : n ≤ 9223372036854775807) : (numB n).size ≤ 21 := numB_le ⟨by omega, h1⟩
set_option maxHeartbeats 8000000 in
theorem rdeed_ask (x : S54) (A6 A9 : Option Addr) (c6 c9 : Nat) (w : World) (hx : EvIn x A6 A9 c6 c9 w) (hn6 : x.f5.f1.length ≤ 1200000) (h1 : 1 ≤ x.f1) (h8 : x.f1 ≤ 8) (hd : x.f5.f0 = 3) (hl : 0 ≤ x.f5.f2 ∧ x.f5.f2 ≤ 1000 ∧ 0 ≤ x.f5.f3 ∧ x.f5.f3 ≤ 1000) :
    Calls Tryd.prog 39 #[evArg x A6 A9 c6 c9] w fun e w' => e = .returned (.string ((⟨#[97, 115, 107, 32]⟩ : ByteArray) ++ numB x.f1)) ∧ Below w.heap.size w w' := by
  have d1 : (x.f5.f0 == 1) = false := by rw [hd]; rfl
  have d2 : (x.f5.f0 == 2) = false := by rw [hd]; rfl
  have d3 : (x.f5.f0 == 3) = true := by rw [hd]; rfl
  have si1 := num_le (n := x.f1) (by omega) (by omega)
  have si2 := num_le (n := x.f5.f2) (by omega) (by omega)
  have si3 := num_le (n := x.f5.f3) (by omega) (by omega)
  have sq6 : (quoteB x.f5.f1).size ≤ 4000000 := by have := quoteB_size x.f5.f1; omega
  have HX := Aside0.mk hx
  have HN := Aside0.mk (And.intro hn6 (And.intro h1 (And.intro h8 hl)))
  clear hx hn6 hd h1 h8 hl
  go_enter Tryd.func39, Tryd.ntmps39
  go_upto_region 1 with (fail)
  have hblk : EvBlk w.heap.size x A6 A9 c6 c9 (w.alloc (.cells #[.int .i64 x.f0, .int .i64 x.f1, .int .i64 x.f2, .int .i64 x.f3, .int .i64 x.f4, .int .i64 x.f5.f0, .slice A6 x.f5.f1.length c6, .int .i64 x.f5.f2, .int .i64 x.f5.f3, .slice A9 x.f6.length c9] 54)) := blk_new _ _
  have hw0 : Below w.heap.size w (w.alloc (.cells #[.int .i64 x.f0, .int .i64 x.f1, .int .i64 x.f2, .int .i64 x.f3, .int .i64 x.f4, .int .i64 x.f5.f0, .slice A6 x.f5.f1.length c6, .int .i64 x.f5.f2, .int .i64 x.f5.f3, .slice A9 x.f6.length c9] 54)) := below_alloc (Below.refl _ _) _
  generalize hgw : w.alloc (.cells #[.int .i64 x.f0, .int .i64 x.f1, .int .i64 x.f2, .int .i64 x.f3, .int .i64 x.f4, .int .i64 x.f5.f0, .slice A6 x.f5.f1.length c6, .int .i64 x.f5.f2, .int .i64 x.f5.f3, .slice A9 x.f6.length c9] 54) = w0 at hblk hw0 ⊢
  clear hgw
  have hx0 := HX.out.below hw0
  have Hi1 := Aside0.mk (ev_digits x.f1 (by have := HN.out; omega) (by have := HN.out; omega) hblk)
  obtain ⟨c0, c1, c2, c3, c4, c5, c6_, c7, c8, c9_⟩ := evCells hblk (Below.refl _ _)
  have HW0 := Aside0.mk hw0
  have HBLK0 := Aside0.mk hblk
  have HX0 := Aside0.mk hx0
  clear hw0 hblk HX hx0
  go_wp2_with fail
  refine (Hi1.out _ (by (repeat (first | with_reducible exact Below.refl _ _ | with_reducible assumption | with_reducible apply pw_below_drewN | with_reducible apply below_drew)))).mono ?_
  rintro e w1 ⟨rfl, hB, c0, c1, c2, c3, c4, c5, c6_, c7, c8, c9_⟩
  have HBLK := Aside0.mk (blk_below HBLK0.out hB)
  have HX := Aside0.mk (HX0.out.below hB)
  have HB := Aside0.mk hB
  clear hB HBLK0 HX0 Hi1
  go_wp2_with fail
  go_ret
  refine ⟨?_, HW0.out.trans ((below_seq HB.out (Below.refl _ _)).mono HW0.out.size)⟩
  refine congrArg (fun b => Ending.returned (.string b)) ?_
  apply ba_eq
  simp
set_option maxHeartbeats 8000000 in
theorem rdeed_free (x : S54) (A6 A9 : Option Addr) (c6 c9 : Nat) (w : World) (hx : EvIn x A6 A9 c6 c9 w) (hn6 : x.f5.f1.length ≤ 1200000) (h1 : 1 ≤ x.f1) (h8 : x.f1 ≤ 8) (hd : x.f5.f0 = 4) (hl : 0 ≤ x.f5.f2 ∧ x.f5.f2 ≤ 1000 ∧ 0 ≤ x.f5.f3 ∧ x.f5.f3 ≤ 1000) :
    Calls Tryd.prog 39 #[evArg x A6 A9 c6 c9] w fun e w' => e = .returned (.string ((⟨#[102, 114, 101, 101, 32]⟩ : ByteArray) ++ numB x.f1)) ∧ Below w.heap.size w w' := by
  have d1 : (x.f5.f0 == 1) = false := by rw [hd]; rfl
  have d2 : (x.f5.f0 == 2) = false := by rw [hd]; rfl
  have d3 : (x.f5.f0 == 3) = false := by rw [hd]; rfl
  have si1 := num_le (n := x.f1) (by omega) (by omega)
  have si2 := num_le (n := x.f5.f2) (by omega) (by omega)
  have si3 := num_le (n := x.f5.f3) (by omega) (by omega)
  have sq6 : (quoteB x.f5.f1).size ≤ 4000000 := by have := quoteB_size x.f5.f1; omega
  have HX := Aside0.mk hx
  have HN := Aside0.mk (And.intro hn6 (And.intro h1 (And.intro h8 hl)))
  clear hx hn6 hd h1 h8 hl
  go_enter Tryd.func39, Tryd.ntmps39
  go_upto_region 1 with (fail)
  have hblk : EvBlk w.heap.size x A6 A9 c6 c9 (w.alloc (.cells #[.int .i64 x.f0, .int .i64 x.f1, .int .i64 x.f2, .int .i64 x.f3, .int .i64 x.f4, .int .i64 x.f5.f0, .slice A6 x.f5.f1.length c6, .int .i64 x.f5.f2, .int .i64 x.f5.f3, .slice A9 x.f6.length c9] 54)) := blk_new _ _
  have hw0 : Below w.heap.size w (w.alloc (.cells #[.int .i64 x.f0, .int .i64 x.f1, .int .i64 x.f2, .int .i64 x.f3, .int .i64 x.f4, .int .i64 x.f5.f0, .slice A6 x.f5.f1.length c6, .int .i64 x.f5.f2, .int .i64 x.f5.f3, .slice A9 x.f6.length c9] 54)) := below_alloc (Below.refl _ _) _
  generalize hgw : w.alloc (.cells #[.int .i64 x.f0, .int .i64 x.f1, .int .i64 x.f2, .int .i64 x.f3, .int .i64 x.f4, .int .i64 x.f5.f0, .slice A6 x.f5.f1.length c6, .int .i64 x.f5.f2, .int .i64 x.f5.f3, .slice A9 x.f6.length c9] 54) = w0 at hblk hw0 ⊢
  clear hgw
  have hx0 := HX.out.below hw0
  have Hi1 := Aside0.mk (ev_digits x.f1 (by have := HN.out; omega) (by have := HN.out; omega) hblk)
  obtain ⟨c0, c1, c2, c3, c4, c5, c6_, c7, c8, c9_⟩ := evCells hblk (Below.refl _ _)
  have HW0 := Aside0.mk hw0
  have HBLK0 := Aside0.mk hblk
  have HX0 := Aside0.mk hx0
  clear hw0 hblk HX hx0
  go_wp2_with fail
  refine (Hi1.out _ (by (repeat (first | with_reducible exact Below.refl _ _ | with_reducible assumption | with_reducible apply pw_below_drewN | with_reducible apply below_drew)))).mono ?_
  rintro e w1 ⟨rfl, hB, c0, c1, c2, c3, c4, c5, c6_, c7, c8, c9_⟩
  have HBLK := Aside0.mk (blk_below HBLK0.out hB)
  have HX := Aside0.mk (HX0.out.below hB)
  have HB := Aside0.mk hB
  clear hB HBLK0 HX0 Hi1
  go_wp2_with fail
  go_ret
  refine ⟨?_, HW0.out.trans ((below_seq HB.out (Below.refl _ _)).mono HW0.out.size)⟩
  refine congrArg (fun b => Ending.returned (.string b)) ?_
  apply ba_eq
  simp
set_option maxHeartbeats 8000000 in
theorem rdeed_keys (x : S54) (A6 A9 : Option Addr) (c6 c9 : Nat) (w : World) (hx : EvIn x A6 A9 c6 c9 w) (hn6 : x.f5.f1.length ≤ 1200000) (h1 : 1 ≤ x.f1) (h8 : x.f1 ≤ 8) (hd : x.f5.f0 = 1) (hl : 0 ≤ x.f5.f2 ∧ x.f5.f2 ≤ 1000 ∧ 0 ≤ x.f5.f3 ∧ x.f5.f3 ≤ 1000) :
    Calls Tryd.prog 39 #[evArg x A6 A9 c6 c9] w fun e w' => e = .returned (.string ((⟨#[107, 101, 121, 115, 32]⟩ : ByteArray) ++ numB x.f1 ++ ⟨#[32]⟩ ++ quoteB x.f5.f1)) ∧ Below w.heap.size w w' := by
  have d1 : (x.f5.f0 == 1) = true := by rw [hd]; rfl
  have si1 := num_le (n := x.f1) (by omega) (by omega)
  have si2 := num_le (n := x.f5.f2) (by omega) (by omega)
  have si3 := num_le (n := x.f5.f3) (by omega) (by omega)
  have sq6 : (quoteB x.f5.f1).size ≤ 4000000 := by have := quoteB_size x.f5.f1; omega
  have HX := Aside0.mk hx
  have HN := Aside0.mk (And.intro hn6 (And.intro h1 (And.intro h8 hl)))
  clear hx hn6 hd h1 h8 hl
  go_enter Tryd.func39, Tryd.ntmps39
  go_upto_region 1 with (fail)
  have hblk : EvBlk w.heap.size x A6 A9 c6 c9 (w.alloc (.cells #[.int .i64 x.f0, .int .i64 x.f1, .int .i64 x.f2, .int .i64 x.f3, .int .i64 x.f4, .int .i64 x.f5.f0, .slice A6 x.f5.f1.length c6, .int .i64 x.f5.f2, .int .i64 x.f5.f3, .slice A9 x.f6.length c9] 54)) := blk_new _ _
  have hw0 : Below w.heap.size w (w.alloc (.cells #[.int .i64 x.f0, .int .i64 x.f1, .int .i64 x.f2, .int .i64 x.f3, .int .i64 x.f4, .int .i64 x.f5.f0, .slice A6 x.f5.f1.length c6, .int .i64 x.f5.f2, .int .i64 x.f5.f3, .slice A9 x.f6.length c9] 54)) := below_alloc (Below.refl _ _) _
  generalize hgw : w.alloc (.cells #[.int .i64 x.f0, .int .i64 x.f1, .int .i64 x.f2, .int .i64 x.f3, .int .i64 x.f4, .int .i64 x.f5.f0, .slice A6 x.f5.f1.length c6, .int .i64 x.f5.f2, .int .i64 x.f5.f3, .slice A9 x.f6.length c9] 54) = w0 at hblk hw0 ⊢
  clear hgw
  have hx0 := HX.out.below hw0
  have Hi1 := Aside0.mk (ev_digits x.f1 (by have := HN.out; omega) (by have := HN.out; omega) hblk)
  obtain ⟨c0, c1, c2, c3, c4, c5, c6_, c7, c8, c9_⟩ := evCells hblk (Below.refl _ _)
  have HW0 := Aside0.mk hw0
  have HBLK0 := Aside0.mk hblk
  have HX0 := Aside0.mk hx0
  clear hw0 hblk HX hx0
  go_wp2_with fail
  refine (Hi1.out _ (by (repeat (first | with_reducible exact Below.refl _ _ | with_reducible assumption | with_reducible apply pw_below_drewN | with_reducible apply below_drew)))).mono ?_
  rintro e w1 ⟨rfl, hB, c0, c1, c2, c3, c4, c5, c6_, c7, c8, c9_⟩
  have HBLK := Aside0.mk (blk_below HBLK0.out hB)
  have HX := Aside0.mk (HX0.out.below hB)
  have HB := Aside0.mk hB
  clear hB HBLK0 HX0 Hi1
  have HQ6 := Aside0.mk (ev_rquote x.f5.f1 A6 c6 HX.out.q6 HX.out.h6 HX.out.b6 HN.out.1 HBLK.out)
  go_wp2_with fail
  refine (HQ6.out _ (by (repeat (first | with_reducible exact Below.refl _ _ | with_reducible assumption | with_reducible apply pw_below_drewN | with_reducible apply below_drew)))).mono ?_
  rintro e w2 ⟨rfl, hB2, -⟩
  have HB2 := Aside0.mk hB2
  clear hB2
  go_wp2_with fail
  go_ret
  refine ⟨?_, HW0.out.trans ((below_seq HB.out HB2.out).mono HW0.out.size)⟩
  refine congrArg (fun b => Ending.returned (.string b)) ?_
  apply ba_eq
  simp
set_option maxHeartbeats 8000000 in
theorem rdeed_size (x : S54) (A6 A9 : Option Addr) (c6 c9 : Nat) (w : World) (hx : EvIn x A6 A9 c6 c9 w) (hn6 : x.f5.f1.length ≤ 1200000) (h1 : 1 ≤ x.f1) (h8 : x.f1 ≤ 8) (hd : x.f5.f0 = 2) (hl : 0 ≤ x.f5.f2 ∧ x.f5.f2 ≤ 1000 ∧ 0 ≤ x.f5.f3 ∧ x.f5.f3 ≤ 1000) :
    Calls Tryd.prog 39 #[evArg x A6 A9 c6 c9] w fun e w' => e = .returned (.string ((⟨#[115, 105, 122, 101, 32]⟩ : ByteArray) ++ numB x.f1 ++ ⟨#[32]⟩ ++ numB x.f5.f2 ++ ⟨#[32]⟩ ++ numB x.f5.f3)) ∧ Below w.heap.size w w' := by
  have d1 : (x.f5.f0 == 1) = false := by rw [hd]; rfl
  have d2 : (x.f5.f0 == 2) = true := by rw [hd]; rfl
  have si1 := num_le (n := x.f1) (by omega) (by omega)
  have si2 := num_le (n := x.f5.f2) (by omega) (by omega)
  have si3 := num_le (n := x.f5.f3) (by omega) (by omega)
  have sq6 : (quoteB x.f5.f1).size ≤ 4000000 := by have := quoteB_size x.f5.f1; omega
  have HX := Aside0.mk hx
  have HN := Aside0.mk (And.intro hn6 (And.intro h1 (And.intro h8 hl)))
  clear hx hn6 hd h1 h8 hl
  go_enter Tryd.func39, Tryd.ntmps39
  go_upto_region 1 with (fail)
  have hblk : EvBlk w.heap.size x A6 A9 c6 c9 (w.alloc (.cells #[.int .i64 x.f0, .int .i64 x.f1, .int .i64 x.f2, .int .i64 x.f3, .int .i64 x.f4, .int .i64 x.f5.f0, .slice A6 x.f5.f1.length c6, .int .i64 x.f5.f2, .int .i64 x.f5.f3, .slice A9 x.f6.length c9] 54)) := blk_new _ _
  have hw0 : Below w.heap.size w (w.alloc (.cells #[.int .i64 x.f0, .int .i64 x.f1, .int .i64 x.f2, .int .i64 x.f3, .int .i64 x.f4, .int .i64 x.f5.f0, .slice A6 x.f5.f1.length c6, .int .i64 x.f5.f2, .int .i64 x.f5.f3, .slice A9 x.f6.length c9] 54)) := below_alloc (Below.refl _ _) _
  generalize hgw : w.alloc (.cells #[.int .i64 x.f0, .int .i64 x.f1, .int .i64 x.f2, .int .i64 x.f3, .int .i64 x.f4, .int .i64 x.f5.f0, .slice A6 x.f5.f1.length c6, .int .i64 x.f5.f2, .int .i64 x.f5.f3, .slice A9 x.f6.length c9] 54) = w0 at hblk hw0 ⊢
  clear hgw
  have hx0 := HX.out.below hw0
  have Hi1 := Aside0.mk (ev_digits x.f1 (by have := HN.out; omega) (by have := HN.out; omega) hblk)
  obtain ⟨c0, c1, c2, c3, c4, c5, c6_, c7, c8, c9_⟩ := evCells hblk (Below.refl _ _)
  have HW0 := Aside0.mk hw0
  have HBLK0 := Aside0.mk hblk
  have HX0 := Aside0.mk hx0
  clear hw0 hblk HX hx0
  go_wp2_with fail
  refine (Hi1.out _ (by (repeat (first | with_reducible exact Below.refl _ _ | with_reducible assumption | with_reducible apply pw_below_drewN | with_reducible apply below_drew)))).mono ?_
  rintro e w1 ⟨rfl, hB, c0, c1, c2, c3, c4, c5, c6_, c7, c8, c9_⟩
  have HBLK := Aside0.mk (blk_below HBLK0.out hB)
  have HX := Aside0.mk (HX0.out.below hB)
  have HB := Aside0.mk hB
  clear hB HBLK0 HX0 Hi1
  have HD2 := Aside0.mk (ev_digits x.f5.f2 (by have := HN.out; omega) (by have := HN.out; omega) HBLK.out)
  have HD3 := Aside0.mk (ev_digits x.f5.f3 (by have := HN.out; omega) (by have := HN.out; omega) HBLK.out)
  go_upto_region 6 with (fail)
  refine start_ (n := 15) (S := fun W => Below w1.heap.size w1 W) (ds := []) #[false, false, false, false, false, false, false, false, false, false, false, false, false, false, false] (by kernel_rfl) rfl rfl (below_drew (Below.refl _ _)) (fun hHeld => ?_)
  generalize w1.drew = wr at hHeld ⊢
  refine pure_ (i := 0) (N := (some 23)) (v := ?_) (a' := ?_) #[true, false, false, false, false, false, false, false, false, false, false, false, false, false, false] rfl rfl (by kernel_rfl) (fun _ _ _ h => h) (Or.inl ⟨by rfl, ?_⟩) ?_ ?_
  rotate_left
  · intro w'
    go_simp
    first | with_reducible rfl | (rw [if_neg (by omega)]; done) | (rw [if_neg (by omega)]; with_reducible rfl)
  rotate_left
  · simp only [Act.put, List.setIfInBounds_toArray, List.set_cons_zero, List.set_cons_succ, i64_w, i32_w]
    rfl
  refine pure_ (i := 1) (N := (some 24)) (v := ?_) (a' := ?_) #[true, true, false, false, false, false, false, false, false, false, false, false, false, false, false] rfl rfl (by kernel_rfl) (fun _ _ _ h => h) (Or.inl ⟨by rfl, ?_⟩) ?_ ?_
  rotate_left
  · intro w'
    go_simp
    first | with_reducible rfl | (rw [if_neg (by omega)]; done) | (rw [if_neg (by omega)]; with_reducible rfl)
  rotate_left
  · simp only [Act.put, List.setIfInBounds_toArray, List.set_cons_zero, List.set_cons_succ, i64_w, i32_w]
    rfl
  refine pure_ (i := 2) (N := (some 25)) (v := ?_) (a' := ?_) #[true, true, true, false, false, false, false, false, false, false, false, false, false, false, false] rfl rfl (by kernel_rfl) (fun _ _ _ h => h) (Or.inl ⟨by rfl, ?_⟩) ?_ ?_
  rotate_left
  · intro w'
    go_simp
    first | with_reducible rfl | (rw [if_neg (by omega)]; done) | (rw [if_neg (by omega)]; with_reducible rfl)
  rotate_left
  · simp only [Act.put, List.setIfInBounds_toArray, List.set_cons_zero, List.set_cons_succ, i64_w, i32_w]
    rfl
  refine pure_ (i := 3) (N := (some 26)) (v := ?_) (a' := ?_) #[true, true, true, true, false, false, false, false, false, false, false, false, false, false, false] rfl rfl (by kernel_rfl) (fun _ _ _ h => h) (Or.inl ⟨by rfl, ?_⟩) ?_ ?_
  rotate_left
  · intro w'
    go_simp
    first | with_reducible rfl | (rw [if_neg (by omega)]; done) | (rw [if_neg (by omega)]; with_reducible rfl)
  rotate_left
  · simp only [Act.put, List.setIfInBounds_toArray, List.set_cons_zero, List.set_cons_succ, i64_w, i32_w]
    rfl
  refine pure_ (i := 4) (N := (some 27)) (v := ?_) (a' := ?_) #[true, true, true, true, true, false, false, false, false, false, false, false, false, false, false] rfl rfl (by kernel_rfl) (fun _ _ _ h => h) (Or.inl ⟨by rfl, ?_⟩) ?_ ?_
  rotate_left
  · intro w'
    go_simp
    first | with_reducible rfl | (rw [if_neg (by omega)]; done) | (rw [if_neg (by omega)]; with_reducible rfl)
  rotate_left
  · simp only [Act.put, List.setIfInBounds_toArray, List.set_cons_zero, List.set_cons_succ, i64_w, i32_w]
    rfl
  refine pure_ (i := 9) (N := (some 32)) (v := ?_) (a' := ?_) #[true, true, true, true, true, false, false, false, false, true, false, false, false, false, false] rfl rfl (by kernel_rfl) (fun _ _ _ h => h) (Or.inl ⟨by rfl, ?_⟩) ?_ ?_
  rotate_left
  · intro w'
    go_simp
    first | with_reducible rfl | (rw [if_neg (by omega)]; done) | (rw [if_neg (by omega)]; with_reducible rfl)
  rotate_left
  · simp only [Act.put, List.setIfInBounds_toArray, List.set_cons_zero, List.set_cons_succ, i64_w, i32_w]
    rfl
  refine pure_ (i := 10) (N := (some 33)) (v := ?_) (a' := ?_) #[true, true, true, true, true, false, false, false, false, true, true, false, false, false, false] rfl rfl (by kernel_rfl) (fun _ _ _ h => h) (Or.inl ⟨by rfl, ?_⟩) ?_ ?_
  rotate_left
  · intro w'
    go_simp
    first | with_reducible rfl | (rw [if_neg (by omega)]; done) | (rw [if_neg (by omega)]; with_reducible rfl)
  rotate_left
  · simp only [Act.put, List.setIfInBounds_toArray, List.set_cons_zero, List.set_cons_succ, i64_w, i32_w]
    rfl
  refine take_ (i := 5) (N := (some 28)) (v := ?_) (a' := ?_) #[true, true, true, true, true, true, false, false, false, true, true, false, false, false, false] rfl rfl (by kernel_rfl) (fun _ _ _ h => h) (Or.inl ⟨by rfl, ?_⟩) hHeld ?_ ?_
  rotate_left
  · intro w' hS
    have hc := evCells HBLK.out hS
    have c : w'.cell? ⟨w.heap.size, 7, none⟩ = some (.int .i64 x.f5.f2) := hc.2.2.2.2.2.2.2.1
    clear hc
    go_simp
    first | with_reducible rfl | (rw [if_neg (by omega)]; done) | (rw [if_neg (by omega)]; with_reducible rfl)
  rotate_left
  · simp only [Act.put, List.setIfInBounds_toArray, List.set_cons_zero, List.set_cons_succ, i64_w, i32_w]
    rfl
  refine take_ (i := 11) (N := (some 34)) (v := ?_) (a' := ?_) #[true, true, true, true, true, true, false, false, false, true, true, true, false, false, false] rfl rfl (by kernel_rfl) (fun _ _ _ h => h) (Or.inl ⟨by rfl, ?_⟩) hHeld ?_ ?_
  rotate_left
  · intro w' hS
    have hc := evCells HBLK.out hS
    have c : w'.cell? ⟨w.heap.size, 8, none⟩ = some (.int .i64 x.f5.f3) := hc.2.2.2.2.2.2.2.2.1
    clear hc
    go_simp
    first | with_reducible rfl | (rw [if_neg (by omega)]; done) | (rw [if_neg (by omega)]; with_reducible rfl)
  rotate_left
  · simp only [Act.put, List.setIfInBounds_toArray, List.set_cons_zero, List.set_cons_succ, i64_w, i32_w]
    rfl
  refine one_ (i := 6) (N := (some 29)) #[true, true, true, true, true, true, true, false, false, true, true, true, false, false, false] rfl rfl (by kernel_rfl) (by decide) (fun K hK => ?_)
  refine call_ 19 #[.int .i64 x.f5.f2] (by rfl) rfl (by
    have he := enters_ Tryd.func19 (by kernel_rfl) rfl #[.int .i64 x.f5.f2] wr
    unfold execOp
    simp [resolve, Deferred.ofValue, invoke, Act.eval, he]) ?_
  refine (HD2.out wr hHeld).mono ?_
  rintro e wc1 ⟨rfl, hB, -⟩
  refine ⟨_, rfl, hK.out _ _ hB (fun hHeld => ?_)⟩
  clear hK K hB
  refine norm_ (a' := ?_) ?_ ?_
  rotate_left
  · show Act.put _ (some 29) _ = _
    simp only [Act.put, List.setIfInBounds_toArray, List.set_cons_zero, List.set_cons_succ, i64_w, i32_w]
    rfl
  refine pure_ (i := 7) (N := (some 30)) (v := ?_) (a' := ?_) #[true, true, true, true, true, true, true, true, false, true, true, true, false, false, false] rfl rfl (by kernel_rfl) (fun _ _ _ h => h) (Or.inl ⟨by rfl, ?_⟩) ?_ ?_
  rotate_left
  · intro w'
    go_simp
    first | with_reducible rfl | (rw [if_neg (by omega)]; done) | (rw [if_neg (by omega)]; with_reducible rfl)
  rotate_left
  · simp only [Act.put, List.setIfInBounds_toArray, List.set_cons_zero, List.set_cons_succ, i64_w, i32_w]
    rfl
  refine pure_ (i := 8) (N := (some 31)) (v := ?_) (a' := ?_) #[true, true, true, true, true, true, true, true, true, true, true, true, false, false, false] rfl rfl (by kernel_rfl) (fun _ _ _ h => h) (Or.inl ⟨by rfl, ?_⟩) ?_ ?_
  rotate_left
  · intro w'
    go_simp
    first | with_reducible rfl | (rw [if_neg (by omega)]; done) | (rw [if_neg (by omega)]; with_reducible rfl)
  rotate_left
  · simp only [Act.put, List.setIfInBounds_toArray, List.set_cons_zero, List.set_cons_succ, i64_w, i32_w]
    rfl
  refine one_ (i := 12) (N := (some 35)) #[true, true, true, true, true, true, true, true, true, true, true, true, true, false, false] rfl rfl (by kernel_rfl) (by decide) (fun K hK => ?_)
  refine call_ 19 #[.int .i64 x.f5.f3] (by rfl) rfl (by
    have he := enters_ Tryd.func19 (by kernel_rfl) rfl #[.int .i64 x.f5.f3] wc1
    unfold execOp
    simp [resolve, Deferred.ofValue, invoke, Act.eval, he]) ?_
  refine (HD3.out wc1 hHeld).mono ?_
  rintro e wc2 ⟨rfl, hB, -⟩
  refine ⟨_, rfl, hK.out _ _ hB (fun hHeld => ?_)⟩
  clear hK K hB
  refine norm_ (a' := ?_) ?_ ?_
  rotate_left
  · show Act.put _ (some 35) _ = _
    simp only [Act.put, List.setIfInBounds_toArray, List.set_cons_zero, List.set_cons_succ, i64_w, i32_w]
    rfl
  refine pure_ (i := 13) (N := (some 36)) (v := ?_) (a' := ?_) #[true, true, true, true, true, true, true, true, true, true, true, true, true, true, false] rfl rfl (by kernel_rfl) (fun _ _ _ h => h) (Or.inl ⟨by rfl, ?_⟩) ?_ ?_
  rotate_left
  · intro w'
    go_simp
    first | with_reducible rfl | (rw [if_neg (by omega)]; done) | (rw [if_neg (by omega)]; with_reducible rfl)
  rotate_left
  · simp only [Act.put, List.setIfInBounds_toArray, List.set_cons_zero, List.set_cons_succ, i64_w, i32_w]
    rfl
  refine pure_ (i := 14) (N := (some 2)) (v := ?_) (a' := ?_) #[true, true, true, true, true, true, true, true, true, true, true, true, true, true, true] rfl rfl (by kernel_rfl) (fun _ _ _ h => h) (Or.inl ⟨by rfl, ?_⟩) ?_ ?_
  rotate_left
  · intro w'
    go_simp
    first | with_reducible rfl | (rw [if_neg (by omega)]; done) | (rw [if_neg (by omega)]; with_reducible rfl)
  rotate_left
  · simp only [Act.put, List.setIfInBounds_toArray, List.set_cons_zero, List.set_cons_succ, i64_w, i32_w]
    rfl
  refine done_ (by kernel_rfl) ?_
  go_wp2_with fail
  go_ret
  refine ⟨?_, HW0.out.trans ((below_seq HB.out hHeld).mono HW0.out.size)⟩
  refine congrArg (fun b => Ending.returned (.string b)) ?_
  apply ba_eq
  simp
end Go.Proofs.YtjpkphmihkbfeaaDoor.S34
