/- The law's alike by a contract. -/
import Derived.Test.YtjpkphmihkbfeaaDoorG2
namespace Go.Proofs.YtjpkphmihkbfeaaDoor.S34
open Go.RowKit Go.Proofs.YtjpkphmihkbfeaaDoorW.PrintWords Go.Proofs.YtjpkphmihkbfeaaDoorW.PrintLast Go.Proofs.YtjpkphmihkbfeaaDoorW.PrintMore Go.Proofs.YtjpkphmihkbfeaaDoor.Q
set_option maxRecDepth 100000
set_option linter.unusedSimpArgs false
/-- Element k of a row of events, as an argument. -/
theorem ev_at {w : World} {A : Option Addr} {n : Nat} {xs : List S54} (h : Kd.C k54 w A n xs) (hg : ∀ x ∈ xs, EvGood x) (k : Nat) (hk : k < n) :
    ∃ ad A6 A9 c6 c9, A = some ad ∧ EvIn (rd_T54 xs k) A6 A9 c6 c9 w ∧ w.cell? (ad.add (k * 10)) = some (.int .i64 (rd_T54 xs k).f0) ∧ w.cell? ⟨(ad.add (k * 10)).block, (ad.add (k * 10)).off + 1, none⟩ = some (.int .i64 (rd_T54 xs k).f1) ∧
      w.cell? ⟨(ad.add (k * 10)).block, (ad.add (k * 10)).off + 2, none⟩ = some (.int .i64 (rd_T54 xs k).f2) ∧ w.cell? ⟨(ad.add (k * 10)).block, (ad.add (k * 10)).off + 3, none⟩ = some (.int .i64 (rd_T54 xs k).f3) ∧
      w.cell? ⟨(ad.add (k * 10)).block, (ad.add (k * 10)).off + 4, none⟩ = some (.int .i64 (rd_T54 xs k).f4) ∧ w.cell? ⟨(ad.add (k * 10)).block, (ad.add (k * 10)).off + 5, none⟩ = some (.int .i64 (rd_T54 xs k).f5.f0) ∧
      w.cell? ⟨(ad.add (k * 10)).block, (ad.add (k * 10)).off + 6, none⟩ = some (.slice A6 (rd_T54 xs k).f5.f1.length c6) ∧ w.cell? ⟨(ad.add (k * 10)).block, (ad.add (k * 10)).off + 7, none⟩ = some (.int .i64 (rd_T54 xs k).f5.f2) ∧
      w.cell? ⟨(ad.add (k * 10)).block, (ad.add (k * 10)).off + 8, none⟩ = some (.int .i64 (rd_T54 xs k).f5.f3) ∧ w.cell? ⟨(ad.add (k * 10)).block, (ad.add (k * 10)).off + 9, none⟩ = some (.slice A9 (rd_T54 xs k).f6.length c9) := by
  obtain ⟨ad, A6, c6, A9, c9, rfl, x0, x1, x2, x3, x4, x5, x6, x7, x8, x9, l6, q6, l9, q9⟩ := at_T54 h (k : Int) (by omega) (by omega)
  have hl := Kd.C_len h
  have hge : EvGood (rd_T54 xs k) := by
    unfold rd_T54
    rw [Int.toNat_natCast, List.getD_eq_getElem?_getD, List.getElem?_eq_getElem (by omega)]
    exact hg _ (List.getElem_mem _)
  exact ⟨ad, A6, A9, c6, c9, rfl, hge.in_ q6 l6 q9 l9, x0, x1, x2, x3, x4, x5, x6, x7, x8, x9⟩
theorem rd_T54_eq {xs : List S54} {k : Nat} (hk : k < xs.length) : rd_T54 xs k = xs[k] := by
  unfold rd_T54
  rw [Int.toNat_natCast, List.getD_eq_getElem?_getD, List.getElem?_eq_getElem hk]; rfl
def alikeP (a b : List S54) : Bool := decide (a = b)
set_option maxHeartbeats 4000000 in
theorem alike_any (a b : List S54) (A B : Option Addr) (c e : Nat) (w : World) (hA : Kd.C k54 w A a.length a) (hB : Kd.C k54 w B b.length b) (ga : ∀ x ∈ a, EvGood x) (gb : ∀ x ∈ b, EvGood x) (hl : a.length ≤ 9223372036854775806) :
    Calls Tryd.prog 14 #[.slice A a.length c, .slice B b.length e] w fun r w' => r = .returned (.bool (alikeP a b)) ∧ Below w.heap.size w w' := by
  by_cases hlen : a.length = b.length
  · have HA := Aside0.mk hA
    have HBc := Aside0.mk hB
    have GA := Aside0.mk ga
    have GB := Aside0.mk gb
    have HLN := Aside0.mk hlen
    rw [← hlen] at HBc ⊢
    clear hA hB ga gb hlen
    go_enter Tryd.func14, Tryd.ntmps14
    go_wp2_with fail
    go_loopw [5] (fun i wr => ∃ (k : Nat), k ≤ a.length ∧ i = .int .i64 k ∧ Aside0 (a.take k = b.take k) ∧ Aside0 (Below w.heap.size w wr)) (fun i _ => a.length - (intOf i).toNat)
    case atStart => exact ⟨0, Nat.zero_le _, rfl, ⟨by simp⟩, ⟨Below.refl _ _⟩⟩
    case round =>
      obtain ⟨k, hk, rfl, HT, HB⟩ := hrel
      by_cases hlt : k < a.length
      · have hlb : k < b.length := by have := HLN.out; omega
        obtain ⟨ad, A6, A9, c6, c9, rfl, ix, x0, x1, x2, x3, x4, x5, x6, x7, x8, x9⟩ := ev_at (Kd.C_below HA.out HB.out) GA.out k hlt
        obtain ⟨bd, B6, B9, e6, e9, rfl, iy, y0, y1, y2, y3, y4, y5, y6, y7, y8, y9⟩ := ev_at (Kd.C_below HBc.out HB.out) GB.out k hlt
        have IX := Aside0.mk ix
        have IY := Aside0.mk iy
        have HXK := Aside0.mk (rd_T54_eq hlt)
        have HYK := Aside0.mk (rd_T54_eq hlb)
        obtain ⟨x, hx⟩ : ∃ x, x = rd_T54 a k := ⟨_, rfl⟩
        obtain ⟨y, hy⟩ : ∃ y, y = rd_T54 b k := ⟨_, rfl⟩
        rw [← hx] at x0 x1 x2 x3 x4 x5 x6 x7 x8 x9 IX HXK
        rw [← hy] at y0 y1 y2 y3 y4 y5 y6 y7 y8 y9 IY HYK
        clear ix iy hx hy
        have HBW := Aside0.mk HB.out
        have hki : (k : Int) < (a.length : Int) := by omega
        have hk0 : (0 : Int) ≤ (k : Int) := by omega
        obtain ⟨w1, hw1⟩ : ∃ w1, w1 = wr := ⟨_, rfl⟩
        subst hw1
        have HC := Aside0.mk (show ∀ W, Below w1.heap.size w1 W → Calls Tryd.prog 29 #[evArg x A6 A9 c6 c9, evArg y B6 B9 e6 e9] W fun r w' => r = .returned (.bool (sameP x y)) ∧ Below w1.heap.size w1 w' from
          fun W h => (ref_same x y A6 A9 B6 B9 c6 c9 e6 e9 W (IX.out.below h) (IY.out.below h)).mono fun _ _ hh => ⟨hh.1, below_seq h hh.2⟩)
        clear HB
        go_upto_region 6 with (fail)
        refine start_ (n := 10) (S := fun W => Below w1.heap.size w1 W) (ds := []) #[false, false, false, false, false, false, false, false, false, false] (by kernel_rfl) rfl rfl (below_drew (Below.refl _ _)) (fun hHeld => ?_)
        generalize w1.drew = wr at hHeld ⊢
        refine pure_ (i := 0) (N := (some 17)) (v := ?_) (a' := ?_) #[true, false, false, false, false, false, false, false, false, false] rfl rfl (by kernel_rfl) (fun _ _ _ h => h) (Or.inl ⟨by rfl, ?_⟩) ?_ ?_
        rotate_left
        · intro w'
          go_simp
          first | with_reducible rfl | (rw [if_neg (by omega)]; done) | (rw [if_neg (by omega)]; with_reducible rfl)
        rotate_left
        · simp only [Act.put, List.setIfInBounds_toArray, List.set_cons_zero, List.set_cons_succ, i64_w, i32_w]
          rfl
        refine pure_ (i := 1) (N := (some 18)) (v := ?_) (a' := ?_) #[true, true, false, false, false, false, false, false, false, false] rfl rfl (by kernel_rfl) (fun _ _ _ h => h) (Or.inl ⟨by rfl, ?_⟩) ?_ ?_
        rotate_left
        · intro w'
          go_simp
          first | with_reducible rfl | (rw [if_neg (by omega)]; done) | (rw [if_neg (by omega)]; with_reducible rfl)
        rotate_left
        · simp only [Act.put, List.setIfInBounds_toArray, List.set_cons_zero, List.set_cons_succ, i64_w, i32_w]
          rfl
        refine pure_ (i := 2) (N := (some 19)) (v := ?_) (a' := ?_) #[true, true, true, false, false, false, false, false, false, false] rfl rfl (by kernel_rfl) (fun _ _ _ h => h) (Or.inl ⟨by rfl, ?_⟩) ?_ ?_
        rotate_left
        · intro w'
          go_simp
          first | with_reducible rfl | (rw [if_neg (by omega)]; done) | (rw [if_neg (by omega)]; with_reducible rfl)
        rotate_left
        · simp only [Act.put, List.setIfInBounds_toArray, List.set_cons_zero, List.set_cons_succ, i64_w, i32_w]
          rfl
        refine pure_ (i := 4) (N := (some 21)) (v := ?_) (a' := ?_) #[true, true, true, false, true, false, false, false, false, false] rfl rfl (by kernel_rfl) (fun _ _ _ h => h) (Or.inl ⟨by rfl, ?_⟩) ?_ ?_
        rotate_left
        · intro w'
          go_simp
          first | with_reducible rfl | (rw [if_neg (by omega)]; done) | (rw [if_neg (by omega)]; with_reducible rfl)
        rotate_left
        · simp only [Act.put, List.setIfInBounds_toArray, List.set_cons_zero, List.set_cons_succ, i64_w, i32_w]
          rfl
        refine pure_ (i := 5) (N := (some 22)) (v := ?_) (a' := ?_) #[true, true, true, false, true, true, false, false, false, false] rfl rfl (by kernel_rfl) (fun _ _ _ h => h) (Or.inl ⟨by rfl, ?_⟩) ?_ ?_
        rotate_left
        · intro w'
          go_simp
          first | with_reducible rfl | (rw [if_neg (by omega)]; done) | (rw [if_neg (by omega)]; with_reducible rfl)
        rotate_left
        · simp only [Act.put, List.setIfInBounds_toArray, List.set_cons_zero, List.set_cons_succ, i64_w, i32_w]
          rfl
        refine pure_ (i := 6) (N := (some 23)) (v := ?_) (a' := ?_) #[true, true, true, false, true, true, true, false, false, false] rfl rfl (by kernel_rfl) (fun _ _ _ h => h) (Or.inl ⟨by rfl, ?_⟩) ?_ ?_
        rotate_left
        · intro w'
          go_simp
          first | with_reducible rfl | (rw [if_neg (by omega)]; done) | (rw [if_neg (by omega)]; with_reducible rfl)
        rotate_left
        · simp only [Act.put, List.setIfInBounds_toArray, List.set_cons_zero, List.set_cons_succ, i64_w, i32_w]
          rfl
        refine take_ (i := 3) (N := (some 20)) (v := ?_) (a' := ?_) #[true, true, true, true, true, true, true, false, false, false] rfl rfl (by kernel_rfl) (fun _ _ _ h => h) (Or.inl ⟨by rfl, ?_⟩) hHeld ?_ ?_
        rotate_left
        · intro w' hS
          have c0 := pw_cell_below hS x0
          have c1 := pw_cell_below hS x1
          have c2 := pw_cell_below hS x2
          have c3 := pw_cell_below hS x3
          have c4 := pw_cell_below hS x4
          have c5 := pw_cell_below hS x5
          have c6 := pw_cell_below hS x6
          have c7 := pw_cell_below hS x7
          have c8 := pw_cell_below hS x8
          have c9 := pw_cell_below hS x9
          go_simp
          first | with_reducible rfl | (rw [if_neg (by omega)]; done) | (rw [if_neg (by omega)]; with_reducible rfl)
        rotate_left
        · simp only [Act.put, List.setIfInBounds_toArray, List.set_cons_zero, List.set_cons_succ, i64_w, i32_w]
          rfl
        refine take_ (i := 7) (N := (some 24)) (v := ?_) (a' := ?_) #[true, true, true, true, true, true, true, true, false, false] rfl rfl (by kernel_rfl) (fun _ _ _ h => h) (Or.inl ⟨by rfl, ?_⟩) hHeld ?_ ?_
        rotate_left
        · intro w' hS
          have c0 := pw_cell_below hS y0
          have c1 := pw_cell_below hS y1
          have c2 := pw_cell_below hS y2
          have c3 := pw_cell_below hS y3
          have c4 := pw_cell_below hS y4
          have c5 := pw_cell_below hS y5
          have c6 := pw_cell_below hS y6
          have c7 := pw_cell_below hS y7
          have c8 := pw_cell_below hS y8
          have c9 := pw_cell_below hS y9
          go_simp
          first | with_reducible rfl | (rw [if_neg (by omega)]; done) | (rw [if_neg (by omega)]; with_reducible rfl)
        rotate_left
        · simp only [Act.put, List.setIfInBounds_toArray, List.set_cons_zero, List.set_cons_succ, i64_w, i32_w]
          rfl
        refine one_ (i := 8) (N := (some 25)) #[true, true, true, true, true, true, true, true, true, false] rfl rfl (by kernel_rfl) (by decide) (fun K hK => ?_)
        refine call_ 29 #[evArg x A6 A9 c6 c9, evArg y B6 B9 e6 e9] (by rfl) rfl (by
          have he := enters_ Tryd.func29 (by kernel_rfl) rfl #[evArg x A6 A9 c6 c9, evArg y B6 B9 e6 e9] wr
          unfold execOp
          simp [resolve, Deferred.ofValue, invoke, Act.eval, he]) ?_
        refine (HC.out wr hHeld).mono ?_
        rintro e wc1 ⟨rfl, hB⟩
        refine ⟨_, rfl, hK.out _ _ hB (fun hHeld => ?_)⟩
        clear hK K hB
        refine norm_ (a' := ?_) ?_ ?_
        rotate_left
        · show Act.put _ (some 25) _ = _
          simp only [Act.put, List.setIfInBounds_toArray, List.set_cons_zero, List.set_cons_succ, i64_w, i32_w]
          rfl
        refine pure_ (i := 9) (N := (some 26)) (v := ?_) (a' := ?_) #[true, true, true, true, true, true, true, true, true, true] rfl rfl (by kernel_rfl) (fun _ _ _ h => h) (Or.inl ⟨by rfl, ?_⟩) ?_ ?_
        rotate_left
        · intro w'
          go_simp
          first | with_reducible rfl | (rw [if_neg (by omega)]; done) | (rw [if_neg (by omega)]; with_reducible rfl)
        rotate_left
        · simp only [Act.put, List.setIfInBounds_toArray, List.set_cons_zero, List.set_cons_succ, i64_w, i32_w]
          rfl
        refine done_ (by kernel_rfl) ?_
        cases hq : sameP x y with
        | false =>
          have HQ := Aside0.mk hq
          clear hq
          go_wp2
          go_ret
          have hne : ¬ x = y := of_decide_eq_false HQ.out
          have hr : alikeP a b = false := decide_eq_false (fun hab => hne (by rw [HXK.out, HYK.out]; simp [hab]))
          rw [hr]
          exact ⟨rfl, HBW.out.trans (hHeld.mono HBW.out.size)⟩
        | true =>
          have HQ := Aside0.mk hq
          clear hq
          have HH := Aside0.mk hHeld
          clear hHeld
          go_wp2
          go_roundw
          case rel => exact ⟨k + 1, by omega, by go_num, ⟨by
            have hxy : x = y := of_decide_eq_true HQ.out
            rw [List.take_succ_eq_append_getElem hlt, List.take_succ_eq_append_getElem hlb, HT.out, ← HXK.out, ← HYK.out, hxy]⟩, ⟨HBW.out.trans (HH.out.mono HBW.out.size)⟩⟩
          case measure => simp [intOf]; omega
      · have hkk : k = a.length := by omega
        have hr : alikeP a b = true := decide_eq_true (by
          have h1 := HT.out
          rw [hkk, List.take_length, HLN.out, List.take_length] at h1
          exact h1)
        have d : decide ((k : Int) < (a.length : Int)) = false := decide_eq_false (by omega)
        have HR := Aside0.mk hr
        clear hr HT HA HBc GA GB
        go_wp2
        go_ret
        rw [HR.out]
        exact ⟨rfl, HB.out⟩
  · have hr : alikeP a b = false := decide_eq_false (fun h => hlen (by rw [h]))
    rw [hr]
    have h1 : ((a.length : Int) == (b.length : Int)) = false := beq_eq_false_iff_ne.2 (by omega)
    have h2 : ((a.length : Int) != (b.length : Int)) = true := bne_iff_ne.2 (by omega)
    clear hA hB ga gb hr hlen
    go_enter Tryd.func14, Tryd.ntmps14
    go_wp2
    go_ret
    exact ⟨rfl, Below.refl _ _⟩
end Go.Proofs.YtjpkphmihkbfeaaDoor.S34
