/- orielref34.Quoted by a contract: what is answered is quoteB. -/
import Derived.Test.YtjpkphmihkbfeaaDoorRh
import Derived.Lib.Hide
namespace Go.Proofs.YtjpkphmihkbfeaaDoor.S34
open Go.RowKit Go.Proofs.YtjpkphmihkbfeaaDoorW.PrintWords Go.Proofs.YtjpkphmihkbfeaaDoorW.PrintLast Go.Proofs.YtjpkphmihkbfeaaDoorW.PrintMore Go.Proofs.YtjpkphmihkbfeaaDoor.Q
set_option maxRecDepth 100000
set_option linter.unusedSimpArgs false
set_option linter.unusedVariables false
theorem ref_hex {n : Int} (h0 : 0 ≤ n) (h1 : n < 16) : orielref34_hex.f n = some (hexd n) := by
  have : n = 0 ∨ n = 1 ∨ n = 2 ∨ n = 3 ∨ n = 4 ∨ n = 5 ∨ n = 6 ∨ n = 7 ∨ n = 8 ∨ n = 9 ∨ n = 10 ∨ n = 11 ∨ n = 12 ∨ n = 13 ∨ n = 14 ∨ n = 15 := by omega
  rcases this with rfl | rfl | rfl | rfl | rfl | rfl | rfl | rfl | rfl | rfl | rfl | rfl | rfl | rfl | rfl | rfl <;> (first | rfl | decide | (simp [orielref34_hex.f, hexd, bt, wrap64]; done) | (simp [orielref34_hex.f, hexd, bt, wrap64]; rfl) | (simp [orielref34_hex.f, hexd, bt, wrap64]; decide))
theorem quoteP_take {l : List Int} {i : Nat} (h : i < l.length) : quoteP (l.take (i + 1)) = quoteP (l.take i) ++ quoteOne (rd l i) := by
  rw [List.take_succ_eq_append_getElem h, show rd l i = l[i] from by simp [rd, List.getD_eq_getElem?_getD, h]]
  unfold quoteP
  rw [List.flatMap_append, List.flatMap_singleton]
set_option maxHeartbeats 8000000 in
theorem refquoted_any (l : List Int) (A : Option Addr) (c : Nat) (w : World) (hr : Kd.C (Kd.int .u8) w A l.length l) (hc : l.length ≤ c) (hb : Bytes l) (hl : l.length ≤ 46912496118000) :
    Calls Tryd.prog 37 #[.slice A l.length c] w fun e w' => e = .returned (.string (quoteB l)) ∧ Below w.heap.size w w' := by
  have HR0 := Aside0.mk hr
  have HC0 := Aside0.mk hc
  have HY0 := Aside0.mk hb
  have HL0 := Aside0.mk hl
  clear hr hb
  have HB := Aside0.mk (Below.refl w.heap.size w)
  obtain ⟨y0, hy0⟩ : ∃ y_ : List Int, y_ = ([34] : List Int) := ⟨_, rfl⟩
  have Ny := Aside0.mk hy0
  clear hy0
  go_enter Tryd.func37, Tryd.ntmps37
  go_wp2_with ((with_reducible refine gate_dst (N := 5) rfl ?_); refine Kd.R_lit (Kd.int .u8) _ 5 ?hg (N := 5) ?hd (xs := ([34] : List Int)) (inner := [.int .u8 34]) (ok := fun _ => True) (okp := fun _ => True) ?hr ?hp (fun _ hk => hk) trivial (Below.refl _ _) (Nat.le_refl _) (by simp) ?_; (case hd => rfl); (case hg => rfl); (case hr => first | (go_simp; done) | (go_simp; rfl)); (case hp => exact (Reps.one (show Kd.M (Kd.int .u8) _ _ _ 34 [.int .u8 34] from rfl) (Reps.none _ _))); intro v154 w2 ho3 hb hg_ hnew_; clear hg_ hnew_; (first | rw [← Ny.out] at ho3 | (simp only [Int.reduceToNat] at ho3; rw [← Ny.out] at ho3)); have n0_ := Aside0.mk (Kd.R_lower ho3 (below_size (by repeat (first | (with_reducible first | exact HB.out | apply below_alloc | apply pw_below_drewN | apply below_drew1) | exact HB.out)))); have n1_ := Aside0.mk (below_step (by repeat (first | (with_reducible first | exact HB.out | apply below_alloc | apply pw_below_drewN | apply below_drew1) | exact HB.out)) hb); clear HB; have HO := n0_; have HB := n1_; clear n0_ n1_; clear hb ho3)
  go_loopg [3, 4] (l.length + 1) (fun kq v3 v4 w' => ∃ (xs : List Int) (i : Nat) (x9 : Int), v4 = .int .i64 x9 ∧ Aside0 (x9 = (i : Int) ∧ i + kq = l.length + 1 ∧ i ≤ l.length ∧ xs = [34] ++ quoteP (l.take i)) ∧ Aside0 (Kd.R (Kd.int .u8) 5 w' w.heap.size (fun _ => True) v3 xs) ∧ Aside0 (Below w.heap.size w w'))
  case atStart => exact ⟨y0, 0, 0, rfl, ⟨rfl, by omega, by omega, by rw [Ny.out]; rfl⟩, ⟨(by (with_reducible repeat (first | apply Kd.R_alloc | apply Kd.R_drewN | apply Kd.R_drew)); exact HO.out)⟩, ⟨(by repeat (first | (with_reducible first | exact HB.out | apply below_alloc | apply pw_below_drewN | apply below_drew1) | exact HB.out))⟩⟩
  case round =>
    try clear p2
    clear Ny
    obtain ⟨xs, i, x9, rfl, HA, HO, HB⟩ := hrel
    obtain ⟨hx9, hik, hil, hxs⟩ := HA.out
    clear HA
    have hqt := quoteP_len (l.take i)
    have hlt : (l.take i).length ≤ l.length := by simp; omega
    have hxl : xs.length + 3 < 140737488355328 := by rw [hxs]; simp; omega
    have LM := Aside0.mk hxl
    clear hqt hlt hxl
    cases gk with
    | zero => exact absurd hik (by omega)
    | succ k1 =>
      by_cases c4 : i < l.length
      · have c4b0 : decide (x9 < (l.length : Int)) = true := decide_eq_true (by omega)
        have c5b0 : decide (0 ≤ x9) = true := decide_eq_true (by omega)
        obtain ⟨b, hbb⟩ : ∃ b, b = rd l x9 := ⟨_, rfl⟩
        have hby := rd_bytes HY0.out x9
        rw [← hbb] at hby
        obtain ⟨hb0, hb1⟩ := hby
        have p156 : 0 ≤ (x9 : Int) := by omega
        have q156 : x9 < (l.length : Int) := by omega
        obtain ⟨ad156, e156, hx156_0⟩ := Kd.at_int HR0.out x9 p156 q156
        have HX := Aside0.mk (And.intro hx9 (And.intro hik (And.intro hil (And.intro hxs (And.intro c4 hbb)))))
        rw [← hbb] at hx156_0
        cases e156
        have HC1 := Aside0.mk hx156_0
        replace hx156_0 := (HB.out.cell (World.block_lt_of_cell? w _ hx156_0)).trans hx156_0
        have HCELL := Aside0.mk hx156_0
        have HP1 := Aside0.mk (And.intro p156 q156)
        replace p156 := eq_true p156
        replace q156 := eq_true q156
        clear hx9 hik hil hxs c4 hbb
        cases hpl : plainP b with
        | true =>
          have A7 : Aside0 (orielref34_plain.f b = some true) := ⟨by rw [ref_plainF, hpl]⟩
          have HPL := Aside0.mk hpl
          clear hpl
          go_wp2_with (first | ((with_reducible refine gate_callee (f := 60) rfl ?_); refine goesL_ (some 16) rfl rfl Tryd.func60 (by kernel_rfl) rfl #[.int .u8 b] rfl (by (try simp only [List.map_toArray, List.map_cons, List.map_nil]); first | done | rfl | (simp only [List.length_drop, List.length_take]; rfl)) ?_; (with_reducible refine (orielref34_plain.calls b true _ A7.out).mono ?_); rintro e w' ⟨rfl, ⟨nd, rfl⟩⟩; refine ⟨_, rfl, ?_⟩) | ((with_reducible refine gate_builtin (b := .append) (xs := #[.tmp 17, .tmp 22]) rfl ?_); at_builtin; refine Kd.R_append (Kd.int .u8) (w0 := w) w.heap.size rfl (.tmp 17) (.tmp 22) 50 5 (.int .u8 0) 1 rfl Tryd.underlying50 info5 rfl (by decide) (by omega) u3 xs b [.int .u8 b] (fun _ => True) (fun _ => False) rfl rfl ?aP (fun _ hk => hk.elim) ?aF ?aO ?aB ?aS ?aL ?_; (case aP => exact rfl); (case aB => exact (by repeat (first | (with_reducible first | exact HB.out | apply below_alloc | apply pw_below_drewN | apply below_drew1) | exact HB.out))); (case aF => exact (fun _ _ => trivial)); (case aO => exact (by (with_reducible repeat (first | apply Kd.R_alloc | apply Kd.R_drewN | apply Kd.R_drew)); exact HO.out)); (case aS => exact (below_size (by repeat (first | (with_reducible first | exact HB.out | apply below_alloc | apply pw_below_drewN | apply below_drew1) | exact HB.out)))); (case aL => have := LM.out; omega); intro vA wA ho hb hg hat; have n0_ := Aside0.mk (hb); have n1_ := Aside0.mk (ho); clear HB; clear HO; have HB := n0_; have HO := n1_; clear n0_ n1_; clear ho hb hg hat))
          go_roundg k1
          case measure => have := HX.out.2.1; omega
          case rel =>
            obtain ⟨hx9, hik, hil, hxs, c4, hbb⟩ := HX.out
            have hl2 := HL0.out
            exact ⟨xs ++ [b], i + 1, wrap64 (x9 + 1), (by first | rfl | (simp; done) | (simp [*]; done)), ⟨by rw [hx9]; unfold wrap64; omega, by omega, by omega, by rw [quoteP_take c4, hxs, ← hx9, ← hbb]; simp [quoteOne, HPL.out]⟩, ⟨(by (with_reducible repeat (first | apply Kd.R_alloc | apply Kd.R_drewN | apply Kd.R_drew)); exact HO.out)⟩, ⟨(by repeat (first | (with_reducible first | exact HB.out | apply below_alloc | apply pw_below_drewN | apply below_drew1) | exact HB.out))⟩⟩
        | false =>
          have A7 : Aside0 (orielref34_plain.f b = some false) := ⟨by rw [ref_plainF, hpl]⟩
          have HPL := Aside0.mk hpl
          have e2 : Int.tdiv b 16 = b / 16 := Int.tdiv_eq_ediv_of_nonneg hb0
          have e3 : Int.tmod b 16 = b % 16 := Int.tmod_eq_emod_of_nonneg hb0
          have HX1 := Aside0.mk (show orielref34_hex.f (Int.tdiv b 16) = some (hexd (b / 16)) by rw [e2]; exact ref_hex (by omega) (by omega))
          have HX2 := Aside0.mk (show orielref34_hex.f (Int.tmod b 16) = some (hexd (b % 16)) by rw [e3]; exact ref_hex (by omega) (by omega))
          obtain ⟨h1, hh1⟩ : ∃ h, h = hexd (b / 16) := ⟨_, rfl⟩
          obtain ⟨h2, hh2⟩ : ∃ h, h = hexd (b % 16) := ⟨_, rfl⟩
          rw [← hh1] at HX1
          rw [← hh2] at HX2
          have HH := Aside0.mk (And.intro hh1 hh2)
          have HWC := Aside0.mk (show wrap64 (Int.tdiv b 16) = Int.tdiv b 16 by rw [e2]; unfold wrap64; omega)
          clear hpl e2 e3 hh1 hh2
          have HWB := Aside0.mk (show wrap64 b = b by unfold wrap64; omega)
          try go_wp2_with (first | ((with_reducible refine gate_callee (f := 60) rfl ?_); refine goesL_ (some 16) rfl rfl Tryd.func60 (by kernel_rfl) rfl #[.int .u8 b] rfl (by (try simp only [List.map_toArray, List.map_cons, List.map_nil]); first | done | rfl | (simp only [List.length_drop, List.length_take]; rfl)) ?_; (with_reducible refine (orielref34_plain.calls b false _ A7.out).mono ?_); rintro e w' ⟨rfl, ⟨nd, rfl⟩⟩; refine ⟨_, rfl, ?_⟩))
          (try (rw [drewN_self wr]; generalize hq_ : World.drewN wr _ = wr; have n0_ : Aside0 (Kd.R (Kd.int .u8) 5 wr w.heap.size (fun _ => True) u3 xs) := ⟨by rw [← hq_]; exact (by (with_reducible repeat (first | apply Kd.R_alloc | apply Kd.R_drewN | apply Kd.R_drew)); exact HO.out)⟩; have n1_ : Aside0 (Below w.heap.size w wr) := ⟨by rw [← hq_]; exact (by repeat (first | (with_reducible first | exact HB.out | apply below_alloc | apply pw_below_drewN | apply below_drew1) | exact HB.out))⟩; clear HO HB hq_; have HO := n0_; have HB := n1_; clear n0_ n1_))
          have n0_ := Aside0.mk (Kd.R_drew HO.out)
          have n1_ := Aside0.mk (below_drew1 HB.out)
          clear HO
          clear HB
          have HO := n0_
          have HB := n1_
          clear n0_ n1_
          refine start_ (n := 18) (S := fun W => Below w.heap.size w W) (ds := []) #[false, false, false, false, false, false, false, false, false, false, false, false, false, false, false, false, false, false] (by kernel_rfl) rfl rfl HB.out (fun hHeld => ?_)
          generalize wr.drew = w20 at HO HB hHeld ⊢
          refine pure_ (i := 0) (N := (some 24)) (v := ?_) (a' := ?_) #[true, false, false, false, false, false, false, false, false, false, false, false, false, false, false, false, false, false] rfl rfl (by kernel_rfl) (fun _ _ _ h => h) (Or.inl ⟨by rfl, ?_⟩) ?_ ?_
          rotate_left
          · intro w'
            go_simp
            first | with_reducible rfl | (rw [if_neg (by omega)]; done) | (rw [if_neg (by omega)]; with_reducible rfl)
          rotate_left
          · simp only [Act.put, List.setIfInBounds_toArray, List.set_cons_zero, List.set_cons_succ, i64_w, i32_w]
            rfl
          refine pure_ (i := 1) (N := (some 25)) (v := ?_) (a' := ?_) #[true, true, false, false, false, false, false, false, false, false, false, false, false, false, false, false, false, false] rfl rfl (by kernel_rfl) (fun _ _ _ h => h) (Or.inl ⟨by rfl, ?_⟩) ?_ ?_
          rotate_left
          · intro w'
            go_simp
            first | with_reducible rfl | (rw [if_neg (by omega)]; done) | (rw [if_neg (by omega)]; with_reducible rfl)
          rotate_left
          · simp only [Act.put, List.setIfInBounds_toArray, List.set_cons_zero, List.set_cons_succ, i64_w, i32_w]
            rfl
          refine pure_ (i := 2) (N := (some 26)) (v := ?_) (a' := ?_) #[true, true, true, false, false, false, false, false, false, false, false, false, false, false, false, false, false, false] rfl rfl (by kernel_rfl) (fun _ _ _ h => h) (Or.inl ⟨by rfl, ?_⟩) ?_ ?_
          rotate_left
          · intro w'
            go_simp
            first | with_reducible rfl | (rw [if_neg (by omega)]; done) | (rw [if_neg (by omega)]; with_reducible rfl)
          rotate_left
          · simp only [Act.put, List.setIfInBounds_toArray, List.set_cons_zero, List.set_cons_succ, i64_w, i32_w]
            rfl
          refine pure_ (i := 8) (N := (some 32)) (v := ?_) (a' := ?_) #[true, true, true, false, false, false, false, false, true, false, false, false, false, false, false, false, false, false] rfl rfl (by kernel_rfl) (fun _ _ _ h => h) (Or.inl ⟨by rfl, ?_⟩) ?_ ?_
          rotate_left
          · intro w'
            go_simp
            first | with_reducible rfl | (rw [if_neg (by omega)]; done) | (rw [if_neg (by omega)]; with_reducible rfl)
          rotate_left
          · simp only [Act.put, List.setIfInBounds_toArray, List.set_cons_zero, List.set_cons_succ, i64_w, i32_w]
            rfl
          refine pure_ (i := 9) (N := (some 33)) (v := ?_) (a' := ?_) #[true, true, true, false, false, false, false, false, true, true, false, false, false, false, false, false, false, false] rfl rfl (by kernel_rfl) (fun _ _ _ h => h) (Or.inl ⟨by rfl, ?_⟩) ?_ ?_
          rotate_left
          · intro w'
            go_simp
            first | with_reducible rfl | (rw [if_neg (by omega)]; done) | (rw [if_neg (by omega)]; with_reducible rfl)
          rotate_left
          · simp only [Act.put, List.setIfInBounds_toArray, List.set_cons_zero, List.set_cons_succ, i64_w, i32_w]
            rfl
          refine take_ (i := 3) (N := (some 27)) (v := ?_) (a' := ?_) #[true, true, true, true, false, false, false, false, true, true, false, false, false, false, false, false, false, false] rfl rfl (by kernel_rfl) (fun _ _ _ h => h) (Or.inl ⟨by rfl, ?_⟩) hHeld ?_ ?_
          rotate_left
          · intro w' hS
            go_simp
            first | with_reducible rfl | (rw [if_neg (by omega)]; done) | (rw [if_neg (by omega)]; with_reducible rfl)
          rotate_left
          · simp only [Act.put, List.setIfInBounds_toArray, List.set_cons_zero, List.set_cons_succ, i64_w, i32_w]
            rfl
          refine take_ (i := 10) (N := (some 34)) (v := ?_) (a' := ?_) #[true, true, true, true, false, false, false, false, true, true, true, false, false, false, false, false, false, false] rfl rfl (by kernel_rfl) (fun _ _ _ h => h) (Or.inl ⟨by rfl, ?_⟩) hHeld ?_ ?_
          rotate_left
          · intro w' hS
            go_simp
            first | with_reducible rfl | (rw [if_neg (by omega)]; done) | (rw [if_neg (by omega)]; with_reducible rfl)
          rotate_left
          · simp only [Act.put, List.setIfInBounds_toArray, List.set_cons_zero, List.set_cons_succ, i64_w, i32_w]
            rfl
          refine take_ (i := 4) (N := (some 28)) (v := ?_) (a' := ?_) #[true, true, true, true, true, false, false, false, true, true, true, false, false, false, false, false, false, false] rfl rfl (by kernel_rfl) (fun _ _ _ h => h) (Or.inl ⟨by rfl, ?_⟩) hHeld ?_ ?_
          rotate_left
          · intro w' hS
            have c := (hS.cell (World.block_lt_of_cell? w _ HC1.out)).trans HC1.out
            go_simp
            first | with_reducible rfl | (rw [if_neg (by omega)]; done) | (rw [if_neg (by omega)]; with_reducible rfl)
          rotate_left
          · simp only [Act.put, List.setIfInBounds_toArray, List.set_cons_zero, List.set_cons_succ, i64_w, i32_w]
            rfl
          refine take_ (i := 11) (N := (some 35)) (v := ?_) (a' := ?_) #[true, true, true, true, true, false, false, false, true, true, true, true, false, false, false, false, false, false] rfl rfl (by kernel_rfl) (fun _ _ _ h => h) (Or.inl ⟨by rfl, ?_⟩) hHeld ?_ ?_
          rotate_left
          · intro w' hS
            have c := (hS.cell (World.block_lt_of_cell? w _ HC1.out)).trans HC1.out
            go_simp
            first | with_reducible rfl | (rw [if_neg (by omega)]; done) | (rw [if_neg (by omega)]; with_reducible rfl)
          rotate_left
          · simp only [Act.put, List.setIfInBounds_toArray, List.set_cons_zero, List.set_cons_succ, i64_w, i32_w]
            rfl
          refine pure_ (i := 5) (N := (some 29)) (v := ?_) (a' := ?_) #[true, true, true, true, true, true, false, false, true, true, true, true, false, false, false, false, false, false] rfl rfl (by kernel_rfl) (fun _ _ _ h => h) (Or.inl ⟨by rfl, ?_⟩) ?_ ?_
          rotate_left
          · intro w'
            go_simp
            first | with_reducible rfl | (rw [if_neg (by omega)]; done) | (rw [if_neg (by omega)]; with_reducible rfl)
          rotate_left
          · simp only [Act.put, List.setIfInBounds_toArray, List.set_cons_zero, List.set_cons_succ, i64_w, i32_w]
            rfl
          refine pure_ (i := 12) (N := (some 36)) (v := ?_) (a' := ?_) #[true, true, true, true, true, true, false, false, true, true, true, true, true, false, false, false, false, false] rfl rfl (by kernel_rfl) (fun _ _ _ h => h) (Or.inl ⟨by rfl, ?_⟩) ?_ ?_
          rotate_left
          · intro w'
            go_simp
            first | with_reducible rfl | (rw [if_neg (by omega)]; done) | (rw [if_neg (by omega)]; with_reducible rfl)
          rotate_left
          · simp only [Act.put, List.setIfInBounds_toArray, List.set_cons_zero, List.set_cons_succ, i64_w, i32_w]
            rfl
          refine take_ (i := 6) (N := (some 30)) (v := ?_) (a' := ?_) #[true, true, true, true, true, true, true, false, true, true, true, true, true, false, false, false, false, false] rfl rfl (by kernel_rfl) (fun _ _ _ h => h) (Or.inl ⟨by rfl, ?_⟩) hHeld ?_ ?_
          rotate_left
          · intro w' hS
            go_simp
            first | with_reducible rfl | (rw [if_neg (by omega)]; done) | (rw [if_neg (by omega)]; with_reducible rfl)
          rotate_left
          · simp only [Act.put, List.setIfInBounds_toArray, List.set_cons_zero, List.set_cons_succ, i64_w, i32_w]
            rfl
          refine take_ (i := 13) (N := (some 37)) (v := ?_) (a' := ?_) #[true, true, true, true, true, true, true, false, true, true, true, true, true, true, false, false, false, false] rfl rfl (by kernel_rfl) (fun _ _ _ h => h) (Or.inl ⟨by rfl, ?_⟩) hHeld ?_ ?_
          rotate_left
          · intro w' hS
            go_simp
            first | with_reducible rfl | (rw [if_neg (by omega)]; done) | (rw [if_neg (by omega)]; with_reducible rfl)
          rotate_left
          · simp only [Act.put, List.setIfInBounds_toArray, List.set_cons_zero, List.set_cons_succ, i64_w, i32_w]
            rfl
          refine one_ (i := 7) (N := (some 31)) #[true, true, true, true, true, true, true, true, true, true, true, true, true, true, false, false, false, false] rfl rfl (by kernel_rfl) (by decide) (fun K hK => ?_)
          refine call_ 61 #[.int .i64 (Int.tdiv b 16)] (by rfl) rfl (by
            have he := enters_ Tryd.func61 (by kernel_rfl) rfl #[.int .i64 (Int.tdiv b 16)] w20
            unfold execOp
            simp [resolve, Deferred.ofValue, invoke, Act.eval, he, HWB.out, HWC.out]) ?_
          refine (orielref34_hex.calls (Int.tdiv b 16) _ w20 HX1.out).mono ?_
          rintro e w21 ⟨rfl, hDr⟩
          have n0_ : Aside0 (Kd.R (Kd.int .u8) 5 w21 w.heap.size (fun _ => True) u3 xs) := ⟨by obtain ⟨nd, rfl⟩ := hDr; exact Kd.R_drewN HO.out _⟩
          have n1_ : Aside0 (Below w.heap.size w w21) := ⟨by obtain ⟨nd, rfl⟩ := hDr; exact pw_below_drewN HB.out _⟩
          clear HO HB hDr
          have HO := n0_
          have HB := n1_
          clear n0_ n1_
          refine ⟨_, rfl, hK.out _ _ HB.out (fun hHeld => ?_)⟩
          clear hK K
          refine norm_ (a' := ?_) ?_ ?_
          rotate_left
          · show Act.put _ (some 31) _ = _
            simp only [Act.put, List.setIfInBounds_toArray, List.set_cons_zero, List.set_cons_succ, i64_w, i32_w]
            rfl
          refine one_ (i := 14) (N := (some 38)) #[true, true, true, true, true, true, true, true, true, true, true, true, true, true, true, false, false, false] rfl rfl (by kernel_rfl) (by decide) (fun K hK => ?_)
          refine call_ 61 #[.int .i64 (Int.tmod b 16)] (by rfl) rfl (by
            have he := enters_ Tryd.func61 (by kernel_rfl) rfl #[.int .i64 (Int.tmod b 16)] w21
            unfold execOp
            simp [resolve, Deferred.ofValue, invoke, Act.eval, he, HWB.out, HWC.out]) ?_
          refine (orielref34_hex.calls (Int.tmod b 16) _ w21 HX2.out).mono ?_
          rintro e w22 ⟨rfl, hDr⟩
          have n0_ : Aside0 (Kd.R (Kd.int .u8) 5 w22 w.heap.size (fun _ => True) u3 xs) := ⟨by obtain ⟨nd, rfl⟩ := hDr; exact Kd.R_drewN HO.out _⟩
          have n1_ : Aside0 (Below w.heap.size w w22) := ⟨by obtain ⟨nd, rfl⟩ := hDr; exact pw_below_drewN HB.out _⟩
          clear HO HB hDr
          have HO := n0_
          have HB := n1_
          clear n0_ n1_
          refine ⟨_, rfl, hK.out _ _ HB.out (fun hHeld => ?_)⟩
          clear hK K
          refine norm_ (a' := ?_) ?_ ?_
          rotate_left
          · show Act.put _ (some 38) _ = _
            simp only [Act.put, List.setIfInBounds_toArray, List.set_cons_zero, List.set_cons_succ, i64_w, i32_w]
            rfl
          refine one_ (i := 15) (N := (some 39)) #[true, true, true, true, true, true, true, true, true, true, true, true, true, true, true, true, false, false] rfl rfl (by kernel_rfl) (by decide) (fun K hK => ?_)
          refine Kd.R_lit_step (Kd.int .u8) _ 5 ?hg (N := 39) ?hd (xs := ([92, h1, h2] : List Int)) (inner := [.int .u8 92, .int .u8 h1, .int .u8 h2]) (ok := fun _ => True) (okp := fun _ => True) ?hr ?hp (fun _ hk => hk) trivial (Below.refl _ _) (Nat.le_refl _) (by simp) ?_; (case hd => rfl); (case hg => rfl); (case hr => first | (go_simp; done) | (go_simp; rfl)); (case hp => exact (Reps.one (show Kd.M (Kd.int .u8) _ _ _ 92 [.int .u8 92] from rfl) (Reps.one (show Kd.M (Kd.int .u8) _ _ _ h1 [.int .u8 h1] from rfl) (Reps.one (show Kd.M (Kd.int .u8) _ _ _ h2 [.int .u8 h2] from rfl) (Reps.none _ _)))))
          intro v162 w23 ho22 hb hg_ hnew_
          clear hg_ hnew_
          obtain ⟨y161, hy161⟩ : ∃ y_ : List Int, y_ = ([92, h1, h2] : List Int) := ⟨_, rfl⟩
          have Ny161 := Aside0.mk hy161
          have y161l : y161.length = 3 := by rw [hy161]; rfl
          clear hy161
          (first | rw [← Ny161.out] at ho22 | (simp only [Int.reduceToNat] at ho22; rw [← Ny161.out] at ho22))
          have n0_ := Aside0.mk (Kd.R_elder' HO.out (Kd.R_base ho22) hb)
          have n1_ := Aside0.mk (Kd.R_lower (Kd.R_new' ho22 (Kd.R_lt HO.out)) (below_size HB.out))
          have n2_ := Aside0.mk (below_step HB.out hb)
          clear HO HB
          have HO := n0_
          have HO163 := n1_
          have HB := n2_
          clear n0_ n1_ n2_
          clear hb ho22
          obtain ⟨Ao24, co24, eo24⟩ := Kd.R_slice HO163.out
          (first | subst eo24 | (injection eo24 with f1_ f2_ f3_; have f4_ := f1_.symm; have f5_ := f3_.symm; clear f1_ f2_ f3_; subst f4_; subst f5_))
          refine hK.out _ _ HB.out (fun hHeld => ?_)
          clear hK K
          refine norm_ (a' := ?_) ?_ ?_
          rotate_left
          · show Act.put _ (some 39) _ = _
            simp only [Act.put, List.setIfInBounds_toArray, List.set_cons_zero, List.set_cons_succ, i64_w, i32_w]
            rfl
          refine one_ (i := 16) (N := (some 40)) #[true, true, true, true, true, true, true, true, true, true, true, true, true, true, true, true, true, false] rfl rfl (by kernel_rfl) (by decide) (fun K hK => ?_)
          refine Kd.R_append_rows_step (Kd.int .u8) (w0 := w) w.heap.size (by rfl) (.tmp 24) (.tmp 39) 50 5 (.int .u8 0) 1 rfl Tryd.underlying50 info5 rfl (by decide) (by omega) u3 xs y161 _ _ _ (fun k_ => some k_ ≠ (.slice Ao24 y161.length co24 : Value).ownBlock) (fun _ => False) rfl rfl ?aO ?aR (fun _ _ h => h) (fun _ h => h.elim) ?aF ?aB ?aS ?aL ?_
          (case aR => exact (Kd.R_reads' HO163.out).2.2)
          (case aB => exact HB.out)
          (case aF => exact (fun k_ hk => Kd.fresh' (Kd.R_lt HO163.out) k_ hk))
          (case aO => exact Kd.R_mono HO.out (fun _ hk => hk.2))
          (case aS => exact (below_size HB.out))
          (case aL => have := LM.out; omega)
          intro v165 w24 ho hb hg hat
          have n1_ := Aside0.mk (hb)
          have n2_ := Aside0.mk (ho)
          clear HO163 HB HO
          have HB := n1_
          have HO := n2_
          clear n1_ n2_
          clear ho hb hg hat
          refine hK.out _ _ HB.out (fun hHeld => ?_)
          clear hK K
          refine norm_ (a' := ?_) ?_ ?_
          rotate_left
          · show Act.put _ (some 40) _ = _
            simp only [Act.put, List.setIfInBounds_toArray, List.set_cons_zero, List.set_cons_succ, i64_w, i32_w]
            rfl
          refine pure_ (i := 17) (N := (some 3)) (v := ?_) (a' := ?_) #[true, true, true, true, true, true, true, true, true, true, true, true, true, true, true, true, true, true] rfl rfl (by kernel_rfl) (fun _ _ _ h => h) (Or.inl ⟨by rfl, ?_⟩) ?_ ?_
          rotate_left
          · intro w'
            go_simp
            first | with_reducible rfl | (rw [if_neg (by omega)]; done) | (rw [if_neg (by omega)]; with_reducible rfl)
          rotate_left
          · simp only [Act.put, List.setIfInBounds_toArray, List.set_cons_zero, List.set_cons_succ, i64_w, i32_w]
            rfl
          refine done_ (by kernel_rfl) ?_
          try go_wp2
          go_roundg k1
          case measure => have := HX.out.2.1; omega
          case rel =>
            obtain ⟨hx9, hik, hil, hxs, c4, hbb⟩ := HX.out
            have hl2 := HL0.out
            exact ⟨xs ++ y161, i + 1, wrap64 (x9 + 1), (by first | rfl | (simp; done) | (simp [*]; done)), ⟨by rw [hx9]; unfold wrap64; omega, by omega, by omega, by rw [quoteP_take c4, hxs, ← hx9, ← hbb, Ny161.out, HH.out.1, HH.out.2]; simp [quoteOne, HPL.out]⟩, ⟨by (with_reducible repeat (first | apply Kd.R_alloc | apply Kd.R_drewN | apply Kd.R_drew)); exact Kd.R_mono HO.out (fun _ hk => trivial)⟩, ⟨(by repeat (first | (with_reducible first | exact HB.out | apply below_alloc | apply pw_below_drewN | apply below_drew1) | exact HB.out))⟩⟩
      · have c4b0 : decide (x9 < (l.length : Int)) = false := decide_eq_false (by omega)
        have HX := Aside0.mk (And.intro hil (And.intro hxs c4))
        clear hx9 hik hil hxs c4
        go_wp2_with (first | ((with_reducible refine gate_builtin (b := .append) (xs := #[.tmp 41, .tmp 42]) rfl ?_); at_builtin; refine Kd.R_append (Kd.int .u8) (w0 := w) w.heap.size rfl (.tmp 41) (.tmp 42) 50 5 (.int .u8 0) 1 rfl Tryd.underlying50 info5 rfl (by decide) (by omega) u3 xs 34 [.int .u8 34] (fun _ => True) (fun _ => False) rfl rfl ?aP (fun _ hk => hk.elim) ?aF ?aO ?aB ?aS ?aL ?_; (case aP => exact rfl); (case aB => exact (by repeat (first | (with_reducible first | exact HB.out | apply below_alloc | apply pw_below_drewN | apply below_drew1) | exact HB.out))); (case aF => exact (fun _ _ => trivial)); (case aO => exact (by (with_reducible repeat (first | apply Kd.R_alloc | apply Kd.R_drewN | apply Kd.R_drew)); exact HO.out)); (case aS => exact (below_size (by repeat (first | (with_reducible first | exact HB.out | apply below_alloc | apply pw_below_drewN | apply below_drew1) | exact HB.out)))); (case aL => have := LM.out; omega); intro vA wA ho hb hg hat; have n0_ := Aside0.mk (hb); have n1_ := Aside0.mk (ho); clear HB; clear HO; have HB := n0_; have HO := n1_; clear n0_ n1_; clear ho hb hg hat; have hcv27 := own_string (P := Tryd.prog) Tryd.underlying50 Tryd.underlying5 Tryd.underlying9 (Kd.own_of_R HO.out)))
        go_ret
        obtain ⟨hil, hxs, c4⟩ := HX.out
        have hil2 : i = l.length := by omega
        refine ⟨?_, (by repeat (first | (with_reducible first | exact HB.out | apply below_alloc | apply pw_below_drewN | apply below_drew1) | exact HB.out))⟩
        rw [hxs, hil2, List.take_length]
        rfl
end Go.Proofs.YtjpkphmihkbfeaaDoor.S34
