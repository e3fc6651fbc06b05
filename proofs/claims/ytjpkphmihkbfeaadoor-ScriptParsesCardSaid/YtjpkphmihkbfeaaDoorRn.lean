/- The methods num, one and text of the reference's line, by contracts: the line is in a block of its own. -/
import Derived.Test.YtjpkphmihkbfeaaDoorRq
namespace Go.Proofs.YtjpkphmihkbfeaaDoor.S34
open Go.RowKit Go.Proofs.YtjpkphmihkbfeaaDoorW.PrintWords Go.Proofs.YtjpkphmihkbfeaaDoorW.PrintLast Go.Proofs.YtjpkphmihkbfeaaDoorW.PrintMore Go.Proofs.YtjpkphmihkbfeaaDoor.Q
set_option maxRecDepth 100000
set_option linter.unusedSimpArgs false
/-- Block g is a line of the words ps and the code c; its words lie neither there nor in block h. -/
def LineAt (g h : Nat) (ps : List ByteArray) (c : Int) (W : World) : Prop :=
  ∃ (b o cap : Nat), W.heap[g]? = some (.cells #[.slice (some ⟨b, o, none⟩) ps.length cap, .int .i64 c] 101 (0, 0)) ∧ b ≠ g ∧ b ≠ h ∧ b < W.heap.size ∧ ∀ i (hi : i < ps.length), W.cell? ⟨b, o + i, none⟩ = some (.string ps[i])
theorem cell_same {W W1 : World} {b o : Nat} (h : W1.heap[b]? = W.heap[b]?) : W1.cell? ⟨b, o, none⟩ = W.cell? ⟨b, o, none⟩ := by
  unfold World.cell?
  rw [h]
theorem LineAt.below {g h : Nat} {ps : List ByteArray} {c : Int} {W W1 : World} (H : LineAt g h ps c W) (k : Below W.heap.size W W1) : LineAt g h ps c W1 := by
  obtain ⟨b, o, cap, h1, h2, h3, h4, h5⟩ := H
  exact ⟨b, o, cap, blk_below h1 k, h2, h3, Nat.lt_of_lt_of_le h4 k.size, fun i hi => by rw [cell_same (k.block b h4)]; exact h5 i hi⟩
theorem set_size (W : World) (p : Addr) (u : Value) : (W.setCell p u).heap.size = W.heap.size := by simp [World.setCell]
theorem LineAt.set_h {g h : Nat} {ps : List ByteArray} {c : Int} {W : World} (H : LineAt g h ps c W) (hg : g ≠ h) (j : Nat) (u : Value) : LineAt g h ps c (W.setCell ⟨h, j, none⟩ u) := by
  obtain ⟨b, o, cap, h1, h2, h3, h4, h5⟩ := H
  refine ⟨b, o, cap, ?_, h2, h3, by rw [set_size]; exact h4, fun i hi => ?_⟩
  · rw [Below.heap_setCell W ⟨h, j, none⟩ u g hg]; exact h1
  · rw [cell_same (Below.heap_setCell W ⟨h, j, none⟩ u b h3)]; exact h5 i hi
theorem LineAt.code {g h : Nat} {ps : List ByteArray} {c : Int} {W : World} (H : LineAt g h ps c W) (c' : Int) : LineAt g h ps c' (W.setCell ⟨g, 1, none⟩ (.int .i64 c')) := by
  obtain ⟨b, o, cap, h1, h2, h3, h4, h5⟩ := H
  refine ⟨b, o, cap, ?_, h2, h3, by rw [set_size]; exact h4, fun i hi => ?_⟩
  · rw [blk_set h1]; rfl
  · rw [cell_same (Below.heap_setCell W ⟨g, 1, none⟩ _ b h2)]; exact h5 i hi
def RnumRes (g h : Nat) (ps : List ByteArray) (c : Int) (p : ByteArray) (kd : Int) (w : World) (e : Ending) (w' : World) : Prop :=
  ∃ r : Int × Bool, e = .returned (.int .i64 r.1) ∧ NumRef p kd r ∧ LineAt g h ps (codeUp c (!r.2) 3) w' ∧ KeepBut w w' g none ∧ Below g w w'
set_option maxHeartbeats 4000000 in
theorem rnum_any (g h : Nat) (ps : List ByteArray) (c : Int) (i : Nat) (x low high : Int) (hx : x = i) (hi : i < ps.length) (kd : Int) (hk : boundsP kd = (low, high)) (w : World) (hL : LineAt g h ps c w) :
    Calls Tryd.prog 50 #[.pointer (some ⟨g, 0, none⟩), .int .i64 x, .int .i64 low, .int .i64 high] w (RnumRes g h ps c ps[i] kd w) := by
  subst hx
  obtain ⟨r, hr, hN⟩ := numeral_ref ps[i] kd 60 (Nat.le_refl _)
  rw [hk] at hr
  have HR := Aside0.mk hr
  have HN := Aside0.mk hN
  have HL := Aside0.mk hL
  obtain ⟨b, o, cap, h1, h2, h3, h4, h5⟩ := hL
  have HGL := Aside0.mk (Nat.le_of_lt (blk_lt h1))
  have c0 : w.cell? ⟨g, 0, none⟩ = some (.slice (some ⟨b, o, none⟩) ps.length cap) := by rw [blk_cell h1]; rfl
  have c5 := h5 i hi
  obtain ⟨p, hp⟩ : ∃ p, p = ps[i] := ⟨_, rfl⟩
  rw [← hp] at c5 HR HN ⊢
  have i0 : (0 : Int) ≤ (i : Int) := by omega
  have i1 : (i : Int) < (ps.length : Int) := by omega
  clear hr hN h1 h2 h3 h4 h5 hi hk hp
  obtain ⟨v, ok⟩ := r
  go_enter Tryd.func50, Tryd.ntmps50
  go_wp2_with fail
  refine (orielref34_numeral.calls 60 p low high v ok w HR.out).mono ?_
  rintro e w1 ⟨rfl, hB⟩
  have HB := Aside0.mk hB
  have HL1 := Aside0.mk (HL.out.below hB)
  clear hB c0 c5 HL HR
  cases ok with
  | true =>
    go_wp2
    go_ret
    exact ⟨(v, true), rfl, HN.out, HL1.out, KeepBut.of_below HB.out _ _, HB.out.mono HGL.out⟩
  | false =>
    obtain ⟨b', o', cap', h1, -, -, -, -⟩ := HL1.out
    have d1 : w1.cell? ⟨g, 1, none⟩ = some (.int .i64 c) := by rw [blk_cell h1]; rfl
    have f1 := blk_frozen h1 1
    clear h1
    cases hc : (c == 0) with
    | true =>
      have HC := Aside0.mk hc
      go_wp2
      go_ret
      refine ⟨(v, false), rfl, HN.out, ?_, (KeepBut.of_below HB.out _ _).set_ 1 _, (HB.out.mono HGL.out).setCell (p := ⟨g, 1, none⟩) (Nat.le_refl _) _⟩
      have : codeUp c (!false) 3 = 3 := by unfold codeUp; rw [if_pos (show (!false) = true from rfl), if_pos (beq_iff_eq.1 HC.out)]
      rw [this]
      exact HL1.out.code 3
    | false =>
      have HC := Aside0.mk hc
      go_wp2
      go_ret
      refine ⟨(v, false), rfl, HN.out, ?_, KeepBut.of_below HB.out _ _, HB.out.mono HGL.out⟩
      have : codeUp c (!false) 3 = c := by unfold codeUp; rw [if_pos (show (!false) = true from rfl), if_neg (beq_eq_false_iff_ne.1 HC.out)]
      rw [this]
      exact HL1.out
def RoneRes (g h : Nat) (ps : List ByteArray) (c : Int) (p z o : ByteArray) (w : World) (e : Ending) (w' : World) : Prop :=
  e = .returned (.int .i64 (choiceV p z o)) ∧ LineAt g h ps (codeUp c (isBad (choiceP p z o)) 2) w' ∧ KeepBut w w' g none ∧ Below g w w'
set_option maxHeartbeats 4000000 in
theorem rone_any (g h : Nat) (ps : List ByteArray) (c : Int) (i : Nat) (x : Int) (hx : x = i) (hi : i < ps.length) (z o : ByteArray) (hzo : z.toList ≠ o.toList) (w : World) (hL : LineAt g h ps c w) :
    Calls Tryd.prog 51 #[.pointer (some ⟨g, 0, none⟩), .int .i64 x, .string z, .string o] w (RoneRes g h ps c ps[i] z o w) := by
  subst hx
  have HL := Aside0.mk hL
  obtain ⟨b, off, cap, h1, h2, h3, h4, h5⟩ := hL
  have c0 : w.cell? ⟨g, 0, none⟩ = some (.slice (some ⟨b, off, none⟩) ps.length cap) := by rw [blk_cell h1]; rfl
  have c1 : w.cell? ⟨g, 1, none⟩ = some (.int .i64 c) := by rw [blk_cell h1]; rfl
  have f1 := blk_frozen h1 1
  have c5 := h5 i hi
  have n1 : b ≠ g := h2
  obtain ⟨p, hp⟩ : ∃ p, p = ps[i] := ⟨_, rfl⟩
  rw [← hp] at c5 ⊢
  have i0 : (0 : Int) ≤ (i : Int) := by omega
  have i1 : (i : Int) < (ps.length : Int) := by omega
  clear h1 h2 h3 h4 h5 hi hp
  by_cases e1 : p.toList = z.toList
  · have HR : choiceP p z o = .ok 0 := by unfold choiceP; rw [if_pos e1]
    have q1 : (p.toList == z.toList) = true := beq_iff_eq.2 e1
    have q2 : (p.toList != z.toList) = false := by simp [e1]
    have q3 : (p.toList == o.toList) = false := beq_eq_false_iff_ne.2 (fun h => hzo (e1.symm.trans h))
    have HRR := Aside0.mk HR
    clear HR e1 hzo
    go_enter Tryd.func51, Tryd.ntmps51
    go_wp2
    go_ret
    unfold RoneRes choiceV isBad
    rw [HRR.out]
    exact ⟨rfl, HL.out, KeepBut.refl _ _ _, Below.refl _ _⟩
  · by_cases e2 : p.toList = o.toList
    · have HR : choiceP p z o = .ok 1 := by unfold choiceP; rw [if_neg e1, if_pos e2]
      have q1 : (p.toList == z.toList) = false := beq_eq_false_iff_ne.2 e1
      have q2 : (p.toList != z.toList) = true := by simp [e1]
      have q3 : (p.toList == o.toList) = true := beq_iff_eq.2 e2
      have q4 : (p.toList != o.toList) = false := by simp [e2]
      have HRR := Aside0.mk HR
      clear HR e1 e2 hzo
      go_enter Tryd.func51, Tryd.ntmps51
      go_wp2
      go_ret
      unfold RoneRes choiceV isBad
      rw [HRR.out]
      exact ⟨rfl, HL.out, KeepBut.refl _ _ _, Below.refl _ _⟩
    · have HR : choiceP p z o = .error .word := by unfold choiceP; rw [if_neg e1, if_neg e2]
      have q1 : (p.toList == z.toList) = false := beq_eq_false_iff_ne.2 e1
      have q2 : (p.toList != z.toList) = true := by simp [e1]
      have q3 : (p.toList == o.toList) = false := beq_eq_false_iff_ne.2 e2
      have q4 : (p.toList != o.toList) = true := by simp [e2]
      have HRR := Aside0.mk HR
      have n2 : ¬ g = b := fun e => n1 e.symm
      clear HR e1 e2 hzo
      cases hc : (c == 0) with
      | true =>
        have HC := Aside0.mk hc
        have d0 : (w.setCell ⟨g, 1, none⟩ (.int .i64 2)).cell? ⟨g, 0, none⟩ = some (.slice (some ⟨b, off, none⟩) ps.length cap) := by
          obtain ⟨b', o', cap', k1, -, -, -, -⟩ := HL.out
          have e0 : w.cell? ⟨g, 0, none⟩ = some (.slice (some ⟨b', o', none⟩) ps.length cap') := by rw [blk_cell k1]; rfl
          rw [e0] at c0
          rw [blk_cell (blk_set k1 (u := .int .i64 2) (i := 1))]
          exact c0
        have d5 : (w.setCell ⟨g, 1, none⟩ (.int .i64 2)).cell? ⟨b, off + i, none⟩ = some (.string p) := by
          rw [cell_same (Below.heap_setCell w ⟨g, 1, none⟩ _ b n1)]; exact c5
        go_enter Tryd.func51, Tryd.ntmps51
        go_wp2
        go_ret
        unfold RoneRes choiceV isBad
        rw [HRR.out]
        refine ⟨rfl, ?_, (KeepBut.refl _ _ _).set_ 1 _, (Below.refl _ _).setCell (p := ⟨g, 1, none⟩) (Nat.le_refl _) _⟩
        have : codeUp c true 2 = 2 := by unfold codeUp; rw [if_pos (show true = true from rfl), if_pos (beq_iff_eq.1 HC.out)]
        dsimp only
        rw [this]
        exact HL.out.code 2
      | false =>
        have HC := Aside0.mk hc
        go_enter Tryd.func51, Tryd.ntmps51
        go_wp2
        go_ret
        unfold RoneRes choiceV isBad
        rw [HRR.out]
        refine ⟨rfl, ?_, KeepBut.refl _ _ _, Below.refl _ _⟩
        have : codeUp c true 2 = c := by unfold codeUp; rw [if_pos (show true = true from rfl), if_neg (beq_eq_false_iff_ne.1 HC.out)]
        dsimp only
        rw [this]
        exact HL.out
def RtextRes (g h : Nat) (ps : List ByteArray) (c : Int) (p : ByteArray) (low high : Int) (w : World) (e : Ending) (w' : World) : Prop :=
  ∃ (v : Value) (xs : List Int), e = .returned v ∧ (∀ u, textP p low high = .ok u → xs = u.f1) ∧ Kd.R (Kd.int .u8) 5 w' w.heap.size (fun k => k ≠ g) v xs ∧ LineAt g h ps (codeUp c (textBits p low high) 4) w' ∧ KeepBut w w' g none ∧ Below g w w'
set_option maxHeartbeats 4000000 in
theorem rtext_any (g h : Nat) (ps : List ByteArray) (c : Int) (i : Nat) (x low high : Int) (hx : x = i) (hi : i < ps.length) (hs : ps[i].size ≤ 1000000) (w : World) (hL : LineAt g h ps c w) :
    Calls Tryd.prog 52 #[.pointer (some ⟨g, 0, none⟩), .int .i64 x, .int .i64 low, .int .i64 high] w (RtextRes g h ps c ps[i] low high w) := by
  subst hx
  obtain ⟨r, hr, hU⟩ := unquoted_ref ps[i] hs (3 * ps[i].size + 50) (Nat.le_refl _)
  have HR := Aside0.mk hr
  have HU := Aside0.mk hU
  have HL := Aside0.mk hL
  obtain ⟨b, o, cap, h1, h2, h3, h4, h5⟩ := hL
  have c0 : w.cell? ⟨g, 0, none⟩ = some (.slice (some ⟨b, o, none⟩) ps.length cap) := by rw [blk_cell h1]; rfl
  have HGL := Aside0.mk (Nat.le_of_lt (blk_lt h1))
  have HGT := Aside0.mk (blk_lt h1)
  have c5 := h5 i hi
  have HSZ := Aside0.mk hs
  obtain ⟨p, hp⟩ : ∃ p, p = ps[i] := ⟨_, rfl⟩
  rw [← hp] at c5 HR HU HSZ ⊢
  have i0 : (0 : Int) ≤ (i : Int) := by omega
  have i1 : (i : Int) < (ps.length : Int) := by omega
  clear hr hU h1 h2 h3 h4 h5 hi hs hp
  obtain ⟨xs, ok⟩ := r
  have HX := Aside0.mk (show ∀ u, textP p low high = .ok u → xs = u.f1 from fun u hu => by
    have hU := HU.out
    unfold textP at hu
    unfold UnqRef at hU
    split at hu
    · cases hu
    · rename_i htb
      split at hu
      · cases hu
      · rename_i l hl
        split at hU
        · rw [hl] at hU
          have := hU.2
          injection this with this
          split at hu
          · cases hu
          · split at hu
            · cases hu
            · injection hu with hu
              rw [← hu, this]
        · rcases hU with h | h
          · exact absurd h htb
          · rw [hl] at h; cases h)
  go_enter Tryd.func52, Tryd.ntmps52
  go_wp2_with fail
  refine (orielref34_unquoted.calls _ p xs ok w HR.out).mono ?_
  rintro e w1 ⟨v, rfl, hV, hB⟩
  have hV' : Kd.R (Kd.int .u8) 5 w1 w.heap.size (fun k => k ≠ g) v xs := Kd.R_mono (Kd.R_bound hV) (fun k hk => by have := hk.2.1; have := HGT.out; omega)
  obtain ⟨A, cc, rfl⟩ := Kd.R_slice hV'
  have HV := Aside0.mk hV'
  have HB := Aside0.mk hB
  have HL1 := Aside0.mk (HL.out.below hB)
  clear hB c0 c5 HL HR hV hV'
  obtain ⟨b', o', cap', h1, -, -, -, -⟩ := HL1.out
  have d1 : w1.cell? ⟨g, 1, none⟩ = some (.int .i64 c) := by rw [blk_cell h1]; rfl
  have f1 := blk_frozen h1 1
  clear h1
  have key : ∀ bad, textBits p low high = bad → (bad = true → (c == 0) = true → codeUp c bad 4 = 4) ∧ (bad = true → (c == 0) = false → codeUp c bad 4 = c) ∧ (bad = false → codeUp c bad 4 = c) := by
    intro bad _
    unfold codeUp
    refine ⟨fun h1 h2 => ?_, fun h1 h2 => ?_, fun h1 => ?_⟩
    · rw [if_pos h1, if_pos (beq_iff_eq.1 h2)]
    · rw [if_pos h1, if_neg (beq_eq_false_iff_ne.1 h2)]
    · rw [h1]; rfl
  have HK := Aside0.mk key
  clear key
  cases ok with
  | false =>
    have hb : textBits p low high = true := by
      have hU := HU.out
      unfold UnqRef at hU
      simp only [Bool.false_eq_true, if_false] at hU
      unfold textBits
      rw [textP_bad hU]
    have HBT := Aside0.mk hb
    clear hb
    cases hc : (c == 0) with
    | true =>
      have HC := Aside0.mk hc
      go_wp2
      go_ret
      refine ⟨_, xs, rfl, HX.out, Kd.R_far HV.out (p := ⟨g, 1, none⟩) (fun k hk => hk) _, ?_, (KeepBut.of_below HB.out _ _).set_ 1 _, (HB.out.mono HGL.out).setCell (p := ⟨g, 1, none⟩) (Nat.le_refl _) _⟩
      rw [HBT.out, (HK.out true HBT.out).1 rfl HC.out]
      exact HL1.out.code 4
    | false =>
      have HC := Aside0.mk hc
      go_wp2
      go_ret
      refine ⟨_, xs, rfl, HX.out, HV.out, ?_, KeepBut.of_below HB.out _ _, HB.out.mono HGL.out⟩
      rw [HBT.out, (HK.out true HBT.out).2.1 rfl HC.out]
      exact HL1.out
  | true =>
    have hT : textP p low high = if (xs.length : Int) < low then .error .text else if (xs.length : Int) > high then .error .text else .ok ⟨0, xs⟩ := by
      have hU := HU.out
      unfold UnqRef at hU
      simp only [if_true] at hU
      unfold textP
      rw [hU.1, hU.2]
      rfl
    by_cases l1 : (xs.length : Int) < low
    · have hb : textBits p low high = true := by unfold textBits; rw [hT, if_pos l1]
      have e1 : decide ((xs.length : Int) < low) = true := decide_eq_true l1
      have HBT := Aside0.mk hb
      clear hb hT l1
      cases hc : (c == 0) with
      | true =>
        have HC := Aside0.mk hc
        go_wp2
        go_ret
        refine ⟨_, xs, rfl, HX.out, Kd.R_far HV.out (p := ⟨g, 1, none⟩) (fun k hk => hk) _, ?_, (KeepBut.of_below HB.out _ _).set_ 1 _, (HB.out.mono HGL.out).setCell (p := ⟨g, 1, none⟩) (Nat.le_refl _) _⟩
        rw [HBT.out, (HK.out true HBT.out).1 rfl HC.out]
        exact HL1.out.code 4
      | false =>
        have HC := Aside0.mk hc
        go_wp2
        go_ret
        refine ⟨_, xs, rfl, HX.out, HV.out, ?_, KeepBut.of_below HB.out _ _, HB.out.mono HGL.out⟩
        rw [HBT.out, (HK.out true HBT.out).2.1 rfl HC.out]
        exact HL1.out
    · have e1 : decide ((xs.length : Int) < low) = false := decide_eq_false l1
      by_cases l2 : (xs.length : Int) > high
      · have hb : textBits p low high = true := by unfold textBits; rw [hT, if_neg l1, if_pos l2]
        have e2 : decide (high < (xs.length : Int)) = true := decide_eq_true l2
        have HBT := Aside0.mk hb
        clear hb hT l1 l2
        cases hc : (c == 0) with
        | true =>
          have HC := Aside0.mk hc
          go_wp2
          go_ret
          refine ⟨_, xs, rfl, HX.out, Kd.R_far HV.out (p := ⟨g, 1, none⟩) (fun k hk => hk) _, ?_, (KeepBut.of_below HB.out _ _).set_ 1 _, (HB.out.mono HGL.out).setCell (p := ⟨g, 1, none⟩) (Nat.le_refl _) _⟩
          rw [HBT.out, (HK.out true HBT.out).1 rfl HC.out]
          exact HL1.out.code 4
        | false =>
          have HC := Aside0.mk hc
          go_wp2
          go_ret
          refine ⟨_, xs, rfl, HX.out, HV.out, ?_, KeepBut.of_below HB.out _ _, HB.out.mono HGL.out⟩
          rw [HBT.out, (HK.out true HBT.out).2.1 rfl HC.out]
          exact HL1.out
      · have hb : textBits p low high = false := by unfold textBits; rw [hT, if_neg l1, if_neg l2]
        have e2 : decide (high < (xs.length : Int)) = false := decide_eq_false l2
        have HBT := Aside0.mk hb
        clear hb hT l1 l2
        go_wp2
        go_ret
        refine ⟨_, xs, rfl, HX.out, HV.out, ?_, KeepBut.of_below HB.out _ _, HB.out.mono HGL.out⟩
        rw [HBT.out, (HK.out false HBT.out).2.2 rfl]
        exact HL1.out
theorem cells10 {W : World} {b t : Nat} {a0 a1 a2 a3 a4 a5 a6 a7 a8 a9 : Value} (h : W.heap[b]? = some (.cells #[a0, a1, a2, a3, a4, a5, a6, a7, a8, a9] t (0, 0))) :
    W.cell? ⟨b, 0, none⟩ = some a0 ∧ W.cell? ⟨b, 1, none⟩ = some a1 ∧ W.cell? ⟨b, 2, none⟩ = some a2 ∧ W.cell? ⟨b, 3, none⟩ = some a3 ∧ W.cell? ⟨b, 4, none⟩ = some a4 ∧ W.cell? ⟨b, 5, none⟩ = some a5 ∧ W.cell? ⟨b, 6, none⟩ = some a6 ∧ W.cell? ⟨b, 7, none⟩ = some a7 ∧ W.cell? ⟨b, 8, none⟩ = some a8 ∧ W.cell? ⟨b, 9, none⟩ = some a9 := by
  refine ⟨?_, ?_, ?_, ?_, ?_, ?_, ?_, ?_, ?_, ?_⟩ <;> (rw [blk_cell h]; rfl)
/-- A line, an event that is filled, and the result's cell, in a walk of the reference's Line. -/
structure RSt (w : World) (g h : Nat) (ps : List ByteArray) (c : Int) (cs : Array Value) (W : World) : Prop where
  line : LineAt g h ps c W
  ev : W.heap[h]? = some (.cells cs 54 (0, 0))
  zero : W.heap[w.heap.size]? = some (.cells #[.int .i64 0, .int .i64 0, .int .i64 0, .int .i64 0, .int .i64 0, .int .i64 0, .slice none 0 0, .int .i64 0, .int .i64 0, .slice none 0 0] 54 (0, 0))
  below : Below w.heap.size w W
  lt1 : w.heap.size < g
  lt2 : g < h
theorem RSt.step {w : World} {g h : Nat} {ps : List ByteArray} {c c' : Int} {cs : Array Value} {W W' : World} (H : RSt w g h ps c cs W) (hL : LineAt g h ps c' W') (hK : KeepBut W W' g none ∧ Below g W W') : RSt w g h ps c' cs W' :=
  ⟨hL, hK.1.blk H.ev (by have := H.lt2; omega) (by simp), hK.1.blk H.zero (by have := H.lt1; omega) (by simp), H.below.trans (hK.2.mono (Nat.le_of_lt H.lt1)), H.lt1, H.lt2⟩
theorem RSt.put {w : World} {g h : Nat} {ps : List ByteArray} {c : Int} {cs : Array Value} {W : World} (H : RSt w g h ps c cs W) (j : Nat) (u : Value) : RSt w g h ps c (cs.setIfInBounds j u) (W.setCell ⟨h, j, none⟩ u) :=
  ⟨H.line.set_h (by have := H.lt2; omega) j u, blk_set H.ev j u, by rw [Below.heap_setCell W ⟨h, j, none⟩ u w.heap.size (by have := H.lt1; have := H.lt2; show w.heap.size ≠ h; omega)]; exact H.zero,
    H.below.setCell (p := ⟨h, j, none⟩) (by have := H.lt1; have := H.lt2; show w.heap.size ≤ h; omega) u, H.lt1, H.lt2⟩
theorem RSt.code {w : World} {g h : Nat} {ps : List ByteArray} {c : Int} {cs : Array Value} {W : World} (H : RSt w g h ps c cs W) : W.cell? ⟨g, 1, none⟩ = some (.int .i64 c) := by
  obtain ⟨b, o, cap, h1, -⟩ := H.line
  rw [blk_cell h1]; rfl
end Go.Proofs.YtjpkphmihkbfeaaDoor.S34
