/- ScriptFirst walked. -/
import Derived.Test.YtjpkphmihkbfeaaDoorRf
import Derived.Test.YtjpkphmihkbfeaaDoorG4
namespace Go.Proofs.YtjpkphmihkbfeaaDoor.S34
open Go.RowKit Go.Proofs.YtjpkphmihkbfeaaDoorW.PrintWords Go.Proofs.YtjpkphmihkbfeaaDoorW.PrintLast Go.Proofs.YtjpkphmihkbfeaaDoorW.PrintMore Go.Proofs.YtjpkphmihkbfeaaDoor.Q
set_option maxRecDepth 100000
set_option linter.unusedSimpArgs false
theorem last10 {s : ByteArray} (h0 : 0 < s.size) (h : bt s ((s.size : Int) - 1) = 10) : s.data.toList.getLast? = some 10 := by
  have hl : s.data.toList.length = s.size := Array.length_toList
  have hb := bt_at s ((s.size : Int) - 1) (by omega)
  rw [h] at hb
  rw [List.getLast?_eq_getElem?, List.getElem?_eq_getElem (by omega)]
  congr 1
  apply UInt8.toNat.inj
  have e : s.data.toList[s.data.toList.length - 1]'(by omega) = s[((s.size : Int) - 1).toNat]'(by omega) := by
    simp only [Array.getElem_toList, hl, show ((s.size : Int) - 1).toNat = s.size - 1 from by omega]
    rfl
  rw [e]
  show _ = 10
  omega
theorem err_pos {s : ByteArray} {x : Int × Er} (h : parseAll s = .error x) : 0 < s.size := by
  rcases Nat.eq_zero_or_pos s.size with h0 | h0
  · rw [parseAll_N, parseN_nil h0] at h; cases h
  · exact h0
def FirstRes (w : World) (r : Ending) (w' : World) : Prop := r = .returned (.bool true) ∧ Below w.heap.size w w'
/-- A fault behind Parse, as fault reads it. -/
theorem fault_all (g : Er → Addr) (o : Option (Int × Er)) (v : Value) (w : World) (hg : Glob g w)
    (hv : (o = none ∧ v = .nilIface) ∨ ∃ (n : Int) (x : Er) (b : Nat), o = some (n, x) ∧ v = .iface 35 (.pointer (some ⟨b, 0, none⟩)) ∧ FaultAt g x n b w) :
    Calls Tryd.prog 15 #[v] w (FaultRes o w) := by
  rcases hv with ⟨rfl, rfl⟩ | ⟨n, x, b, rfl, rfl, hf⟩
  · exact fault_nil w
  · exact fault_any g x n b w hg hf
set_option maxHeartbeats 4000000 in
theorem first_big1 (g : Er → Addr) (s t : ByteArray) (w : World) (hg : Glob g w) (h : 3000 < s.size) : Calls Tryd.prog 5 #[.string s, .string t] w (FirstRes w) := by
  have d0 : decide ((3000 : Int) < (s.size : Int)) = true := decide_eq_true (by omega)
  clear h
  have HG := Aside0.mk hg
  clear hg
  go_enter Tryd.func5, Tryd.ntmps5
  go_wp2_with fail
  refine (known_any g w HG.out).mono ?_
  rintro e w1 ⟨rfl, hB⟩
  have HB1 := Aside0.mk hB
  have HG1 := Aside0.mk (HG.out.below hB)
  clear hB HG
  go_wp2
  go_ret
  exact ⟨rfl, HB1.out⟩
set_option maxHeartbeats 4000000 in
theorem first_big2 (g : Er → Addr) (s t : ByteArray) (w : World) (hg : Glob g w) (h0 : s.size ≤ 3000) (h : 3000 < t.size) : Calls Tryd.prog 5 #[.string s, .string t] w (FirstRes w) := by
  have d0 : decide ((3000 : Int) < (s.size : Int)) = false := decide_eq_false (by omega)
  have d1 : decide ((3000 : Int) < (t.size : Int)) = true := decide_eq_true (by omega)
  clear h0
  clear h
  have HG := Aside0.mk hg
  clear hg
  go_enter Tryd.func5, Tryd.ntmps5
  go_wp2_with fail
  refine (known_any g w HG.out).mono ?_
  rintro e w1 ⟨rfl, hB⟩
  have HB1 := Aside0.mk hB
  have HG1 := Aside0.mk (HG.out.below hB)
  clear hB HG
  go_wp2
  go_ret
  exact ⟨rfl, HB1.out⟩
set_option maxHeartbeats 8000000 in
theorem first_a1 (g : Er → Addr) (s t : ByteArray) (n : Int) (x : Er) (h1 : parseAll s = .error (n, x)) (h2 : parseAll (s ++ t) = .error (n, x)) (he : bt s ((s.size : Int) - 1) = 10) (w : World) (hg : Glob g w) (hs : s.size ≤ 3000) (ht : t.size ≤ 3000) : Calls Tryd.prog 5 #[.string s, .string t] w (FirstRes w) := by
  have d0 : decide ((3000 : Int) < (s.size : Int)) = false := decide_eq_false (by omega)
  have d1 : decide ((3000 : Int) < (t.size : Int)) = false := decide_eq_false (by omega)
  have HS := Aside0.mk hs
  have HT := Aside0.mk ht
  have HZ := Aside0.mk (ByteArray.size_append (a := s) (b := t))
  have hp := err_pos h1
  have p0 : decide ((0 : Int) < (s.size : Int)) = true := decide_eq_true (by omega)
  have p1 : (1 : Int) ≤ (s.size : Int) := by omega
  have p2 : (0 : Int) ≤ (s.size : Int) - 1 := by omega
  have p3 : (s.size : Int) - 1 < (s.size : Int) := by omega
  have p4 : s.size - 1 < s.size := by omega
  have hx1 : ∀ h : s.size - 1 < s.size, ((s[s.size - 1]'h).toNat : Int) = bt s ((s.size : Int) - 1) := by
    have := bt_at s ((s.size : Int) - 1)
    rw [show ((s.size : Int) - 1).toNat = s.size - 1 from by omega] at this
    exact this
  have q0 : (bt s ((s.size : Int) - 1) == 10) = true := beq_iff_eq.2 he
  clear he
  have H1 := Aside0.mk h1
  have H2 := Aside0.mk h2
  clear h1 h2 hp
  have HG := Aside0.mk hg
  clear hg
  go_enter Tryd.func5, Tryd.ntmps5
  go_wp2_with fail
  refine (known_any g w HG.out).mono ?_
  rintro e w1 ⟨rfl, hB⟩
  have HB1 := Aside0.mk hB
  have HG1 := Aside0.mk (HG.out.below hB)
  clear hB HG
  go_wp2_with fail
  have HPC := Aside0.mk (Parse_any g s w1 HG1.out (by have := HS.out; have := HT.out; have := HZ.out; omega))
  rw [H1.out] at HPC
  refine HPC.out.mono ?_
  clear HPC
  rintro e w2 ⟨b1, rfl, hF, _, hB⟩
  have HFb1 := Aside0.mk hF
  have HB2 := Aside0.mk (below_seq HB1.out hB)
  have HG2 := Aside0.mk (HG1.out.below hB)
  clear hB hF HG1 HB1
  go_wp2_with fail
  have HPC := Aside0.mk (Parse_any g (s ++ t) w2 HG2.out (by have := HS.out; have := HT.out; have := HZ.out; omega))
  rw [H2.out] at HPC
  refine HPC.out.mono ?_
  clear HPC
  rintro e w3 ⟨b2, rfl, hF, _, hB⟩
  have HFb2 := Aside0.mk hF
  have HB3 := Aside0.mk (below_seq HB2.out hB)
  have HG3 := Aside0.mk (HG2.out.below hB)
  replace HFb1 := Aside0.mk (show FaultAt g _ _ b1 _ from blk_below HFb1.out hB)
  clear hB hF HG2 HB2
  go_wp2_with fail
  have HFC := Aside0.mk (fault_all g (some (n, x)) (.iface 35 (.pointer (some ⟨b1, 0, none⟩))) w3 HG3.out (Or.inr ⟨_, _, b1, rfl, rfl, HFb1.out⟩))
  refine HFC.out.mono ?_
  clear HFC
  rintro e w4 ⟨rfl, hB⟩
  have HB4 := Aside0.mk (below_seq HB3.out hB)
  have HG4 := Aside0.mk (HG3.out.below hB)
  replace HFb2 := Aside0.mk (show FaultAt g _ _ b2 _ from blk_below HFb2.out hB)
  clear hB HG3 HB3
  simp only [Option.elim, Option.map, codeE]
  go_wp2_with fail
  have HFC := Aside0.mk (fault_all g (some (n, x)) (.iface 35 (.pointer (some ⟨b2, 0, none⟩))) w4 HG4.out (Or.inr ⟨_, _, b2, rfl, rfl, HFb2.out⟩))
  refine HFC.out.mono ?_
  clear HFC
  rintro e w5 ⟨rfl, hB⟩
  have HB5 := Aside0.mk (below_seq HB4.out hB)
  have HG5 := Aside0.mk (HG4.out.below hB)
  clear hB HG4 HB4
  simp only [Option.elim, Option.map, codeE]
  go_wp2
  go_ret
  exact ⟨rfl, HB5.out⟩
set_option maxHeartbeats 8000000 in
theorem first_a2 (g : Er → Addr) (s t : ByteArray) (n : Int) (x : Er) (h1 : parseAll s = .error (n, x)) (m : Int) (y : Er) (h2 : parseAll (s ++ t) = .error (m, y)) (he : bt s ((s.size : Int) - 1) ≠ 10) (ht0 : 0 < t.size) (w : World) (hg : Glob g w) (hs : s.size ≤ 3000) (ht : t.size ≤ 3000) : Calls Tryd.prog 5 #[.string s, .string t] w (FirstRes w) := by
  have d0 : decide ((3000 : Int) < (s.size : Int)) = false := decide_eq_false (by omega)
  have d1 : decide ((3000 : Int) < (t.size : Int)) = false := decide_eq_false (by omega)
  have HS := Aside0.mk hs
  have HT := Aside0.mk ht
  have HZ := Aside0.mk (ByteArray.size_append (a := s) (b := t))
  have hp := err_pos h1
  have p0 : decide ((0 : Int) < (s.size : Int)) = true := decide_eq_true (by omega)
  have p1 : (1 : Int) ≤ (s.size : Int) := by omega
  have p2 : (0 : Int) ≤ (s.size : Int) - 1 := by omega
  have p3 : (s.size : Int) - 1 < (s.size : Int) := by omega
  have p4 : s.size - 1 < s.size := by omega
  have hx1 : ∀ h : s.size - 1 < s.size, ((s[s.size - 1]'h).toNat : Int) = bt s ((s.size : Int) - 1) := by
    have := bt_at s ((s.size : Int) - 1)
    rw [show ((s.size : Int) - 1).toNat = s.size - 1 from by omega] at this
    exact this
  have q0 : (bt s ((s.size : Int) - 1) == 10) = false := beq_eq_false_iff_ne.2 he
  have t0 := toList_ne_of ht0
  have t1 : t.toList.isEmpty = false := by cases hh : t.toList with
    | nil => exact absurd hh t0
    | cons => rfl
  clear he ht0
  have H1 := Aside0.mk h1
  have H2 := Aside0.mk h2
  clear h1 h2 hp
  have HG := Aside0.mk hg
  clear hg
  go_enter Tryd.func5, Tryd.ntmps5
  go_wp2_with fail
  refine (known_any g w HG.out).mono ?_
  rintro e w1 ⟨rfl, hB⟩
  have HB1 := Aside0.mk hB
  have HG1 := Aside0.mk (HG.out.below hB)
  clear hB HG
  go_wp2_with fail
  have HPC := Aside0.mk (Parse_any g s w1 HG1.out (by have := HS.out; have := HT.out; have := HZ.out; omega))
  rw [H1.out] at HPC
  refine HPC.out.mono ?_
  clear HPC
  rintro e w2 ⟨b1, rfl, hF, _, hB⟩
  have HFb1 := Aside0.mk hF
  have HB2 := Aside0.mk (below_seq HB1.out hB)
  have HG2 := Aside0.mk (HG1.out.below hB)
  clear hB hF HG1 HB1
  go_wp2_with fail
  have HPC := Aside0.mk (Parse_any g (s ++ t) w2 HG2.out (by have := HS.out; have := HT.out; have := HZ.out; omega))
  rw [H2.out] at HPC
  refine HPC.out.mono ?_
  clear HPC
  rintro e w3 ⟨b2, rfl, hF, _, hB⟩
  have HFb2 := Aside0.mk hF
  have HB3 := Aside0.mk (below_seq HB2.out hB)
  have HG3 := Aside0.mk (HG2.out.below hB)
  replace HFb1 := Aside0.mk (show FaultAt g _ _ b1 _ from blk_below HFb1.out hB)
  clear hB hF HG2 HB2
  go_wp2_with fail
  have HFC := Aside0.mk (fault_all g (some (n, x)) (.iface 35 (.pointer (some ⟨b1, 0, none⟩))) w3 HG3.out (Or.inr ⟨_, _, b1, rfl, rfl, HFb1.out⟩))
  refine HFC.out.mono ?_
  clear HFC
  rintro e w4 ⟨rfl, hB⟩
  have HB4 := Aside0.mk (below_seq HB3.out hB)
  have HG4 := Aside0.mk (HG3.out.below hB)
  replace HFb2 := Aside0.mk (show FaultAt g _ _ b2 _ from blk_below HFb2.out hB)
  clear hB HG3 HB3
  simp only [Option.elim, Option.map, codeE]
  go_wp2_with fail
  have HFC := Aside0.mk (fault_all g (some (m, y)) (.iface 35 (.pointer (some ⟨b2, 0, none⟩))) w4 HG4.out (Or.inr ⟨_, _, b2, rfl, rfl, HFb2.out⟩))
  refine HFC.out.mono ?_
  clear HFC
  rintro e w5 ⟨rfl, hB⟩
  have HB5 := Aside0.mk (below_seq HB4.out hB)
  have HG5 := Aside0.mk (HG4.out.below hB)
  clear hB HG4 HB4
  simp only [Option.elim, Option.map, codeE]
  go_wp2
  go_ret
  exact ⟨rfl, HB5.out⟩
set_option maxHeartbeats 8000000 in
theorem first_a3 (g : Er → Addr) (s t : ByteArray) (n : Int) (x : Er) (h1 : parseAll s = .error (n, x)) (l : List S54) (h2 : parseAll (s ++ t) = .ok l) (he : bt s ((s.size : Int) - 1) ≠ 10) (ht0 : 0 < t.size) (w : World) (hg : Glob g w) (hs : s.size ≤ 3000) (ht : t.size ≤ 3000) : Calls Tryd.prog 5 #[.string s, .string t] w (FirstRes w) := by
  have d0 : decide ((3000 : Int) < (s.size : Int)) = false := decide_eq_false (by omega)
  have d1 : decide ((3000 : Int) < (t.size : Int)) = false := decide_eq_false (by omega)
  have HS := Aside0.mk hs
  have HT := Aside0.mk ht
  have HZ := Aside0.mk (ByteArray.size_append (a := s) (b := t))
  have hp := err_pos h1
  have p0 : decide ((0 : Int) < (s.size : Int)) = true := decide_eq_true (by omega)
  have p1 : (1 : Int) ≤ (s.size : Int) := by omega
  have p2 : (0 : Int) ≤ (s.size : Int) - 1 := by omega
  have p3 : (s.size : Int) - 1 < (s.size : Int) := by omega
  have p4 : s.size - 1 < s.size := by omega
  have hx1 : ∀ h : s.size - 1 < s.size, ((s[s.size - 1]'h).toNat : Int) = bt s ((s.size : Int) - 1) := by
    have := bt_at s ((s.size : Int) - 1)
    rw [show ((s.size : Int) - 1).toNat = s.size - 1 from by omega] at this
    exact this
  have q0 : (bt s ((s.size : Int) - 1) == 10) = false := beq_eq_false_iff_ne.2 he
  have t0 := toList_ne_of ht0
  have t1 : t.toList.isEmpty = false := by cases hh : t.toList with
    | nil => exact absurd hh t0
    | cons => rfl
  clear he ht0
  have H1 := Aside0.mk h1
  have H2 := Aside0.mk h2
  clear h1 h2 hp
  have HG := Aside0.mk hg
  clear hg
  go_enter Tryd.func5, Tryd.ntmps5
  go_wp2_with fail
  refine (known_any g w HG.out).mono ?_
  rintro e w1 ⟨rfl, hB⟩
  have HB1 := Aside0.mk hB
  have HG1 := Aside0.mk (HG.out.below hB)
  clear hB HG
  go_wp2_with fail
  have HPC := Aside0.mk (Parse_any g s w1 HG1.out (by have := HS.out; have := HT.out; have := HZ.out; omega))
  rw [H1.out] at HPC
  refine HPC.out.mono ?_
  clear HPC
  rintro e w2 ⟨b1, rfl, hF, _, hB⟩
  have HFb1 := Aside0.mk hF
  have HB2 := Aside0.mk (below_seq HB1.out hB)
  have HG2 := Aside0.mk (HG1.out.below hB)
  clear hB hF HG1 HB1
  go_wp2_with fail
  have HPC := Aside0.mk (Parse_any g (s ++ t) w2 HG2.out (by have := HS.out; have := HT.out; have := HZ.out; omega))
  rw [H2.out] at HPC
  refine HPC.out.mono ?_
  clear HPC
  rintro e w3 ⟨v, rfl, hR, hB⟩
  obtain ⟨Ab2, cb2, rfl, hcb2, hC⟩ := Kd.R_reads hR
  have HCb2 := Aside0.mk hC
  have HB3 := Aside0.mk (below_seq HB2.out hB)
  have HG3 := Aside0.mk (HG2.out.below hB)
  replace HFb1 := Aside0.mk (show FaultAt g _ _ b1 _ from blk_below HFb1.out hB)
  clear hB hC hR HG2 HB2
  go_wp2_with fail
  have HFC := Aside0.mk (fault_all g (some (n, x)) (.iface 35 (.pointer (some ⟨b1, 0, none⟩))) w3 HG3.out (Or.inr ⟨_, _, b1, rfl, rfl, HFb1.out⟩))
  refine HFC.out.mono ?_
  clear HFC
  rintro e w4 ⟨rfl, hB⟩
  have HB4 := Aside0.mk (below_seq HB3.out hB)
  have HG4 := Aside0.mk (HG3.out.below hB)
  clear hB HG3 HB3
  simp only [Option.elim, Option.map, codeE]
  go_wp2_with fail
  have HFC := Aside0.mk (fault_all g none .nilIface w4 HG4.out (Or.inl ⟨rfl, rfl⟩))
  refine HFC.out.mono ?_
  clear HFC
  rintro e w5 ⟨rfl, hB⟩
  have HB5 := Aside0.mk (below_seq HB4.out hB)
  have HG5 := Aside0.mk (HG4.out.below hB)
  clear hB HG4 HB4
  simp only [Option.elim, Option.map, codeE]
  go_wp2
  go_ret
  exact ⟨rfl, HB5.out⟩
set_option maxHeartbeats 8000000 in
theorem first_a0 (g : Er → Addr) (s t : ByteArray) (n : Int) (x : Er) (h1 : parseAll s = .error (n, x)) (he : bt s ((s.size : Int) - 1) ≠ 10) (ht0 : t = ⟨#[]⟩) (w : World) (hg : Glob g w) (hs : s.size ≤ 3000) (ht : t.size ≤ 3000) : Calls Tryd.prog 5 #[.string s, .string t] w (FirstRes w) := by
  subst ht0
  have d0 : decide ((3000 : Int) < (s.size : Int)) = false := decide_eq_false (by omega)
  have HS := Aside0.mk hs
  have HT := Aside0.mk ht
  have HZ := Aside0.mk (ByteArray.size_append (a := s) (b := ⟨#[]⟩))
  have hp := err_pos h1
  have p0 : decide ((0 : Int) < (s.size : Int)) = true := decide_eq_true (by omega)
  have p1 : (1 : Int) ≤ (s.size : Int) := by omega
  have p2 : (0 : Int) ≤ (s.size : Int) - 1 := by omega
  have p3 : (s.size : Int) - 1 < (s.size : Int) := by omega
  have p4 : s.size - 1 < s.size := by omega
  have hx1 : ∀ h : s.size - 1 < s.size, ((s[s.size - 1]'h).toNat : Int) = bt s ((s.size : Int) - 1) := by
    have := bt_at s ((s.size : Int) - 1)
    rw [show ((s.size : Int) - 1).toNat = s.size - 1 from by omega] at this
    exact this
  have q0 : (bt s ((s.size : Int) - 1) == 10) = false := beq_eq_false_iff_ne.2 he
  have hst : s ++ ⟨#[]⟩ = s := by apply ba_eq; simp
  have h2 : parseAll (s ++ ⟨#[]⟩) = .error (n, x) := by rw [hst]; exact h1
  have H1 := Aside0.mk h1
  have H2 := Aside0.mk h2
  clear h1 h2 hp he hst
  have HG := Aside0.mk hg
  clear hg
  go_enter Tryd.func5, Tryd.ntmps5
  go_wp2_with fail
  refine (known_any g w HG.out).mono ?_
  rintro e w1 ⟨rfl, hB⟩
  have HB1 := Aside0.mk hB
  have HG1 := Aside0.mk (HG.out.below hB)
  clear hB HG
  go_wp2_with fail
  have HPC := Aside0.mk (Parse_any g s w1 HG1.out (by have := HS.out; have := HT.out; have := HZ.out; omega))
  rw [H1.out] at HPC
  refine HPC.out.mono ?_
  clear HPC
  rintro e w2 ⟨b1, rfl, hF, _, hB⟩
  have HFb1 := Aside0.mk hF
  have HB2 := Aside0.mk (below_seq HB1.out hB)
  have HG2 := Aside0.mk (HG1.out.below hB)
  clear hB hF HG1 HB1
  go_wp2_with fail
  have HPC := Aside0.mk (Parse_any g (s ++ ⟨#[]⟩) w2 HG2.out (by have := HS.out; have := HT.out; have := HZ.out; omega))
  rw [H2.out] at HPC
  refine HPC.out.mono ?_
  clear HPC
  rintro e w3 ⟨b2, rfl, hF, _, hB⟩
  have HFb2 := Aside0.mk hF
  have HB3 := Aside0.mk (below_seq HB2.out hB)
  have HG3 := Aside0.mk (HG2.out.below hB)
  replace HFb1 := Aside0.mk (show FaultAt g _ _ b1 _ from blk_below HFb1.out hB)
  clear hB hF HG2 HB2
  go_wp2_with fail
  have HFC := Aside0.mk (fault_all g (some (n, x)) (.iface 35 (.pointer (some ⟨b1, 0, none⟩))) w3 HG3.out (Or.inr ⟨_, _, b1, rfl, rfl, HFb1.out⟩))
  refine HFC.out.mono ?_
  clear HFC
  rintro e w4 ⟨rfl, hB⟩
  have HB4 := Aside0.mk (below_seq HB3.out hB)
  have HG4 := Aside0.mk (HG3.out.below hB)
  replace HFb2 := Aside0.mk (show FaultAt g _ _ b2 _ from blk_below HFb2.out hB)
  clear hB HG3 HB3
  simp only [Option.elim, Option.map, codeE]
  go_wp2_with fail
  have HFC := Aside0.mk (fault_all g (some (n, x)) (.iface 35 (.pointer (some ⟨b2, 0, none⟩))) w4 HG4.out (Or.inr ⟨_, _, b2, rfl, rfl, HFb2.out⟩))
  refine HFC.out.mono ?_
  clear HFC
  rintro e w5 ⟨rfl, hB⟩
  have HB5 := Aside0.mk (below_seq HB4.out hB)
  have HG5 := Aside0.mk (HG4.out.below hB)
  clear hB HG4 HB4
  simp only [Option.elim, Option.map, codeE]
  go_wp2
  go_ret
  exact ⟨rfl, HB5.out⟩
set_option maxHeartbeats 8000000 in
theorem first_b2 (g : Er → Addr) (s t : ByteArray) (l : List S54) (n : Int) (y : Er) (h1 : parseAll s = .ok l) (h3 : parseAll t = .error (n, y)) (h2 : parseAll (s ++ t) = .error (n + l.length, y)) (hn : 1 ≤ n ∧ n ≤ 5000) (hl : l.length ≤ 5000) (w : World) (hg : Glob g w) (hs : s.size ≤ 3000) (ht : t.size ≤ 3000) : Calls Tryd.prog 5 #[.string s, .string t] w (FirstRes w) := by
  have d0 : decide ((3000 : Int) < (s.size : Int)) = false := decide_eq_false (by omega)
  have d1 : decide ((3000 : Int) < (t.size : Int)) = false := decide_eq_false (by omega)
  have HS := Aside0.mk hs
  have HT := Aside0.mk ht
  have HZ := Aside0.mk (ByteArray.size_append (a := s) (b := t))
  obtain ⟨n1, n2⟩ := hn
  have n3 : (l.length : Int) ≤ 5000 := by omega
  have n4 : (0 : Int) ≤ (l.length : Int) := by omega
  have H1 := Aside0.mk h1
  have H2 := Aside0.mk h2
  have H3 := Aside0.mk h3
  clear h1 h2 h3 hl
  have HG := Aside0.mk hg
  clear hg
  go_enter Tryd.func5, Tryd.ntmps5
  go_wp2_with fail
  refine (known_any g w HG.out).mono ?_
  rintro e w1 ⟨rfl, hB⟩
  have HB1 := Aside0.mk hB
  have HG1 := Aside0.mk (HG.out.below hB)
  clear hB HG
  go_wp2_with fail
  have HPC := Aside0.mk (Parse_any g s w1 HG1.out (by have := HS.out; have := HT.out; have := HZ.out; omega))
  rw [H1.out] at HPC
  refine HPC.out.mono ?_
  clear HPC
  rintro e w2 ⟨v, rfl, hR, hB⟩
  obtain ⟨Av1, cv1, rfl, hcv1, hC⟩ := Kd.R_reads hR
  have HCv1 := Aside0.mk hC
  have HB2 := Aside0.mk (below_seq HB1.out hB)
  have HG2 := Aside0.mk (HG1.out.below hB)
  clear hB hC hR HG1 HB1
  go_wp2_with fail
  have HPC := Aside0.mk (Parse_any g (s ++ t) w2 HG2.out (by have := HS.out; have := HT.out; have := HZ.out; omega))
  rw [H2.out] at HPC
  refine HPC.out.mono ?_
  clear HPC
  rintro e w3 ⟨b2, rfl, hF, _, hB⟩
  have HFb2 := Aside0.mk hF
  have HB3 := Aside0.mk (below_seq HB2.out hB)
  have HG3 := Aside0.mk (HG2.out.below hB)
  clear hB hF HG2 HB2
  go_wp2_with fail
  have HFC := Aside0.mk (fault_all g none .nilIface w3 HG3.out (Or.inl ⟨rfl, rfl⟩))
  refine HFC.out.mono ?_
  clear HFC
  rintro e w4 ⟨rfl, hB⟩
  have HB4 := Aside0.mk (below_seq HB3.out hB)
  have HG4 := Aside0.mk (HG3.out.below hB)
  replace HFb2 := Aside0.mk (show FaultAt g _ _ b2 _ from blk_below HFb2.out hB)
  clear hB HG3 HB3
  simp only [Option.elim, Option.map, codeE]
  go_wp2_with fail
  have HFC := Aside0.mk (fault_all g (some (n + l.length, y)) (.iface 35 (.pointer (some ⟨b2, 0, none⟩))) w4 HG4.out (Or.inr ⟨_, _, b2, rfl, rfl, HFb2.out⟩))
  refine HFC.out.mono ?_
  clear HFC
  rintro e w5 ⟨rfl, hB⟩
  have HB5 := Aside0.mk (below_seq HB4.out hB)
  have HG5 := Aside0.mk (HG4.out.below hB)
  clear hB HG4 HB4
  simp only [Option.elim, Option.map, codeE]
  go_wp2_with fail
  have HPC := Aside0.mk (Parse_any g t w5 HG5.out (by have := HS.out; have := HT.out; have := HZ.out; omega))
  rw [H3.out] at HPC
  refine HPC.out.mono ?_
  clear HPC
  rintro e w6 ⟨b3, rfl, hF, _, hB⟩
  have HFb3 := Aside0.mk hF
  have HB6 := Aside0.mk (below_seq HB5.out hB)
  have HG6 := Aside0.mk (HG5.out.below hB)
  clear hB hF HG5 HB5
  go_wp2_with fail
  have HFC := Aside0.mk (fault_all g (some (n, y)) (.iface 35 (.pointer (some ⟨b3, 0, none⟩))) w6 HG6.out (Or.inr ⟨_, _, b3, rfl, rfl, HFb3.out⟩))
  refine HFC.out.mono ?_
  clear HFC
  rintro e w7 ⟨rfl, hB⟩
  have HB7 := Aside0.mk (below_seq HB6.out hB)
  have HG7 := Aside0.mk (HG6.out.below hB)
  clear hB HG6 HB6
  simp only [Option.elim, Option.map, codeE]
  go_wp2
  go_ret
  exact ⟨rfl, HB7.out⟩
set_option maxHeartbeats 8000000 in
theorem first_b1 (g : Er → Addr) (s t : ByteArray) (l m : List S54) (h1 : parseAll s = .ok l) (h3 : parseAll t = .ok m) (h2 : parseAll (s ++ t) = .ok (l ++ m)) (hl : l.length ≤ 5000) (hm : m.length ≤ 5000) (gl : ∀ x ∈ l, EvGood x) (gm : ∀ x ∈ m, EvGood x) (w : World) (hg : Glob g w) (hs : s.size ≤ 3000) (ht : t.size ≤ 3000) : Calls Tryd.prog 5 #[.string s, .string t] w (FirstRes w) := by
  have d0 : decide ((3000 : Int) < (s.size : Int)) = false := decide_eq_false (by omega)
  have d1 : decide ((3000 : Int) < (t.size : Int)) = false := decide_eq_false (by omega)
  have HS := Aside0.mk hs
  have HT := Aside0.mk ht
  have HZ := Aside0.mk (ByteArray.size_append (a := s) (b := t))
  have HL := Aside0.mk hl
  have HM := Aside0.mk hm
  have GL := Aside0.mk gl
  have GM := Aside0.mk gm
  have H1 := Aside0.mk h1
  have H2 := Aside0.mk h2
  have H3 := Aside0.mk h3
  clear h1 h2 h3 hl hm gl gm
  have HG := Aside0.mk hg
  clear hg
  go_enter Tryd.func5, Tryd.ntmps5
  go_wp2_with fail
  refine (known_any g w HG.out).mono ?_
  rintro e w1 ⟨rfl, hB⟩
  have HB1 := Aside0.mk hB
  have HG1 := Aside0.mk (HG.out.below hB)
  clear hB HG
  go_wp2_with fail
  have HPC := Aside0.mk (Parse_any g s w1 HG1.out (by have := HS.out; have := HT.out; have := HZ.out; omega))
  rw [H1.out] at HPC
  refine HPC.out.mono ?_
  clear HPC
  rintro e w2 ⟨v, rfl, hR, hB⟩
  obtain ⟨Av1, cv1, rfl, hcv1, hC⟩ := Kd.R_reads hR
  have HCv1 := Aside0.mk hC
  have HB2 := Aside0.mk (below_seq HB1.out hB)
  have HG2 := Aside0.mk (HG1.out.below hB)
  clear hB hC hR HG1 HB1
  go_wp2_with fail
  have HPC := Aside0.mk (Parse_any g (s ++ t) w2 HG2.out (by have := HS.out; have := HT.out; have := HZ.out; omega))
  rw [H2.out] at HPC
  refine HPC.out.mono ?_
  clear HPC
  rintro e w3 ⟨v, rfl, hR, hB⟩
  obtain ⟨Av2, cv2, rfl, hcv2, hC⟩ := Kd.R_reads hR
  have HCv2 := Aside0.mk hC
  have HB3 := Aside0.mk (below_seq HB2.out hB)
  have HG3 := Aside0.mk (HG2.out.below hB)
  replace HCv1 := Aside0.mk (Kd.C_below HCv1.out hB)
  clear hB hC hR HG2 HB2
  go_wp2_with fail
  have HFC := Aside0.mk (fault_all g none .nilIface w3 HG3.out (Or.inl ⟨rfl, rfl⟩))
  refine HFC.out.mono ?_
  clear HFC
  rintro e w4 ⟨rfl, hB⟩
  have HB4 := Aside0.mk (below_seq HB3.out hB)
  have HG4 := Aside0.mk (HG3.out.below hB)
  replace HCv1 := Aside0.mk (Kd.C_below HCv1.out hB)
  replace HCv2 := Aside0.mk (Kd.C_below HCv2.out hB)
  clear hB HG3 HB3
  simp only [Option.elim, Option.map, codeE]
  go_wp2_with fail
  have HFC := Aside0.mk (fault_all g none .nilIface w4 HG4.out (Or.inl ⟨rfl, rfl⟩))
  refine HFC.out.mono ?_
  clear HFC
  rintro e w5 ⟨rfl, hB⟩
  have HB5 := Aside0.mk (below_seq HB4.out hB)
  have HG5 := Aside0.mk (HG4.out.below hB)
  replace HCv1 := Aside0.mk (Kd.C_below HCv1.out hB)
  replace HCv2 := Aside0.mk (Kd.C_below HCv2.out hB)
  clear hB HG4 HB4
  simp only [Option.elim, Option.map, codeE]
  go_wp2_with fail
  have HPC := Aside0.mk (Parse_any g t w5 HG5.out (by have := HS.out; have := HT.out; have := HZ.out; omega))
  rw [H3.out] at HPC
  refine HPC.out.mono ?_
  clear HPC
  rintro e w6 ⟨v, rfl, hR, hB⟩
  obtain ⟨Av3, cv3, rfl, hcv3, hC⟩ := Kd.R_reads hR
  have HCv3 := Aside0.mk hC
  have HB6 := Aside0.mk (below_seq HB5.out hB)
  have HG6 := Aside0.mk (HG5.out.below hB)
  replace HCv1 := Aside0.mk (Kd.C_below HCv1.out hB)
  replace HCv2 := Aside0.mk (Kd.C_below HCv2.out hB)
  clear hB hC hR HG5 HB5
  have e0 : Kd.R (Kd.fixed k54 w6) 54 (w6.alloc (.cells #[] 54)) w.heap.size (fun _ => True) (.slice (some ⟨w6.heap.size, 0, none⟩) 0 0) [] :=
    ⟨fun _ _ => trivial, [], ⟨rfl, Or.inr ⟨w6.heap.size, 0, #[], rfl, HB6.out.size, blk_new _ _, Nat.le_refl _, by decide, rfl, rfl⟩⟩, Reps.none _ _⟩
  have HE0 := Aside0.mk e0
  have HRl := Aside0.mk (show ReadsRow (k54.K w6) 10 (w6.alloc (.cells #[] 54)) Av1 l.length l from ReadsRow.imp_ HCv1.out (below_alloc (Below.refl _ _) _) (fun _ _ h => h))
  have HB7 := Aside0.mk (show Below w.heap.size w (w6.alloc (.cells #[] 54)) from below_seq HB6.out (below_alloc (Below.refl _ _) _))
  have HS7 := Aside0.mk (show w.heap.size ≤ (w6.alloc (.cells #[] 54)).heap.size from HB7.out.size)
  have hlm : (l ++ m).length = l.length + m.length := List.length_append
  have HLM := Aside0.mk hlm
  clear e0 hlm
  go_wp2_with ((with_reducible refine gate_builtin (b := .append) (xs := #[.tmp 99, .tmp 100]) rfl ?_); (try (refine gate_guard (by rfl) ?_; dsimp only)); at_builtin; refine Kd.R_append_rows (Kd.fixed k54 w6) (w0 := w) w.heap.size rfl (.tmp 99) (.tmp 100) 23 54 (.agg #[.int .i64 0, .int .i64 0, .int .i64 0, .int .i64 0, .int .i64 0, .int .i64 0, .slice none 0 0, .int .i64 0, .int .i64 0, .slice none 0 0]) 112 rfl Tryd.underlying23 info54 rfl (show 0 < 10 from by decide) (by decide) _ [] l Av1 l.length _ (fun _ => True) (fun _ => False) rfl rfl ?aO1 ?aR1 (fun _ _ h => h) (fun _ h => h.elim) (fun _ _ => trivial) ?aB1 ?aS1 ?aL1 ?_)
  case aO1 => exact HE0.out
  case aR1 => exact HRl.out
  case aB1 => exact HB7.out
  case aS1 => exact HS7.out
  case aL1 => have := HL.out; simp; omega
  intro v7 w7 hR7 hB7 hg7 hd7
  have HR7 := Aside0.mk (show Kd.R (Kd.fixed k54 w6) 54 w7 w.heap.size (fun _ => True) v7 l from hR7)
  have hB67 : Below w6.heap.size w6 w7 := (below_alloc (Below.refl w6.heap.size w6) (.cells #[] 54)).grown hg7 (by simp) (fun k hk => by simp only [Value.ownBlock, Option.some.injEq] at hk; omega)
  have HB8 := Aside0.mk hB7
  have HRm := Aside0.mk (show ReadsRow (k54.K w6) 10 w7 Av3 m.length m from ReadsRow.imp_ HCv3.out hB67 (fun _ _ h => h))
  have HB67 := Aside0.mk hB67
  have hv7 : ∀ k, v7.ownBlock = some k → w6.heap.size ≤ k := by
    intro k hk
    rcases hd7 with h | ⟨b, h, hb⟩
    · rw [hk] at h
      simp only [Value.ownBlock, Option.some.injEq] at h
      omega
    · rw [hk] at h
      injection h with h
      have : (w6.alloc (.cells #[] 54)).heap.size = w6.heap.size + 1 := by simp
      omega
  have HV7 := Aside0.mk hv7
  clear hR7 hB7 hg7 hd7 hB67 hv7
  go_wp2_with ((with_reducible refine gate_builtin (b := .append) (xs := #[.tmp 101, .tmp 102]) rfl ?_); (try (refine gate_guard (by rfl) ?_; dsimp only)); at_builtin; refine Kd.R_append_rows (Kd.fixed k54 w6) (w0 := w) w.heap.size rfl (.tmp 101) (.tmp 102) 23 54 (.agg #[.int .i64 0, .int .i64 0, .int .i64 0, .int .i64 0, .int .i64 0, .int .i64 0, .slice none 0 0, .int .i64 0, .int .i64 0, .slice none 0 0]) 112 rfl Tryd.underlying23 info54 rfl (show 0 < 10 from by decide) (by decide) v7 l m Av3 m.length _ (fun _ => True) (fun _ => False) rfl rfl ?aO2 ?aR2 (fun _ _ h => h) (fun _ h => h.elim) (fun _ _ => trivial) ?aB2 ?aS2 ?aL2 ?_)
  case aO2 => exact HR7.out
  case aR2 => exact HRm.out
  case aB2 => exact HB8.out
  case aS2 => exact HB8.out.size
  case aL2 => have := HL.out; have := HM.out; omega
  intro v8 w8 hR8 hB8 hg8 hd8
  have hB68 : Below w6.heap.size w6 w8 := HB67.out.grown hg8 HB67.out.size (fun k hk => HV7.out k hk)
  obtain ⟨A8, c8, rfl, hc8, hC8⟩ := Kd.R_reads hR8
  have HC8 := Aside0.mk (show Kd.C k54 w8 A8 (l ++ m).length (l ++ m) from ReadsRow.imp_ hC8 (Below.refl _ _) (fun _ _ h => k54.K_below hB68 h))
  have HCB := Aside0.mk (show Kd.C k54 w8 Av2 (l ++ m).length (l ++ m) from Kd.C_below HCv2.out hB68)
  have HB9 := Aside0.mk hB8
  have HAL := Aside0.mk (show alikeP (l ++ m) (l ++ m) = true from decide_eq_true rfl)
  have HGG := Aside0.mk (show ∀ x ∈ l ++ m, EvGood x from fun x hx => by
    rcases List.mem_append.1 hx with h | h
    · exact GL.out x h
    · exact GM.out x h)
  have HLE := Aside0.mk (show (l ++ m).length ≤ 9223372036854775806 by have := HLM.out; have := HL.out; have := HM.out; omega)
  have HAC := Aside0.mk (alike_any (l ++ m) (l ++ m) Av2 A8 cv2 c8 w8 HCB.out HC8.out HGG.out HGG.out HLE.out)
  rw [HAL.out, HLM.out] at HAC
  simp only [HLM.out]
  clear hR8 hB8 hg8 hd8 hB68 hc8 hC8
  go_wp2_with fail
  refine HAC.out.mono ?_
  clear HAC
  rintro e w9 ⟨rfl, hB10⟩
  have HB10 := Aside0.mk (below_seq HB9.out hB10)
  clear hB10
  go_wp2
  go_ret
  exact ⟨rfl, HB10.out⟩
theorem parseN_good : ∀ (N : Nat) (s : ByteArray) (n : Int) (l : List S54), s.size ≤ N → parseN s n = .ok l → ∀ x ∈ l, EvGood x := by
  intro N
  induction N with
  | zero =>
    intro s n l hs h
    rw [parseN_nil (by omega)] at h
    injection h with h
    subst h
    intro x hx
    cases hx
  | succ N ih =>
    intro s n l hs h
    by_cases h0 : s.size = 0
    · rw [parseN_nil h0] at h
      injection h with h
      subst h
      intro x hx
      cases hx
    · rcases hc : cutAt s 10 with ⟨F, R, m⟩
      cases m with
      | false => exact (ok_open h0 hc h).elim
      | true =>
        obtain ⟨h1, h2, e, r, he, hr, rfl⟩ := ok_step hc h
        have hl := cut_less hc
        intro x hx
        rcases List.mem_cons.1 hx with rfl | hx
        · exact parseP_good he
        · exact ih R (n + 1) r (by omega) hr x hx
theorem parseAll_good {s : ByteArray} {l : List S54} (h : parseAll s = .ok l) : ∀ x ∈ l, EvGood x := parseN_good _ s 1 l (Nat.le_refl _) h
theorem parseAll_len {s : ByteArray} {l : List S54} (h : parseAll s = .ok l) : 6 * l.length ≤ s.size := (ok_count _ s 1 l (Nat.le_refl _) h).1
theorem first_law (g : Er → Addr) (s t : ByteArray) (w : World) (hg : Glob g w) : Calls Tryd.prog 5 #[.string s, .string t] w fun r w' => r = .returned (.bool true) ∧ Below w.heap.size w w' := by
  show Calls Tryd.prog 5 #[.string s, .string t] w (FirstRes w)
  by_cases hs : 3000 < s.size
  · exact first_big1 g s t w hg hs
  by_cases ht : 3000 < t.size
  · exact first_big2 g s t w hg (by omega) ht
  have hs' : s.size ≤ 3000 := by omega
  have ht' : t.size ≤ 3000 := by omega
  rcases h1 : parseAll s with ⟨n, x⟩ | l
  · by_cases he : bt s ((s.size : Int) - 1) = 10
    · exact first_a1 g s t n x h1 (first_same h1 (last10 (err_pos h1) he)) he w hg hs' ht'
    · rcases Nat.eq_zero_or_pos t.size with h0 | h0
      · exact first_a0 g s t n x h1 he (size0 h0) w hg hs' ht'
      · rcases h2 : parseAll (s ++ t) with ⟨m, y⟩ | l
        · exact first_a2 g s t n x h1 m y h2 he h0 w hg hs' ht'
        · exact first_a3 g s t n x h1 l h2 he h0 w hg hs' ht'
  · have hll := parseAll_len h1
    rcases h3 : parseAll t with ⟨n, y⟩ | m
    · have hn := err_line h3
      exact first_b2 g s t l n y h1 h3 (first_err hs' ht' h1 h3) ⟨hn.1, by omega⟩ (by omega) w hg hs' ht'
    · have hml := parseAll_len h3
      exact first_b1 g s t l m h1 h3 (first_ok hs' ht' h1 h3) (by omega) (by omega) (parseAll_good h1) (parseAll_good h3) w hg hs' ht'
end Go.Proofs.YtjpkphmihkbfeaaDoor.S34
