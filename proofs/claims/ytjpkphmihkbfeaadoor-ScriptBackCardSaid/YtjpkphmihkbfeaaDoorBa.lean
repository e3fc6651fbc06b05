/- ScriptBack walked. -/
import Derived.Test.YtjpkphmihkbfeaaDoorPr
import Derived.Test.YtjpkphmihkbfeaaDoorFi
namespace Go.Proofs.YtjpkphmihkbfeaaDoor.S34
open Go.RowKit Go.Proofs.YtjpkphmihkbfeaaDoorW.PrintWords Go.Proofs.YtjpkphmihkbfeaaDoorW.PrintLast Go.Proofs.YtjpkphmihkbfeaaDoorW.PrintMore Go.Proofs.YtjpkphmihkbfeaaDoor.Q
set_option maxRecDepth 100000
set_option linter.unusedSimpArgs false
def BackRes (w : World) (r : Ending) (w' : World) : Prop := r = .returned (.bool true) ∧ Below w.heap.size w w'
theorem print_size : ∀ (l : List S54) (i : Nat) (acc : ByteArray), (∀ x ∈ l, EvGood x) → (printFrom l i acc).1.size ≤ acc.size + 3101 * l.length := by
  intro l
  induction l with
  | nil => intro i acc _; simp [printFrom]
  | cons e l ih =>
    intro i acc hg
    cases hs : lineP e with
    | none =>
      have : printFrom (e :: l) i acc = (⟨#[]⟩, i) := by rw [printFrom, hs]
      rw [this]
      exact Nat.zero_le _
    | some s =>
      have h1 := line_size hs (hg e (List.mem_cons_self ..))
      by_cases h : 1000 ≤ i
      · have : printFrom (e :: l) i acc = (⟨#[]⟩, i) := by rw [printFrom, hs]; dsimp only; rw [if_pos h]
        rw [this]
        exact Nat.zero_le _
      · have : printFrom (e :: l) i acc = printFrom l (i + 1) (acc ++ s ++ ⟨#[10]⟩) := by rw [printFrom, hs]; dsimp only; rw [if_neg h]
        rw [this]
        have h2 := ih (i + 1) (acc ++ s ++ ⟨#[10]⟩) (fun x hx => hg x (List.mem_cons_of_mem _ hx))
        have h3 : (acc ++ s ++ ⟨#[10]⟩).size = acc.size + s.size + 1 := by rw [ByteArray.size_append, ByteArray.size_append]; rfl
        simp only [List.length_cons]
        omega
set_option maxHeartbeats 4000000 in
theorem back_big1 (g : Er → Addr) (l : List S54) (A : Option Addr) (c : Nat) (s : ByteArray) (w : World) (hg : Glob g w) (hC : Kd.C k54 w A l.length l) (hgood : ∀ x ∈ l, EvGood x) (h : 60 < l.length) : Calls Tryd.prog 10 #[.slice A l.length c, .string s] w (BackRes w) := by
  have d0 : decide ((60 : Int) < (l.length : Int)) = true := decide_eq_true (by omega)
  clear h
  have HG := Aside0.mk hg
  have HC := Aside0.mk hC
  have HGD := Aside0.mk hgood
  clear hg hC hgood
  go_enter Tryd.func10, Tryd.ntmps10
  go_wp2_with fail
  refine (known_any g w HG.out).mono ?_
  rintro e w1 ⟨rfl, hB⟩
  have HB1 := Aside0.mk hB
  have HG1 := Aside0.mk (HG.out.below hB)
  have HC1 := Aside0.mk (Kd.C_below HC.out hB)
  clear hB HG HC
  go_wp2
  go_ret
  exact ⟨rfl, HB1.out⟩
set_option maxHeartbeats 4000000 in
theorem back_big2 (g : Er → Addr) (l : List S54) (A : Option Addr) (c : Nat) (s : ByteArray) (w : World) (hg : Glob g w) (hC : Kd.C k54 w A l.length l) (hgood : ∀ x ∈ l, EvGood x) (h0 : l.length ≤ 60) (h : 6000 < s.size) : Calls Tryd.prog 10 #[.slice A l.length c, .string s] w (BackRes w) := by
  have d0 : decide ((60 : Int) < (l.length : Int)) = false := decide_eq_false (by omega)
  have d1 : decide ((6000 : Int) < (s.size : Int)) = true := decide_eq_true (by omega)
  clear h h0
  have HG := Aside0.mk hg
  have HC := Aside0.mk hC
  have HGD := Aside0.mk hgood
  clear hg hC hgood
  go_enter Tryd.func10, Tryd.ntmps10
  go_wp2_with fail
  refine (known_any g w HG.out).mono ?_
  rintro e w1 ⟨rfl, hB⟩
  have HB1 := Aside0.mk hB
  have HG1 := Aside0.mk (HG.out.below hB)
  have HC1 := Aside0.mk (Kd.C_below HC.out hB)
  clear hB HG HC
  go_wp2
  go_ret
  exact ⟨rfl, HB1.out⟩
set_option maxHeartbeats 8000000 in
theorem back_we (g : Er → Addr) (l : List S54) (A : Option Addr) (c : Nat) (s : ByteArray) (w : World) (hg : Glob g w) (hC : Kd.C k54 w A l.length l) (hgood : ∀ x ∈ l, EvGood x) (h0 : l.length ≤ 60) (h1 : s.size ≤ 6000) (t : ByteArray) (hp : printAll l = (t, l.length)) (z : Int × Er) (hq : parseAll s = .error z) : Calls Tryd.prog 10 #[.slice A l.length c, .string s] w (BackRes w) := by
  have d0 : decide ((60 : Int) < (l.length : Int)) = false := decide_eq_false (by omega)
  have d1 : decide ((6000 : Int) < (s.size : Int)) = false := decide_eq_false (by omega)
  have HPS := Aside0.mk hq
  have HPR := Aside0.mk hp
  have HSZ := Aside0.mk h1
  have HTZ := Aside0.mk (show t.size ≤ 200000 by
    have := print_size l 0 ⟨#[]⟩ hgood
    have e : (printFrom l 0 ⟨#[]⟩).1 = t := by have := hp; unfold printAll at this; rw [this]
    rw [e] at this
    have z : (⟨#[]⟩ : ByteArray).size = 0 := rfl
    omega)
  have HPT := Aside0.mk (print_all hgood (by omega) hp)
  clear hq hp h1
  have HG := Aside0.mk hg
  have HC := Aside0.mk hC
  have HGD := Aside0.mk hgood
  clear hg hC hgood
  go_enter Tryd.func10, Tryd.ntmps10
  go_wp2_with fail
  refine (known_any g w HG.out).mono ?_
  rintro e w1 ⟨rfl, hB⟩
  have HB1 := Aside0.mk hB
  have HG1 := Aside0.mk (HG.out.below hB)
  have HC1 := Aside0.mk (Kd.C_below HC.out hB)
  clear hB HG HC
  go_wp2_with fail
  go_loop [5] (fun i => ∃ k : Nat, k ≤ l.length ∧ i = .int .i64 k) (fun i => l.length - (intOf i).toNat)
  case atStart => exact ⟨0, Nat.zero_le _, rfl⟩
  case round =>
    obtain ⟨k, hk, rfl⟩ := hrel
    by_cases hlt : k < l.length
    · obtain ⟨ad, A6, A9, c6, c9, hA, ix, -, -, -, -, -, -, x6, -, -, x9⟩ := ev_at HC1.out HGD.out k hlt
      subst hA
      have l6 : (rd_T54 l k).f5.f1.length ≤ 9223372036854775807 := Kd.C_max ix.q6
      have l9 : (rd_T54 l k).f6.length ≤ 9223372036854775807 := Kd.C_max ix.q9
      obtain ⟨x, hx⟩ : ∃ x, x = rd_T54 l k := ⟨_, rfl⟩
      rw [← hx] at x6 x9 l6 l9
      clear ix hx
      have hki : (k : Int) < (l.length : Int) := by omega
      have hk0 : (0 : Int) ≤ (k : Int) := by omega
      by_cases h9 : 300 < x.f6.length
      · have e9 : decide ((300 : Int) < (x.f6.length : Int)) = true := decide_eq_true (by omega)
        clear h9
        go_wp2
        go_ret
        exact ⟨rfl, HB1.out⟩
      · have e9 : decide ((300 : Int) < (x.f6.length : Int)) = false := decide_eq_false (by omega)
        by_cases h6 : 300 < x.f5.f1.length
        · have e6 : decide ((300 : Int) < (x.f5.f1.length : Int)) = true := decide_eq_true (by omega)
          clear h9 h6
          go_wp2
          go_ret
          exact ⟨rfl, HB1.out⟩
        · have e6 : decide ((300 : Int) < (x.f5.f1.length : Int)) = false := decide_eq_false (by omega)
          clear h9 h6
          go_wp2
          go_round
          case rel => exact ⟨k + 1, by omega, by go_num⟩
          case measure => simp [intOf]; omega
    · have hnl : ¬ k < l.length := hlt
      have d : decide (k < l.length) = false := decide_eq_false hlt
      have HPC := Aside0.mk (print_any g l A c w1 HG1.out HC1.out HGD.out)
      rw [HPR.out] at HPC
      clear hlt hk
      go_wp2_with fail
      refine HPC.out.mono ?_
      clear HPC
      rintro e w2 ⟨rfl, hB⟩
      have HB2 := Aside0.mk (below_seq HB1.out hB)
      have HG2 := Aside0.mk (HG1.out.below hB)
      have HC2 := Aside0.mk (Kd.C_below HC1.out hB)
      clear hB HB1 HG1 HC1
      go_wp2_with fail
      have HPC := Aside0.mk (Parse_any g t w2 HG2.out (by have := HTZ.out; omega))
      rw [HPT.out] at HPC
      refine HPC.out.mono ?_
      clear HPC
      rintro e w3 ⟨v3, rfl, hR, hB⟩
      obtain ⟨A3, c3, rfl, hc3, hC3⟩ := Kd.R_reads hR
      have HB3 := Aside0.mk (below_seq HB2.out hB)
      have HG3 := Aside0.mk (HG2.out.below hB)
      have HAC := Aside0.mk (alike_any l l A A3 c c3 w3 (Kd.C_below HC2.out hB) hC3 HGD.out HGD.out (by omega))
      rw [show alikeP l l = true from decide_eq_true rfl] at HAC
      clear hR hB hC3 hc3
      go_wp2_with fail
      refine HAC.out.mono ?_
      clear HAC
      rintro e w4 ⟨rfl, hB⟩
      have HB4 := Aside0.mk (below_seq HB3.out hB)
      have HG4 := Aside0.mk (HG3.out.below hB)
      clear hB
      go_wp2_with fail
      have HPC := Aside0.mk (Parse_any g s w4 HG4.out (by have := HSZ.out; omega))
      rw [HPS.out] at HPC
      refine HPC.out.mono ?_
      clear HPC
      rintro e w8 ⟨b8, rfl, hF, _, hB⟩
      have HB8 := Aside0.mk (below_seq HB4.out hB)
      clear hF hB
      go_wp2
      go_ret
      exact ⟨rfl, HB8.out⟩
set_option maxHeartbeats 8000000 in
theorem back_wo (g : Er → Addr) (l : List S54) (A : Option Addr) (c : Nat) (s : ByteArray) (w : World) (hg : Glob g w) (hC : Kd.C k54 w A l.length l) (hgood : ∀ x ∈ l, EvGood x) (h0 : l.length ≤ 60) (h1 : s.size ≤ 6000) (t : ByteArray) (hp : printAll l = (t, l.length)) (q : List S54) (hq : parseAll s = .ok q) : Calls Tryd.prog 10 #[.slice A l.length c, .string s] w (BackRes w) := by
  have d0 : decide ((60 : Int) < (l.length : Int)) = false := decide_eq_false (by omega)
  have d1 : decide ((6000 : Int) < (s.size : Int)) = false := decide_eq_false (by omega)
  have HPS := Aside0.mk hq
  have HPR := Aside0.mk hp
  have HSZ := Aside0.mk h1
  have HTZ := Aside0.mk (show t.size ≤ 200000 by
    have := print_size l 0 ⟨#[]⟩ hgood
    have e : (printFrom l 0 ⟨#[]⟩).1 = t := by have := hp; unfold printAll at this; rw [this]
    rw [e] at this
    have z : (⟨#[]⟩ : ByteArray).size = 0 := rfl
    omega)
  have HPT := Aside0.mk (print_all hgood (by omega) hp)
  clear hq hp h1
  have HG := Aside0.mk hg
  have HC := Aside0.mk hC
  have HGD := Aside0.mk hgood
  clear hg hC hgood
  go_enter Tryd.func10, Tryd.ntmps10
  go_wp2_with fail
  refine (known_any g w HG.out).mono ?_
  rintro e w1 ⟨rfl, hB⟩
  have HB1 := Aside0.mk hB
  have HG1 := Aside0.mk (HG.out.below hB)
  have HC1 := Aside0.mk (Kd.C_below HC.out hB)
  clear hB HG HC
  go_wp2_with fail
  go_loop [5] (fun i => ∃ k : Nat, k ≤ l.length ∧ i = .int .i64 k) (fun i => l.length - (intOf i).toNat)
  case atStart => exact ⟨0, Nat.zero_le _, rfl⟩
  case round =>
    obtain ⟨k, hk, rfl⟩ := hrel
    by_cases hlt : k < l.length
    · obtain ⟨ad, A6, A9, c6, c9, hA, ix, -, -, -, -, -, -, x6, -, -, x9⟩ := ev_at HC1.out HGD.out k hlt
      subst hA
      have l6 : (rd_T54 l k).f5.f1.length ≤ 9223372036854775807 := Kd.C_max ix.q6
      have l9 : (rd_T54 l k).f6.length ≤ 9223372036854775807 := Kd.C_max ix.q9
      obtain ⟨x, hx⟩ : ∃ x, x = rd_T54 l k := ⟨_, rfl⟩
      rw [← hx] at x6 x9 l6 l9
      clear ix hx
      have hki : (k : Int) < (l.length : Int) := by omega
      have hk0 : (0 : Int) ≤ (k : Int) := by omega
      by_cases h9 : 300 < x.f6.length
      · have e9 : decide ((300 : Int) < (x.f6.length : Int)) = true := decide_eq_true (by omega)
        clear h9
        go_wp2
        go_ret
        exact ⟨rfl, HB1.out⟩
      · have e9 : decide ((300 : Int) < (x.f6.length : Int)) = false := decide_eq_false (by omega)
        by_cases h6 : 300 < x.f5.f1.length
        · have e6 : decide ((300 : Int) < (x.f5.f1.length : Int)) = true := decide_eq_true (by omega)
          clear h9 h6
          go_wp2
          go_ret
          exact ⟨rfl, HB1.out⟩
        · have e6 : decide ((300 : Int) < (x.f5.f1.length : Int)) = false := decide_eq_false (by omega)
          clear h9 h6
          go_wp2
          go_round
          case rel => exact ⟨k + 1, by omega, by go_num⟩
          case measure => simp [intOf]; omega
    · have hnl : ¬ k < l.length := hlt
      have d : decide (k < l.length) = false := decide_eq_false hlt
      have HPC := Aside0.mk (print_any g l A c w1 HG1.out HC1.out HGD.out)
      rw [HPR.out] at HPC
      clear hlt hk
      go_wp2_with fail
      refine HPC.out.mono ?_
      clear HPC
      rintro e w2 ⟨rfl, hB⟩
      have HB2 := Aside0.mk (below_seq HB1.out hB)
      have HG2 := Aside0.mk (HG1.out.below hB)
      have HC2 := Aside0.mk (Kd.C_below HC1.out hB)
      clear hB HB1 HG1 HC1
      go_wp2_with fail
      have HPC := Aside0.mk (Parse_any g t w2 HG2.out (by have := HTZ.out; omega))
      rw [HPT.out] at HPC
      refine HPC.out.mono ?_
      clear HPC
      rintro e w3 ⟨v3, rfl, hR, hB⟩
      obtain ⟨A3, c3, rfl, hc3, hC3⟩ := Kd.R_reads hR
      have HB3 := Aside0.mk (below_seq HB2.out hB)
      have HG3 := Aside0.mk (HG2.out.below hB)
      have HAC := Aside0.mk (alike_any l l A A3 c c3 w3 (Kd.C_below HC2.out hB) hC3 HGD.out HGD.out (by omega))
      rw [show alikeP l l = true from decide_eq_true rfl] at HAC
      clear hR hB hC3 hc3
      go_wp2_with fail
      refine HAC.out.mono ?_
      clear HAC
      rintro e w4 ⟨rfl, hB⟩
      have HB4 := Aside0.mk (below_seq HB3.out hB)
      have HG4 := Aside0.mk (HG3.out.below hB)
      clear hB
      go_wp2_with fail
      have HPC := Aside0.mk (Parse_any g s w4 HG4.out (by have := HSZ.out; omega))
      rw [HPS.out] at HPC
      refine HPC.out.mono ?_
      clear HPC
      rintro e w8 ⟨v8, rfl, hR, hB⟩
      obtain ⟨A8, c8, rfl, hc8, hC8⟩ := Kd.R_reads hR
      have HB8 := Aside0.mk (below_seq HB4.out hB)
      have HG8 := Aside0.mk (HG4.out.below hB)
      have HPC := Aside0.mk (print_any g q A8 c8 w8 HG8.out hC8 (parseAll_good HPS.out))
      rw [back_all HPS.out] at HPC
      clear hR hB hC8 hc8
      go_wp2_with fail
      refine HPC.out.mono ?_
      clear HPC
      rintro e w9 ⟨rfl, hB⟩
      have HB9 := Aside0.mk (below_seq HB8.out hB)
      clear hB
      go_wp2
      go_ret
      exact ⟨rfl, HB9.out⟩
set_option maxHeartbeats 8000000 in
theorem back_se (g : Er → Addr) (l : List S54) (A : Option Addr) (c : Nat) (s : ByteArray) (w : World) (hg : Glob g w) (hC : Kd.C k54 w A l.length l) (hgood : ∀ x ∈ l, EvGood x) (h0 : l.length ≤ 60) (h1 : s.size ≤ 6000) (n : Nat) (hn : n < l.length) (hp : printAll l = (⟨#[]⟩, n)) (hl : lineP l[n] = none) (z : Int × Er) (hq : parseAll s = .error z) : Calls Tryd.prog 10 #[.slice A l.length c, .string s] w (BackRes w) := by
  have d0 : decide ((60 : Int) < (l.length : Int)) = false := decide_eq_false (by omega)
  have d1 : decide ((6000 : Int) < (s.size : Int)) = false := decide_eq_false (by omega)
  have HPS := Aside0.mk hq
  have HPR := Aside0.mk hp
  have HSZ := Aside0.mk h1
  have HLN := Aside0.mk hl
  have HN := Aside0.mk hn
  have n0 : (0 : Int) ≤ (n : Int) := by omega
  have n1 : (n : Int) < (l.length : Int) := by omega
  have n2 : ((n : Int) == (l.length : Int)) = false := beq_eq_false_iff_ne.2 (by omega)
  have n3 : (n == l.length) = false := beq_eq_false_iff_ne.2 (by omega)
  have n4 : decide (l.length < n) = false := decide_eq_false (by omega)
  clear hq hp h1 hl
  have HG := Aside0.mk hg
  have HC := Aside0.mk hC
  have HGD := Aside0.mk hgood
  clear hg hC hgood
  go_enter Tryd.func10, Tryd.ntmps10
  go_wp2_with fail
  refine (known_any g w HG.out).mono ?_
  rintro e w1 ⟨rfl, hB⟩
  have HB1 := Aside0.mk hB
  have HG1 := Aside0.mk (HG.out.below hB)
  have HC1 := Aside0.mk (Kd.C_below HC.out hB)
  clear hB HG HC
  go_wp2_with fail
  go_loop [5] (fun i => ∃ k : Nat, k ≤ l.length ∧ i = .int .i64 k) (fun i => l.length - (intOf i).toNat)
  case atStart => exact ⟨0, Nat.zero_le _, rfl⟩
  case round =>
    obtain ⟨k, hk, rfl⟩ := hrel
    by_cases hlt : k < l.length
    · obtain ⟨ad, A6, A9, c6, c9, hA, ix, -, -, -, -, -, -, x6, -, -, x9⟩ := ev_at HC1.out HGD.out k hlt
      subst hA
      have l6 : (rd_T54 l k).f5.f1.length ≤ 9223372036854775807 := Kd.C_max ix.q6
      have l9 : (rd_T54 l k).f6.length ≤ 9223372036854775807 := Kd.C_max ix.q9
      obtain ⟨x, hx⟩ : ∃ x, x = rd_T54 l k := ⟨_, rfl⟩
      rw [← hx] at x6 x9 l6 l9
      clear ix hx
      have hki : (k : Int) < (l.length : Int) := by omega
      have hk0 : (0 : Int) ≤ (k : Int) := by omega
      by_cases h9 : 300 < x.f6.length
      · have e9 : decide ((300 : Int) < (x.f6.length : Int)) = true := decide_eq_true (by omega)
        clear h9
        go_wp2
        go_ret
        exact ⟨rfl, HB1.out⟩
      · have e9 : decide ((300 : Int) < (x.f6.length : Int)) = false := decide_eq_false (by omega)
        by_cases h6 : 300 < x.f5.f1.length
        · have e6 : decide ((300 : Int) < (x.f5.f1.length : Int)) = true := decide_eq_true (by omega)
          clear h9 h6
          go_wp2
          go_ret
          exact ⟨rfl, HB1.out⟩
        · have e6 : decide ((300 : Int) < (x.f5.f1.length : Int)) = false := decide_eq_false (by omega)
          clear h9 h6
          go_wp2
          go_round
          case rel => exact ⟨k + 1, by omega, by go_num⟩
          case measure => simp [intOf]; omega
    · have hnl : ¬ k < l.length := hlt
      have d : decide (k < l.length) = false := decide_eq_false hlt
      have HPC := Aside0.mk (print_any g l A c w1 HG1.out HC1.out HGD.out)
      rw [HPR.out] at HPC
      clear hlt hk
      go_wp2_with fail
      refine HPC.out.mono ?_
      clear HPC
      rintro e w2 ⟨rfl, hB⟩
      have HB2 := Aside0.mk (below_seq HB1.out hB)
      have HG2 := Aside0.mk (HG1.out.below hB)
      have HC2 := Aside0.mk (Kd.C_below HC1.out hB)
      clear hB HB1 HG1 HC1
      obtain ⟨ad, A6, A9, c6, c9, hA, ix, x0, x1, x2, x3, x4, x5, x6, x7, x8, x9⟩ := ev_at HC2.out HGD.out n HN.out
      subst hA
      have HXK := Aside0.mk (rd_T54_eq HN.out)
      obtain ⟨x, hx⟩ : ∃ x, x = rd_T54 l n := ⟨_, rfl⟩
      rw [← hx] at ix x0 x1 x2 x3 x4 x5 x6 x7 x8 x9 HXK
      have HLC := Aside0.mk (line_any g x A6 A9 c6 c9 w2 HG2.out ix)
      rw [HXK.out, HLN.out, ← HXK.out] at HLC
      clear ix hx
      go_wp2_with fail
      refine HLC.out.mono ?_
      clear HLC
      rintro e w4 ⟨rfl, hB⟩
      have HB4 := Aside0.mk (below_seq HB2.out hB)
      have HG4 := Aside0.mk (HG2.out.below hB)
      clear hB x0 x1 x2 x3 x4 x5 x6 x7 x8 x9
      simp only [Option.getD, Option.isSome]
      go_wp2_with fail
      have HPC := Aside0.mk (Parse_any g s w4 HG4.out (by have := HSZ.out; omega))
      rw [HPS.out] at HPC
      refine HPC.out.mono ?_
      clear HPC
      rintro e w8 ⟨b8, rfl, hF, _, hB⟩
      have HB8 := Aside0.mk (below_seq HB4.out hB)
      clear hF hB
      go_wp2
      go_ret
      exact ⟨rfl, HB8.out⟩
set_option maxHeartbeats 8000000 in
theorem back_so (g : Er → Addr) (l : List S54) (A : Option Addr) (c : Nat) (s : ByteArray) (w : World) (hg : Glob g w) (hC : Kd.C k54 w A l.length l) (hgood : ∀ x ∈ l, EvGood x) (h0 : l.length ≤ 60) (h1 : s.size ≤ 6000) (n : Nat) (hn : n < l.length) (hp : printAll l = (⟨#[]⟩, n)) (hl : lineP l[n] = none) (q : List S54) (hq : parseAll s = .ok q) : Calls Tryd.prog 10 #[.slice A l.length c, .string s] w (BackRes w) := by
  have d0 : decide ((60 : Int) < (l.length : Int)) = false := decide_eq_false (by omega)
  have d1 : decide ((6000 : Int) < (s.size : Int)) = false := decide_eq_false (by omega)
  have HPS := Aside0.mk hq
  have HPR := Aside0.mk hp
  have HSZ := Aside0.mk h1
  have HLN := Aside0.mk hl
  have HN := Aside0.mk hn
  have n0 : (0 : Int) ≤ (n : Int) := by omega
  have n1 : (n : Int) < (l.length : Int) := by omega
  have n2 : ((n : Int) == (l.length : Int)) = false := beq_eq_false_iff_ne.2 (by omega)
  have n3 : (n == l.length) = false := beq_eq_false_iff_ne.2 (by omega)
  have n4 : decide (l.length < n) = false := decide_eq_false (by omega)
  clear hq hp h1 hl
  have HG := Aside0.mk hg
  have HC := Aside0.mk hC
  have HGD := Aside0.mk hgood
  clear hg hC hgood
  go_enter Tryd.func10, Tryd.ntmps10
  go_wp2_with fail
  refine (known_any g w HG.out).mono ?_
  rintro e w1 ⟨rfl, hB⟩
  have HB1 := Aside0.mk hB
  have HG1 := Aside0.mk (HG.out.below hB)
  have HC1 := Aside0.mk (Kd.C_below HC.out hB)
  clear hB HG HC
  go_wp2_with fail
  go_loop [5] (fun i => ∃ k : Nat, k ≤ l.length ∧ i = .int .i64 k) (fun i => l.length - (intOf i).toNat)
  case atStart => exact ⟨0, Nat.zero_le _, rfl⟩
  case round =>
    obtain ⟨k, hk, rfl⟩ := hrel
    by_cases hlt : k < l.length
    · obtain ⟨ad, A6, A9, c6, c9, hA, ix, -, -, -, -, -, -, x6, -, -, x9⟩ := ev_at HC1.out HGD.out k hlt
      subst hA
      have l6 : (rd_T54 l k).f5.f1.length ≤ 9223372036854775807 := Kd.C_max ix.q6
      have l9 : (rd_T54 l k).f6.length ≤ 9223372036854775807 := Kd.C_max ix.q9
      obtain ⟨x, hx⟩ : ∃ x, x = rd_T54 l k := ⟨_, rfl⟩
      rw [← hx] at x6 x9 l6 l9
      clear ix hx
      have hki : (k : Int) < (l.length : Int) := by omega
      have hk0 : (0 : Int) ≤ (k : Int) := by omega
      by_cases h9 : 300 < x.f6.length
      · have e9 : decide ((300 : Int) < (x.f6.length : Int)) = true := decide_eq_true (by omega)
        clear h9
        go_wp2
        go_ret
        exact ⟨rfl, HB1.out⟩
      · have e9 : decide ((300 : Int) < (x.f6.length : Int)) = false := decide_eq_false (by omega)
        by_cases h6 : 300 < x.f5.f1.length
        · have e6 : decide ((300 : Int) < (x.f5.f1.length : Int)) = true := decide_eq_true (by omega)
          clear h9 h6
          go_wp2
          go_ret
          exact ⟨rfl, HB1.out⟩
        · have e6 : decide ((300 : Int) < (x.f5.f1.length : Int)) = false := decide_eq_false (by omega)
          clear h9 h6
          go_wp2
          go_round
          case rel => exact ⟨k + 1, by omega, by go_num⟩
          case measure => simp [intOf]; omega
    · have hnl : ¬ k < l.length := hlt
      have d : decide (k < l.length) = false := decide_eq_false hlt
      have HPC := Aside0.mk (print_any g l A c w1 HG1.out HC1.out HGD.out)
      rw [HPR.out] at HPC
      clear hlt hk
      go_wp2_with fail
      refine HPC.out.mono ?_
      clear HPC
      rintro e w2 ⟨rfl, hB⟩
      have HB2 := Aside0.mk (below_seq HB1.out hB)
      have HG2 := Aside0.mk (HG1.out.below hB)
      have HC2 := Aside0.mk (Kd.C_below HC1.out hB)
      clear hB HB1 HG1 HC1
      obtain ⟨ad, A6, A9, c6, c9, hA, ix, x0, x1, x2, x3, x4, x5, x6, x7, x8, x9⟩ := ev_at HC2.out HGD.out n HN.out
      subst hA
      have HXK := Aside0.mk (rd_T54_eq HN.out)
      obtain ⟨x, hx⟩ : ∃ x, x = rd_T54 l n := ⟨_, rfl⟩
      rw [← hx] at ix x0 x1 x2 x3 x4 x5 x6 x7 x8 x9 HXK
      have HLC := Aside0.mk (line_any g x A6 A9 c6 c9 w2 HG2.out ix)
      rw [HXK.out, HLN.out, ← HXK.out] at HLC
      clear ix hx
      go_wp2_with fail
      refine HLC.out.mono ?_
      clear HLC
      rintro e w4 ⟨rfl, hB⟩
      have HB4 := Aside0.mk (below_seq HB2.out hB)
      have HG4 := Aside0.mk (HG2.out.below hB)
      clear hB x0 x1 x2 x3 x4 x5 x6 x7 x8 x9
      simp only [Option.getD, Option.isSome]
      go_wp2_with fail
      have HPC := Aside0.mk (Parse_any g s w4 HG4.out (by have := HSZ.out; omega))
      rw [HPS.out] at HPC
      refine HPC.out.mono ?_
      clear HPC
      rintro e w8 ⟨v8, rfl, hR, hB⟩
      obtain ⟨A8, c8, rfl, hc8, hC8⟩ := Kd.R_reads hR
      have HB8 := Aside0.mk (below_seq HB4.out hB)
      have HG8 := Aside0.mk (HG4.out.below hB)
      have HPC := Aside0.mk (print_any g q A8 c8 w8 HG8.out hC8 (parseAll_good HPS.out))
      rw [back_all HPS.out] at HPC
      clear hR hB hC8 hc8
      go_wp2_with fail
      refine HPC.out.mono ?_
      clear HPC
      rintro e w9 ⟨rfl, hB⟩
      have HB9 := Aside0.mk (below_seq HB8.out hB)
      clear hB
      go_wp2
      go_ret
      exact ⟨rfl, HB9.out⟩
theorem back_law (g : Er → Addr) (l : List S54) (A : Option Addr) (c : Nat) (s : ByteArray) (w : World) (hg : Glob g w) (hC : Kd.C k54 w A l.length l) (hgood : ∀ x ∈ l, EvGood x) : Calls Tryd.prog 10 #[.slice A l.length c, .string s] w fun r w' => r = .returned (.bool true) ∧ Below w.heap.size w w' := by
  show Calls Tryd.prog 10 #[.slice A l.length c, .string s] w (BackRes w)
  by_cases h0 : 60 < l.length
  · exact back_big1 g l A c s w hg hC hgood h0
  by_cases h1 : 6000 < s.size
  · exact back_big2 g l A c s w hg hC hgood (by omega) h1
  have h0' : l.length ≤ 60 := by omega
  have h1' : s.size ≤ 6000 := by omega
  rcases hp : printAll l with ⟨t, n⟩
  by_cases hn : n = l.length
  · subst hn
    rcases hq : parseAll s with z | q
    · exact back_we g l A c s w hg hC hgood h0' h1' t hp z hq
    · exact back_wo g l A c s w hg hC hgood h0' h1' t hp q hq
  · obtain ⟨e1, k, e2, hk, hl⟩ := print_short l 0 ⟨#[]⟩ (by omega) (by unfold printAll at hp; rw [hp]; simpa using hn)
    unfold printAll at hp
    rw [hp] at e1 e2
    have hnk : n = k := by simpa using e2
    subst hnk
    have ht : t = ⟨#[]⟩ := e1
    subst ht
    rcases hq : parseAll s with z | q
    · exact back_se g l A c s w hg hC hgood h0' h1' n hk hp hl z hq
    · exact back_so g l A c s w hg hC hgood h0' h1' n hk hp hl q hq
end Go.Proofs.YtjpkphmihkbfeaaDoor.S34
