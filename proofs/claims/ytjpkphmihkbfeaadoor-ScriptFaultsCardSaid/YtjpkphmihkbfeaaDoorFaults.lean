/- ScriptFaults returns true at every input, its argument untouched: the row's tied card. No condition beside the card's own. -/
import Derived.Test.YtjpkphmihkbfeaaDoorZe
import Derived.Test.YtjpkphmihkbfeaaDoorTie
import Derived.Test.YtjpkphmihkbfeaaDoorCards
import Derived.SevenTiedAt
namespace Go.Proofs.YtjpkphmihkbfeaaDoor.S34
open Go.RowKit Go.Proofs.YtjpkphmihkbfeaaDoorW.PrintWords Go.Proofs.YtjpkphmihkbfeaaDoorW.PrintLast Go.Proofs.YtjpkphmihkbfeaaDoorW.PrintMore Go.Proofs.YtjpkphmihkbfeaaDoor.Q
set_option maxRecDepth 100000
set_option linter.unusedSimpArgs false
/-- What ScriptFaults laid: a fault that holds a fault, one that holds another error. -/
structure FH (g : Er → Addr) (line : Int) (a b c d : Nat) (W : World) : Prop where
  gl : Glob g W
  ha : W.heap[a]? = some (.cells #[.int .i64 3, .iface 71 (.pointer (some (g .text)))] 39 (0, 0))
  hb : W.heap[b]? = some (.cells #[.int .i64 line, .iface 35 (.pointer (some ⟨a, 0, none⟩))] 39 (0, 0))
  hc : ∃ cs t, W.heap[c]? = some (.cells cs t (0, 0))
  hd : W.heap[d]? = some (.cells #[.int .i64 line, .iface 71 (.pointer (some ⟨c, 0, none⟩))] 39 (0, 0))
  hne : ∀ y, (g y).block < c
theorem FH.below {g : Er → Addr} {line : Int} {a b c d : Nat} {W W1 : World} (h : FH g line a b c d W) (k : Below W.heap.size W W1) : FH g line a b c d W1 :=
  ⟨h.gl.below k, blk_below h.ha k, blk_below h.hb k, by obtain ⟨cs, t, hc⟩ := h.hc; exact ⟨cs, t, blk_below hc k⟩, blk_below h.hd k, h.hne⟩
theorem FH.is_f {g : Er → Addr} {line : Int} {a b c d : Nat} {W : World} (h : FH g line a b c d W) (y : Er) :
    Calls Tryd.prog 21 #[.iface 35 (.pointer (some ⟨b, 0, none⟩)), .iface 71 (.pointer (some (g y)))] W fun e w' => e = .returned (.bool (decide (Er.text = y))) ∧ w' = W :=
  is_fault2 g .text y ⟨b, 0, none⟩ ⟨a, 0, none⟩ W h.gl (by rw [blk_cell h.hb]; rfl) (by rw [blk_cell h.ha]; rfl)
theorem FH.is_a {g : Er → Addr} {line : Int} {a b c d : Nat} {W : World} (h : FH g line a b c d W) (y : Er) :
    Calls Tryd.prog 21 #[.iface 35 (.pointer (some ⟨a, 0, none⟩)), .iface 71 (.pointer (some (g y)))] W fun e w' => e = .returned (.bool (decide (Er.text = y))) ∧ w' = W :=
  is_fault g .text y ⟨a, 0, none⟩ W h.gl (by rw [blk_cell h.ha]; rfl)
theorem FH.is_c {g : Er → Addr} {line : Int} {a b c d : Nat} {W : World} (h : FH g line a b c d W) (y : Er) :
    Calls Tryd.prog 21 #[.iface 71 (.pointer (some ⟨c, 0, none⟩)), .iface 71 (.pointer (some (g y)))] W fun e w' => e = .returned (.bool false) ∧ w' = W := by
  obtain ⟨cs, t, hc⟩ := h.hc
  obtain ⟨cb, tb, hb⟩ := h.gl.blk y
  exact is_other ⟨c, 0, none⟩ (g y) cs cb t tb W (fun he => by have := h.hne y; rw [← he] at this; exact absurd this (Nat.lt_irrefl _)) hc hb
theorem FH.err_f {g : Er → Addr} {line : Int} {a b c d : Nat} {W : World} (h : FH g line a b c d W) (h1 : -9223372036854775808 ≤ line) (h2 : line ≤ 9223372036854775807) :
    Calls Tryd.prog 17 #[.pointer (some ⟨b, 0, none⟩)] W fun e w' => e = .returned (.string (faultB (some .text) line)) ∧ Below W.heap.size W w' :=
  error_any g (some .text) line 35 (.pointer (some ⟨a, 0, none⟩)) W b h.gl h.hb h1 h2 (fun y w1 k => by simpa using (h.below k).is_a y)
theorem FH.err_d {g : Er → Addr} {line : Int} {a b c d : Nat} {W : World} (h : FH g line a b c d W) (h1 : -9223372036854775808 ≤ line) (h2 : line ≤ 9223372036854775807) :
    Calls Tryd.prog 17 #[.pointer (some ⟨d, 0, none⟩)] W fun e w' => e = .returned (.string (faultB none line)) ∧ Below W.heap.size W w' :=
  error_any g none line 71 (.pointer (some ⟨c, 0, none⟩)) W d h.gl h.hd h1 h2 (fun y w1 k => by simpa using (h.below k).is_c y)
theorem err_sent {g : Er → Addr} (x : Er) {line : Int} {b : Nat} {W : World} (h : Glob g W) (hf : FaultAt g x line b W) (h1 : -9223372036854775808 ≤ line) (h2 : line ≤ 9223372036854775807) :
    Calls Tryd.prog 17 #[.pointer (some ⟨b, 0, none⟩)] W fun e w' => e = .returned (.string (faultB (some x) line)) ∧ Below W.heap.size W w' :=
  error_any g (some x) line 71 (.pointer (some (g x))) W b h hf h1 h2 (fun y w1 k => by simpa using is_sent g x y w1 (h.below k))
set_option maxHeartbeats 8000000 in
theorem faults_any (g : Er → Addr) (line : Int) (w : World) (hg : Glob g w) : Calls Tryd.prog 4 #[.int .i64 line] w fun e w' => e = .returned (.bool true) ∧ Below w.heap.size w w' := by
  have HG := Aside0.mk hg
  clear hg
  by_cases h0 : line < 0
  · have d0 : decide (line < 0) = true := decide_eq_true h0
    clear h0
    go_enter Tryd.func4, Tryd.ntmps4
    go_wp2_with fail
    refine (known_any g w HG.out).mono ?_
    rintro e w1 ⟨rfl, hB⟩
    have HB := Aside0.mk hB
    clear hB
    go_wp2_with fail
    go_ret
    exact ⟨rfl, HB.out⟩
  have d0 : decide (line < 0) = false := decide_eq_false h0
  by_cases h1 : 1099511627776 < line
  · have d1 : decide (1099511627776 < line) = true := decide_eq_true h1
    clear h0 h1
    go_enter Tryd.func4, Tryd.ntmps4
    go_wp2_with fail
    refine (known_any g w HG.out).mono ?_
    rintro e w1 ⟨rfl, hB⟩
    have HB := Aside0.mk hB
    clear hB
    go_wp2_with fail
    go_ret
    exact ⟨rfl, HB.out⟩
  have d1 : decide (1099511627776 < line) = false := decide_eq_false h1
  have cT := HG.out.cell .text
  have cW := HG.out.cell .word
  have cE := HG.out.cell .ends
  simp only [Er.var] at cT cW cE
  have hil : (numB line).size ≤ 21 := Lib.itoa_length_le line (by omega) (by omega)
  have HL := Aside0.mk (show 0 ≤ line ∧ line ≤ 1099511627776 from ⟨by omega, by omega⟩)
  clear h0 h1
  go_enter Tryd.func4, Tryd.ntmps4
  go_wp2_with fail
  refine (error_nil w).mono ?_
  rintro e w1 ⟨rfl, hB⟩
  have HB1 := Aside0.mk hB
  clear hB
  go_wp2_with fail
  refine (unwrap_nil w1).mono ?_
  rintro e w' ⟨rfl, hw⟩
  subst w'
  go_wp2_with fail
  refine (error_none w1.heap.size line _ (by first | exact blk_new _ _ | exact blk_drewN (blk_new _ _) _)).mono ?_
  rintro e w2 ⟨rfl, hB⟩
  have HB2 := Aside0.mk (below_seq HB1.out (below_seq (below_alloc (Below.refl w1.heap.size w1) _) hB))
  clear hB
  go_wp2_with fail
  refine (unwrap_any w2.heap.size line .nilIface _ (blk_new _ _) (Or.inl rfl)).mono ?_
  rintro e w' ⟨rfl, hw⟩
  subst w'
  go_wp2_with fail
  refine (digits_any line _ HL.out.1 (by have := HL.out.2; omega)).mono ?_
  rintro e w3 ⟨rfl, hB⟩
  have HB3 := Aside0.mk (below_seq HB2.out (below_seq (below_alloc (Below.refl w2.heap.size w2) _) hB))
  have HG3 := Aside0.mk (HG.out.below HB3.out)
  clear hB HB1 HB2 cT cW cE
  have cT := HG3.out.cell .text
  simp only [Er.var] at cT
  go_wp2_with fail
  clear cT
  -- f
  have hp0 : (w3.alloc (.cells #[.int .i64 3, .iface 71 (.pointer (some (g .text)))] 39)).heap[w3.heap.size]? = some (.cells #[.int .i64 3, .iface 71 (.pointer (some (g .text)))] 39 (0, 0)) := blk_new _ _
  obtain ⟨w4, hw4⟩ : ∃ w4, w4 = (w3.alloc (.cells #[.int .i64 3, .iface 71 (.pointer (some (g .text)))] 39)).alloc (.cells #[.int .i64 line, .iface 35 (.pointer (some ⟨w3.heap.size, 0, none⟩))] 39) := ⟨_, rfl⟩
  rw [← hw4]
  have HB4 := Aside0.mk (show Below w3.heap.size w3 w4 from by rw [hw4]; exact below_alloc (below_alloc (Below.refl _ _) _) _)
  have HQ4 := Aside0.mk (show w4.heap[w3.heap.size]? = some (.cells #[.int .i64 3, .iface 71 (.pointer (some (g .text)))] 39 (0, 0)) from by rw [hw4]; exact blk_alloc hp0 _)
  have HP4 := Aside0.mk (show w4.heap[w3.heap.size + 1]? = some (.cells #[.int .i64 line, .iface 35 (.pointer (some ⟨w3.heap.size, 0, none⟩))] 39 (0, 0)) from by rw [hw4]; exact blk_new_at (by simp))
  clear hw4 hp0
  refine (new_any _ w4).mono ?_
  rintro e w5 ⟨rfl, hn, hB⟩
  have HB5 := Aside0.mk (show Below w4.heap.size w4 w5 from hB)
  have HN5 := Aside0.mk hn
  clear hB hn
  go_wp2_with fail
  have HFH := Aside0.mk (show FH g line w3.heap.size (w3.heap.size + 1) w4.heap.size w5.heap.size (w5.alloc (.cells #[.int .i64 line, .iface 71 (.pointer (some ⟨w4.heap.size, 0, none⟩))] 39)) from by
    have hb6 : Below w5.heap.size w5 (w5.alloc (.cells #[.int .i64 line, .iface 71 (.pointer (some ⟨w4.heap.size, 0, none⟩))] 39)) := below_alloc (Below.refl _ _) _
    refine ⟨((HG3.out.below HB4.out).below HB5.out).below hb6, blk_below (blk_below HQ4.out HB5.out) hb6, blk_below (blk_below HP4.out HB5.out) hb6, ⟨_, _, blk_below HN5.out hb6⟩, blk_new _ _, fun y => ?_⟩
    obtain ⟨c, t, h⟩ := (HG3.out.below HB4.out).blk y
    exact blk_lt h)
  have HB6 := Aside0.mk (show Below w.heap.size w (w5.alloc (.cells #[.int .i64 line, .iface 71 (.pointer (some ⟨w4.heap.size, 0, none⟩))] 39)) from below_alloc (below_seq (below_seq HB3.out HB4.out) HB5.out) _)
  generalize hgw : w5.alloc (.cells #[.int .i64 line, .iface 71 (.pointer (some ⟨w4.heap.size, 0, none⟩))] 39) = w6 at HFH HB6 ⊢
  clear hgw HB3 HB4 HB5 HG3 HQ4 HP4 HN5
  generalize w3.heap.size = na at HFH ⊢
  generalize w4.heap.size = nc at HFH ⊢
  generalize w5.heap.size = nd at HFH ⊢
  refine (HFH.out.err_f (by have := HL.out.1; omega) (by have := HL.out.2; omega)).mono ?_
  rintro e w7 ⟨rfl, hB⟩
  have HB7 := Aside0.mk (below_seq HB6.out hB)
  have HF7 := Aside0.mk (HFH.out.below hB)
  clear hB HB6 HFH
  have cT := HF7.out.gl.cell .text
  have cW := HF7.out.gl.cell .word
  simp only [Er.var] at cT cW
  have q1 : ((faultB (some .text) line).toList == ((⟨#[108, 105, 110, 101, 32]⟩ : ByteArray) ++ numB line ++ ⟨#[58, 32]⟩ ++ ⟨#[116, 101, 120, 116]⟩).toList) = true := beq_self_eq_true _
  go_wp2_with fail
  refine (HF7.out.is_f .text).mono ?_
  rintro e w' ⟨rfl, hw⟩
  subst w'
  rw [show decide (Er.text = Er.text) = true from rfl]
  go_wp2_with fail
  refine (HF7.out.is_f .word).mono ?_
  rintro e w' ⟨rfl, hw⟩
  subst w'
  rw [show decide (Er.text = Er.word) = false from rfl]
  go_wp2_with fail
  refine (HF7.out.err_d (by have := HL.out.1; omega) (by have := HL.out.2; omega)).mono ?_
  rintro e w8 ⟨rfl, hB⟩
  have HB8 := Aside0.mk (below_seq HB7.out hB)
  have HF8 := Aside0.mk (HF7.out.below hB)
  clear hB HB7 HF7 cT cW q1
  have cE := HF8.out.gl.cell .ends
  simp only [Er.var] at cE
  have q2 : ((faultB none line).toList == ((⟨#[108, 105, 110, 101, 32]⟩ : ByteArray) ++ numB line ++ ⟨#[58, 32]⟩).toList) = true := by
    rw [show faultB none line = (⟨#[108, 105, 110, 101, 32]⟩ : ByteArray) ++ numB line ++ ⟨#[58, 32]⟩ from by
      apply ByteArray.ext
      simp [faultB, whatB, numB]]
    exact beq_self_eq_true _
  go_wp2_with fail
  refine (err_sent (g := g) .ends (line := line) (b := w8.heap.size) (HF8.out.gl.below (below_alloc (Below.refl _ _) _)) (blk_new _ _) (by have := HL.out.1; omega) (by have := HL.out.2; omega)).mono ?_
  rintro e w9 ⟨rfl, hB⟩
  have hq := below_seq (below_alloc (Below.refl w8.heap.size w8) _) hB
  have HB9 := Aside0.mk (below_seq HB8.out hq)
  have HG9 := Aside0.mk (HF8.out.gl.below hq)
  clear hB hq HB8 HF8 cE q2
  have q3 : ((faultB (some .ends) line).toList == ((⟨#[108, 105, 110, 101, 32]⟩ : ByteArray) ++ numB line ++ ⟨#[58, 32]⟩ ++ ⟨#[110, 111, 32, 108, 105, 110, 101, 32, 102, 101, 101, 100]⟩).toList) = true := beq_self_eq_true _
  go_wp2_with fail
  refine (known_any g w9 HG9.out).mono ?_
  rintro e w10 ⟨rfl, hB⟩
  have HB10 := Aside0.mk (below_seq HB9.out hB)
  clear hB HB9 HG9 q3
  go_wp2_with fail
  go_ret
  exact ⟨rfl, HB10.out⟩
end Go.Proofs.YtjpkphmihkbfeaaDoor.S34
namespace Go.Proofs.YtjpkphmihkbfeaaDoor
open Go.ChangeShapes Go.WideShapes Go.ChangeAt Go.RowKit S34
set_option maxRecDepth 100000

theorem scriptFaults_lifted (os : Os) (started : os.Started) (H : Type) (enc : TypeId × Value → H) :
    ReturnsInHanded {} Tryd.checked os 4 .any (fun w args => (Rows.scriptFaultsSpec.pre enc Tryd.prog Tryd.f4 Rows.scriptFaultsRow.domain false w args ∧ laidMetH Tryd.prog Rows.scriptFaultsRow.laid w) ∧ sizedMet enc Tryd.prog Tryd.f4 (OpenSpec.ofChange Rows.scriptFaultsSpec) false w args)
      (Rows.scriptFaultsSpec.post enc Tryd.prog Tryd.f4 false true false false) := by
  refine S34.lifted (C := Tryd.checked) (X := fun w _ => laidMetH Tryd.prog Rows.scriptFaultsRow.laid w) (fun _ _ _ hh h => h.of_heap hh) own started (by kernel_rfl) Tryd.func4
    (ChangeSpec.witness_at (enc := enc) (C := Tryd.checked) (os := os) (X := fun w _ => laidMetH Tryd.prog Rows.scriptFaultsRow.laid w) false (doorW os) #[.int .i64 0] 8 rfl (by kernel_rfl) (by kernel_rfl) (by kernel_rfl) (by kernel_rfl) (by kernel_rfl) (door_met os _)) ?_
  intro W base args ds gs before hval0 hW _ _ hL hsh _
  have hval : ∀ (j : Nat) t v, Tryd.f4.params[j]? = some t → args[j]? = some v → Value.okWide Tryd.prog W .any base t v := hval0
  have hW' := hW
  obtain ⟨p, q, hA0, hV0, rfl, hfz, hnd⟩ := hW
  have hA : DataW.TrodAll enc Tryd.prog W 0 (fun _ => true) true Tryd.f4.params.toList args.toList ds p := hA0
  rw [Tryd.params4] at hA hval
  obtain ⟨v0, d0, rfl, rfl, h0⟩ := trodAll_one hA
  obtain ⟨n, rfl, rfl, rfl, hwn⟩ := open_int Tryd.underlying3 (hval 0 3 v0 rfl rfl) h0
  obtain ⟨rfl, rfl⟩ := trodVars_none hV0
  obtain ⟨g, hg⟩ := glob_of_laid hL hsh
  refine (faults_any g n W hg).mono fun e W' ⟨he, hb⟩ => ?_
  subst he
  have e1 : Rows.scriptFaultsSpec.fn H ([.lit (.int .i64 n)] ++ []) = { results := [.lit (.bool true)], args := [.lit (.int .i64 n)] } := rfl
  refine ⟨_, rfl, _, _, _, [], [], [], hW', ?_, ?_, ?_, hb.frame _, fun h => by cases h⟩
  · rw [e1]; exact trodAll_mk1 (shut_bool Tryd.underlying4 true)
  · rw [e1]; exact trodAll_mk1 (shut_int Tryd.underlying3 hwn)
  · rw [e1]; rfl

theorem scriptFaults_holds : Rows.ScriptFaultsSaid :=
  OpenClaim.holds_of_wide 4 Tryd.f4 rfl rfl rfl rfl rfl rfl rfl ⟨rfl, rfl, rfl, rfl, rfl⟩ rfl rfl rfl rfl rfl (by kernel_rfl) Tryd.func4 (by kernel_rfl)
    (of_decide_eq_true (by kernel_rfl)) (by unfold Func.isWrapper; rw [if_neg (of_decide_eq_false (by kernel_rfl))]; exact ⟨rfl, rfl⟩)
    (fun os started H enc _ => scriptFaults_lifted os started H enc)
theorem scriptFaults_card : Rows.ScriptFaultsCardSaid :=
  Claim7.holds_tied_plain_at .later [] [.data, .data, .data, .data, .handle, .sentinel, .sentinel, .sentinel, .sentinel, .sentinel, .pinned] true (true, "697d90f6e5e2e597adb7f51ee71aadf481d62156e225e93a54c51917f338d07c") true
    scriptFaults_holds (fun _ h => by cases h) (by kernel_rfl) (fun _ h => by cases h) scriptFaults_row_tie rfl ⟨rfl, rfl⟩ (by kernel_rfl) rfl
    (fun f fn hf hfn => by
      obtain rfl : f = 4 := Option.some.inj ((show Tryd.prog.funcNamed "oriel/oriellaw34.ScriptFaults" = some 4 by kernel_rfl).symm.trans hf) |>.symm
      obtain rfl : fn = Tryd.f4 := (Option.some.inj (Tryd.func4.symm.trans hfn)).symm
      exact ⟨by kernel_rfl, fun j t ht => by
        rw [Tryd.params4] at ht
        have h3 : t = 3 := by
          rcases j with _ | j
          · simpa using ht.symm
          · simp at ht
        subst h3
        exact (show Tryd.prog.wantsStandIn 3 = false by kernel_rfl)⟩)
    (by kernel_rfl)
end Go.Proofs.YtjpkphmihkbfeaaDoor
