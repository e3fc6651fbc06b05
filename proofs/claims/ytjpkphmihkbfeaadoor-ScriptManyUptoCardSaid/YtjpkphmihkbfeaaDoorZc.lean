/- D1, D2, D3, D4, D5, D6 of wip, in one text. -/
import Derived.Test.YtjpkphmihkbfeaaDoorZb
import Derived.Test.YtjpkphmihkbfeaaDoorQ1
import Derived.Test.YtjpkphmihkbfeaaDoorQq
namespace Go.Proofs.YtjpkphmihkbfeaaDoor.S34
open Go.RowKit Go.Proofs.YtjpkphmihkbfeaaDoorW.PrintWords Go.Proofs.YtjpkphmihkbfeaaDoorW.PrintLast Go.Proofs.YtjpkphmihkbfeaaDoorW.PrintMore Go.Proofs.YtjpkphmihkbfeaaDoor.Q
set_option maxRecDepth 100000
set_option linter.unusedSimpArgs false

/-- A decimal numeral's bytes. -/
def numB (n : Int) : ByteArray := ⟨(Lib.itoa n).toArray⟩

theorem sz1 (x : UInt8) : (⟨#[x]⟩ : ByteArray).size = 1 := rfl

theorem digit_byte (u : Nat) (h : u < 10) : strOfNums [(48 + (u : Int)) % 256] = ⟨#[UInt8.ofNat (48 + u)]⟩ := by
  have : ∀ v : Fin 10, strOfNums [(48 + (v.val : Int)) % 256] = ⟨#[UInt8.ofNat (48 + v.val)]⟩ := by decide +kernel
  exact this ⟨u, h⟩

theorem ba_append_mk (a : Array UInt8) (b : ByteArray) : (⟨a⟩ : ByteArray) ++ b = ⟨a ++ b.data⟩ := by
  apply ByteArray.ext; simp
theorem wrap_small (n : Int) (h0 : 0 ≤ n) (h1 : n ≤ 9223372036854775807) : wrap64 n = n := by unfold wrap64; omega

theorem digits_l (m u : Nat) : ∀ (acc : ByteArray), u < 10 ^ (m + 1) → u < 9223372036854775808 → acc.size + m + 1 ≤ 100 →
    orielref12_Digits.l0 (m + 1) (u : Int) acc = some (⟨(Lib.decDigits u).toArray⟩ ++ acc) := by
  induction m generalizing u with
  | zero =>
    intro acc h h2 h3
    have h : u < 10 := by simpa using h
    rw [orielref12_Digits.l0, if_neg (by omega), wrap_small _ (by omega) (by omega), Option.bind_some, digit_byte u h]
    rw [if_pos (by rw [sz1]; omega)]
    rw [Lib.decDigits_one h]
  | succ m ih =>
    intro acc h h2 h3
    rw [orielref12_Digits.l0]
    by_cases hb : u < 10
    · rw [if_neg (by omega), wrap_small _ (by omega) (by omega), Option.bind_some, digit_byte u hb]
      rw [if_pos (by rw [sz1]; omega)]
      rw [Lib.decDigits_one hb]
    · have e1 : Int.tmod (u : Int) 10 = ((u % 10 : Nat) : Int) := rfl
      have e2 : Int.tdiv (u : Int) 10 = ((u / 10 : Nat) : Int) := rfl
      rw [if_pos (by omega), e1, e2, wrap_small _ (by omega) (by omega), wrap_small _ (by omega) (by omega), Option.bind_some, digit_byte _ (Nat.mod_lt _ (by decide))]
      rw [if_pos (by rw [sz1]; omega)]
      rw [ih (u / 10) _ (by rw [Nat.pow_succ] at h; omega) (by omega) (by rw [ByteArray.size_append, sz1]; omega)]
      rw [Lib.decDigits.eq_def u, dif_neg hb]
      congr 1
      apply ByteArray.ext
      simp
theorem digits_f (n : Int) (h0 : 0 ≤ n) (h1 : n ≤ 9223372036854775807) : orielref12_Digits.f 20 n = some (numB n) := by
  obtain ⟨u, rfl⟩ : ∃ u : Nat, n = u := ⟨n.toNat, by omega⟩
  rw [orielref12_Digits.f, digits_l 19 u _ (by omega) (by omega) (by decide)]
  unfold numB
  rw [Lib.itoa_nonneg]
  congr 1
  apply ByteArray.ext
  simp
theorem digits_any (n : Int) (w : World) (h0 : 0 ≤ n) (h1 : n ≤ 9223372036854775807) :
    Calls Tryd.prog 19 #[.int .i64 n] w fun e w' => e = .returned (.string (numB n)) ∧ Below w.heap.size w w' :=
  orielref12_Digits.calls 20 n _ w (digits_f n h0 h1)

set_option maxHeartbeats 1000000 in
theorem unwrap_nil (w : World) : Calls Tryd.prog 18 #[.pointer none] w fun e w' => e = .returned .nilIface ∧ w' = w := by
  go_enter Tryd.func18, Tryd.ntmps18
  go_wp2
  go_ret
  exact ⟨rfl, rfl⟩
set_option maxHeartbeats 1000000 in
theorem unwrap_any (b : Nat) (line : Int) (v : Value) (w : World) (hb : w.heap[b]? = some (.cells #[.int .i64 line, v] 39 (0, 0))) (hv : v = .nilIface ∨ ∃ T u, v = .iface T u) :
    Calls Tryd.prog 18 #[.pointer (some ⟨b, 0, none⟩)] w fun e w' => e = .returned v ∧ w' = w := by
  have hb1 : w.cell? ⟨b, 1, none⟩ = some v := by rw [blk_cell hb]; rfl
  clear hb
  rcases hv with rfl | ⟨T, u, rfl⟩
  · go_enter Tryd.func18, Tryd.ntmps18
    go_wp2
    go_ret
    exact ⟨rfl, rfl⟩
  · go_enter Tryd.func18, Tryd.ntmps18
    go_wp2
    go_ret
    exact ⟨rfl, rfl⟩
set_option maxHeartbeats 1000000 in
theorem error_nil (w : World) : Calls Tryd.prog 17 #[.pointer none] w fun e w' => e = .returned (.string ⟨#[]⟩) ∧ Below w.heap.size w w' := by
  go_enter Tryd.func17, Tryd.ntmps17
  go_wp2
  go_ret
  exact ⟨rfl, by (repeat (first | with_reducible exact Below.refl _ _ | with_reducible apply pw_below_drewN | with_reducible apply below_drew))⟩
set_option maxHeartbeats 1000000 in
theorem error_none (b : Nat) (line : Int) (w : World) (hb : w.heap[b]? = some (.cells #[.int .i64 line, .nilIface] 39 (0, 0))) :
    Calls Tryd.prog 17 #[.pointer (some ⟨b, 0, none⟩)] w fun e w' => e = .returned (.string ⟨#[]⟩) ∧ Below w.heap.size w w' := by
  have hb1 : w.cell? ⟨b, 1, none⟩ = some .nilIface := by rw [blk_cell hb]; rfl
  clear hb
  go_enter Tryd.func17, Tryd.ntmps17
  go_wp2
  go_ret
  exact ⟨rfl, by (repeat (first | with_reducible exact Below.refl _ _ | with_reducible apply pw_below_drewN | with_reducible apply below_drew))⟩
def NewRes (s : ByteArray) (w : World) (e : Ending) (w' : World) : Prop := e = .returned (.iface 71 (.pointer (some ⟨w.heap.size, 0, none⟩))) ∧ w'.heap[w.heap.size]? = some (.cells #[.string s] 73 (0, 0)) ∧ Below w.heap.size w w'
set_option maxHeartbeats 1000000 in
theorem new_any (s : ByteArray) (w : World) : Calls Tryd.prog 20 #[.string s] w (NewRes s w) := by
  go_enter Tryd.func20, Tryd.ntmps20
  go_wp2
  go_ret
  refine ⟨rfl, blk_new _ _, ?_⟩
  (repeat (first | with_reducible exact Below.refl _ _ | with_reducible apply below_alloc))

/-- The numbers of the five errors. -/
def Er.code : Er → Int
  | .long => 1 | .word => 2 | .number => 3 | .text => 4 | .ends => 5
def codeE : Option Er → Int
  | none => 0 | some x => x.code
def whatsV : Value := .agg #[.string ⟨#[]⟩, .string ⟨#[116, 111, 111, 32, 108, 111, 110, 103]⟩, .string ⟨#[119, 111, 114, 100]⟩, .string ⟨#[110, 117, 109, 98, 101, 114]⟩, .string ⟨#[116, 101, 120, 116]⟩, .string ⟨#[110, 111, 32, 108, 105, 110, 101, 32, 102, 101, 101, 100]⟩]
theorem what_at (o : Option Er) (w : World) : (Instr.index 119 whatsV (.int .i64 (codeE o))).run Tryd.prog w = .ok (.string (whatB o)) w := by
  rcases o with _ | (_ | _ | _ | _ | _) <;> kernel_rfl
set_option maxHeartbeats 1000000 in
theorem what_any (o : Option Er) (w : World) : Calls Tryd.prog 31 #[.int .i64 (codeE o)] w fun e w' => e = .returned (.string (whatB o)) ∧ w' = w := by
  have h := what_at o
  unfold whatsV at h
  generalize codeE o = c at h ⊢
  go_enter Tryd.func31, Tryd.ntmps31
  go_wp2
  go_ret
  exact ⟨rfl, rfl⟩
end Go.Proofs.YtjpkphmihkbfeaaDoor.S34
/- The law's fault and told. -/
namespace Go.Proofs.YtjpkphmihkbfeaaDoor.S34
open Go.RowKit Go.Proofs.YtjpkphmihkbfeaaDoorW.PrintWords Go.Proofs.YtjpkphmihkbfeaaDoorW.PrintLast Go.Proofs.YtjpkphmihkbfeaaDoorW.PrintMore Go.Proofs.YtjpkphmihkbfeaaDoor.Q
set_option maxRecDepth 100000
set_option linter.unusedSimpArgs false

def AsRes (b t base : Nat) (w : World) (e : Ending) (w' : World) : Prop :=
  e = .returned (.bool true) ∧ w'.heap[t]? = some (.cells #[.pointer (some ⟨b, 0, none⟩)] 35 (0, 0)) ∧ Below base w w' ∧ w.heap.size ≤ w'.heap.size
theorem as_fault (g : Er → Addr) (b t base : Nat) (w : World) (hg : Glob g w) (ht : w.heap[t]? = some (.cells #[.pointer none] 35 (0, 0))) (hbt : base ≤ t) :
    Calls Tryd.prog 30 #[.iface 35 (.pointer (some ⟨b, 0, none⟩)), .iface 70 (.pointer (some ⟨t, 0, none⟩))] w (AsRes b t base w) := by
  have hl : t < w.heap.size := blk_lt ht
  refine (as_hit ⟨b, 0, none⟩ ⟨t, 0, none⟩ _ w hg.et (by rw [blk_cell ht]; rfl) (blk_frozen ht 0)).mono ?_
  rintro e w' ⟨rfl, rfl⟩
  refine ⟨rfl, ?_, ?_, ?_⟩
  · rw [blk_set (by exact (blk_below ht (by (repeat (first | with_reducible exact Below.refl _ _ | with_reducible apply below_alloc)))))]
    rfl
  · refine Below.setCell ?_ hbt _
    refine Below.mono (B := w.heap.size) ?_ (by omega)
    (repeat (first | with_reducible exact Below.refl _ _ | with_reducible apply below_alloc))
  · simp; omega
def FaultRes (o : Option (Int × Er)) (w : World) (e : Ending) (w' : World) : Prop :=
  e = .returned (.tuple #[.int .i64 (o.elim 0 Prod.fst), .int .i64 (codeE (o.map Prod.snd))]) ∧ Below w.heap.size w w'
set_option maxHeartbeats 1000000 in
theorem fault_nil (w : World) : Calls Tryd.prog 15 #[.nilIface] w (FaultRes none w) := by
  go_enter Tryd.func15, Tryd.ntmps15
  go_wp2
  go_ret2
  exact ⟨rfl, by (repeat (first | with_reducible exact Below.refl _ _ | with_reducible apply pw_below_drewN | with_reducible apply below_drew | with_reducible apply below_alloc))⟩
set_option maxHeartbeats 4000000 in
theorem fault_any (g : Er → Addr) (x : Er) (line : Int) (b : Nat) (w : World) (hg : Glob g w) (hf : FaultAt g x line b w) :
    Calls Tryd.prog 15 #[.iface 35 (.pointer (some ⟨b, 0, none⟩))] w (FaultRes (some (line, x)) w) := by
  have hlt : b < w.heap.size := blk_lt hf
  obtain ⟨w0, hw0⟩ : ∃ w0, w0 = w.alloc (.cells #[.pointer none] 35) := ⟨_, rfl⟩
  have hg0 : Glob g w0 := by rw [hw0]; exact hg.below (below_alloc (Below.refl _ _) _)
  have hb0 : Below w.heap.size w w0 := by rw [hw0]; exact below_alloc (Below.refl _ _) _
  have ht0 : w0.heap[w.heap.size]? = some (.cells #[.pointer none] 35 (0, 0)) := by rw [hw0]; exact blk_new _ _
  have HF := Aside0.mk hf
  have HG := Aside0.mk hg0
  have HB := Aside0.mk hb0
  have HT := Aside0.mk ht0
  clear hg0 hb0 ht0
  go_enter Tryd.func15, Tryd.ntmps15
  go_wp2_with fail
  rw [← hw0]
  clear hw0
  refine (as_fault g b w.heap.size w.heap.size w0 HG.out HT.out (Nat.le_refl _)).mono ?_
  rintro e w1 ⟨rfl, ht1, hb1, hs1⟩
  have hc1 : w1.cell? ⟨w.heap.size, 0, none⟩ = some (.pointer (some ⟨b, 0, none⟩)) := by rw [blk_cell ht1]; rfl
  have HB1 := Aside0.mk (HB.out.trans hb1)
  have HG1 := Aside0.mk (hg.below HB1.out)
  have HF1 := Aside0.mk (show FaultAt g x line b w1 from blk_below hf HB1.out)
  have cL := HG1.out.cell .long
  have cW := HG1.out.cell .word
  have cN := HG1.out.cell .number
  have cT := HG1.out.cell .text
  have cE := HG1.out.cell .ends
  simp only [Er.var] at cL cW cN cT cE
  have hb0 : w1.cell? ⟨b, 0, none⟩ = some (.int .i64 line) := by rw [blk_cell HF1.out]; rfl
  have HIS := Aside0.mk (show ∀ y W, Below w1.heap.size w1 W → Calls Tryd.prog 21 #[.iface 35 (.pointer (some ⟨b, 0, none⟩)), .iface 71 (.pointer (some (g y)))] W fun e w' => e = .returned (.bool (decide (x = y))) ∧ w' = W from
    fun y W h => is_fault g x y ⟨b, 0, none⟩ W (HG1.out.below h) (by rw [blk_cell (blk_below HF1.out h)]; rfl))
  clear ht1 hb1 hs1 hg hf
  cases x with
  | text =>
    have Q0 := Aside0.mk (show ∀ W, Below w1.heap.size w1 W → Calls Tryd.prog 21 #[.iface 35 (.pointer (some ⟨b, 0, none⟩)), .iface 71 (.pointer (some (g .long)))] W fun e w' => e = .returned (.bool false) ∧ w' = W from fun W h => HIS.out .long W h)
    have Q1 := Aside0.mk (show ∀ W, Below w1.heap.size w1 W → Calls Tryd.prog 21 #[.iface 35 (.pointer (some ⟨b, 0, none⟩)), .iface 71 (.pointer (some (g .word)))] W fun e w' => e = .returned (.bool false) ∧ w' = W from fun W h => HIS.out .word W h)
    have Q2 := Aside0.mk (show ∀ W, Below w1.heap.size w1 W → Calls Tryd.prog 21 #[.iface 35 (.pointer (some ⟨b, 0, none⟩)), .iface 71 (.pointer (some (g .number)))] W fun e w' => e = .returned (.bool false) ∧ w' = W from fun W h => HIS.out .number W h)
    have Q3 := Aside0.mk (show ∀ W, Below w1.heap.size w1 W → Calls Tryd.prog 21 #[.iface 35 (.pointer (some ⟨b, 0, none⟩)), .iface 71 (.pointer (some (g .text)))] W fun e w' => e = .returned (.bool true) ∧ w' = W from fun W h => HIS.out .text W h)
    clear HIS
    go_wp2_with fail
    refine (Q0.out _ (by (repeat (first | with_reducible exact Below.refl _ _ | with_reducible apply pw_below_drewN | with_reducible apply below_drew)))).mono ?_
    rintro e w' ⟨rfl, hw'⟩
    subst w'
    go_wp2_with fail
    refine (Q1.out _ (by (repeat (first | with_reducible exact Below.refl _ _ | with_reducible apply pw_below_drewN | with_reducible apply below_drew)))).mono ?_
    rintro e w' ⟨rfl, hw'⟩
    subst w'
    go_wp2_with fail
    refine (Q2.out _ (by (repeat (first | with_reducible exact Below.refl _ _ | with_reducible apply pw_below_drewN | with_reducible apply below_drew)))).mono ?_
    rintro e w' ⟨rfl, hw'⟩
    subst w'
    go_wp2_with fail
    refine (Q3.out _ (by (repeat (first | with_reducible exact Below.refl _ _ | with_reducible apply pw_below_drewN | with_reducible apply below_drew)))).mono ?_
    rintro e w' ⟨rfl, hw'⟩
    subst w'
    go_wp2_with fail
    go_ret2
    exact ⟨rfl, ((by (repeat (first | with_reducible exact HB1.out | with_reducible apply pw_below_drewN | with_reducible apply below_drew))) : Below w.heap.size w _)⟩
  | word =>
    have Q0 := Aside0.mk (show ∀ W, Below w1.heap.size w1 W → Calls Tryd.prog 21 #[.iface 35 (.pointer (some ⟨b, 0, none⟩)), .iface 71 (.pointer (some (g .long)))] W fun e w' => e = .returned (.bool false) ∧ w' = W from fun W h => HIS.out .long W h)
    have Q1 := Aside0.mk (show ∀ W, Below w1.heap.size w1 W → Calls Tryd.prog 21 #[.iface 35 (.pointer (some ⟨b, 0, none⟩)), .iface 71 (.pointer (some (g .word)))] W fun e w' => e = .returned (.bool true) ∧ w' = W from fun W h => HIS.out .word W h)
    clear HIS
    go_wp2_with fail
    refine (Q0.out _ (by (repeat (first | with_reducible exact Below.refl _ _ | with_reducible apply pw_below_drewN | with_reducible apply below_drew)))).mono ?_
    rintro e w' ⟨rfl, hw'⟩
    subst w'
    go_wp2_with fail
    refine (Q1.out _ (by (repeat (first | with_reducible exact Below.refl _ _ | with_reducible apply pw_below_drewN | with_reducible apply below_drew)))).mono ?_
    rintro e w' ⟨rfl, hw'⟩
    subst w'
    go_wp2_with fail
    go_ret2
    exact ⟨rfl, ((by (repeat (first | with_reducible exact HB1.out | with_reducible apply pw_below_drewN | with_reducible apply below_drew))) : Below w.heap.size w _)⟩
  | ends =>
    have Q0 := Aside0.mk (show ∀ W, Below w1.heap.size w1 W → Calls Tryd.prog 21 #[.iface 35 (.pointer (some ⟨b, 0, none⟩)), .iface 71 (.pointer (some (g .long)))] W fun e w' => e = .returned (.bool false) ∧ w' = W from fun W h => HIS.out .long W h)
    have Q1 := Aside0.mk (show ∀ W, Below w1.heap.size w1 W → Calls Tryd.prog 21 #[.iface 35 (.pointer (some ⟨b, 0, none⟩)), .iface 71 (.pointer (some (g .word)))] W fun e w' => e = .returned (.bool false) ∧ w' = W from fun W h => HIS.out .word W h)
    have Q2 := Aside0.mk (show ∀ W, Below w1.heap.size w1 W → Calls Tryd.prog 21 #[.iface 35 (.pointer (some ⟨b, 0, none⟩)), .iface 71 (.pointer (some (g .number)))] W fun e w' => e = .returned (.bool false) ∧ w' = W from fun W h => HIS.out .number W h)
    have Q3 := Aside0.mk (show ∀ W, Below w1.heap.size w1 W → Calls Tryd.prog 21 #[.iface 35 (.pointer (some ⟨b, 0, none⟩)), .iface 71 (.pointer (some (g .text)))] W fun e w' => e = .returned (.bool false) ∧ w' = W from fun W h => HIS.out .text W h)
    have Q4 := Aside0.mk (show ∀ W, Below w1.heap.size w1 W → Calls Tryd.prog 21 #[.iface 35 (.pointer (some ⟨b, 0, none⟩)), .iface 71 (.pointer (some (g .ends)))] W fun e w' => e = .returned (.bool true) ∧ w' = W from fun W h => HIS.out .ends W h)
    clear HIS
    go_wp2_with fail
    refine (Q0.out _ (by (repeat (first | with_reducible exact Below.refl _ _ | with_reducible apply pw_below_drewN | with_reducible apply below_drew)))).mono ?_
    rintro e w' ⟨rfl, hw'⟩
    subst w'
    go_wp2_with fail
    refine (Q1.out _ (by (repeat (first | with_reducible exact Below.refl _ _ | with_reducible apply pw_below_drewN | with_reducible apply below_drew)))).mono ?_
    rintro e w' ⟨rfl, hw'⟩
    subst w'
    go_wp2_with fail
    refine (Q2.out _ (by (repeat (first | with_reducible exact Below.refl _ _ | with_reducible apply pw_below_drewN | with_reducible apply below_drew)))).mono ?_
    rintro e w' ⟨rfl, hw'⟩
    subst w'
    go_wp2_with fail
    refine (Q3.out _ (by (repeat (first | with_reducible exact Below.refl _ _ | with_reducible apply pw_below_drewN | with_reducible apply below_drew)))).mono ?_
    rintro e w' ⟨rfl, hw'⟩
    subst w'
    go_wp2_with fail
    refine (Q4.out _ (by (repeat (first | with_reducible exact Below.refl _ _ | with_reducible apply pw_below_drewN | with_reducible apply below_drew)))).mono ?_
    rintro e w' ⟨rfl, hw'⟩
    subst w'
    go_wp2_with fail
    go_ret2
    exact ⟨rfl, ((by (repeat (first | with_reducible exact HB1.out | with_reducible apply pw_below_drewN | with_reducible apply below_drew))) : Below w.heap.size w _)⟩
  | long =>
    have Q0 := Aside0.mk (show ∀ W, Below w1.heap.size w1 W → Calls Tryd.prog 21 #[.iface 35 (.pointer (some ⟨b, 0, none⟩)), .iface 71 (.pointer (some (g .long)))] W fun e w' => e = .returned (.bool true) ∧ w' = W from fun W h => HIS.out .long W h)
    clear HIS
    go_wp2_with fail
    refine (Q0.out _ (by (repeat (first | with_reducible exact Below.refl _ _ | with_reducible apply pw_below_drewN | with_reducible apply below_drew)))).mono ?_
    rintro e w' ⟨rfl, hw'⟩
    subst w'
    go_wp2_with fail
    go_ret2
    exact ⟨rfl, ((by (repeat (first | with_reducible exact HB1.out | with_reducible apply pw_below_drewN | with_reducible apply below_drew))) : Below w.heap.size w _)⟩
  | number =>
    have Q0 := Aside0.mk (show ∀ W, Below w1.heap.size w1 W → Calls Tryd.prog 21 #[.iface 35 (.pointer (some ⟨b, 0, none⟩)), .iface 71 (.pointer (some (g .long)))] W fun e w' => e = .returned (.bool false) ∧ w' = W from fun W h => HIS.out .long W h)
    have Q1 := Aside0.mk (show ∀ W, Below w1.heap.size w1 W → Calls Tryd.prog 21 #[.iface 35 (.pointer (some ⟨b, 0, none⟩)), .iface 71 (.pointer (some (g .word)))] W fun e w' => e = .returned (.bool false) ∧ w' = W from fun W h => HIS.out .word W h)
    have Q2 := Aside0.mk (show ∀ W, Below w1.heap.size w1 W → Calls Tryd.prog 21 #[.iface 35 (.pointer (some ⟨b, 0, none⟩)), .iface 71 (.pointer (some (g .number)))] W fun e w' => e = .returned (.bool true) ∧ w' = W from fun W h => HIS.out .number W h)
    clear HIS
    go_wp2_with fail
    refine (Q0.out _ (by (repeat (first | with_reducible exact Below.refl _ _ | with_reducible apply pw_below_drewN | with_reducible apply below_drew)))).mono ?_
    rintro e w' ⟨rfl, hw'⟩
    subst w'
    go_wp2_with fail
    refine (Q1.out _ (by (repeat (first | with_reducible exact Below.refl _ _ | with_reducible apply pw_below_drewN | with_reducible apply below_drew)))).mono ?_
    rintro e w' ⟨rfl, hw'⟩
    subst w'
    go_wp2_with fail
    refine (Q2.out _ (by (repeat (first | with_reducible exact Below.refl _ _ | with_reducible apply pw_below_drewN | with_reducible apply below_drew)))).mono ?_
    rintro e w' ⟨rfl, hw'⟩
    subst w'
    go_wp2_with fail
    go_ret2
    exact ⟨rfl, ((by (repeat (first | with_reducible exact HB1.out | with_reducible apply pw_below_drewN | with_reducible apply below_drew))) : Below w.heap.size w _)⟩
end Go.Proofs.YtjpkphmihkbfeaaDoor.S34
/- The law's told. -/
namespace Go.Proofs.YtjpkphmihkbfeaaDoor.S34
open Go.RowKit Go.Proofs.YtjpkphmihkbfeaaDoorW.PrintWords Go.Proofs.YtjpkphmihkbfeaaDoorW.PrintLast Go.Proofs.YtjpkphmihkbfeaaDoorW.PrintMore Go.Proofs.YtjpkphmihkbfeaaDoor.Q
set_option maxRecDepth 100000
set_option linter.unusedSimpArgs false

theorem below_seq {a w w' : World} (h : Below a.heap.size a w) (k : Below w.heap.size w w') : Below a.heap.size a w' := h.trans (k.mono h.size)
theorem whatB_le (o : Option Er) : (whatB o).size ≤ 12 := by rcases o with _ | (_ | _ | _ | _ | _) <;> decide
set_option maxHeartbeats 4000000 in
theorem told_any (g : Er → Addr) (x : Er) (line : Int) (b : Nat) (w : World) (hg : Glob g w) (hf : FaultAt g x line b w) (h1 : 1 ≤ line) (h2 : line ≤ 9223372036854775807) :
    Calls Tryd.prog 16 #[.iface 35 (.pointer (some ⟨b, 0, none⟩))] w fun e w' => e = .returned (.bool true) ∧ Below w.heap.size w w' := by
  have hlt : b < w.heap.size := blk_lt hf
  obtain ⟨w0, hw0⟩ : ∃ w0, w0 = w.alloc (.cells #[.pointer none] 35) := ⟨_, rfl⟩
  have hg0 : Glob g w0 := by rw [hw0]; exact hg.below (below_alloc (Below.refl _ _) _)
  have hb0 : Below w.heap.size w w0 := by rw [hw0]; exact below_alloc (Below.refl _ _) _
  have ht0 : w0.heap[w.heap.size]? = some (.cells #[.pointer none] 35 (0, 0)) := by rw [hw0]; exact blk_new _ _
  have HG := Aside0.mk hg0
  have HB := Aside0.mk hb0
  have HT := Aside0.mk ht0
  clear hg0 hb0 ht0
  go_enter Tryd.func16, Tryd.ntmps16
  go_wp2_with fail
  rw [← hw0]
  clear hw0
  refine (as_fault g b w.heap.size w.heap.size w0 HG.out HT.out (Nat.le_refl _)).mono ?_
  rintro e w1 ⟨rfl, ht1, hb1, hs1⟩
  have HB1 := Aside0.mk (HB.out.trans hb1)
  have HG1 := Aside0.mk (hg.below HB1.out)
  have HF1 := Aside0.mk (show FaultAt g x line b w1 from blk_below hf HB1.out)
  have HT1 := Aside0.mk ht1
  have hc1 : w1.cell? ⟨w.heap.size, 0, none⟩ = some (.pointer (some ⟨b, 0, none⟩)) := by rw [blk_cell ht1]; rfl
  clear ht1 hb1 hg hf HB HG HT hs1
  go_wp2_with fail
  refine (fault_any g x line b w1 HG1.out HF1.out).mono ?_
  rintro e w2 ⟨rfl, hb2⟩
  have HB2 := Aside0.mk hb2
  have hc2 : w2.cell? ⟨w.heap.size, 0, none⟩ = some (.pointer (some ⟨b, 0, none⟩)) := by rw [blk_cell (blk_below HT1.out hb2)]; rfl
  clear hc1 hb2
  simp only [Option.elim, Option.map]
  go_wp2_with fail
  have HG2 := Aside0.mk (HG1.out.below HB2.out)
  have HF2 := Aside0.mk (show FaultAt g x line b w2 from blk_below HF1.out HB2.out)
  refine (error_any g (some x) line 71 (.pointer (some (g x))) w2 b HG2.out HF2.out (by omega) h2 (fun y W h => by simpa using is_sent g x y W (HG2.out.below h))).mono ?_
  rintro e w3 ⟨rfl, hb3⟩
  have HB3 := Aside0.mk hb3
  clear hb3
  go_wp2_with fail
  refine (digits_any line w3 (by omega) h2).mono ?_
  rintro e w4 ⟨rfl, hb4⟩
  have HB4 := Aside0.mk hb4
  clear hb4
  have hil : (numB line).size ≤ 21 := Lib.itoa_length_le line (by omega) h2
  have hwl := whatB_le (some x)
  go_wp2_with fail
  refine (what_any (some x) _).mono ?_
  rintro e w5 ⟨rfl, hw5⟩
  subst w5
  go_wp2_with fail
  go_ret
  refine ⟨?_, ?_⟩
  · rw [show ((faultB (some x) line).toList == ((⟨#[108, 105, 110, 101, 32]⟩ : ByteArray) ++ numB line ++ ⟨#[58, 32]⟩ ++ whatB (some x)).toList) = true from beq_self_eq_true _]
    rfl
  · exact below_seq (below_seq (below_seq HB1.out HB2.out) HB3.out) HB4.out
end Go.Proofs.YtjpkphmihkbfeaaDoor.S34
/- script.quoted, plainly. -/
namespace Go.Proofs.YtjpkphmihkbfeaaDoor.S34
open Go.RowKit Go.Proofs.YtjpkphmihkbfeaaDoorW.PrintWords Go.Proofs.YtjpkphmihkbfeaaDoorW.PrintLast Go.Proofs.YtjpkphmihkbfeaaDoorW.PrintMore Go.Proofs.YtjpkphmihkbfeaaDoor.Q
set_option maxRecDepth 100000
set_option linter.unusedSimpArgs false

/-- A digit of base 16. -/
def hexd (n : Int) : Int := bt ⟨#[48, 49, 50, 51, 52, 53, 54, 55, 56, 57, 97, 98, 99, 100, 101, 102]⟩ n
def quoteOne (b : Int) : List Int := if plainP b = true then [b] else [92, hexd (b / 16), hexd (b % 16)]
/-- A text's word, without its marks. -/
def quoteP (l : List Int) : List Int := l.flatMap quoteOne
def quoteB (l : List Int) : ByteArray := strOfNums ([34] ++ quoteP l ++ [34])
def Bytes (l : List Int) : Prop := ∀ b ∈ l, 0 ≤ b ∧ b ≤ 255

theorem script_plain_f (b : Int) : script_plain.f b = some (plainP b) := by
  unfold script_plain.f plainP
  by_cases h1 : b ≥ 32
  · rw [if_pos h1]
    by_cases h2 : b ≤ 126
    · rw [if_pos h2]
      by_cases h3 : b = 34
      · rw [if_pos h3]; simp [h3]
      · rw [if_neg h3]; simp [h1, h2, h3]
    · rw [if_neg h2]; simp [h2]
  · rw [if_neg h1]; simp; omega
theorem quoteOne_len (b : Int) : (quoteOne b).length ≤ 3 := by unfold quoteOne; split <;> simp
theorem quoteP_len (l : List Int) : (quoteP l).length ≤ 3 * l.length := by
  induction l with
  | nil => simp [quoteP]
  | cons b r ih =>
    have := quoteOne_len b
    simp only [quoteP, List.flatMap_cons, List.length_append, List.length_cons] at ih ⊢
    omega
theorem quoteP_drop {l : List Int} {i : Nat} (h : i < l.length) : quoteP (l.drop i) = quoteOne (rd l i) ++ quoteP (l.drop (i + 1)) := by
  rw [List.drop_eq_getElem_cons h, show rd l i = l[i] from by simp [rd, List.getD_eq_getElem?_getD, h]]
  unfold quoteP
  rw [List.flatMap_cons]
theorem rd_bytes {l : List Int} (hb : Bytes l) (i : Int) : 0 ≤ rd l i ∧ rd l i ≤ 255 := by
  unfold rd
  by_cases h : i.toNat < l.length
  · rw [List.getD_eq_getElem?_getD, List.getElem?_eq_getElem h]
    exact hb _ (List.getElem_mem h)
  · rw [List.getD_eq_getElem?_getD, List.getElem?_eq_none (by omega)]
    decide
theorem quoted_l (l : List Int) (hb : Bytes l) : ∀ (m i : Nat) (xs : List Int), i + m = l.length → xs.length + 3 * m < 140737488355000 → l.length ≤ 9223372036854775806 →
    script_quoted.l0 (m + 1) xs l (l.length : Int) (i : Int) = some (strOfNums (xs ++ quoteP (l.drop i) ++ [34])) := by
  intro m
  induction m with
  | zero =>
    intro i xs hi hl hm
    rw [script_quoted.l0, if_neg (by omega), if_pos (by omega)]
    rw [List.drop_eq_nil_of_le (by omega)]
    simp [quoteP]
  | succ m ih =>
    intro i xs hi hl hm
    have hr := rd_bytes hb (i : Int)
    rw [script_quoted.l0, if_pos (by omega), if_pos (by omega), if_pos (by omega), script_plain_f, Option.bind_some]
    rw [quoteP_drop (by omega), wrap_small _ (by omega) (by omega)]
    have e1 : ((i : Int) + 1) = ((i + 1 : Nat) : Int) := by omega
    by_cases hp : plainP (rd l i) = true
    · rw [if_pos hp, if_pos (by omega), e1, ih (i + 1) _ (by omega) (by simp; omega) hm]
      simp [quoteOne, hp]
    · have e2 : Int.tdiv (rd l i) 16 = rd l i / 16 := Int.tdiv_eq_ediv_of_nonneg hr.1
      have e3 : Int.tmod (rd l i) 16 = rd l i % 16 := Int.tmod_eq_emod_of_nonneg hr.1
      have e4 : rd l i / 16 % 256 = rd l i / 16 := by omega
      rw [if_neg hp, e2, e3, e4, if_pos (by omega), if_pos (by omega), if_pos (by omega), if_pos (by omega), Option.bind_some, if_pos (by simp; omega), e1, ih (i + 1) _ (by omega) (by simp; omega) hm]
      simp [quoteOne, hp, hexd]
theorem quoted_any (l : List Int) (A : Option Addr) (c : Nat) (w : World) (hr : Kd.C (Kd.int .u8) w A l.length l) (hc : l.length ≤ c) (hb : Bytes l) (hl : l.length ≤ 46912496118000) :
    Calls Tryd.prog 59 #[.slice A l.length c] w fun e w' => e = .returned (.string (quoteB l)) ∧ Below w.heap.size w w' :=
  script_quoted.calls (l.length + 1) A c l _ w hr hc (by
    have h := quoted_l l hb l.length 0 [34] (by omega) (by simp; omega) (by omega)
    simpa [quoteB, script_quoted.f] using h)
theorem quoteB_size (l : List Int) : (quoteB l).size ≤ 3 * l.length + 2 := by
  have := quoteP_len l
  simp [quoteB, strOfNums, ByteArray.size]
  omega
end Go.Proofs.YtjpkphmihkbfeaaDoor.S34
/- script.words: the words, and what its callees say. -/
namespace Go.Proofs.YtjpkphmihkbfeaaDoor.S34
open Go.RowKit Go.Proofs.YtjpkphmihkbfeaaDoorW.PrintWords Go.Proofs.YtjpkphmihkbfeaaDoorW.PrintLast Go.Proofs.YtjpkphmihkbfeaaDoorW.PrintMore Go.Proofs.YtjpkphmihkbfeaaDoor.Q
set_option maxRecDepth 100000
set_option linter.unusedSimpArgs false
set_option linter.unusedVariables false

def I64 (n : Int) : Prop := -9223372036854775808 ≤ n ∧ n ≤ 9223372036854775807
theorem numB_le {n : Int} (h : I64 n) : (numB n).size ≤ 21 := Lib.itoa_length_le n h.1 h.2
/-- What an argument of type Event is. -/
structure EvIn (x : S54) (A6 A9 : Option Addr) (c6 c9 : Nat) (w : World) : Prop where
  i0 : I64 x.f0
  i1 : I64 x.f1
  i2 : I64 x.f2
  i3 : I64 x.f3
  i4 : I64 x.f4
  j0 : I64 x.f5.f0
  j2 : I64 x.f5.f2
  j3 : I64 x.f5.f3
  q6 : Kd.C (Kd.int .u8) w A6 x.f5.f1.length x.f5.f1
  h6 : x.f5.f1.length ≤ c6
  b6 : Bytes x.f5.f1
  q9 : Kd.C (Kd.int .u8) w A9 x.f6.length x.f6
  h9 : x.f6.length ≤ c9
  b9 : Bytes x.f6
theorem EvIn.below {x : S54} {A6 A9 : Option Addr} {c6 c9 : Nat} {w w1 : World} (h : EvIn x A6 A9 c6 c9 w) (hb : Below w.heap.size w w1) : EvIn x A6 A9 c6 c9 w1 :=
  ⟨h.i0, h.i1, h.i2, h.i3, h.i4, h.j0, h.j2, h.j3, Kd.C_below h.q6 hb, h.h6, h.b6, Kd.C_below h.q9 hb, h.h9, h.b9⟩
abbrev evArg (x : S54) (A6 A9 : Option Addr) (c6 c9 : Nat) : Value :=
  .agg #[.int .i64 x.f0, .int .i64 x.f1, .int .i64 x.f2, .int .i64 x.f3, .int .i64 x.f4, .int .i64 x.f5.f0, .slice A6 x.f5.f1.length c6, .int .i64 x.f5.f2, .int .i64 x.f5.f3, .slice A9 x.f6.length c9]
/-- The cells of a parameter of type Event, put away. -/
def EvCells (n : Nat) (x : S54) (A6 A9 : Option Addr) (c6 c9 : Nat) (W : World) : Prop :=
  W.cell? ⟨n, 0, none⟩ = some (.int .i64 x.f0) ∧ W.cell? ⟨n, 1, none⟩ = some (.int .i64 x.f1) ∧ W.cell? ⟨n, 2, none⟩ = some (.int .i64 x.f2) ∧ W.cell? ⟨n, 3, none⟩ = some (.int .i64 x.f3) ∧ W.cell? ⟨n, 4, none⟩ = some (.int .i64 x.f4) ∧ W.cell? ⟨n, 5, none⟩ = some (.int .i64 x.f5.f0) ∧ W.cell? ⟨n, 6, none⟩ = some (.slice A6 x.f5.f1.length c6) ∧ W.cell? ⟨n, 7, none⟩ = some (.int .i64 x.f5.f2) ∧ W.cell? ⟨n, 8, none⟩ = some (.int .i64 x.f5.f3) ∧ W.cell? ⟨n, 9, none⟩ = some (.slice A9 x.f6.length c9)
def EvBlk (n : Nat) (x : S54) (A6 A9 : Option Addr) (c6 c9 : Nat) (W : World) : Prop :=
  W.heap[n]? = some (.cells #[.int .i64 x.f0, .int .i64 x.f1, .int .i64 x.f2, .int .i64 x.f3, .int .i64 x.f4, .int .i64 x.f5.f0, .slice A6 x.f5.f1.length c6, .int .i64 x.f5.f2, .int .i64 x.f5.f3, .slice A9 x.f6.length c9] 54 (0, 0))
theorem evCells {n : Nat} {x : S54} {A6 A9 : Option Addr} {c6 c9 : Nat} {w0 W : World} (h : EvBlk n x A6 A9 c6 c9 w0) (hb : Below w0.heap.size w0 W) :
    EvCells n x A6 A9 c6 c9 W := by
  have hq := blk_below h hb
  refine ⟨?_, ?_, ?_, ?_, ?_, ?_, ?_, ?_, ?_, ?_⟩ <;> (rw [blk_cell hq]; rfl)
def EvStr (s : ByteArray) (w0 : World) (n : Nat) (x : S54) (A6 A9 : Option Addr) (c6 c9 : Nat) (e : Ending) (w' : World) : Prop :=
  e = .returned (.string s) ∧ Below w0.heap.size w0 w' ∧ EvCells n x A6 A9 c6 c9 w'
theorem ev_itoa (g : Er → Addr) (v : Int) {n : Nat} {x : S54} {A6 A9 : Option Addr} {c6 c9 : Nat} {w0 : World} (hg : Glob g w0) (hv : I64 v) (hb : EvBlk n x A6 A9 c6 c9 w0) :
    ∀ W, Below w0.heap.size w0 W → Calls Tryd.prog 32 #[.int .i64 v] W (EvStr (numB v) w0 n x A6 A9 c6 c9) :=
  fun W h => (itoa_any g v W (hg.below h) hv.1 hv.2).mono fun _ _ hh => ⟨hh.1, below_seq h hh.2, evCells hb (below_seq h hh.2)⟩
theorem ev_quote (l : List Int) (A : Option Addr) (c : Nat) {n : Nat} {x : S54} {A6 A9 : Option Addr} {c6 c9 : Nat} {w0 : World} (hr : Kd.C (Kd.int .u8) w0 A l.length l) (hc : l.length ≤ c) (hy : Bytes l) (hl : l.length ≤ 1000)
    (hb : EvBlk n x A6 A9 c6 c9 w0) : ∀ W, Below w0.heap.size w0 W → Calls Tryd.prog 59 #[.slice A l.length c] W (EvStr (quoteB l) w0 n x A6 A9 c6 c9) :=
  fun W h => (quoted_any l A c W (Kd.C_below hr h) hc hy (by omega)).mono fun _ _ hh => ⟨hh.1, below_seq h hh.2, evCells hb (below_seq h hh.2)⟩
def roleB (r : Int) : ByteArray := if r = 1 then ⟨#[32, 119, 97, 116, 99, 104]⟩ else if r = 2 then ⟨#[32, 119, 114, 105, 116, 101]⟩ else ⟨#[]⟩
theorem roleB_le (r : Int) : (roleB r).size ≤ 6 := by
  unfold roleB
  split
  · decide
  · split <;> decide
/-- script.words. -/
def wordsP (x : S54) : ByteArray :=
  if x.f0 = 1 then (⟨#[106, 111, 105, 110, 32]⟩ : ByteArray) ++ numB x.f1 ++ roleB x.f4
  else if x.f0 = 2 then (⟨#[108, 101, 97, 118, 101, 32]⟩ : ByteArray) ++ numB x.f1
  else if x.f0 = 3 then (⟨#[114, 111, 108, 101, 32]⟩ : ByteArray) ++ numB x.f1 ++ roleB x.f4
  else if x.f0 = 4 then (⟨#[111, 117, 116, 32]⟩ : ByteArray) ++ quoteB x.f6
  else if x.f0 = 5 then (if x.f5.f0 = 1 then (⟨#[107, 101, 121, 115, 32]⟩ : ByteArray) ++ numB x.f1 ++ ⟨#[32]⟩ ++ quoteB x.f5.f1 else if x.f5.f0 = 2 then (⟨#[115, 105, 122, 101, 32]⟩ : ByteArray) ++ numB x.f1 ++ ⟨#[32]⟩ ++ numB x.f5.f2 ++ ⟨#[32]⟩ ++ numB x.f5.f3 else if x.f5.f0 = 3 then (⟨#[97, 115, 107, 32]⟩ : ByteArray) ++ numB x.f1 else (⟨#[102, 114, 101, 101, 32]⟩ : ByteArray) ++ numB x.f1)
  else if x.f0 = 6 then (⟨#[116, 105, 99, 107, 32]⟩ : ByteArray) ++ numB x.f2
  else if x.f0 = 7 then (⟨#[100, 101, 108, 105, 118, 101, 114, 32]⟩ : ByteArray) ++ numB x.f2
  else if x.f0 = 8 then (⟨#[115, 112, 111, 105, 108, 32]⟩ : ByteArray) ++ numB x.f2 ++ ⟨#[32]⟩ ++ numB x.f3
  else if x.f0 = 9 then (⟨#[109, 111, 118, 101, 32]⟩ : ByteArray) ++ numB x.f1 ++ ⟨#[32]⟩ ++ numB x.f2
  else if x.f3 = 0 then (⟨#[102, 111, 114, 103, 101, 32]⟩ : ByteArray) ++ numB x.f1 ++ ⟨#[32]⟩ ++ numB x.f2 ++ ⟨#[32, 104, 117, 98, 32]⟩ ++ quoteB x.f6
  else (⟨#[102, 111, 114, 103, 101, 32]⟩ : ByteArray) ++ numB x.f1 ++ ⟨#[32]⟩ ++ numB x.f2 ++ ⟨#[32, 118, 105, 101, 119, 32]⟩ ++ quoteB x.f6

end Go.Proofs.YtjpkphmihkbfeaaDoor.S34
/- What script.parse answers is of bounded numbers and of bytes; script.same by a contract. -/
namespace Go.Proofs.YtjpkphmihkbfeaaDoor.S34
open Go.RowKit Go.Proofs.YtjpkphmihkbfeaaDoorW.PrintWords Go.Proofs.YtjpkphmihkbfeaaDoorW.PrintLast Go.Proofs.YtjpkphmihkbfeaaDoorW.PrintMore Go.Proofs.YtjpkphmihkbfeaaDoor.Q
set_option maxRecDepth 100000
set_option linter.unusedSimpArgs false

instance : DecidableEq S52 := fun a b =>
  if h : a.f0 = b.f0 ∧ a.f1 = b.f1 ∧ a.f2 = b.f2 ∧ a.f3 = b.f3 then .isTrue (by obtain ⟨a0, a1, a2, a3⟩ := a; obtain ⟨b0, b1, b2, b3⟩ := b; simpa using h)
  else .isFalse (by rintro rfl; exact h ⟨rfl, rfl, rfl, rfl⟩)
instance : DecidableEq S54 := fun a b =>
  if h : a.f0 = b.f0 ∧ a.f1 = b.f1 ∧ a.f2 = b.f2 ∧ a.f3 = b.f3 ∧ a.f4 = b.f4 ∧ a.f5 = b.f5 ∧ a.f6 = b.f6 then .isTrue (by obtain ⟨a0, a1, a2, a3, a4, a5, a6⟩ := a; obtain ⟨b0, b1, b2, b3, b4, b5, b6⟩ := b; simpa using h)
  else .isFalse (by rintro rfl; exact h ⟨rfl, rfl, rfl, rfl, rfl, rfl, rfl⟩)

theorem Bytes.nil : Bytes [] := by intro b h; cases h
theorem Bytes.cons {b : Int} {l : List Int} (h0 : 0 ≤ b) (h1 : b ≤ 255) (h : Bytes l) : Bytes (b :: l) := by
  intro x hx
  rcases List.mem_cons.1 hx with rfl | hx
  · exact ⟨h0, h1⟩
  · exact h x hx
theorem plainP_range {b : Int} (h : plainP b = true) : 32 ≤ b ∧ b ≤ 126 ∧ b ≠ 34 ∧ b ≠ 92 := by
  unfold plainP at h
  simpa [and_assoc] using h
theorem dec_bytes : ∀ (n : Nat) (l r : List Int), l.length ≤ n → dec l = some r → Bytes r
  | _, [], r, _, h => by simp [dec] at h; subst h; exact Bytes.nil
  | 0, b :: l, _, hn, _ => by simp at hn
  | n + 1, b :: l, r, hn, h => by
    by_cases hp : plainP b = true
    · rw [dec_plain hp] at h
      obtain ⟨r', hr', rfl⟩ := Option.map_eq_some_iff.1 h
      have := plainP_range hp
      exact Bytes.cons (by omega) (by omega) (dec_bytes n l r' (by simp at hn; omega) hr')
    · have hp : plainP b = false := by simpa using hp
      match l with
      | [] => rw [dec_short hp (by simp)] at h; cases h
      | [x] => rw [dec_short hp (by simp)] at h; cases h
      | x :: y :: l' =>
        rw [dec_esc hp] at h
        split at h
        · split at h
          · cases h
          · split at h
            · cases h
            · split at h
              · cases h
              · obtain ⟨r', hr', rfl⟩ := Option.map_eq_some_iff.1 h
                have h1 := hexv_range x
                have h2 := hexv_range y
                exact Bytes.cons (by omega) (by omega) (dec_bytes n l' r' (by simp at hn; omega) hr')
        · cases h

/-- A word's value within bounds. -/
def WGood (v : S93) : Prop := 0 ≤ v.f0 ∧ v.f0 ≤ 1073741824 ∧ Bytes v.f1 ∧ v.f1.length ≤ 1000
theorem WGood.zero : WGood z93 := ⟨by decide, by decide, Bytes.nil, by decide⟩
theorem boundsP_le (kd : Int) : 0 ≤ (boundsP kd).1 ∧ (boundsP kd).2 ≤ 1073741824 := by
  unfold boundsP
  repeat' split
  all_goals exact ⟨by decide, by decide⟩
theorem numP_good {s : ByteArray} {kd n : Int} (h : numP s kd = .ok n) : 0 ≤ n ∧ n ≤ 1073741824 := by
  unfold numP at h
  have hb := boundsP_le kd
  split at h
  · cases h
  · split at h
    · cases h
    · split at h
      · rename_i hi
        injection h with h
        subst h
        simp [inB] at hi
        omega
      · cases h
theorem textP_good {s : ByteArray} {low high : Int} {v : S93} (hh : high ≤ 1000) (h : textP s low high = .ok v) : WGood v := by
  unfold textP at h
  split at h
  · cases h
  · split at h
    · cases h
    · rename_i l hl
      split at h
      · cases h
      · split at h
        · cases h
        · injection h with h
          subst h
          exact ⟨Int.le_refl _, (by decide : (0 : Int) ≤ 1073741824), dec_bytes _ _ _ (Nat.le_refl _) hl, by show l.length ≤ 1000; omega⟩
theorem choiceP_good {s a b : ByteArray} {n : Int} (h : choiceP s a b = .ok n) : 0 ≤ n ∧ n ≤ 1 := by
  unfold choiceP at h
  split at h
  · injection h with h; omega
  · split at h
    · injection h with h; omega
    · cases h
theorem map_ok {α β : Type} {r : Except Er α} {f : α → β} {v : β} (h : r.map f = .ok v) : ∃ a, r = .ok a ∧ v = f a := by
  cases r with
  | error x => cases h
  | ok a => exact ⟨a, rfl, by injection h with h; exact h.symm⟩
theorem readP_good {s : ByteArray} {kd : Int} {v : S93} (h : readP s kd = .ok v) : WGood v := by
  unfold readP at h
  split at h
  · obtain ⟨n, hn, rfl⟩ := map_ok h
    have := choiceP_good hn
    exact ⟨this.1, by show n ≤ _; omega, Bytes.nil, by simp⟩
  · split at h
    · obtain ⟨n, hn, rfl⟩ := map_ok h
      have := choiceP_good hn
      exact ⟨this.1, by show n ≤ _; omega, Bytes.nil, by simp⟩
    · split at h
      · exact textP_good (by decide) h
      · split at h
        · exact textP_good (by decide) h
        · obtain ⟨n, hn, rfl⟩ := map_ok h
          have := numP_good hn
          exact ⟨this.1, this.2, Bytes.nil, by simp⟩
theorem readAll_good : ∀ (ks : List Int) (ps : List ByteArray) (ws : List S93), readAll ks ps = .ok ws → ∀ v ∈ ws, WGood v
  | [], _, ws, h => by simp [readAll] at h; subst h; intro v hv; cases hv
  | _ :: _, [], ws, h => by simp [readAll] at h; subst h; intro v hv; cases hv
  | k :: ks, p :: ps, ws, h => by
    rw [readAll] at h
    cases hp : readP p k with
    | error x => rw [hp] at h; cases h
    | ok v =>
      rw [hp] at h
      cases hr : readAll ks ps with
      | error x => simp [hr] at h
      | ok l =>
        simp [hr] at h
        subst h
        intro u hu
        rcases List.mem_cons.1 hu with rfl | hu
        · exact readP_good hp
        · exact readAll_good ks ps l hr u hu
theorem wd_good {ws : List S93} (h : ∀ v ∈ ws, WGood v) (i : Nat) : WGood (wd ws i) := by
  unfold wd
  by_cases hi : i < ws.length
  · rw [List.getD_eq_getElem?_getD, List.getElem?_eq_getElem hi]
    exact h _ (List.getElem_mem hi)
  · rw [List.getD_eq_getElem?_getD, List.getElem?_eq_none (by omega)]
    exact WGood.zero
/-- An event of bounded numbers, and of bytes. -/
structure EvGood (x : S54) : Prop where
  i0 : I64 x.f0
  i1 : I64 x.f1
  i2 : I64 x.f2
  i3 : I64 x.f3
  i4 : I64 x.f4
  j0 : I64 x.f5.f0
  j2 : I64 x.f5.f2
  j3 : I64 x.f5.f3
  b6 : Bytes x.f5.f1
  b9 : Bytes x.f6
theorem i64_of {n : Int} (h0 : 0 ≤ n) (h1 : n ≤ 1073741825) : I64 n := ⟨by omega, by omega⟩
theorem ite_good {c : Prop} [Decidable c] {a b : S54} (ha : EvGood a) (hb : EvGood b) : EvGood (if c then a else b) := by
  split <;> assumption
theorem eventP_good {f : List UInt8} {ws : List S93} (h : ∀ v ∈ ws, WGood v) : EvGood (eventP f ws) := by
  have g0 := wd_good h 0
  have g1 := wd_good h 1
  have g2 := wd_good h 2
  have g3 := wd_good h 3
  obtain ⟨a0, b0, d0, _⟩ := g0
  obtain ⟨a1, b1, d1, _⟩ := g1
  obtain ⟨a2, b2, d2, _⟩ := g2
  obtain ⟨a3, b3, d3, _⟩ := g3
  unfold eventP
  repeat' refine ite_good ?_ ?_
  all_goals exact ⟨by refine i64_of ?_ ?_ <;> simp [z54] <;> omega, by refine i64_of ?_ ?_ <;> simp [z54] <;> omega, by refine i64_of ?_ ?_ <;> simp [z54] <;> omega, by refine i64_of ?_ ?_ <;> simp [z54] <;> omega, by refine i64_of ?_ ?_ <;> simp [z54] <;> omega, by refine i64_of ?_ ?_ <;> simp [z52, z54] <;> omega, by refine i64_of ?_ ?_ <;> simp [z52, z54] <;> omega, by refine i64_of ?_ ?_ <;> simp [z52, z54] <;> omega, by first | exact Bytes.nil | assumption, by first | exact Bytes.nil | assumption⟩
theorem parseP_good {s : ByteArray} {y : S54} (h : parseP s = .ok y) : EvGood y := by
  unfold parseP at h
  dsimp only at h
  split at h
  · cases h
  · split at h
    · cases h
    · split at h
      · cases h
      · split at h
        · cases h
        · rename_i ws hws
          injection h with h
          subst h
          exact eventP_good (readAll_good _ _ _ hws)

theorem bytesOf_str {l : List Int} (h : Bytes l) : bytesOf (strOfNums l) = l := by
  unfold bytesOf strOfNums
  simp only [List.map_map]
  conv => rhs; rw [← List.map_id l]
  apply List.map_congr_left
  intro b hb
  have := h b hb
  simp [UInt8.toNat_ofNat]
  omega
theorem str_inj {l l' : List Int} (h : Bytes l) (h' : Bytes l') (he : (strOfNums l).toList = (strOfNums l').toList) : l = l' := by
  have h1 := of_toList (s := strOfNums l) rfl
  rw [he, ← of_toList (s := strOfNums l') rfl] at h1
  rw [← bytesOf_str h, h1, bytesOf_str h']
def sameP (x y : S54) : Bool := decide (x = y)
end Go.Proofs.YtjpkphmihkbfeaaDoor.S34
