/- C1, C2, C3, C4, C5, C6, C7, C8, C9 of wip, in one text. -/
import Derived.Test.YtjpkphmihkbfeaaDoorZa
import Derived.RegionTactic
import Derived.ChangeAlike
import Derived.LoopTactic
import Derived.Deep.QuietTactic
import Derived.BigQuiet
import Derived.IntWalk
import Derived.BigRegion
import Derived.Deep.DeepCutAuto
import Derived.Deep.RegionWith
import Derived.Lib.ItoaLen
namespace Go.Proofs.YtjpkphmihkbfeaaDoor.S34
open Go.RowKit Go.Proofs.YtjpkphmihkbfeaaDoorW.PrintWords Go.Proofs.YtjpkphmihkbfeaaDoor.Q
set_option maxRecDepth 100000
set_option linter.unusedSimpArgs false

/-- A number, or what is amiss: as a call answers it, a word and an error. -/
def NumRes (g : Er → Addr) (r : Except Er Int) (w : World) (e : Ending) (w' : World) : Prop :=
  e = .returned (.tuple #[.agg #[.int .i64 (match r with | .ok n => n | _ => 0), .slice none 0 0], errV g (match r with | .ok _ => none | .error x => some x)]) ∧ Below w.heap.size w w'

def choiceP (s zero one : ByteArray) : Except Er Int :=
  if s.toList = zero.toList then .ok 0 else if s.toList = one.toList then .ok 1 else .error .word

theorem choice_any (g : Er → Addr) (s z o : ByteArray) (w : World) (hg : Glob g w) :
    Calls Tryd.prog 65 #[.string s, .string z, .string o] w (NumRes g (choiceP s z o) w) := by
  have c1 := hg.cell .word
  simp only [Er.var] at c1
  have hlt : 1 < w.heap.size := cell_lt c1
  by_cases h1 : s.toList = z.toList
  · have e1 : choiceP s z o = .ok 0 := if_pos h1
    rw [e1]
    have b1 : (s.toList == z.toList) = true := beq_iff_eq.2 h1
    clear h1 e1 c1
    go_enter Tryd.func65, Tryd.ntmps65
    go_wp2
    refine bodyPost_ret (v := .tuple #[.agg #[.int .i64 0, .slice none 0 0], .nilIface]) (by simp [results, Tryd.results65, go_sem]) rfl ⟨rfl, ?_⟩
    (repeat (first | exact Below.refl _ _ | apply below_alloc | apply pw_below_drewN | apply below_drew | refine Below.setCell ?_ (by simp) _))
  · by_cases h2 : s.toList = o.toList
    · have e1 : choiceP s z o = .ok 1 := by unfold choiceP; rw [if_neg h1, if_pos h2]
      rw [e1]
      have b1 : (s.toList == z.toList) = false := beq_eq_false_iff_ne.2 h1
      have b2 : (s.toList == o.toList) = true := beq_iff_eq.2 h2
      clear h1 h2 e1 c1
      go_enter Tryd.func65, Tryd.ntmps65
      go_wp2
      refine bodyPost_ret (v := .tuple #[.agg #[.int .i64 1, .slice none 0 0], .nilIface]) (by simp [results, Tryd.results65, go_sem]) rfl ⟨rfl, ?_⟩
      (repeat (first | exact Below.refl _ _ | apply below_alloc | apply pw_below_drewN | apply below_drew | refine Below.setCell ?_ (by simp) _))
    · have e1 : choiceP s z o = .error .word := by unfold choiceP; rw [if_neg h1, if_neg h2]
      rw [e1]
      have b1 : (s.toList == z.toList) = false := beq_eq_false_iff_ne.2 h1
      have b2 : (s.toList == o.toList) = false := beq_eq_false_iff_ne.2 h2
      clear h1 h2 e1
      go_enter Tryd.func65, Tryd.ntmps65
      go_wp2
      go_region
      all_goals go_wp2
      refine bodyPost_ret (v := .tuple #[.agg #[.int .i64 0, .slice none 0 0], .iface 71 (.pointer (some (g .word)))]) (by simp [results, Tryd.results65, go_sem]) rfl ⟨rfl, ?_⟩
      go_show
      (repeat (first | exact Below.refl _ _ | apply below_alloc | apply pw_below_drewN | apply below_drew | refine Below.setCell ?_ (by simp) _))
end Go.Proofs.YtjpkphmihkbfeaaDoor.S34
/- script.number by a contract. -/
namespace Go.Proofs.YtjpkphmihkbfeaaDoor.S34
open Go.RowKit Go.Proofs.YtjpkphmihkbfeaaDoorW.PrintWords Go.Proofs.YtjpkphmihkbfeaaDoor.Q
set_option maxRecDepth 100000
set_option linter.unusedSimpArgs false

/-- The value of digits behind a value; none: one is no digit. -/
def digVal : List Int → Int → Option Int
  | [], n => some n
  | c :: r, n => if c < 48 then none else if c > 57 then none else digVal r (10 * n + (c - 48))

def boundsP (kd : Int) : Int × Int :=
  if kd = 73 then (1, 8) else if kd = 87 then (1, 1000) else if kd = 78 then (1, 10000) else if kd = 80 then (0, 1073741824) else if kd = 88 then (1, 255) else (0, 65535)

def numBad (s : ByteArray) : Bool := decide (s.size = 0) || decide (10 < s.size) || (decide (1 < s.size) && decide (bt s 0 = 48))
def inB (kd n : Int) : Bool := decide ((boundsP kd).1 ≤ n) && decide (n ≤ (boundsP kd).2)
def numP (s : ByteArray) (kd : Int) : Except Er Int :=
  if numBad s = true then .error .number else match digVal (bytesOf s) 0 with
    | none => .error .number
    | some n => if inB kd n = true then .ok n else .error .number

theorem bounds_any (kd : Int) (w : World) : Calls Tryd.prog 83 #[.int .u8 kd] w fun e w' => e = .returned (.tuple #[.int .i64 (boundsP kd).1, .int .i64 (boundsP kd).2]) ∧ ∃ n, w' = w.drewN n := by
  refine (script_bounds.calls kd (boundsP kd).1 (boundsP kd).2 w ?_).mono fun e w' h => ⟨h.1, h.2.out⟩
  unfold script_bounds.f boundsP
  by_cases h1 : kd = 73
  · simp [h1]
  by_cases h2 : kd = 87
  · simp [h2]
  by_cases h3 : kd = 78
  · simp [h3]
  by_cases h4 : kd = 80
  · simp [h4]
  by_cases h5 : kd = 88
  · simp [h5]
  simp [h1, h2, h3, h4, h5]

theorem bytesOf_cons_drop (s : ByteArray) (k : Nat) (h : k < s.size) : (bytesOf s).drop k = bt s k :: (bytesOf s).drop (k + 1) := by
  have hl : k < (bytesOf s).length := by rw [bytesOf_length]; exact h
  rw [List.drop_eq_getElem_cons hl]
  congr 1
  have := rd_bytesOf s k
  rw [← this]
  simp [rd, List.getD, hl]

theorem toList_nil_of {s : ByteArray} (h : s.size = 0) : s.toList = [] := by
  rw [ByteArray.toList_eq]; exact List.eq_nil_of_length_eq_zero (by rw [← Lib.size_eq]; omega)
theorem toList_ne_of {s : ByteArray} (h : 0 < s.size) : ¬ s.toList = [] := by
  rw [ByteArray.toList_eq]; intro h1
  have h2 : s.data.toList.length = 0 := by rw [h1]; rfl
  rw [← Lib.size_eq] at h2; omega

/-- n as the digits so far make it: below the power of ten. -/
def NumAt (s : ByteArray) (k : Nat) (n : Int) : Prop := digVal (bytesOf s) 0 = digVal ((bytesOf s).drop k) n ∧ 0 ≤ n ∧ n < 10 ^ k
theorem NumAt.zero (s : ByteArray) : NumAt s 0 0 := ⟨rfl, by decide, by decide⟩
theorem NumAt.step {s : ByteArray} {k : Nat} {n : Int} (h : NumAt s k n) (hk : k < s.size) (h1 : ¬ bt s k < 48) (h2 : ¬ bt s k > 57) : NumAt s (k + 1) (10 * n + (bt s k - 48)) := by
  obtain ⟨a, b, c⟩ := h
  refine ⟨?_, by omega, ?_⟩
  · rw [a, bytesOf_cons_drop s k hk, digVal, if_neg h1, if_neg h2]
  · have : (10 : Int) ^ (k + 1) = 10 ^ k * 10 := by rw [Int.pow_succ]
    omega
theorem NumAt.bad {s : ByteArray} {k : Nat} {n : Int} (h : NumAt s k n) (hk : k < s.size) (h1 : bt s k < 48 ∨ bt s k > 57) : digVal (bytesOf s) 0 = none := by
  rw [h.1, bytesOf_cons_drop s k hk, digVal]
  by_cases h2 : bt s k < 48
  · rw [if_pos h2]
  · rw [if_neg h2, if_pos (by omega)]
theorem NumAt.end_ {s : ByteArray} {n : Int} (h : NumAt s s.size n) : digVal (bytesOf s) 0 = some n := by
  rw [h.1, List.drop_of_length_le (by rw [bytesOf_length]; omega)]; rfl
theorem NumAt.bound {s : ByteArray} {k : Nat} {n : Int} (h : NumAt s k n) (hk : k ≤ 10) : 0 ≤ n ∧ n < 10000000000 := by
  refine ⟨h.2.1, ?_⟩
  have h1 := h.2.2
  have h2 : (10 : Int) ^ k ≤ 10 ^ 10 := by
    have : (10 : Nat) ^ k ≤ 10 ^ 10 := Nat.pow_le_pow_right (by omega) hk
    exact_mod_cast this
  have h3 : (10 : Int) ^ 10 = 10000000000 := by decide
  omega

theorem numBad_true {s : ByteArray} : numBad s = true ↔ (s.size = 0 ∨ 10 < s.size) ∨ (1 < s.size ∧ bt s 0 = 48) := by
  simp only [numBad, Bool.or_eq_true, Bool.and_eq_true, decide_eq_true_eq]
theorem numBad_false {s : ByteArray} (h : numBad s = false) : 0 < s.size ∧ s.size ≤ 10 ∧ (1 < s.size → bt s 0 ≠ 48) := by
  have h1 : ¬ numBad s = true := by rw [h]; decide
  rw [numBad_true] at h1
  refine ⟨by omega, by omega, fun h2 h3 => h1 (.inr ⟨h2, h3⟩)⟩
theorem numP_bad {s : ByteArray} {kd : Int} (h : numBad s = true) : numP s kd = .error .number := if_pos h
theorem numP_none {s : ByteArray} {kd : Int} (h : digVal (bytesOf s) 0 = none) : numP s kd = .error .number := by
  unfold numP; split
  · rfl
  · rw [h]
theorem numP_out {s : ByteArray} {kd n : Int} (h : digVal (bytesOf s) 0 = some n) (hb : inB kd n = false) : numP s kd = .error .number := by
  unfold numP; split
  · rfl
  · rw [h]; simp [hb]
theorem numP_ok {s : ByteArray} {kd n : Int} (h0 : numBad s = false) (h : digVal (bytesOf s) 0 = some n) (hb : inB kd n = true) : numP s kd = .ok n := by
  unfold numP; rw [if_neg (by rw [h0]; decide), h]; simp [hb]

set_option maxHeartbeats 1000000 in
theorem number_bad (g : Er → Addr) (s : ByteArray) (kd : Int) (w : World) (hg : Glob g w) (h : numBad s = true) :
    Calls Tryd.prog 67 #[.string s, .int .u8 kd] w (NumRes g (.error .number) w) := by
  have c1 := hg.cell .number
  simp only [Er.var] at c1
  have hlt : 4 < w.heap.size := cell_lt c1
  rcases Nat.lt_or_ge 0 s.size with h0 | h0
  · have t0 := toList_ne_of h0
    have t1 : s.toList.isEmpty = false := by cases hh : s.toList with
      | nil => exact absurd hh t0
      | cons => rfl
    rcases Nat.lt_or_ge 10 s.size with h10 | h10
    · have b1 : decide (10 < s.size) = true := by simpa using h10
      have b2 : (10 : Int) < s.size := by omega
      clear h
      go_enter Tryd.func67, Tryd.ntmps67
      go_wp2_with (go_at_call 83; refine (bounds_any _ _).mono ?_; rintro e w' ⟨rfl, n1, rfl⟩)
      go_region
      all_goals go_wp2
      refine bodyPost_ret (v := .tuple #[.agg #[.int .i64 0, .slice none 0 0], .iface 71 (.pointer (some (g .number)))]) (by simp [results, Tryd.results67, go_sem]) rfl ⟨rfl, ?_⟩
      (repeat (first | exact Below.refl _ _ | apply below_alloc | apply pw_below_drewN | apply below_drew | refine Below.setCell ?_ (by simp) _))
    · have hq := numBad_true.1 h
      have h1 : 1 < s.size := by omega
      have hx : bt s 0 = 48 := by omega
      clear hq
      have b2 : ((s[0]'h0).toNat : Int) = 48 := by have := bt_at s 0 h0; simp only [Int.toNat_zero] at this; rw [this]; exact hx
      have b3 : (((s[0]'h0).toNat : Int) == 48) = true := by rw [b2]; rfl
      have b4 : (1 : Int) < s.size := by omega
      have b5 : (s.size : Int) ≤ 10 := by omega
      clear h b2 hx
      go_enter Tryd.func67, Tryd.ntmps67
      go_wp2_with (go_at_call 83; refine (bounds_any _ _).mono ?_; rintro e w' ⟨rfl, n1, rfl⟩)
      go_region
      all_goals go_wp2
      refine bodyPost_ret (v := .tuple #[.agg #[.int .i64 0, .slice none 0 0], .iface 71 (.pointer (some (g .number)))]) (by simp [results, Tryd.results67, go_sem]) rfl ⟨rfl, ?_⟩
      (repeat (first | exact Below.refl _ _ | apply below_alloc | apply pw_below_drewN | apply below_drew | refine Below.setCell ?_ (by simp) _))
  · have t0 := toList_nil_of (s := s) (by omega)
    clear h
    go_enter Tryd.func67, Tryd.ntmps67
    go_wp2_with (go_at_call 83; refine (bounds_any _ _).mono ?_; rintro e w' ⟨rfl, n1, rfl⟩)
    go_region
    all_goals go_wp2
    refine bodyPost_ret (v := .tuple #[.agg #[.int .i64 0, .slice none 0 0], .iface 71 (.pointer (some (g .number)))]) (by simp [results, Tryd.results67, go_sem]) rfl ⟨rfl, ?_⟩
    (repeat (first | exact Below.refl _ _ | apply below_alloc | apply pw_below_drewN | apply below_drew | refine Below.setCell ?_ (by simp) _))

set_option maxHeartbeats 1000000 in
theorem number_any (g : Er → Addr) (s : ByteArray) (kd : Int) (w : World) (hg : Glob g w) :
    Calls Tryd.prog 67 #[.string s, .int .u8 kd] w (NumRes g (numP s kd) w) := by
  by_cases hb : numBad s = true
  · rw [numP_bad hb]; exact number_bad g s kd w hg hb
  replace hb : numBad s = false := by simpa using hb
  have c1 := hg.cell .number
  simp only [Er.var] at c1
  have hlt : 4 < w.heap.size := cell_lt c1
  obtain ⟨h0, h10, hx0⟩ := numBad_false hb
  have t0 := toList_ne_of h0
  have t1 : s.toList.isEmpty = false := by cases hh : s.toList with
    | nil => exact absurd hh t0
    | cons => rfl
  have b5 : (s.size : Int) ≤ 10 := by omega
  have hx : 1 < s.size → (((s[0]'h0).toNat : Int) == 48) = false := fun h1 => by
    have : bt s 0 ≠ 48 := hx0 h1
    have h2 := bt_at s 0 h0; simp only [Int.toNat_zero] at h2; rw [h2]; exact beq_eq_false_iff_ne.2 this
  have HB := Lib.hid hb
  clear hb hx0
  have b6 : decide ((10 : Int) < s.size) = false := by simp; omega
  rcases Nat.lt_or_ge 1 s.size with h1 | h1
  · have b3 := hx h1
    have b4 : (1 : Int) < s.size := by omega
    clear hx
    go_enter Tryd.func67, Tryd.ntmps67
    go_wp2_with (go_at_call 83; refine (bounds_any _ _).mono ?_; rintro e w' ⟨rfl, n1, rfl⟩)
    clear b3 b4
    go_loop [8, 36] (fun n i => ∃ (k : Nat) (m : Int), k ≤ s.size ∧ i = .int .i64 k ∧ n = .int .i64 m ∧ NumAt s k m) (fun _ i => s.size - (intOf i).toNat)
    case atStart => exact ⟨0, 0, Nat.zero_le _, rfl, rfl, NumAt.zero s⟩
    case round =>
      obtain ⟨k, m, hk, rfl, rfl, hN⟩ := hrel
      have hB := hN.bound (by omega)
      obtain ⟨hB1, hB2⟩ := hB
      by_cases hlt2 : k < s.size
      · have hxk : ∀ h : (k : Int).toNat < s.size, ((s[(k : Int).toNat]'h).toNat : Int) = bt s k := bt_at s k
        simp only [Int.toNat_natCast] at hxk
        have hr := bt_range s k
        obtain ⟨hr1, hr2⟩ := hr
        by_cases hd : bt s k < 48 ∨ bt s k > 57
        · have HD := Lib.hid (hN.bad hlt2 hd)
          have hd' : (bt s k < 48 ∧ decide (bt s k < 48) = true) ∨ (decide (bt s k < 48) = false ∧ decide (57 < bt s k) = true) := by
            by_cases h : bt s k < 48
            · exact .inl ⟨h, by simpa using h⟩
            · exact .inr ⟨by simpa using h, by simp; omega⟩
          clear hd
          rcases hd' with ⟨_, hd1⟩ | ⟨hd1, hd2⟩
          all_goals
            go_wp2
            go_region
            all_goals go_wp2
            refine bodyPost_ret (v := .tuple #[.agg #[.int .i64 0, .slice none 0 0], .iface 71 (.pointer (some (g .number)))]) (by simp [results, Tryd.results67, go_sem]) rfl ?_
            rw [numP_none HD.out]
            refine ⟨rfl, ?_⟩
            (repeat (first | exact Below.refl _ _ | apply below_alloc | apply pw_below_drewN | apply below_drew | refine Below.setCell ?_ (by simp) _))
        · have hd1 : decide (bt s k < 48) = false := by simp; omega
          have hd2 : decide (57 < bt s k) = false := by simp; omega
          have hS := hN.step hlt2 (by omega) (by omega)
          have hq1 : 48 ≤ bt s k := by omega
          have hq2 : bt s k ≤ 57 := by omega
          clear hd
          go_wp2
          go_round
          case rel => exact ⟨k + 1, 10 * m + (bt s k - 48), by omega, by go_num, by go_num, hS⟩
          case measure => simp [intOf]; omega
      · have hk2 : k = s.size := by omega
        have HN := Lib.hid (by rw [hk2] at hN; exact hN.end_ : digVal (bytesOf s) 0 = some m)
        clear hN
        by_cases hi : inB kd m = true
        · have hi2 : (boundsP kd).1 ≤ m ∧ m ≤ (boundsP kd).2 := by simpa [inB] using hi
          have HP := Lib.hid (numP_ok HB.out HN.out hi)
          obtain ⟨hi3, hi4⟩ := hi2
          have d1 : decide (m < (boundsP kd).1) = false := by simp; omega
          have d2 : decide ((boundsP kd).2 < m) = false := by simp; omega
          clear hi
          go_wp2
          refine bodyPost_ret (v := .tuple #[.agg #[.int .i64 m, .slice none 0 0], .nilIface]) (by simp [results, Tryd.results67, go_sem]) rfl ?_
          rw [HP.out]
          refine ⟨rfl, ?_⟩
          (repeat (first | exact Below.refl _ _ | apply below_alloc | apply pw_below_drewN | apply below_drew | refine Below.setCell ?_ (by simp) _))
        · have hi' : inB kd m = false := by simpa using hi
          have HP := Lib.hid (numP_out (kd := kd) HN.out hi')
          have hi2 : decide (m < (boundsP kd).1) = true ∨ (decide (m < (boundsP kd).1) = false ∧ decide ((boundsP kd).2 < m) = true) := by
            by_cases h : m < (boundsP kd).1
            · exact .inl (by simpa using h)
            · refine .inr ⟨by simpa using h, ?_⟩
              simp [inB] at hi'
              simp; omega
          clear hi hi'
          rcases hi2 with d1 | ⟨d1, d2⟩
          all_goals
            go_wp2
            go_region
            all_goals go_wp2
            refine bodyPost_ret (v := .tuple #[.agg #[.int .i64 0, .slice none 0 0], .iface 71 (.pointer (some (g .number)))]) (by simp [results, Tryd.results67, go_sem]) rfl ?_
            rw [HP.out]
            refine ⟨rfl, ?_⟩
            (repeat (first | exact Below.refl _ _ | apply below_alloc | apply pw_below_drewN | apply below_drew | refine Below.setCell ?_ (by simp) _))
  · have b4 : decide ((1 : Int) < s.size) = false := by simp; omega
    clear hx
    go_enter Tryd.func67, Tryd.ntmps67
    go_wp2_with (go_at_call 83; refine (bounds_any _ _).mono ?_; rintro e w' ⟨rfl, n1, rfl⟩)
    clear b4
    go_loop [8, 36] (fun n i => ∃ (k : Nat) (m : Int), k ≤ s.size ∧ i = .int .i64 k ∧ n = .int .i64 m ∧ NumAt s k m) (fun _ i => s.size - (intOf i).toNat)
    case atStart => exact ⟨0, 0, Nat.zero_le _, rfl, rfl, NumAt.zero s⟩
    case round =>
      obtain ⟨k, m, hk, rfl, rfl, hN⟩ := hrel
      have hB := hN.bound (by omega)
      obtain ⟨hB1, hB2⟩ := hB
      by_cases hlt2 : k < s.size
      · have hxk : ∀ h : (k : Int).toNat < s.size, ((s[(k : Int).toNat]'h).toNat : Int) = bt s k := bt_at s k
        simp only [Int.toNat_natCast] at hxk
        have hr := bt_range s k
        obtain ⟨hr1, hr2⟩ := hr
        by_cases hd : bt s k < 48 ∨ bt s k > 57
        · have HD := Lib.hid (hN.bad hlt2 hd)
          have hd' : (bt s k < 48 ∧ decide (bt s k < 48) = true) ∨ (decide (bt s k < 48) = false ∧ decide (57 < bt s k) = true) := by
            by_cases h : bt s k < 48
            · exact .inl ⟨h, by simpa using h⟩
            · exact .inr ⟨by simpa using h, by simp; omega⟩
          clear hd
          rcases hd' with ⟨_, hd1⟩ | ⟨hd1, hd2⟩
          all_goals
            go_wp2
            go_region
            all_goals go_wp2
            refine bodyPost_ret (v := .tuple #[.agg #[.int .i64 0, .slice none 0 0], .iface 71 (.pointer (some (g .number)))]) (by simp [results, Tryd.results67, go_sem]) rfl ?_
            rw [numP_none HD.out]
            refine ⟨rfl, ?_⟩
            (repeat (first | exact Below.refl _ _ | apply below_alloc | apply pw_below_drewN | apply below_drew | refine Below.setCell ?_ (by simp) _))
        · have hd1 : decide (bt s k < 48) = false := by simp; omega
          have hd2 : decide (57 < bt s k) = false := by simp; omega
          have hS := hN.step hlt2 (by omega) (by omega)
          have hq1 : 48 ≤ bt s k := by omega
          have hq2 : bt s k ≤ 57 := by omega
          clear hd
          go_wp2
          go_round
          case rel => exact ⟨k + 1, 10 * m + (bt s k - 48), by omega, by go_num, by go_num, hS⟩
          case measure => simp [intOf]; omega
      · have hk2 : k = s.size := by omega
        have HN := Lib.hid (by rw [hk2] at hN; exact hN.end_ : digVal (bytesOf s) 0 = some m)
        clear hN
        by_cases hi : inB kd m = true
        · have hi2 : (boundsP kd).1 ≤ m ∧ m ≤ (boundsP kd).2 := by simpa [inB] using hi
          have HP := Lib.hid (numP_ok HB.out HN.out hi)
          obtain ⟨hi3, hi4⟩ := hi2
          have d1 : decide (m < (boundsP kd).1) = false := by simp; omega
          have d2 : decide ((boundsP kd).2 < m) = false := by simp; omega
          clear hi
          go_wp2
          refine bodyPost_ret (v := .tuple #[.agg #[.int .i64 m, .slice none 0 0], .nilIface]) (by simp [results, Tryd.results67, go_sem]) rfl ?_
          rw [HP.out]
          refine ⟨rfl, ?_⟩
          (repeat (first | exact Below.refl _ _ | apply below_alloc | apply pw_below_drewN | apply below_drew | refine Below.setCell ?_ (by simp) _))
        · have hi' : inB kd m = false := by simpa using hi
          have HP := Lib.hid (numP_out (kd := kd) HN.out hi')
          have hi2 : decide (m < (boundsP kd).1) = true ∨ (decide (m < (boundsP kd).1) = false ∧ decide ((boundsP kd).2 < m) = true) := by
            by_cases h : m < (boundsP kd).1
            · exact .inl (by simpa using h)
            · refine .inr ⟨by simpa using h, ?_⟩
              simp [inB] at hi'
              simp; omega
          clear hi hi'
          rcases hi2 with d1 | ⟨d1, d2⟩
          all_goals
            go_wp2
            go_region
            all_goals go_wp2
            refine bodyPost_ret (v := .tuple #[.agg #[.int .i64 0, .slice none 0 0], .iface 71 (.pointer (some (g .number)))]) (by simp [results, Tryd.results67, go_sem]) rfl ?_
            rw [HP.out]
            refine ⟨rfl, ?_⟩
            (repeat (first | exact Below.refl _ _ | apply below_alloc | apply pw_below_drewN | apply below_drew | refine Below.setCell ?_ (by simp) _))
end Go.Proofs.YtjpkphmihkbfeaaDoor.S34
/- script.text by a contract. -/
namespace Go.Proofs.YtjpkphmihkbfeaaDoor.S34
open Go.RowKit Go.Proofs.YtjpkphmihkbfeaaDoorW.PrintWords Go.Proofs.YtjpkphmihkbfeaaDoorW.PrintLast Go.Proofs.YtjpkphmihkbfeaaDoorW.PrintMore Go.Proofs.YtjpkphmihkbfeaaDoor.Q
set_option maxRecDepth 100000
set_option linter.unusedSimpArgs false

def plainP (b : Int) : Bool := decide (32 ≤ b) && (decide (b ≤ 126) && ((b != 34) && (b != 92)))
theorem plain_any (c : Int) (w : World) : Calls Tryd.prog 73 #[.int .u8 c] w fun e w' => e = .returned (.bool (plainP c)) ∧ ∃ n, w' = w.drewN n := by
  refine (script_plain.calls c (plainP c) w ?_).mono fun e w' h => ⟨h.1, h.2.out⟩
  unfold script_plain.f plainP
  by_cases h1 : c ≥ 32
  · rw [if_pos h1]
    by_cases h2 : c ≤ 126
    · rw [if_pos h2]
      by_cases h3 : c = 34
      · rw [if_pos h3]; simp [h3]
      · rw [if_neg h3]; simp [h1, h2, h3]
    · rw [if_neg h2]; simp [h2]
  · rw [if_neg h1]; simp [h1]

def hexDigits : List UInt8 := [48, 49, 50, 51, 52, 53, 54, 55, 56, 57, 97, 98, 99, 100, 101, 102]
def hexv (c : Int) : Int := Lib.indexByte hexDigits c.toNat.toUInt8

theorem hexv_range (c : Int) : -1 ≤ hexv c ∧ hexv c ≤ 15 := by
  unfold hexv
  generalize c.toNat.toUInt8 = b
  have h : ∀ n : Nat, n < 256 → -1 ≤ Lib.indexByte hexDigits n.toUInt8 ∧ Lib.indexByte hexDigits n.toUInt8 ≤ 15 := by decide +kernel
  have h1 := h b.toNat b.toNat_lt
  rwa [show b.toNat.toUInt8 = b from by simp] at h1
theorem hexAt_any (c : Int) (w : World) : Calls Tryd.prog 82 #[.string ⟨#[48, 49, 50, 51, 52, 53, 54, 55, 56, 57, 97, 98, 99, 100, 101, 102]⟩, .int .u8 c] w fun e w' => e = .returned (.int .i64 (hexv c)) ∧ w' = w :=
  Tryd.strings_IndexByte _ c w

/-- What a body of a text says: bytes as themselves, others as 92 and two digits. -/
def dec : List Int → Option (List Int)
  | [] => some []
  | b :: r =>
    if plainP b = true then (dec r).map (b :: ·)
    else if b = 92 then
      match r with
      | x :: y :: r' => if hexv x < 0 then none else if hexv y < 0 then none else if plainP (16 * hexv x + hexv y) = true then none else (dec r').map ((16 * hexv x + hexv y) :: ·)
      | _ => none
    else none

theorem dec_plain {b : Int} {r : List Int} (h : plainP b = true) : dec (b :: r) = (dec r).map (b :: ·) := by
  cases r with
  | nil => simp [dec, h]
  | cons x r => cases r with
    | nil => simp [dec, h]
    | cons y r => simp [dec, h]
theorem dec_other {b : Int} {r : List Int} (h : plainP b = false) (h92 : b ≠ 92) : dec (b :: r) = none := by
  cases r with
  | nil => simp [dec, h]
  | cons x r => cases r with
    | nil => simp [dec, h]
    | cons y r => simp [dec, h, h92]
theorem dec_short {b : Int} {r : List Int} (h : plainP b = false) (hr : r.length ≤ 1) : dec (b :: r) = none := by
  cases r with
  | nil => simp [dec, h]
  | cons x r => cases r with
    | nil => simp [dec, h]
    | cons y r => simp at hr
theorem dec_esc {b x y : Int} {r : List Int} (h : plainP b = false) : dec (b :: x :: y :: r) =
    if b = 92 then if hexv x < 0 then none else if hexv y < 0 then none else if plainP (16 * hexv x + hexv y) = true then none else (dec r).map ((16 * hexv x + hexv y) :: ·) else none := by
  simp [dec, h]

/-- So much of a body is read. -/
def DecAt (t : ByteArray) (k : Nat) (xs : List Int) : Prop := dec (bytesOf t) = (dec ((bytesOf t).drop k)).map (xs ++ ·)
theorem DecAt.zero (t : ByteArray) : DecAt t 0 [] := by
  unfold DecAt
  rw [List.drop_zero]
  cases dec (bytesOf t) <;> simp
theorem DecAt.plain {t : ByteArray} {k : Nat} {xs : List Int} (h : DecAt t k xs) (hk : k < t.size) (hp : plainP (bt t k) = true) : DecAt t (k + 1) (xs ++ [bt t k]) := by
  unfold DecAt at h ⊢
  rw [h, bytesOf_cons_drop t k hk, dec_plain hp, Option.map_map]
  congr 1
  funext l
  simp
theorem drop3 {t : ByteArray} {k : Nat} (hk : k + 2 < t.size) : (bytesOf t).drop k = bt t k :: bt t ((k : Int) + 1) :: bt t ((k : Int) + 2) :: (bytesOf t).drop (k + 2 + 1) := by
  have h1 : ((k + 1 : Nat) : Int) = (k : Int) + 1 := by omega
  have h2 : ((k + 1 + 1 : Nat) : Int) = (k : Int) + 2 := by omega
  rw [bytesOf_cons_drop t k (by omega), bytesOf_cons_drop t (k + 1) (by omega), bytesOf_cons_drop t (k + 1 + 1) (by omega), h1, h2]
theorem DecAt.esc {t : ByteArray} {k : Nat} {xs : List Int} (h : DecAt t k xs) (hk : k + 2 < t.size) (hp : plainP (bt t k) = false) (h92 : bt t k = 92)
    (ha : ¬ hexv (bt t ((k : Int) + 1)) < 0) (hb : ¬ hexv (bt t ((k : Int) + 2)) < 0) (hq : plainP (16 * hexv (bt t ((k : Int) + 1)) + hexv (bt t ((k : Int) + 2))) = false) :
    DecAt t (k + 2 + 1) (xs ++ [16 * hexv (bt t ((k : Int) + 1)) + hexv (bt t ((k : Int) + 2))]) := by
  unfold DecAt at h ⊢
  rw [h, drop3 hk, dec_esc hp, if_pos h92, if_neg ha, if_neg hb, if_neg (by rw [hq]; decide), Option.map_map]
  congr 1
  funext l
  simp
theorem DecAt.bad0 {t : ByteArray} {k : Nat} {xs : List Int} (h : DecAt t k xs) (hk : k < t.size) (hp : plainP (bt t k) = false) (h92 : bt t k ≠ 92) : dec (bytesOf t) = none := by
  unfold DecAt at h
  rw [h, bytesOf_cons_drop t k hk, dec_other hp h92]; rfl
theorem DecAt.bad1 {t : ByteArray} {k : Nat} {xs : List Int} (h : DecAt t k xs) (hk : k < t.size) (hp : plainP (bt t k) = false) (hend : t.size ≤ k + 2) : dec (bytesOf t) = none := by
  unfold DecAt at h
  rw [h, bytesOf_cons_drop t k hk, dec_short hp (by rw [List.length_drop, bytesOf_length]; omega)]; rfl
theorem DecAt.bad2 {t : ByteArray} {k : Nat} {xs : List Int} (h : DecAt t k xs) (hk : k + 2 < t.size) (hp : plainP (bt t k) = false)
    (hq : hexv (bt t ((k : Int) + 1)) < 0 ∨ hexv (bt t ((k : Int) + 2)) < 0 ∨ plainP (16 * hexv (bt t ((k : Int) + 1)) + hexv (bt t ((k : Int) + 2))) = true) : dec (bytesOf t) = none := by
  unfold DecAt at h
  rw [h, drop3 hk, dec_esc hp]
  by_cases h92 : bt t k = 92
  · rw [if_pos h92]
    by_cases h1 : hexv (bt t ((k : Int) + 1)) < 0
    · rw [if_pos h1]; rfl
    rw [if_neg h1]
    by_cases h2 : hexv (bt t ((k : Int) + 2)) < 0
    · rw [if_pos h2]; rfl
    rw [if_neg h2, if_pos (by rcases hq with h | h | h; exact absurd h h1; exact absurd h h2; exact h)]
    rfl
  · rw [if_neg h92]; rfl
theorem DecAt.end_ {t : ByteArray} {xs : List Int} (h : DecAt t t.size xs) : dec (bytesOf t) = some xs := by
  unfold DecAt at h
  rw [h, List.drop_of_length_le (by rw [bytesOf_length]; omega)]; simp [dec]

def textBad (s : ByteArray) : Bool := decide (s.size < 2) || ((bt s 0 != 34) || (bt s ((s.size : Int) - 1) != 34))
def textP (s : ByteArray) (low high : Int) : Except Er S93 :=
  if textBad s = true then .error .text else match dec (bytesOf (s.extract 1 (s.size - 1))) with
    | none => .error .text
    | some l => if (l.length : Int) < low then .error .text else if (l.length : Int) > high then .error .text else .ok ⟨0, l⟩

/-- A word, or what is amiss. -/
def wv (r : Except Er S93) : S93 := match r with | .ok x => x | _ => z93
def ero {α : Type} (r : Except Er α) : Option Er := match r with | .ok _ => none | .error x => some x
def WordRes (g : Er → Addr) (r : Except Er S93) (w : World) (e : Ending) (w' : World) : Prop :=
  ∃ v, e = .returned (.tuple #[.agg #[.int .i64 (wv r).f0, v], errV g (ero r)]) ∧
    Kd.R (Kd.int .u8) 5 w' w.heap.size (fun _ => True) v (wv r).f1 ∧ Below w.heap.size w w'
theorem WordRes.of_num {g : Er → Addr} {r : Except Er Int} {w : World} {e : Ending} {w' : World} (h : NumRes g r w e w') : WordRes g (r.map fun n => ⟨n, []⟩) w e w' := by
  obtain ⟨h1, h2⟩ := h
  cases r with
  | ok n => exact ⟨_, h1, Kd.R_nil _ _ _ _ _, h2⟩
  | error x => exact ⟨_, h1, Kd.R_nil _ _ _ _ _, h2⟩

theorem text_fail (g : Er → Addr) (s : ByteArray) (low high : Int) (w : World) (hg : Glob g w) (hs : s.size ≤ 140737488351232) (h : textBad s = true) :
    Calls Tryd.prog 66 #[.string s, .int .i64 low, .int .i64 high] w (WordRes g (.error .text) w) := by
  have c1 := hg.cell .text
  simp only [Er.var] at c1
  have hlt : 0 < w.heap.size := cell_lt c1
  by_cases h2 : 2 ≤ s.size
  · have d1 : decide ((s.size : Int) < 2) = false := by simp; omega
    have p0 : (1 : Int) ≤ s.size := by omega
    have p1 : (1 : Int) ≤ (s.size : Int) - 1 := by omega
    have p2 : (0 : Int) ≤ (s.size : Int) - 1 := by omega
    have p3 : (s.size : Int) - 1 ≤ (s.size : Int) := by omega
    have p4 : (s.size : Int) - 1 < (s.size : Int) := by omega
    have q0 : 0 < s.size := by omega
    have q1 : s.size - 1 < s.size := by omega
    have hx0 : ∀ h : 0 < s.size, ((s[0]'h).toNat : Int) = bt s 0 := bt_at s 0
    have hx1 : ∀ h : s.size - 1 < s.size, ((s[s.size - 1]'h).toNat : Int) = bt s ((s.size : Int) - 1) := by
      have := bt_at s ((s.size : Int) - 1)
      rw [show ((s.size : Int) - 1).toNat = s.size - 1 from by omega] at this
      exact this
    have hd : ((bt s 0 != 34) = true) ∨ ((bt s 0 != 34) = false ∧ (bt s ((s.size : Int) - 1) != 34) = true) := by
      unfold textBad at h
      cases h1 : (bt s 0 != 34)
      · rw [h1] at h
        refine .inr ⟨rfl, ?_⟩
        simpa [show ¬ s.size < 2 by omega] using h
      · exact .inl rfl
    clear h h2
    rcases hd with d2 | ⟨d2, d3⟩
    · go_enter Tryd.func66, Tryd.ntmps66
      go_wp2
      go_region
      all_goals go_wp2
      refine bodyPost_ret (v := .tuple #[.agg #[.int .i64 0, .slice none 0 0], .iface 71 (.pointer (some (g .text)))]) (by simp [results, Tryd.results66, go_sem]) rfl ⟨_, rfl, Kd.R_nil _ _ _ _ _, ?_⟩
      (repeat (first | exact Below.refl _ _ | apply below_alloc | apply pw_below_drewN | apply below_drew | refine Below.setCell ?_ (by simp) _))
    · have d3' : ¬ bt s ((s.size : Int) - 1) = 34 := by simpa using d3
      clear d3
      go_enter Tryd.func66, Tryd.ntmps66
      go_wp2
      go_region
      all_goals go_wp2
      refine bodyPost_ret (v := .tuple #[.agg #[.int .i64 0, .slice none 0 0], .iface 71 (.pointer (some (g .text)))]) (by simp [results, Tryd.results66, go_sem]) rfl ⟨_, rfl, Kd.R_nil _ _ _ _ _, ?_⟩
      (repeat (first | exact Below.refl _ _ | apply below_alloc | apply pw_below_drewN | apply below_drew | refine Below.setCell ?_ (by simp) _))
  · have d1 : (s.size : Int) < 2 := by omega
    clear h h2
    go_enter Tryd.func66, Tryd.ntmps66
    go_wp2
    go_region
    all_goals go_wp2
    refine bodyPost_ret (v := .tuple #[.agg #[.int .i64 0, .slice none 0 0], .iface 71 (.pointer (some (g .text)))]) (by simp [results, Tryd.results66, go_sem]) rfl ⟨_, rfl, Kd.R_nil _ _ _ _ _, ?_⟩
    (repeat (first | exact Below.refl _ _ | apply below_alloc | apply pw_below_drewN | apply below_drew | refine Below.setCell ?_ (by simp) _))

theorem textP_none {s : ByteArray} {low high : Int} (h : dec (bytesOf (s.extract 1 (s.size - 1))) = none) : textP s low high = .error .text := by
  unfold textP; split
  · rfl
  · rw [h]
theorem textP_some {s : ByteArray} {low high : Int} {l : List Int} (h0 : textBad s = false) (h : dec (bytesOf (s.extract 1 (s.size - 1))) = some l) :
    textP s low high = if (l.length : Int) < low then .error .text else if (l.length : Int) > high then .error .text else .ok ⟨0, l⟩ := by
  unfold textP; rw [if_neg (by rw [h0]; decide), h]

theorem info93s : (Tryd.prog.info? 93).map (·.size) = some 2 := by kernel_rfl
theorem below_trans2 {w w0 wr w' : World} (h1 : Below w.heap.size w w0) (h2 : Below w0.heap.size w0 wr) (hs : w0.heap.size = w.heap.size + 1) (h3 : Below w.heap.size wr w') : Below w.heap.size w w' :=
  (h1.trans (h2.mono (by omega))).trans h3
set_option maxHeartbeats 2000000 in
theorem text_any (g : Er → Addr) (s : ByteArray) (low high : Int) (w : World) (hg : Glob g w) (hs : s.size ≤ 140737488351232) :
    Calls Tryd.prog 66 #[.string s, .int .i64 low, .int .i64 high] w (WordRes g (textP s low high) w) := by
  by_cases hb : textBad s = true
  · rw [show textP s low high = .error .text from if_pos hb]; exact text_fail g s low high w hg hs hb
  replace hb : textBad s = false := by simpa using hb
  have c1 := hg.cell .text
  simp only [Er.var] at c1
  have hlt : 0 < w.heap.size := cell_lt c1
  have h2 : 2 ≤ s.size := by
    rcases Nat.lt_or_ge s.size 2 with h | h
    · simp [textBad, h] at hb
    · exact h
  have hq : (bt s 0 != 34) = false ∧ (bt s ((s.size : Int) - 1) != 34) = false := by
    simpa [textBad, show ¬ s.size < 2 by omega] using hb
  obtain ⟨d3, d4⟩ := hq
  have HB0 := Lib.hid hb
  clear hb
  have d1 : decide ((s.size : Int) < 2) = false := by simp; omega
  have p0 : (1 : Int) ≤ s.size := by omega
  have p1 : (1 : Int) ≤ (s.size : Int) - 1 := by omega
  have p2 : (0 : Int) ≤ (s.size : Int) - 1 := by omega
  have p3 : (s.size : Int) - 1 ≤ (s.size : Int) := by omega
  have p4 : (s.size : Int) - 1 < (s.size : Int) := by omega
  have q0 : 0 < s.size := by omega
  have q1 : s.size - 1 < s.size := by omega
  have hx0 : ∀ h : 0 < s.size, ((s[0]'h).toNat : Int) = bt s 0 := bt_at s 0
  have hx1 : ∀ h : s.size - 1 < s.size, ((s[s.size - 1]'h).toNat : Int) = bt s ((s.size : Int) - 1) := by
    have := bt_at s ((s.size : Int) - 1)
    rw [show ((s.size : Int) - 1).toNat = s.size - 1 from by omega] at this
    exact this
  go_enter Tryd.func66, Tryd.ntmps66
  go_wp2
  clear d3 d4 d1 p0 p1 p2 p3 p4 q0 q1 hx0 hx1
  obtain ⟨t, ht⟩ : ∃ t, t = s.extract 1 (s.size - 1) := ⟨_, rfl⟩
  rw [← ht]
  have hts : t.size ≤ 140737488351230 := by rw [ht]; simp [ByteArray.size_extract]; omega
  have HT := Lib.hid ht
  clear ht
  have hblk : (w.alloc (.cells #[.int .i64 0, .slice none 0 0] 93)).heap[w.heap.size]? = some (.cells #[.int .i64 0, .slice none 0 0] 93 (0, 0)) := blk_new _ _
  have hw0 : Below w.heap.size w (w.alloc (.cells #[.int .i64 0, .slice none 0 0] 93)) := below_alloc (Below.refl _ _) _
  have hsz : (w.alloc (.cells #[.int .i64 0, .slice none 0 0] 93)).heap.size = w.heap.size + 1 := by simp
  generalize hgw : w.alloc (.cells #[.int .i64 0, .slice none 0 0] 93) = w0 at hblk hw0 hsz ⊢
  clear hgw
  have c1' := pw_cell_below hw0 c1
  have HBLK := Aside0.mk hblk
  have HW0 := Aside0.mk hw0
  have HSZ := Aside0.mk hsz
  have C1 := Aside0.mk c1'
  clear hblk hw0 hsz c1 c1'
  go_loopw [8, 9] (fun v i wr => ∃ (k : Nat) (xs : List Int), k ≤ t.size ∧ i = .int .i64 k ∧ xs.length ≤ k ∧ Aside0 (DecAt t k xs) ∧ Aside0 (Kd.R (Kd.int .u8) 5 wr w0.heap.size (fun _ => True) v xs) ∧ Aside0 (Below w0.heap.size w0 wr)) (fun _ i _ => t.size - (intOf i).toNat)
  case atStart => exact ⟨0, [], Nat.zero_le _, rfl, Nat.zero_le _, ⟨DecAt.zero t⟩, ⟨Kd.R_nil _ _ _ _ _⟩, ⟨Below.refl _ _⟩⟩
  case round =>
    obtain ⟨k, xs, hk, rfl, hxk, HD, HO, HB⟩ := hrel
    by_cases hlt2 : k < t.size
    · have hxk2 : ∀ h : k < t.size, ((t[k]'h).toNat : Int) = bt t k := by
        have := bt_at t k
        simp only [Int.toNat_natCast] at this
        exact this
      have hr := bt_range t k
      obtain ⟨hr1, hr2⟩ := hr
      by_cases hp : plainP (bt t k) = true
      · have HP := Aside0.mk (HD.out.plain hlt2 hp)
        go_wp2_with (first
          | (go_at_call 73; refine (plain_any _ _).mono ?_; rw [hp]; rintro e w' ⟨rfl, nq, rfl⟩)
          | ((with_reducible refine gate_builtin (b := .append) (xs := #[.tmp 92, .tmp 94]) rfl ?_); (try (refine gate_guard (by rfl) ?_; dsimp only)); at_builtin; refine Kd.R_append (Kd.int .u8) (w0 := w0) w0.heap.size rfl (.tmp 92) (.tmp 94) 50 5 (.int .u8 0) 1 rfl Tryd.underlying50 info5 rfl (by decide) (by omega) _ xs (bt t k) [.int .u8 (bt t k)] (fun _ => True) (fun _ => False) rfl rfl ?aP (fun _ hk => hk.elim) ?aF ?aO ?aB ?aS ?aL ?_; (case aP => exact rfl); (case aB => exact (by repeat (first | (with_reducible first | exact HB.out | apply below_alloc | apply pw_below_drewN | apply below_drew1) | exact HB.out))); (case aF => exact (fun _ _ => trivial)); (case aO => exact (by (with_reducible repeat (first | apply Kd.R_alloc | apply Kd.R_drewN | apply Kd.R_drew)); exact HO.out)); (case aS => exact (below_size (by repeat (first | (with_reducible first | exact HB.out | apply below_alloc | apply pw_below_drewN | apply below_drew1) | exact HB.out)))); (case aL => omega); intro v1 w1 ho hb hgr hat; have HO1 := Aside0.mk ho; have HB1 := Aside0.mk hb; clear HO HB ho hb hgr hat))
        go_roundw
        case rel => exact ⟨k + 1, xs ++ [bt t k], by omega, by go_num, by simp; omega, HP, HO1, HB1⟩
        case measure => simp [intOf]; omega
      · replace hp : plainP (bt t k) = false := by simpa using hp
        have c1r := pw_cell_below HB.out C1.out
        have hbr := blk_below HBLK.out HB.out
        have r0 : wr.cell? ⟨w.heap.size, 0, none⟩ = some (.int .i64 0) := by rw [blk_cell hbr]; rfl
        have r1 : wr.cell? ⟨w.heap.size, 1, none⟩ = some (.slice none 0 0) := by rw [blk_cell hbr]; rfl
        have f0 := blk_frozen hbr 0
        have f1 := blk_frozen hbr 1
        have HR := Aside0.mk hbr
        clear hbr
        by_cases h92 : bt t k = 92
        · have h92b : (bt t k != 92) = false := by simpa using h92
          by_cases hend : t.size ≤ k + 2
          · have HN := Aside0.mk (textP_none (low := low) (high := high) (by rw [← HT.out]; exact HD.out.bad1 hlt2 hp hend))
            have he2 : (t.size : Int) ≤ (k : Int) + 2 := by omega
            have H92 := Aside0.mk h92
            clear h92 hend
            go_wp2_with (first
              | (go_at_call 73; refine (plain_any _ _).mono ?_; rw [hp]; rintro e w' ⟨rfl, nq, rfl⟩)
              | fail)
            go_region
            all_goals go_wp2
            refine bodyPost_ret (results_ct (u := 7) (p := 6) (ty := 93) rfl _ _ w.heap.size 93 _ (0, 0) _ rfl (blk_set (blk_set (blk_drewN HR.out _) 0 _) 1 _) Tryd.underlying93 rfl info93s) rfl ?_
            rw [HN.out]
            exact ⟨_, rfl, Kd.R_nil _ _ _ _ _, below_trans2 HW0.out HB.out HSZ.out (by (repeat (first | exact Below.refl _ _ | apply pw_below_drewN | apply below_drew | refine Below.setCell ?_ (by simp) _)))⟩
          · have he2 : (k : Int) + 2 < (t.size : Int) := by omega
            have he3 : (k : Int) + 1 < (t.size : Int) := by omega
            have hx1 : ∀ h : k + 1 < t.size, ((t[k + 1]'h).toNat : Int) = bt t ((k : Int) + 1) := by
              have := bt_at t ((k : Int) + 1)
              rw [show ((k : Int) + 1).toNat = k + 1 from by omega] at this
              exact this
            have hx2 : ∀ h : k + 2 < t.size, ((t[k + 2]'h).toNat : Int) = bt t ((k : Int) + 2) := by
              have := bt_at t ((k : Int) + 2)
              rw [show ((k : Int) + 2).toNat = k + 2 from by omega] at this
              exact this
            have H92 := Aside0.mk h92
            have hend2 : k + 2 < t.size := by omega
            clear h92 hend
            by_cases ha : hexv (bt t ((k : Int) + 1)) < 0
            · have HN := Aside0.mk (textP_none (low := low) (high := high) (by rw [← HT.out]; exact HD.out.bad2 hend2 hp (.inl ha)))
              have ha' : decide (hexv (bt t ((k : Int) + 1)) < 0) = true := by simpa using ha
              have wx1 : IntKind.i64.wrap ((k : Int) + 1) = (k : Int) + 1 := IntWalk.i64_in _ (by omega)
              have wx2 : IntKind.i64.wrap ((k : Int) + 2) = (k : Int) + 2 := IntWalk.i64_in _ (by omega)
              have wn1 : ((k : Int) + 1).toNat = k + 1 := by omega
              have wn2 : ((k : Int) + 2).toNat = k + 2 := by omega
              have wz1 : (0 : Int) ≤ (k : Int) + 1 := by omega
              have wz2 : (0 : Int) ≤ (k : Int) + 2 := by omega
              go_wp2_with (first
                | (go_at_call 73; refine (plain_any _ _).mono ?_; rw [hp]; rintro e w' ⟨rfl, nq, rfl⟩)
                | fail)
              go_quiet ((go_at_call 82; exact (hexAt_any _ _).mono fun e w' h => ⟨h.1, _, h.2⟩))
              clear wx1 wx2 wn1 wn2 wz1 wz2 hx1 hx2
              go_wp2_with fail
              go_region
              all_goals go_wp2
              refine bodyPost_ret (results_ct (u := 7) (p := 6) (ty := 93) rfl _ _ w.heap.size 93 _ (0, 0) _ rfl (blk_set (blk_set (blk_drewN HR.out _) 0 _) 1 _) Tryd.underlying93 rfl info93s) rfl ?_
              rw [HN.out]
              exact ⟨_, rfl, Kd.R_nil _ _ _ _ _, below_trans2 HW0.out HB.out HSZ.out (by (repeat (first | exact Below.refl _ _ | apply pw_below_drewN | apply below_drew | refine Below.setCell ?_ (by simp) _)))⟩
            have hy1 := hexv_range (bt t ((k : Int) + 1))
            have hy2 := hexv_range (bt t ((k : Int) + 2))
            have hy1a : 0 ≤ hexv (bt t ((k : Int) + 1)) := by omega
            have hy1b := hy1.2
            have ha' : decide (hexv (bt t ((k : Int) + 1)) < 0) = false := by simp; omega
            by_cases hb : hexv (bt t ((k : Int) + 2)) < 0
            · have HN := Aside0.mk (textP_none (low := low) (high := high) (by rw [← HT.out]; exact HD.out.bad2 hend2 hp (.inr (.inl hb))))
              have hb' : decide (hexv (bt t ((k : Int) + 2)) < 0) = true := by simpa using hb
              clear hy1 hy2 ha
              have wx1 : IntKind.i64.wrap ((k : Int) + 1) = (k : Int) + 1 := IntWalk.i64_in _ (by omega)
              have wx2 : IntKind.i64.wrap ((k : Int) + 2) = (k : Int) + 2 := IntWalk.i64_in _ (by omega)
              have wn1 : ((k : Int) + 1).toNat = k + 1 := by omega
              have wn2 : ((k : Int) + 2).toNat = k + 2 := by omega
              have wz1 : (0 : Int) ≤ (k : Int) + 1 := by omega
              have wz2 : (0 : Int) ≤ (k : Int) + 2 := by omega
              go_wp2_with (first
                | (go_at_call 73; refine (plain_any _ _).mono ?_; rw [hp]; rintro e w' ⟨rfl, nq, rfl⟩)
                | fail)
              go_quiet ((go_at_call 82; exact (hexAt_any _ _).mono fun e w' h => ⟨h.1, _, h.2⟩))
              clear wx1 wx2 wn1 wn2 wz1 wz2 hx1 hx2
              go_wp2_with fail
              go_region
              all_goals go_wp2
              refine bodyPost_ret (results_ct (u := 7) (p := 6) (ty := 93) rfl _ _ w.heap.size 93 _ (0, 0) _ rfl (blk_set (blk_set (blk_drewN HR.out _) 0 _) 1 _) Tryd.underlying93 rfl info93s) rfl ?_
              rw [HN.out]
              exact ⟨_, rfl, Kd.R_nil _ _ _ _ _, below_trans2 HW0.out HB.out HSZ.out (by (repeat (first | exact Below.refl _ _ | apply pw_below_drewN | apply below_drew | refine Below.setCell ?_ (by simp) _)))⟩
            have hy2a : 0 ≤ hexv (bt t ((k : Int) + 2)) := by omega
            have hy2b := hy2.2
            have hb' : decide (hexv (bt t ((k : Int) + 2)) < 0) = false := by simp; omega
            clear hy1 hy2
            by_cases hq : plainP (16 * hexv (bt t ((k : Int) + 1)) + hexv (bt t ((k : Int) + 2))) = true
            · have HN := Aside0.mk (textP_none (low := low) (high := high) (by rw [← HT.out]; exact HD.out.bad2 hend2 hp (.inr (.inr hq))))
              clear ha hb
              have wx1 : IntKind.i64.wrap ((k : Int) + 1) = (k : Int) + 1 := IntWalk.i64_in _ (by omega)
              have wx2 : IntKind.i64.wrap ((k : Int) + 2) = (k : Int) + 2 := IntWalk.i64_in _ (by omega)
              have wn1 : ((k : Int) + 1).toNat = k + 1 := by omega
              have wn2 : ((k : Int) + 2).toNat = k + 2 := by omega
              have wz1 : (0 : Int) ≤ (k : Int) + 1 := by omega
              have wz2 : (0 : Int) ≤ (k : Int) + 2 := by omega
              go_wp2_with (first
                | (go_at_call 73; refine (plain_any _ _).mono ?_; rw [hp]; rintro e w' ⟨rfl, nq, rfl⟩)
                | fail)
              go_quiet ((go_at_call 82; exact (hexAt_any _ _).mono fun e w' h => ⟨h.1, _, h.2⟩))
              clear wx1 wx2 wn1 wn2 wz1 wz2 hx1 hx2
              go_wp2_with (first
                | (go_at_call 73; refine (plain_any _ _).mono ?_; rw [hq]; rintro e w' ⟨rfl, nq2, rfl⟩)
                | fail)
              go_region
              all_goals go_wp2
              refine bodyPost_ret (results_ct (u := 7) (p := 6) (ty := 93) rfl _ _ w.heap.size 93 _ (0, 0) _ rfl (blk_set (blk_set (blk_drewN HR.out _) 0 _) 1 _) Tryd.underlying93 rfl info93s) rfl ?_
              rw [HN.out]
              exact ⟨_, rfl, Kd.R_nil _ _ _ _ _, below_trans2 HW0.out HB.out HSZ.out (by (repeat (first | exact Below.refl _ _ | apply pw_below_drewN | apply below_drew | refine Below.setCell ?_ (by simp) _)))⟩
            replace hq : plainP (16 * hexv (bt t ((k : Int) + 1)) + hexv (bt t ((k : Int) + 2))) = false := by simpa using hq
            have HP := Aside0.mk (HD.out.esc hend2 hp H92.out ha hb hq)
            clear ha hb
            have wx1 : IntKind.i64.wrap ((k : Int) + 1) = (k : Int) + 1 := IntWalk.i64_in _ (by omega)
            have wx2 : IntKind.i64.wrap ((k : Int) + 2) = (k : Int) + 2 := IntWalk.i64_in _ (by omega)
            have wn1 : ((k : Int) + 1).toNat = k + 1 := by omega
            have wn2 : ((k : Int) + 2).toNat = k + 2 := by omega
            have wz1 : (0 : Int) ≤ (k : Int) + 1 := by omega
            have wz2 : (0 : Int) ≤ (k : Int) + 2 := by omega
            go_wp2_with (first
              | (go_at_call 73; refine (plain_any _ _).mono ?_; rw [hp]; rintro e w' ⟨rfl, nq, rfl⟩)
              | fail)
            go_quiet ((go_at_call 82; exact (hexAt_any _ _).mono fun e w' h => ⟨h.1, _, h.2⟩))
            clear wx1 wx2 wn1 wn2 wz1 wz2 hx1 hx2
            go_wp2_with (first
              | (go_at_call 73; refine (plain_any _ _).mono ?_; rw [hq]; rintro e w' ⟨rfl, nq2, rfl⟩)
              | ((with_reducible refine gate_builtin (b := .append) (xs := #[.tmp 92, .tmp 94]) rfl ?_); (try (refine gate_guard (by rfl) ?_; dsimp only)); at_builtin; refine Kd.R_append (Kd.int .u8) (w0 := w0) w0.heap.size rfl (.tmp 92) (.tmp 94) 50 5 (.int .u8 0) 1 rfl Tryd.underlying50 info5 rfl (by decide) (by omega) _ xs (16 * hexv (bt t ((k : Int) + 1)) + hexv (bt t ((k : Int) + 2))) [.int .u8 (16 * hexv (bt t ((k : Int) + 1)) + hexv (bt t ((k : Int) + 2)))] (fun _ => True) (fun _ => False) rfl rfl ?aP (fun _ hk => hk.elim) ?aF ?aO ?aB ?aS ?aL ?_; (case aP => exact rfl); (case aB => exact (by repeat (first | (with_reducible first | exact HB.out | apply below_alloc | apply pw_below_drewN | apply below_drew1) | exact HB.out))); (case aF => exact (fun _ _ => trivial)); (case aO => exact (by (with_reducible repeat (first | apply Kd.R_alloc | apply Kd.R_drewN | apply Kd.R_drew)); exact HO.out)); (case aS => exact (below_size (by repeat (first | (with_reducible first | exact HB.out | apply below_alloc | apply pw_below_drewN | apply below_drew1) | exact HB.out)))); (case aL => omega); intro v1 w1 ho hb hgr hat; have HO1 := Aside0.mk ho; have HB1 := Aside0.mk hb; clear HO HB ho hb hgr hat))
            go_roundw
            case rel => exact ⟨k + 2 + 1, xs ++ [16 * hexv (bt t ((k : Int) + 1)) + hexv (bt t ((k : Int) + 2))], by omega, by go_num, by simp; omega, HP, HO1, HB1⟩
            case measure => simp [intOf]; omega
        · have HN := Aside0.mk (textP_none (low := low) (high := high) (by rw [← HT.out]; exact HD.out.bad0 hlt2 hp h92))
          have h92b : (bt t k != 92) = true := by simpa using h92
          clear h92
          go_wp2_with (first
            | (go_at_call 73; refine (plain_any _ _).mono ?_; rw [hp]; rintro e w' ⟨rfl, nq, rfl⟩)
            | fail)
          go_region
          all_goals go_wp2
          refine bodyPost_ret (results_ct (u := 7) (p := 6) (ty := 93) rfl _ _ w.heap.size 93 _ (0, 0) _ rfl (blk_set (blk_set (blk_drewN HR.out _) 0 _) 1 _) Tryd.underlying93 rfl info93s) rfl ?_
          rw [HN.out]
          exact ⟨_, rfl, Kd.R_nil _ _ _ _ _, below_trans2 HW0.out HB.out HSZ.out (by (repeat (first | exact Below.refl _ _ | apply pw_below_drewN | apply below_drew | refine Below.setCell ?_ (by simp) _)))⟩
    · have hk2 : k = t.size := by omega
      have HE := Aside0.mk (textP_some (low := low) (high := high) HB0.out (by rw [← HT.out]; rw [hk2] at HD; exact HD.out.end_))
      have c1r := pw_cell_below HB.out C1.out
      have hbr := blk_below HBLK.out HB.out
      have r0 : wr.cell? ⟨w.heap.size, 0, none⟩ = some (.int .i64 0) := by rw [blk_cell hbr]; rfl
      have r1 : wr.cell? ⟨w.heap.size, 1, none⟩ = some (.slice none 0 0) := by rw [blk_cell hbr]; rfl
      have f0 := blk_frozen hbr 0
      have f1 := blk_frozen hbr 1
      have HR := Aside0.mk hbr
      clear hbr
      obtain ⟨A, c, hv, hc, hC⟩ := Kd.R_reads HO.out
      subst hv
      have HKC := Aside0.mk hk2
      clear hC hk2 hc
      by_cases hl1 : (xs.length : Int) < low
      · have HN := Aside0.mk (HE.out.trans (if_pos hl1))
        have hl1' : decide ((xs.length : Int) < low) = true := by simpa using hl1
        clear hl1
        go_wp2
        go_region
        all_goals go_wp2
        refine bodyPost_ret (results_ct (u := 7) (p := 6) (ty := 93) rfl _ _ w.heap.size 93 _ (0, 0) _ rfl (blk_set (blk_set (blk_drewN HR.out _) 0 _) 1 _) Tryd.underlying93 rfl info93s) rfl ?_
        rw [HN.out]
        exact ⟨_, rfl, Kd.R_nil _ _ _ _ _, below_trans2 HW0.out HB.out HSZ.out (by (repeat (first | exact Below.refl _ _ | apply pw_below_drewN | apply below_drew | refine Below.setCell ?_ (by simp) _)))⟩
      have hl1' : decide ((xs.length : Int) < low) = false := by simpa using hl1
      by_cases hl2 : (xs.length : Int) > high
      · have HN := Aside0.mk (HE.out.trans ((if_neg hl1).trans (if_pos hl2)))
        have hl2' : decide (high < (xs.length : Int)) = true := by simpa using hl2
        clear hl1 hl2
        go_wp2
        go_region
        all_goals go_wp2
        refine bodyPost_ret (results_ct (u := 7) (p := 6) (ty := 93) rfl _ _ w.heap.size 93 _ (0, 0) _ rfl (blk_set (blk_set (blk_drewN HR.out _) 0 _) 1 _) Tryd.underlying93 rfl info93s) rfl ?_
        rw [HN.out]
        exact ⟨_, rfl, Kd.R_nil _ _ _ _ _, below_trans2 HW0.out HB.out HSZ.out (by (repeat (first | exact Below.refl _ _ | apply pw_below_drewN | apply below_drew | refine Below.setCell ?_ (by simp) _)))⟩
      have hl2' : decide (high < (xs.length : Int)) = false := by simpa using hl2
      have HN := Aside0.mk (HE.out.trans ((if_neg hl1).trans (if_neg hl2)))
      clear hl1 hl2
      go_wp2
      refine bodyPost_ret (results_ct (u := 7) (p := 6) (ty := 93) rfl _ _ w.heap.size 93 _ (0, 0) _ rfl (blk_set (blk_set HR.out 0 _) 1 _) Tryd.underlying93 rfl info93s) rfl ?_
      rw [HN.out]
      refine ⟨_, rfl, Kd.R_set (Kd.R_set (Kd.R_lower HO.out HW0.out.size) HR.out (by decide) 0 _) (blk_set HR.out 0 _) (by decide) 1 _, ?_⟩
      exact below_trans2 HW0.out HB.out HSZ.out (by (repeat (first | exact Below.refl _ _ | apply pw_below_drewN | apply below_drew | refine Below.setCell ?_ (by simp) _)))
end Go.Proofs.YtjpkphmihkbfeaaDoor.S34
/- script.read by a contract. -/
namespace Go.Proofs.YtjpkphmihkbfeaaDoor.S34
open Go.RowKit Go.Proofs.YtjpkphmihkbfeaaDoorW.PrintWords Go.Proofs.YtjpkphmihkbfeaaDoorW.PrintLast Go.Proofs.YtjpkphmihkbfeaaDoorW.PrintMore Go.Proofs.YtjpkphmihkbfeaaDoor.Q
set_option maxRecDepth 100000
set_option linter.unusedSimpArgs false

def readP (s : ByteArray) (kd : Int) : Except Er S93 :=
  if kd = 82 then (choiceP s ⟨#[119, 97, 116, 99, 104]⟩ ⟨#[119, 114, 105, 116, 101]⟩).map fun n => ⟨n, []⟩
  else if kd = 83 then (choiceP s ⟨#[104, 117, 98]⟩ ⟨#[118, 105, 101, 119]⟩).map fun n => ⟨n, []⟩
  else if kd = 84 then textP s 0 1000
  else if kd = 75 then textP s 1 16
  else (numP s kd).map fun n => ⟨n, []⟩

set_option maxHeartbeats 2000000 in
theorem read_any (g : Er → Addr) (s : ByteArray) (kd : Int) (w : World) (hg : Glob g w) (hs : s.size ≤ 140737488351232) :
    Calls Tryd.prog 46 #[.string s, .int .u8 kd] w (WordRes g (readP s kd) w) := by
  by_cases h82 : kd = 82
  · have er : readP s kd = (choiceP s ⟨#[119, 97, 116, 99, 104]⟩ ⟨#[119, 114, 105, 116, 101]⟩).map fun n => ⟨n, []⟩ := by
      unfold readP
      rw [if_pos h82]
    rw [er]
    clear er
    have b82 : (kd == 82) = true := beq_iff_eq.2 h82
    clear h82
    go_enter Tryd.func46, Tryd.ntmps46
    go_wp2_with fail
    have hblk : (w.alloc (.cells #[.int .i64 0, .slice none 0 0] 93)).heap[w.heap.size]? = some (.cells #[.int .i64 0, .slice none 0 0] 93 (0, 0)) := blk_new _ _
    have hw0 : Below w.heap.size w (w.alloc (.cells #[.int .i64 0, .slice none 0 0] 93)) := below_alloc (Below.refl _ _) _
    have hsz : (w.alloc (.cells #[.int .i64 0, .slice none 0 0] 93)).heap.size = w.heap.size + 1 := by simp
    generalize hgw : w.alloc (.cells #[.int .i64 0, .slice none 0 0] 93) = w0 at hblk hw0 hsz ⊢
    clear hgw
    have HG := Aside0.mk (hg.below hw0)
    have HBLK := Aside0.mk hblk
    have HW0 := Aside0.mk hw0
    have HSZ := Aside0.mk hsz
    clear hblk hw0 hsz
    refine (choice_any g _ _ _ _ HG.out).mono ?_
    rintro e w1 hres
    have HRES := WordRes.of_num hres
    clear hres
    obtain ⟨v, rfl, hR, hB⟩ := HRES
    obtain ⟨A, c, rfl⟩ := Kd.R_slice hR
    have HB := Aside0.mk (hB.mono (Nat.le_refl _) : Below w0.heap.size w0 w1)
    have HO := Aside0.mk hR
    clear hR hB
    have hbr := blk_below HBLK.out HB.out
    have r0 : w1.cell? ⟨w.heap.size, 0, none⟩ = some (.int .i64 0) := by rw [blk_cell hbr]; rfl
    have r1 : w1.cell? ⟨w.heap.size, 1, none⟩ = some (.slice none 0 0) := by rw [blk_cell hbr]; rfl
    have f0 := blk_frozen hbr 0
    have f1 := blk_frozen hbr 1
    have HR := Aside0.mk hbr
    clear hbr
    go_wp2
    refine bodyPost_ret (results_ct (u := 5) (p := 4) (ty := 93) rfl _ _ w.heap.size 93 _ (0, 0) _ rfl (blk_set (blk_set HR.out 0 _) 1 _) Tryd.underlying93 rfl info93s) rfl ?_
    refine ⟨_, rfl, Kd.R_set (Kd.R_set (Kd.R_lower HO.out HW0.out.size) HR.out (by decide) 0 _) (blk_set HR.out 0 _) (by decide) 1 _, ?_⟩
    exact below_trans2 HW0.out HB.out HSZ.out (by (repeat (first | exact Below.refl _ _ | apply pw_below_drewN | apply below_drew | refine Below.setCell ?_ (by simp) _)))
  by_cases h83 : kd = 83
  · have er : readP s kd = (choiceP s ⟨#[104, 117, 98]⟩ ⟨#[118, 105, 101, 119]⟩).map fun n => ⟨n, []⟩ := by
      unfold readP
      rw [if_neg h82, if_pos h83]
    rw [er]
    clear er
    have b82 : (kd == 82) = false := beq_eq_false_iff_ne.2 h82
    have b83 : (kd == 83) = true := beq_iff_eq.2 h83
    clear h82 h83
    go_enter Tryd.func46, Tryd.ntmps46
    go_wp2_with fail
    have hblk : (w.alloc (.cells #[.int .i64 0, .slice none 0 0] 93)).heap[w.heap.size]? = some (.cells #[.int .i64 0, .slice none 0 0] 93 (0, 0)) := blk_new _ _
    have hw0 : Below w.heap.size w (w.alloc (.cells #[.int .i64 0, .slice none 0 0] 93)) := below_alloc (Below.refl _ _) _
    have hsz : (w.alloc (.cells #[.int .i64 0, .slice none 0 0] 93)).heap.size = w.heap.size + 1 := by simp
    generalize hgw : w.alloc (.cells #[.int .i64 0, .slice none 0 0] 93) = w0 at hblk hw0 hsz ⊢
    clear hgw
    have HG := Aside0.mk (hg.below hw0)
    have HBLK := Aside0.mk hblk
    have HW0 := Aside0.mk hw0
    have HSZ := Aside0.mk hsz
    clear hblk hw0 hsz
    refine (choice_any g _ _ _ _ HG.out).mono ?_
    rintro e w1 hres
    have HRES := WordRes.of_num hres
    clear hres
    obtain ⟨v, rfl, hR, hB⟩ := HRES
    obtain ⟨A, c, rfl⟩ := Kd.R_slice hR
    have HB := Aside0.mk (hB.mono (Nat.le_refl _) : Below w0.heap.size w0 w1)
    have HO := Aside0.mk hR
    clear hR hB
    have hbr := blk_below HBLK.out HB.out
    have r0 : w1.cell? ⟨w.heap.size, 0, none⟩ = some (.int .i64 0) := by rw [blk_cell hbr]; rfl
    have r1 : w1.cell? ⟨w.heap.size, 1, none⟩ = some (.slice none 0 0) := by rw [blk_cell hbr]; rfl
    have f0 := blk_frozen hbr 0
    have f1 := blk_frozen hbr 1
    have HR := Aside0.mk hbr
    clear hbr
    go_wp2
    refine bodyPost_ret (results_ct (u := 5) (p := 4) (ty := 93) rfl _ _ w.heap.size 93 _ (0, 0) _ rfl (blk_set (blk_set HR.out 0 _) 1 _) Tryd.underlying93 rfl info93s) rfl ?_
    refine ⟨_, rfl, Kd.R_set (Kd.R_set (Kd.R_lower HO.out HW0.out.size) HR.out (by decide) 0 _) (blk_set HR.out 0 _) (by decide) 1 _, ?_⟩
    exact below_trans2 HW0.out HB.out HSZ.out (by (repeat (first | exact Below.refl _ _ | apply pw_below_drewN | apply below_drew | refine Below.setCell ?_ (by simp) _)))
  by_cases h84 : kd = 84
  · have er : readP s kd = textP s 0 1000 := by
      unfold readP
      rw [if_neg h82, if_neg h83, if_pos h84]
    rw [er]
    clear er
    have b82 : (kd == 82) = false := beq_eq_false_iff_ne.2 h82
    have b83 : (kd == 83) = false := beq_eq_false_iff_ne.2 h83
    have b84 : (kd == 84) = true := beq_iff_eq.2 h84
    clear h82 h83 h84
    go_enter Tryd.func46, Tryd.ntmps46
    go_wp2_with fail
    have hblk : (w.alloc (.cells #[.int .i64 0, .slice none 0 0] 93)).heap[w.heap.size]? = some (.cells #[.int .i64 0, .slice none 0 0] 93 (0, 0)) := blk_new _ _
    have hw0 : Below w.heap.size w (w.alloc (.cells #[.int .i64 0, .slice none 0 0] 93)) := below_alloc (Below.refl _ _) _
    have hsz : (w.alloc (.cells #[.int .i64 0, .slice none 0 0] 93)).heap.size = w.heap.size + 1 := by simp
    generalize hgw : w.alloc (.cells #[.int .i64 0, .slice none 0 0] 93) = w0 at hblk hw0 hsz ⊢
    clear hgw
    have HG := Aside0.mk (hg.below hw0)
    have HBLK := Aside0.mk hblk
    have HW0 := Aside0.mk hw0
    have HSZ := Aside0.mk hsz
    clear hblk hw0 hsz
    refine (text_any g _ _ _ _ HG.out hs).mono ?_
    rintro e w1 HRES
    obtain ⟨v, rfl, hR, hB⟩ := HRES
    obtain ⟨A, c, rfl⟩ := Kd.R_slice hR
    have HB := Aside0.mk (hB.mono (Nat.le_refl _) : Below w0.heap.size w0 w1)
    have HO := Aside0.mk hR
    clear hR hB
    have hbr := blk_below HBLK.out HB.out
    have r0 : w1.cell? ⟨w.heap.size, 0, none⟩ = some (.int .i64 0) := by rw [blk_cell hbr]; rfl
    have r1 : w1.cell? ⟨w.heap.size, 1, none⟩ = some (.slice none 0 0) := by rw [blk_cell hbr]; rfl
    have f0 := blk_frozen hbr 0
    have f1 := blk_frozen hbr 1
    have HR := Aside0.mk hbr
    clear hbr
    go_wp2
    refine bodyPost_ret (results_ct (u := 5) (p := 4) (ty := 93) rfl _ _ w.heap.size 93 _ (0, 0) _ rfl (blk_set (blk_set HR.out 0 _) 1 _) Tryd.underlying93 rfl info93s) rfl ?_
    refine ⟨_, rfl, Kd.R_set (Kd.R_set (Kd.R_lower HO.out HW0.out.size) HR.out (by decide) 0 _) (blk_set HR.out 0 _) (by decide) 1 _, ?_⟩
    exact below_trans2 HW0.out HB.out HSZ.out (by (repeat (first | exact Below.refl _ _ | apply pw_below_drewN | apply below_drew | refine Below.setCell ?_ (by simp) _)))
  by_cases h75 : kd = 75
  · have er : readP s kd = textP s 1 16 := by
      unfold readP
      rw [if_neg h82, if_neg h83, if_neg h84, if_pos h75]
    rw [er]
    clear er
    have b82 : (kd == 82) = false := beq_eq_false_iff_ne.2 h82
    have b83 : (kd == 83) = false := beq_eq_false_iff_ne.2 h83
    have b84 : (kd == 84) = false := beq_eq_false_iff_ne.2 h84
    have b75 : (kd == 75) = true := beq_iff_eq.2 h75
    clear h82 h83 h84 h75
    go_enter Tryd.func46, Tryd.ntmps46
    go_wp2_with fail
    have hblk : (w.alloc (.cells #[.int .i64 0, .slice none 0 0] 93)).heap[w.heap.size]? = some (.cells #[.int .i64 0, .slice none 0 0] 93 (0, 0)) := blk_new _ _
    have hw0 : Below w.heap.size w (w.alloc (.cells #[.int .i64 0, .slice none 0 0] 93)) := below_alloc (Below.refl _ _) _
    have hsz : (w.alloc (.cells #[.int .i64 0, .slice none 0 0] 93)).heap.size = w.heap.size + 1 := by simp
    generalize hgw : w.alloc (.cells #[.int .i64 0, .slice none 0 0] 93) = w0 at hblk hw0 hsz ⊢
    clear hgw
    have HG := Aside0.mk (hg.below hw0)
    have HBLK := Aside0.mk hblk
    have HW0 := Aside0.mk hw0
    have HSZ := Aside0.mk hsz
    clear hblk hw0 hsz
    refine (text_any g _ _ _ _ HG.out hs).mono ?_
    rintro e w1 HRES
    obtain ⟨v, rfl, hR, hB⟩ := HRES
    obtain ⟨A, c, rfl⟩ := Kd.R_slice hR
    have HB := Aside0.mk (hB.mono (Nat.le_refl _) : Below w0.heap.size w0 w1)
    have HO := Aside0.mk hR
    clear hR hB
    have hbr := blk_below HBLK.out HB.out
    have r0 : w1.cell? ⟨w.heap.size, 0, none⟩ = some (.int .i64 0) := by rw [blk_cell hbr]; rfl
    have r1 : w1.cell? ⟨w.heap.size, 1, none⟩ = some (.slice none 0 0) := by rw [blk_cell hbr]; rfl
    have f0 := blk_frozen hbr 0
    have f1 := blk_frozen hbr 1
    have HR := Aside0.mk hbr
    clear hbr
    go_wp2
    refine bodyPost_ret (results_ct (u := 5) (p := 4) (ty := 93) rfl _ _ w.heap.size 93 _ (0, 0) _ rfl (blk_set (blk_set HR.out 0 _) 1 _) Tryd.underlying93 rfl info93s) rfl ?_
    refine ⟨_, rfl, Kd.R_set (Kd.R_set (Kd.R_lower HO.out HW0.out.size) HR.out (by decide) 0 _) (blk_set HR.out 0 _) (by decide) 1 _, ?_⟩
    exact below_trans2 HW0.out HB.out HSZ.out (by (repeat (first | exact Below.refl _ _ | apply pw_below_drewN | apply below_drew | refine Below.setCell ?_ (by simp) _)))
  have er : readP s kd = (numP s kd).map fun n => ⟨n, []⟩ := by
    unfold readP
    rw [if_neg h82, if_neg h83, if_neg h84, if_neg h75]
  rw [er]
  clear er
  have b82 : (kd == 82) = false := beq_eq_false_iff_ne.2 h82
  have b83 : (kd == 83) = false := beq_eq_false_iff_ne.2 h83
  have b84 : (kd == 84) = false := beq_eq_false_iff_ne.2 h84
  have b75 : (kd == 75) = false := beq_eq_false_iff_ne.2 h75
  clear h82 h83 h84 h75
  go_enter Tryd.func46, Tryd.ntmps46
  go_wp2_with fail
  have hblk : (w.alloc (.cells #[.int .i64 0, .slice none 0 0] 93)).heap[w.heap.size]? = some (.cells #[.int .i64 0, .slice none 0 0] 93 (0, 0)) := blk_new _ _
  have hw0 : Below w.heap.size w (w.alloc (.cells #[.int .i64 0, .slice none 0 0] 93)) := below_alloc (Below.refl _ _) _
  have hsz : (w.alloc (.cells #[.int .i64 0, .slice none 0 0] 93)).heap.size = w.heap.size + 1 := by simp
  generalize hgw : w.alloc (.cells #[.int .i64 0, .slice none 0 0] 93) = w0 at hblk hw0 hsz ⊢
  clear hgw
  have HG := Aside0.mk (hg.below hw0)
  have HBLK := Aside0.mk hblk
  have HW0 := Aside0.mk hw0
  have HSZ := Aside0.mk hsz
  clear hblk hw0 hsz
  refine (number_any g _ _ _ HG.out).mono ?_
  rintro e w1 hres
  have HRES := WordRes.of_num hres
  clear hres
  obtain ⟨v, rfl, hR, hB⟩ := HRES
  obtain ⟨A, c, rfl⟩ := Kd.R_slice hR
  have HB := Aside0.mk (hB.mono (Nat.le_refl _) : Below w0.heap.size w0 w1)
  have HO := Aside0.mk hR
  clear hR hB
  have hbr := blk_below HBLK.out HB.out
  have r0 : w1.cell? ⟨w.heap.size, 0, none⟩ = some (.int .i64 0) := by rw [blk_cell hbr]; rfl
  have r1 : w1.cell? ⟨w.heap.size, 1, none⟩ = some (.slice none 0 0) := by rw [blk_cell hbr]; rfl
  have f0 := blk_frozen hbr 0
  have f1 := blk_frozen hbr 1
  have HR := Aside0.mk hbr
  clear hbr
  go_wp2
  refine bodyPost_ret (results_ct (u := 5) (p := 4) (ty := 93) rfl _ _ w.heap.size 93 _ (0, 0) _ rfl (blk_set (blk_set HR.out 0 _) 1 _) Tryd.underlying93 rfl info93s) rfl ?_
  refine ⟨_, rfl, Kd.R_set (Kd.R_set (Kd.R_lower HO.out HW0.out.size) HR.out (by decide) 0 _) (blk_set HR.out 0 _) (by decide) 1 _, ?_⟩
  exact below_trans2 HW0.out HB.out HSZ.out (by (repeat (first | exact Below.refl _ _ | apply pw_below_drewN | apply below_drew | refine Below.setCell ?_ (by simp) _)))
end Go.Proofs.YtjpkphmihkbfeaaDoor.S34
/- script.event by contracts, a theorem a first word. -/
namespace Go.Proofs.YtjpkphmihkbfeaaDoor.S34
open Go.RowKit Go.Proofs.YtjpkphmihkbfeaaDoorW.PrintWords Go.Proofs.YtjpkphmihkbfeaaDoorW.PrintLast Go.Proofs.YtjpkphmihkbfeaaDoorW.PrintMore Go.Proofs.YtjpkphmihkbfeaaDoor.Q
set_option maxRecDepth 100000
set_option linter.unusedSimpArgs false

theorem info54s : (Tryd.prog.info? 54).map (·.size) = some 10 := by kernel_rfl

def wd (ws : List S93) (i : Nat) : S93 := ws.getD i z93
/-- A word's cells in a row of words of the call's own. -/
theorem word_at {w : World} {base g n cap : Nat} {ws : List S93} (h : Kd.R k93 93 w base (fun _ => True) (.slice (some ⟨g, 0, none⟩) n cap) ws) (i : Nat) (hi : i < n) :
    ∃ v, w.cell? ⟨g, 2 * i, none⟩ = some (.int .i64 (wd ws i).f0) ∧ w.cell? ⟨g, 2 * i + 1, none⟩ = some v ∧ (Kd.int .u8).R 5 w base (fun _ => True) v (wd ws i).f1 := by
  obtain ⟨c, hc, hM, hcc⟩ := Kd.R_get h z93 (i : Int) (by omega) (by omega)
  obtain ⟨v1, rfl, hr⟩ := k93_openM hM
  refine ⟨v1, ?_, ?_, Kd.R_mono hr (fun _ _ => trivial)⟩
  · have := hcc 0 _ rfl
    rw [show k93.sz = 2 from rfl, add_plain, Int.toNat_natCast, Nat.mul_comm] at this
    exact this
  · have := hcc 1 _ rfl
    rw [show k93.sz = 2 from rfl, add_plain, Int.toNat_natCast, Nat.mul_comm] at this
    exact this

/-- An event that a call hands back. -/
def EvRes (base : Nat) (x : S54) (w : World) (e : Ending) (w' : World) : Prop :=
  ∃ cs : List Value, e = .returned (.agg cs.toArray) ∧ k54.M w' base (fun _ => True) x cs ∧ Below w.heap.size w w'

set_option maxHeartbeats 2000000 in
theorem event_join (base g cap : Nat) (ws : List S93) (w : World) (hR : Kd.R k93 93 w base (fun _ => True) (.slice (some ⟨g, 0, none⟩) 2 cap) ws) (hb0 : 0 ≤ (wd ws 1).f0) (hb1 : (wd ws 1).f0 ≤ 1) :
    Calls Tryd.prog 47 #[.string ⟨#[106, 111, 105, 110]⟩, .slice (some ⟨g, 0, none⟩) 2 cap] w (EvRes base ⟨1, (wd ws 0).f0, 0, 0, 1 + (wd ws 1).f0, z52, []⟩ w) := by
  have hg : g < w.heap.size := Kd.R_lt hR g rfl
  obtain ⟨v0, c0, d0, r0⟩ := word_at hR 0 (by decide)
  clear r0
  clear d0
  obtain ⟨v1, c1, d1, r1⟩ := word_at hR 1 (by decide)
  clear r1
  clear d1
  obtain ⟨n0, hn0⟩ : ∃ n, n = (wd ws 0).f0 := ⟨_, rfl⟩
  rw [← hn0] at c0 ⊢
  have Hn0 := Aside0.mk hn0
  clear hn0
  obtain ⟨n1, hn1⟩ : ∃ n, n = (wd ws 1).f0 := ⟨_, rfl⟩
  rw [← hn1] at c1 hb0 hb1 ⊢
  have Hn1 := Aside0.mk hn1
  clear hn1
  simp only [Nat.reduceMul] at c0 c1
  clear hR
  go_enter Tryd.func47, Tryd.ntmps47
  go_wp2
  go_region
  all_goals go_wp2
  refine bodyPost_ret (results_single rfl (.cell w.heap.size 54 _ (0, 0) _ rfl (by repeat (first | exact blk_new _ _ | apply blk_alloc | apply blk_drewN | apply blk_drew)) Tryd.underlying54 rfl (by exact info54s) .nil)) rfl ?_
  refine ⟨_, rfl, k54_mkM _ base _ _ (Kd.R_nil _ _ _ _ _) (Kd.R_nil _ _ _ _ _), ?_⟩
  (repeat (first | exact Below.refl _ _ | apply below_alloc | apply pw_below_drewN | apply below_drew))

set_option maxHeartbeats 2000000 in
theorem event_role (base g cap : Nat) (ws : List S93) (w : World) (hR : Kd.R k93 93 w base (fun _ => True) (.slice (some ⟨g, 0, none⟩) 2 cap) ws) (hb0 : 0 ≤ (wd ws 1).f0) (hb1 : (wd ws 1).f0 ≤ 1) :
    Calls Tryd.prog 47 #[.string ⟨#[114, 111, 108, 101]⟩, .slice (some ⟨g, 0, none⟩) 2 cap] w (EvRes base ⟨3, (wd ws 0).f0, 0, 0, 1 + (wd ws 1).f0, z52, []⟩ w) := by
  have hg : g < w.heap.size := Kd.R_lt hR g rfl
  obtain ⟨v0, c0, d0, r0⟩ := word_at hR 0 (by decide)
  clear r0
  clear d0
  obtain ⟨v1, c1, d1, r1⟩ := word_at hR 1 (by decide)
  clear r1
  clear d1
  obtain ⟨n0, hn0⟩ : ∃ n, n = (wd ws 0).f0 := ⟨_, rfl⟩
  rw [← hn0] at c0 ⊢
  have Hn0 := Aside0.mk hn0
  clear hn0
  obtain ⟨n1, hn1⟩ : ∃ n, n = (wd ws 1).f0 := ⟨_, rfl⟩
  rw [← hn1] at c1 hb0 hb1 ⊢
  have Hn1 := Aside0.mk hn1
  clear hn1
  simp only [Nat.reduceMul] at c0 c1
  clear hR
  go_enter Tryd.func47, Tryd.ntmps47
  go_wp2
  go_region
  all_goals go_wp2
  refine bodyPost_ret (results_single rfl (.cell w.heap.size 54 _ (0, 0) _ rfl (by repeat (first | exact blk_new _ _ | apply blk_alloc | apply blk_drewN | apply blk_drew)) Tryd.underlying54 rfl (by exact info54s) .nil)) rfl ?_
  refine ⟨_, rfl, k54_mkM _ base _ _ (Kd.R_nil _ _ _ _ _) (Kd.R_nil _ _ _ _ _), ?_⟩
  (repeat (first | exact Below.refl _ _ | apply below_alloc | apply pw_below_drewN | apply below_drew))

set_option maxHeartbeats 2000000 in
theorem event_leave (base g cap : Nat) (ws : List S93) (w : World) (hR : Kd.R k93 93 w base (fun _ => True) (.slice (some ⟨g, 0, none⟩) 1 cap) ws) :
    Calls Tryd.prog 47 #[.string ⟨#[108, 101, 97, 118, 101]⟩, .slice (some ⟨g, 0, none⟩) 1 cap] w (EvRes base ⟨2, (wd ws 0).f0, 0, 0, 0, z52, []⟩ w) := by
  have hg : g < w.heap.size := Kd.R_lt hR g rfl
  obtain ⟨v0, c0, d0, r0⟩ := word_at hR 0 (by decide)
  clear r0
  clear d0
  obtain ⟨n0, hn0⟩ : ∃ n, n = (wd ws 0).f0 := ⟨_, rfl⟩
  rw [← hn0] at c0 ⊢
  have Hn0 := Aside0.mk hn0
  clear hn0
  simp only [Nat.reduceMul] at c0
  clear hR
  go_enter Tryd.func47, Tryd.ntmps47
  go_wp2
  refine bodyPost_ret (results_single rfl (.cell w.heap.size 54 _ (0, 0) _ rfl (by repeat (first | exact blk_new _ _ | apply blk_alloc | apply blk_drewN | apply blk_drew)) Tryd.underlying54 rfl (by exact info54s) .nil)) rfl ?_
  refine ⟨_, rfl, k54_mkM _ base _ _ (Kd.R_nil _ _ _ _ _) (Kd.R_nil _ _ _ _ _), ?_⟩
  (repeat (first | exact Below.refl _ _ | apply below_alloc | apply pw_below_drewN | apply below_drew))

set_option maxHeartbeats 2000000 in
theorem event_ask (base g cap : Nat) (ws : List S93) (w : World) (hR : Kd.R k93 93 w base (fun _ => True) (.slice (some ⟨g, 0, none⟩) 1 cap) ws) :
    Calls Tryd.prog 47 #[.string ⟨#[97, 115, 107]⟩, .slice (some ⟨g, 0, none⟩) 1 cap] w (EvRes base ⟨5, (wd ws 0).f0, 0, 0, 0, ⟨3, [], 0, 0⟩, []⟩ w) := by
  have hg : g < w.heap.size := Kd.R_lt hR g rfl
  obtain ⟨v0, c0, d0, r0⟩ := word_at hR 0 (by decide)
  clear r0
  clear d0
  obtain ⟨n0, hn0⟩ : ∃ n, n = (wd ws 0).f0 := ⟨_, rfl⟩
  rw [← hn0] at c0 ⊢
  have Hn0 := Aside0.mk hn0
  clear hn0
  simp only [Nat.reduceMul] at c0
  clear hR
  go_enter Tryd.func47, Tryd.ntmps47
  go_wp2
  refine bodyPost_ret (results_single rfl (.cell w.heap.size 54 _ (0, 0) _ rfl (by repeat (first | exact blk_new _ _ | apply blk_alloc | apply blk_drewN | apply blk_drew)) Tryd.underlying54 rfl (by exact info54s) .nil)) rfl ?_
  refine ⟨_, rfl, k54_mkM _ base _ _ (Kd.R_nil _ _ _ _ _) (Kd.R_nil _ _ _ _ _), ?_⟩
  (repeat (first | exact Below.refl _ _ | apply below_alloc | apply pw_below_drewN | apply below_drew))

set_option maxHeartbeats 2000000 in
theorem event_free (base g cap : Nat) (ws : List S93) (w : World) (hR : Kd.R k93 93 w base (fun _ => True) (.slice (some ⟨g, 0, none⟩) 1 cap) ws) :
    Calls Tryd.prog 47 #[.string ⟨#[102, 114, 101, 101]⟩, .slice (some ⟨g, 0, none⟩) 1 cap] w (EvRes base ⟨5, (wd ws 0).f0, 0, 0, 0, ⟨4, [], 0, 0⟩, []⟩ w) := by
  have hg : g < w.heap.size := Kd.R_lt hR g rfl
  obtain ⟨v0, c0, d0, r0⟩ := word_at hR 0 (by decide)
  clear r0
  clear d0
  obtain ⟨n0, hn0⟩ : ∃ n, n = (wd ws 0).f0 := ⟨_, rfl⟩
  rw [← hn0] at c0 ⊢
  have Hn0 := Aside0.mk hn0
  clear hn0
  simp only [Nat.reduceMul] at c0
  clear hR
  go_enter Tryd.func47, Tryd.ntmps47
  go_wp2
  refine bodyPost_ret (results_single rfl (.cell w.heap.size 54 _ (0, 0) _ rfl (by repeat (first | exact blk_new _ _ | apply blk_alloc | apply blk_drewN | apply blk_drew)) Tryd.underlying54 rfl (by exact info54s) .nil)) rfl ?_
  refine ⟨_, rfl, k54_mkM _ base _ _ (Kd.R_nil _ _ _ _ _) (Kd.R_nil _ _ _ _ _), ?_⟩
  (repeat (first | exact Below.refl _ _ | apply below_alloc | apply pw_below_drewN | apply below_drew))

set_option maxHeartbeats 2000000 in
theorem event_keys (base g cap : Nat) (ws : List S93) (w : World) (hR : Kd.R k93 93 w base (fun _ => True) (.slice (some ⟨g, 0, none⟩) 2 cap) ws) :
    Calls Tryd.prog 47 #[.string ⟨#[107, 101, 121, 115]⟩, .slice (some ⟨g, 0, none⟩) 2 cap] w (EvRes base ⟨5, (wd ws 0).f0, 0, 0, 0, ⟨1, (wd ws 1).f1, 0, 0⟩, []⟩ w) := by
  have hg : g < w.heap.size := Kd.R_lt hR g rfl
  obtain ⟨v0, c0, d0, r0⟩ := word_at hR 0 (by decide)
  clear r0
  clear d0
  obtain ⟨v1, c1, d1, r1⟩ := word_at hR 1 (by decide)
  obtain ⟨A1, p1, rfl⟩ := Kd.R_slice r1
  have HR1 := Aside0.mk r1
  clear r1
  clear c1
  obtain ⟨n0, hn0⟩ : ∃ n, n = (wd ws 0).f0 := ⟨_, rfl⟩
  rw [← hn0] at c0 ⊢
  have Hn0 := Aside0.mk hn0
  clear hn0
  obtain ⟨b1, hb1⟩ : ∃ b, b = (wd ws 1).f1 := ⟨_, rfl⟩
  rw [← hb1] at d1 HR1 ⊢
  have Hb1 := Aside0.mk hb1
  clear hb1
  simp only [Nat.reduceMul, Nat.reduceAdd] at c0 d1
  clear hR
  go_enter Tryd.func47, Tryd.ntmps47
  go_wp2
  go_region
  all_goals go_wp2
  refine bodyPost_ret (results_single rfl (.cell w.heap.size 54 _ (0, 0) _ rfl (by repeat (first | exact blk_new _ _ | apply blk_alloc | apply blk_drewN | apply blk_drew)) Tryd.underlying54 rfl (by exact info54s) .nil)) rfl ?_
  refine ⟨_, rfl, k54_mkM _ base _ _ (by (with_reducible repeat (first | apply Kd.R_alloc | apply Kd.R_drewN | apply Kd.R_drew)); exact HR1.out) (Kd.R_nil _ _ _ _ _), ?_⟩
  (repeat (first | exact Below.refl _ _ | apply below_alloc | apply pw_below_drewN | apply below_drew))

set_option maxHeartbeats 2000000 in
theorem event_size (base g cap : Nat) (ws : List S93) (w : World) (hR : Kd.R k93 93 w base (fun _ => True) (.slice (some ⟨g, 0, none⟩) 3 cap) ws) :
    Calls Tryd.prog 47 #[.string ⟨#[115, 105, 122, 101]⟩, .slice (some ⟨g, 0, none⟩) 3 cap] w (EvRes base ⟨5, (wd ws 0).f0, 0, 0, 0, ⟨2, [], (wd ws 1).f0, (wd ws 2).f0⟩, []⟩ w) := by
  have hg : g < w.heap.size := Kd.R_lt hR g rfl
  obtain ⟨v0, c0, d0, r0⟩ := word_at hR 0 (by decide)
  clear r0
  clear d0
  obtain ⟨v1, c1, d1, r1⟩ := word_at hR 1 (by decide)
  clear r1
  clear d1
  obtain ⟨v2, c2, d2, r2⟩ := word_at hR 2 (by decide)
  clear r2
  clear d2
  obtain ⟨n0, hn0⟩ : ∃ n, n = (wd ws 0).f0 := ⟨_, rfl⟩
  rw [← hn0] at c0 ⊢
  have Hn0 := Aside0.mk hn0
  clear hn0
  obtain ⟨n1, hn1⟩ : ∃ n, n = (wd ws 1).f0 := ⟨_, rfl⟩
  rw [← hn1] at c1 ⊢
  have Hn1 := Aside0.mk hn1
  clear hn1
  obtain ⟨n2, hn2⟩ : ∃ n, n = (wd ws 2).f0 := ⟨_, rfl⟩
  rw [← hn2] at c2 ⊢
  have Hn2 := Aside0.mk hn2
  clear hn2
  simp only [Nat.reduceMul] at c0 c1 c2
  clear hR
  go_enter Tryd.func47, Tryd.ntmps47
  go_wp2
  go_region
  all_goals go_wp2
  refine bodyPost_ret (results_single rfl (.cell w.heap.size 54 _ (0, 0) _ rfl (by repeat (first | exact blk_new _ _ | apply blk_alloc | apply blk_drewN | apply blk_drew)) Tryd.underlying54 rfl (by exact info54s) .nil)) rfl ?_
  refine ⟨_, rfl, k54_mkM _ base _ _ (Kd.R_nil _ _ _ _ _) (Kd.R_nil _ _ _ _ _), ?_⟩
  (repeat (first | exact Below.refl _ _ | apply below_alloc | apply pw_below_drewN | apply below_drew))

set_option maxHeartbeats 2000000 in
theorem event_out (base g cap : Nat) (ws : List S93) (w : World) (hR : Kd.R k93 93 w base (fun _ => True) (.slice (some ⟨g, 0, none⟩) 1 cap) ws) :
    Calls Tryd.prog 47 #[.string ⟨#[111, 117, 116]⟩, .slice (some ⟨g, 0, none⟩) 1 cap] w (EvRes base ⟨4, (wd ws 0).f0, 0, 0, 0, z52, (wd ws 0).f1⟩ w) := by
  have hg : g < w.heap.size := Kd.R_lt hR g rfl
  obtain ⟨v0, c0, d0, r0⟩ := word_at hR 0 (by decide)
  obtain ⟨A0, p0, rfl⟩ := Kd.R_slice r0
  have HR0 := Aside0.mk r0
  clear r0
  obtain ⟨n0, hn0⟩ : ∃ n, n = (wd ws 0).f0 := ⟨_, rfl⟩
  rw [← hn0] at c0 ⊢
  have Hn0 := Aside0.mk hn0
  clear hn0
  obtain ⟨b0, hb0⟩ : ∃ b, b = (wd ws 0).f1 := ⟨_, rfl⟩
  rw [← hb0] at d0 HR0 ⊢
  have Hb0 := Aside0.mk hb0
  clear hb0
  simp only [Nat.reduceMul, Nat.reduceAdd] at c0 d0
  clear hR
  go_enter Tryd.func47, Tryd.ntmps47
  go_wp2
  go_region
  all_goals go_wp2
  refine bodyPost_ret (results_single rfl (.cell w.heap.size 54 _ (0, 0) _ rfl (by repeat (first | exact blk_new _ _ | apply blk_alloc | apply blk_drewN | apply blk_drew)) Tryd.underlying54 rfl (by exact info54s) .nil)) rfl ?_
  refine ⟨_, rfl, k54_mkM _ base _ _ (Kd.R_nil _ _ _ _ _) (by (with_reducible repeat (first | apply Kd.R_alloc | apply Kd.R_drewN | apply Kd.R_drew)); exact HR0.out), ?_⟩
  (repeat (first | exact Below.refl _ _ | apply below_alloc | apply pw_below_drewN | apply below_drew))

set_option maxHeartbeats 2000000 in
theorem event_tick (base g cap : Nat) (ws : List S93) (w : World) (hR : Kd.R k93 93 w base (fun _ => True) (.slice (some ⟨g, 0, none⟩) 1 cap) ws) :
    Calls Tryd.prog 47 #[.string ⟨#[116, 105, 99, 107]⟩, .slice (some ⟨g, 0, none⟩) 1 cap] w (EvRes base ⟨6, 0, (wd ws 0).f0, 0, 0, z52, []⟩ w) := by
  have hg : g < w.heap.size := Kd.R_lt hR g rfl
  obtain ⟨v0, c0, d0, r0⟩ := word_at hR 0 (by decide)
  clear r0
  clear d0
  obtain ⟨n0, hn0⟩ : ∃ n, n = (wd ws 0).f0 := ⟨_, rfl⟩
  rw [← hn0] at c0 ⊢
  have Hn0 := Aside0.mk hn0
  clear hn0
  simp only [Nat.reduceMul] at c0
  clear hR
  go_enter Tryd.func47, Tryd.ntmps47
  go_wp2
  refine bodyPost_ret (results_single rfl (.cell w.heap.size 54 _ (0, 0) _ rfl (by repeat (first | exact blk_new _ _ | apply blk_alloc | apply blk_drewN | apply blk_drew)) Tryd.underlying54 rfl (by exact info54s) .nil)) rfl ?_
  refine ⟨_, rfl, k54_mkM _ base _ _ (Kd.R_nil _ _ _ _ _) (Kd.R_nil _ _ _ _ _), ?_⟩
  (repeat (first | exact Below.refl _ _ | apply below_alloc | apply pw_below_drewN | apply below_drew))

set_option maxHeartbeats 2000000 in
theorem event_deliver (base g cap : Nat) (ws : List S93) (w : World) (hR : Kd.R k93 93 w base (fun _ => True) (.slice (some ⟨g, 0, none⟩) 1 cap) ws) :
    Calls Tryd.prog 47 #[.string ⟨#[100, 101, 108, 105, 118, 101, 114]⟩, .slice (some ⟨g, 0, none⟩) 1 cap] w (EvRes base ⟨7, 0, (wd ws 0).f0, 0, 0, z52, []⟩ w) := by
  have hg : g < w.heap.size := Kd.R_lt hR g rfl
  obtain ⟨v0, c0, d0, r0⟩ := word_at hR 0 (by decide)
  clear r0
  clear d0
  obtain ⟨n0, hn0⟩ : ∃ n, n = (wd ws 0).f0 := ⟨_, rfl⟩
  rw [← hn0] at c0 ⊢
  have Hn0 := Aside0.mk hn0
  clear hn0
  simp only [Nat.reduceMul] at c0
  clear hR
  go_enter Tryd.func47, Tryd.ntmps47
  go_wp2
  refine bodyPost_ret (results_single rfl (.cell w.heap.size 54 _ (0, 0) _ rfl (by repeat (first | exact blk_new _ _ | apply blk_alloc | apply blk_drewN | apply blk_drew)) Tryd.underlying54 rfl (by exact info54s) .nil)) rfl ?_
  refine ⟨_, rfl, k54_mkM _ base _ _ (Kd.R_nil _ _ _ _ _) (Kd.R_nil _ _ _ _ _), ?_⟩
  (repeat (first | exact Below.refl _ _ | apply below_alloc | apply pw_below_drewN | apply below_drew))

set_option maxHeartbeats 2000000 in
theorem event_spoil (base g cap : Nat) (ws : List S93) (w : World) (hR : Kd.R k93 93 w base (fun _ => True) (.slice (some ⟨g, 0, none⟩) 2 cap) ws) :
    Calls Tryd.prog 47 #[.string ⟨#[115, 112, 111, 105, 108]⟩, .slice (some ⟨g, 0, none⟩) 2 cap] w (EvRes base ⟨8, 0, (wd ws 0).f0, (wd ws 1).f0, 0, z52, []⟩ w) := by
  have hg : g < w.heap.size := Kd.R_lt hR g rfl
  obtain ⟨v0, c0, d0, r0⟩ := word_at hR 0 (by decide)
  clear r0
  clear d0
  obtain ⟨v1, c1, d1, r1⟩ := word_at hR 1 (by decide)
  clear r1
  clear d1
  obtain ⟨n0, hn0⟩ : ∃ n, n = (wd ws 0).f0 := ⟨_, rfl⟩
  rw [← hn0] at c0 ⊢
  have Hn0 := Aside0.mk hn0
  clear hn0
  obtain ⟨n1, hn1⟩ : ∃ n, n = (wd ws 1).f0 := ⟨_, rfl⟩
  rw [← hn1] at c1 ⊢
  have Hn1 := Aside0.mk hn1
  clear hn1
  simp only [Nat.reduceMul] at c0 c1
  clear hR
  go_enter Tryd.func47, Tryd.ntmps47
  go_wp2
  go_region
  all_goals go_wp2
  refine bodyPost_ret (results_single rfl (.cell w.heap.size 54 _ (0, 0) _ rfl (by repeat (first | exact blk_new _ _ | apply blk_alloc | apply blk_drewN | apply blk_drew)) Tryd.underlying54 rfl (by exact info54s) .nil)) rfl ?_
  refine ⟨_, rfl, k54_mkM _ base _ _ (Kd.R_nil _ _ _ _ _) (Kd.R_nil _ _ _ _ _), ?_⟩
  (repeat (first | exact Below.refl _ _ | apply below_alloc | apply pw_below_drewN | apply below_drew))

set_option maxHeartbeats 2000000 in
theorem event_move (base g cap : Nat) (ws : List S93) (w : World) (hR : Kd.R k93 93 w base (fun _ => True) (.slice (some ⟨g, 0, none⟩) 2 cap) ws) :
    Calls Tryd.prog 47 #[.string ⟨#[109, 111, 118, 101]⟩, .slice (some ⟨g, 0, none⟩) 2 cap] w (EvRes base ⟨9, (wd ws 0).f0, (wd ws 1).f0, 0, 0, z52, []⟩ w) := by
  have hg : g < w.heap.size := Kd.R_lt hR g rfl
  obtain ⟨v0, c0, d0, r0⟩ := word_at hR 0 (by decide)
  clear r0
  clear d0
  obtain ⟨v1, c1, d1, r1⟩ := word_at hR 1 (by decide)
  clear r1
  clear d1
  obtain ⟨n0, hn0⟩ : ∃ n, n = (wd ws 0).f0 := ⟨_, rfl⟩
  rw [← hn0] at c0 ⊢
  have Hn0 := Aside0.mk hn0
  clear hn0
  obtain ⟨n1, hn1⟩ : ∃ n, n = (wd ws 1).f0 := ⟨_, rfl⟩
  rw [← hn1] at c1 ⊢
  have Hn1 := Aside0.mk hn1
  clear hn1
  simp only [Nat.reduceMul] at c0 c1
  clear hR
  go_enter Tryd.func47, Tryd.ntmps47
  go_wp2
  go_region
  all_goals go_wp2
  refine bodyPost_ret (results_single rfl (.cell w.heap.size 54 _ (0, 0) _ rfl (by repeat (first | exact blk_new _ _ | apply blk_alloc | apply blk_drewN | apply blk_drew)) Tryd.underlying54 rfl (by exact info54s) .nil)) rfl ?_
  refine ⟨_, rfl, k54_mkM _ base _ _ (Kd.R_nil _ _ _ _ _) (Kd.R_nil _ _ _ _ _), ?_⟩
  (repeat (first | exact Below.refl _ _ | apply below_alloc | apply pw_below_drewN | apply below_drew))

set_option maxHeartbeats 2000000 in
theorem event_forge (base g cap : Nat) (ws : List S93) (w : World) (hR : Kd.R k93 93 w base (fun _ => True) (.slice (some ⟨g, 0, none⟩) 4 cap) ws) :
    Calls Tryd.prog 47 #[.string ⟨#[102, 111, 114, 103, 101]⟩, .slice (some ⟨g, 0, none⟩) 4 cap] w (EvRes base ⟨10, (wd ws 0).f0, (wd ws 1).f0, (wd ws 2).f0, 0, z52, (wd ws 3).f1⟩ w) := by
  have hg : g < w.heap.size := Kd.R_lt hR g rfl
  obtain ⟨v0, c0, d0, r0⟩ := word_at hR 0 (by decide)
  clear r0
  clear d0
  obtain ⟨v1, c1, d1, r1⟩ := word_at hR 1 (by decide)
  clear r1
  clear d1
  obtain ⟨v2, c2, d2, r2⟩ := word_at hR 2 (by decide)
  clear r2
  clear d2
  obtain ⟨v3, c3, d3, r3⟩ := word_at hR 3 (by decide)
  obtain ⟨A3, p3, rfl⟩ := Kd.R_slice r3
  have HR3 := Aside0.mk r3
  clear r3
  clear c3
  obtain ⟨n0, hn0⟩ : ∃ n, n = (wd ws 0).f0 := ⟨_, rfl⟩
  rw [← hn0] at c0 ⊢
  have Hn0 := Aside0.mk hn0
  clear hn0
  obtain ⟨n1, hn1⟩ : ∃ n, n = (wd ws 1).f0 := ⟨_, rfl⟩
  rw [← hn1] at c1 ⊢
  have Hn1 := Aside0.mk hn1
  clear hn1
  obtain ⟨n2, hn2⟩ : ∃ n, n = (wd ws 2).f0 := ⟨_, rfl⟩
  rw [← hn2] at c2 ⊢
  have Hn2 := Aside0.mk hn2
  clear hn2
  obtain ⟨b3, hb3⟩ : ∃ b, b = (wd ws 3).f1 := ⟨_, rfl⟩
  rw [← hb3] at d3 HR3 ⊢
  have Hb3 := Aside0.mk hb3
  clear hb3
  simp only [Nat.reduceMul, Nat.reduceAdd] at c0 c1 c2 d3
  clear hR
  go_enter Tryd.func47, Tryd.ntmps47
  go_wp2
  go_region
  all_goals go_wp2
  refine bodyPost_ret (results_single rfl (.cell w.heap.size 54 _ (0, 0) _ rfl (by repeat (first | exact blk_new _ _ | apply blk_alloc | apply blk_drewN | apply blk_drew)) Tryd.underlying54 rfl (by exact info54s) .nil)) rfl ?_
  refine ⟨_, rfl, k54_mkM _ base _ _ (Kd.R_nil _ _ _ _ _) (by (with_reducible repeat (first | apply Kd.R_alloc | apply Kd.R_drewN | apply Kd.R_drew)); exact HR3.out), ?_⟩
  (repeat (first | exact Below.refl _ _ | apply below_alloc | apply pw_below_drewN | apply below_drew))
end Go.Proofs.YtjpkphmihkbfeaaDoor.S34
/- script.form and script.event by contracts, at any first word. -/
namespace Go.Proofs.YtjpkphmihkbfeaaDoor.S34
open Go.RowKit Go.Proofs.YtjpkphmihkbfeaaDoorW.PrintWords Go.Proofs.YtjpkphmihkbfeaaDoorW.PrintLast Go.Proofs.YtjpkphmihkbfeaaDoorW.PrintMore Go.Proofs.YtjpkphmihkbfeaaDoor.Q
set_option maxRecDepth 100000
set_option linter.unusedSimpArgs false

/-- The kinds of the words behind a first word. -/
def formOf (f : List UInt8) : List UInt8 :=
  if f = [106, 111, 105, 110] then [73, 82]
  else if f = [114, 111, 108, 101] then [73, 82]
  else if f = [108, 101, 97, 118, 101] then [73]
  else if f = [97, 115, 107] then [73]
  else if f = [102, 114, 101, 101] then [73]
  else if f = [111, 117, 116] then [84]
  else if f = [107, 101, 121, 115] then [73, 75]
  else if f = [115, 105, 122, 101] then [73, 87, 87]
  else if f = [116, 105, 99, 107] then [78]
  else if f = [100, 101, 108, 105, 118, 101, 114] then [80]
  else if f = [115, 112, 111, 105, 108] then [80, 88]
  else if f = [109, 111, 118, 101] then [73, 65]
  else if f = [102, 111, 114, 103, 101] then [73, 65, 83, 84]
  else []
/-- The event of a line's words. -/
def eventP (f : List UInt8) (ws : List S93) : S54 :=
  if f = [106, 111, 105, 110] then ⟨1, (wd ws 0).f0, 0, 0, 1 + (wd ws 1).f0, z52, []⟩
  else if f = [114, 111, 108, 101] then ⟨3, (wd ws 0).f0, 0, 0, 1 + (wd ws 1).f0, z52, []⟩
  else if f = [108, 101, 97, 118, 101] then ⟨2, (wd ws 0).f0, 0, 0, 0, z52, []⟩
  else if f = [97, 115, 107] then ⟨5, (wd ws 0).f0, 0, 0, 0, ⟨3, [], 0, 0⟩, []⟩
  else if f = [102, 114, 101, 101] then ⟨5, (wd ws 0).f0, 0, 0, 0, ⟨4, [], 0, 0⟩, []⟩
  else if f = [111, 117, 116] then ⟨4, (wd ws 0).f0, 0, 0, 0, z52, (wd ws 0).f1⟩
  else if f = [107, 101, 121, 115] then ⟨5, (wd ws 0).f0, 0, 0, 0, ⟨1, (wd ws 1).f1, 0, 0⟩, []⟩
  else if f = [115, 105, 122, 101] then ⟨5, (wd ws 0).f0, 0, 0, 0, ⟨2, [], (wd ws 1).f0, (wd ws 2).f0⟩, []⟩
  else if f = [116, 105, 99, 107] then ⟨6, 0, (wd ws 0).f0, 0, 0, z52, []⟩
  else if f = [100, 101, 108, 105, 118, 101, 114] then ⟨7, 0, (wd ws 0).f0, 0, 0, z52, []⟩
  else if f = [115, 112, 111, 105, 108] then ⟨8, 0, (wd ws 0).f0, (wd ws 1).f0, 0, z52, []⟩
  else if f = [109, 111, 118, 101] then ⟨9, (wd ws 0).f0, (wd ws 1).f0, 0, 0, z52, []⟩
  else if f = [102, 111, 114, 103, 101] then ⟨10, (wd ws 0).f0, (wd ws 1).f0, (wd ws 2).f0, 0, z52, (wd ws 3).f1⟩
  else z54

theorem form_any (s : ByteArray) (w : World) : Calls Tryd.prog 44 #[.string s] w fun e w' => e = .returned (.string ⟨(formOf s.toList).toArray⟩) ∧ ∃ n, w' = w.drewN n := by
  refine (script_form.calls 5 s ⟨(formOf s.toList).toArray⟩ w ?_).mono fun e w' h => ⟨h.1, h.2.out⟩
  unfold script_form.f formOf
  by_cases h0 : s.toList = [106, 111, 105, 110]
  · simp [h0, script_form.j0, script_form.j1]
  by_cases h1 : s.toList = [114, 111, 108, 101]
  · simp [h1, script_form.j0, script_form.j1]
  by_cases h2 : s.toList = [108, 101, 97, 118, 101]
  · simp [h2, script_form.j0, script_form.j1]
  by_cases h3 : s.toList = [97, 115, 107]
  · simp [h3, script_form.j0, script_form.j1]
  by_cases h4 : s.toList = [102, 114, 101, 101]
  · simp [h4, script_form.j0, script_form.j1]
  by_cases h5 : s.toList = [111, 117, 116]
  · simp [h5, script_form.j0, script_form.j1]
  by_cases h6 : s.toList = [107, 101, 121, 115]
  · simp [h6, script_form.j0, script_form.j1]
  by_cases h7 : s.toList = [115, 105, 122, 101]
  · simp [h7, script_form.j0, script_form.j1]
  by_cases h8 : s.toList = [116, 105, 99, 107]
  · simp [h8, script_form.j0, script_form.j1]
  by_cases h9 : s.toList = [100, 101, 108, 105, 118, 101, 114]
  · simp [h9, script_form.j0, script_form.j1]
  by_cases h10 : s.toList = [115, 112, 111, 105, 108]
  · simp [h10, script_form.j0, script_form.j1]
  by_cases h11 : s.toList = [109, 111, 118, 101]
  · simp [h11, script_form.j0, script_form.j1]
  by_cases h12 : s.toList = [102, 111, 114, 103, 101]
  · simp [h12, script_form.j0, script_form.j1]
  simp [h0, h1, h2, h3, h4, h5, h6, h7, h8, h9, h10, h11, h12, script_form.j0, script_form.j1]

theorem of_toList {s : ByteArray} {l : List UInt8} (h : s.toList = l) : s = ⟨l.toArray⟩ := by
  rw [ByteArray.toList_eq] at h
  have : s.data = l.toArray := by rw [← h]
  cases s
  simpa using this

theorem event_any (base g cap : Nat) (first : ByteArray) (ws : List S93) (w : World) (hf : formOf first.toList ≠ []) (hl : ws.length = (formOf first.toList).length)
    (hb : formOf first.toList = [73, 82] → 0 ≤ (wd ws 1).f0 ∧ (wd ws 1).f0 ≤ 1)
    (hR : Kd.R k93 93 w base (fun _ => True) (.slice (some ⟨g, 0, none⟩) ws.length cap) ws) :
    Calls Tryd.prog 47 #[.string first, .slice (some ⟨g, 0, none⟩) ws.length cap] w (EvRes base (eventP first.toList ws) w) := by
  by_cases h0 : first.toList = [106, 111, 105, 110]
  · have e1 : formOf first.toList = [73, 82] := by unfold formOf; rw [if_pos h0]
    have e2 : eventP first.toList ws = ⟨1, (wd ws 0).f0, 0, 0, 1 + (wd ws 1).f0, z52, []⟩ := by unfold eventP; rw [if_pos h0]
    rw [e1] at hl hb
    have e3 := of_toList h0
    have hl2 : ws.length = 2 := hl
    rw [e2, hl2]
    rw [hl2] at hR
    clear e1 e2 hl hl2
    subst e3
    exact event_join base g cap ws w hR (hb rfl).1 (hb rfl).2
  by_cases h1 : first.toList = [114, 111, 108, 101]
  · have e1 : formOf first.toList = [73, 82] := by unfold formOf; rw [if_neg h0, if_pos h1]
    have e2 : eventP first.toList ws = ⟨3, (wd ws 0).f0, 0, 0, 1 + (wd ws 1).f0, z52, []⟩ := by unfold eventP; rw [if_neg h0, if_pos h1]
    rw [e1] at hl hb
    have e3 := of_toList h1
    have hl2 : ws.length = 2 := hl
    rw [e2, hl2]
    rw [hl2] at hR
    clear e1 e2 hl hl2
    subst e3
    exact event_role base g cap ws w hR (hb rfl).1 (hb rfl).2
  by_cases h2 : first.toList = [108, 101, 97, 118, 101]
  · have e1 : formOf first.toList = [73] := by unfold formOf; rw [if_neg h0, if_neg h1, if_pos h2]
    have e2 : eventP first.toList ws = ⟨2, (wd ws 0).f0, 0, 0, 0, z52, []⟩ := by unfold eventP; rw [if_neg h0, if_neg h1, if_pos h2]
    rw [e1] at hl
    have e3 := of_toList h2
    have hl2 : ws.length = 1 := hl
    rw [e2, hl2]
    rw [hl2] at hR
    clear e1 e2 hl hl2
    subst e3
    exact event_leave base g cap ws w hR
  by_cases h3 : first.toList = [97, 115, 107]
  · have e1 : formOf first.toList = [73] := by unfold formOf; rw [if_neg h0, if_neg h1, if_neg h2, if_pos h3]
    have e2 : eventP first.toList ws = ⟨5, (wd ws 0).f0, 0, 0, 0, ⟨3, [], 0, 0⟩, []⟩ := by unfold eventP; rw [if_neg h0, if_neg h1, if_neg h2, if_pos h3]
    rw [e1] at hl
    have e3 := of_toList h3
    have hl2 : ws.length = 1 := hl
    rw [e2, hl2]
    rw [hl2] at hR
    clear e1 e2 hl hl2
    subst e3
    exact event_ask base g cap ws w hR
  by_cases h4 : first.toList = [102, 114, 101, 101]
  · have e1 : formOf first.toList = [73] := by unfold formOf; rw [if_neg h0, if_neg h1, if_neg h2, if_neg h3, if_pos h4]
    have e2 : eventP first.toList ws = ⟨5, (wd ws 0).f0, 0, 0, 0, ⟨4, [], 0, 0⟩, []⟩ := by unfold eventP; rw [if_neg h0, if_neg h1, if_neg h2, if_neg h3, if_pos h4]
    rw [e1] at hl
    have e3 := of_toList h4
    have hl2 : ws.length = 1 := hl
    rw [e2, hl2]
    rw [hl2] at hR
    clear e1 e2 hl hl2
    subst e3
    exact event_free base g cap ws w hR
  by_cases h5 : first.toList = [111, 117, 116]
  · have e1 : formOf first.toList = [84] := by unfold formOf; rw [if_neg h0, if_neg h1, if_neg h2, if_neg h3, if_neg h4, if_pos h5]
    have e2 : eventP first.toList ws = ⟨4, (wd ws 0).f0, 0, 0, 0, z52, (wd ws 0).f1⟩ := by unfold eventP; rw [if_neg h0, if_neg h1, if_neg h2, if_neg h3, if_neg h4, if_pos h5]
    rw [e1] at hl
    have e3 := of_toList h5
    have hl2 : ws.length = 1 := hl
    rw [e2, hl2]
    rw [hl2] at hR
    clear e1 e2 hl hl2
    subst e3
    exact event_out base g cap ws w hR
  by_cases h6 : first.toList = [107, 101, 121, 115]
  · have e1 : formOf first.toList = [73, 75] := by unfold formOf; rw [if_neg h0, if_neg h1, if_neg h2, if_neg h3, if_neg h4, if_neg h5, if_pos h6]
    have e2 : eventP first.toList ws = ⟨5, (wd ws 0).f0, 0, 0, 0, ⟨1, (wd ws 1).f1, 0, 0⟩, []⟩ := by unfold eventP; rw [if_neg h0, if_neg h1, if_neg h2, if_neg h3, if_neg h4, if_neg h5, if_pos h6]
    rw [e1] at hl
    have e3 := of_toList h6
    have hl2 : ws.length = 2 := hl
    rw [e2, hl2]
    rw [hl2] at hR
    clear e1 e2 hl hl2
    subst e3
    exact event_keys base g cap ws w hR
  by_cases h7 : first.toList = [115, 105, 122, 101]
  · have e1 : formOf first.toList = [73, 87, 87] := by unfold formOf; rw [if_neg h0, if_neg h1, if_neg h2, if_neg h3, if_neg h4, if_neg h5, if_neg h6, if_pos h7]
    have e2 : eventP first.toList ws = ⟨5, (wd ws 0).f0, 0, 0, 0, ⟨2, [], (wd ws 1).f0, (wd ws 2).f0⟩, []⟩ := by unfold eventP; rw [if_neg h0, if_neg h1, if_neg h2, if_neg h3, if_neg h4, if_neg h5, if_neg h6, if_pos h7]
    rw [e1] at hl
    have e3 := of_toList h7
    have hl2 : ws.length = 3 := hl
    rw [e2, hl2]
    rw [hl2] at hR
    clear e1 e2 hl hl2
    subst e3
    exact event_size base g cap ws w hR
  by_cases h8 : first.toList = [116, 105, 99, 107]
  · have e1 : formOf first.toList = [78] := by unfold formOf; rw [if_neg h0, if_neg h1, if_neg h2, if_neg h3, if_neg h4, if_neg h5, if_neg h6, if_neg h7, if_pos h8]
    have e2 : eventP first.toList ws = ⟨6, 0, (wd ws 0).f0, 0, 0, z52, []⟩ := by unfold eventP; rw [if_neg h0, if_neg h1, if_neg h2, if_neg h3, if_neg h4, if_neg h5, if_neg h6, if_neg h7, if_pos h8]
    rw [e1] at hl
    have e3 := of_toList h8
    have hl2 : ws.length = 1 := hl
    rw [e2, hl2]
    rw [hl2] at hR
    clear e1 e2 hl hl2
    subst e3
    exact event_tick base g cap ws w hR
  by_cases h9 : first.toList = [100, 101, 108, 105, 118, 101, 114]
  · have e1 : formOf first.toList = [80] := by unfold formOf; rw [if_neg h0, if_neg h1, if_neg h2, if_neg h3, if_neg h4, if_neg h5, if_neg h6, if_neg h7, if_neg h8, if_pos h9]
    have e2 : eventP first.toList ws = ⟨7, 0, (wd ws 0).f0, 0, 0, z52, []⟩ := by unfold eventP; rw [if_neg h0, if_neg h1, if_neg h2, if_neg h3, if_neg h4, if_neg h5, if_neg h6, if_neg h7, if_neg h8, if_pos h9]
    rw [e1] at hl
    have e3 := of_toList h9
    have hl2 : ws.length = 1 := hl
    rw [e2, hl2]
    rw [hl2] at hR
    clear e1 e2 hl hl2
    subst e3
    exact event_deliver base g cap ws w hR
  by_cases h10 : first.toList = [115, 112, 111, 105, 108]
  · have e1 : formOf first.toList = [80, 88] := by unfold formOf; rw [if_neg h0, if_neg h1, if_neg h2, if_neg h3, if_neg h4, if_neg h5, if_neg h6, if_neg h7, if_neg h8, if_neg h9, if_pos h10]
    have e2 : eventP first.toList ws = ⟨8, 0, (wd ws 0).f0, (wd ws 1).f0, 0, z52, []⟩ := by unfold eventP; rw [if_neg h0, if_neg h1, if_neg h2, if_neg h3, if_neg h4, if_neg h5, if_neg h6, if_neg h7, if_neg h8, if_neg h9, if_pos h10]
    rw [e1] at hl
    have e3 := of_toList h10
    have hl2 : ws.length = 2 := hl
    rw [e2, hl2]
    rw [hl2] at hR
    clear e1 e2 hl hl2
    subst e3
    exact event_spoil base g cap ws w hR
  by_cases h11 : first.toList = [109, 111, 118, 101]
  · have e1 : formOf first.toList = [73, 65] := by unfold formOf; rw [if_neg h0, if_neg h1, if_neg h2, if_neg h3, if_neg h4, if_neg h5, if_neg h6, if_neg h7, if_neg h8, if_neg h9, if_neg h10, if_pos h11]
    have e2 : eventP first.toList ws = ⟨9, (wd ws 0).f0, (wd ws 1).f0, 0, 0, z52, []⟩ := by unfold eventP; rw [if_neg h0, if_neg h1, if_neg h2, if_neg h3, if_neg h4, if_neg h5, if_neg h6, if_neg h7, if_neg h8, if_neg h9, if_neg h10, if_pos h11]
    rw [e1] at hl
    have e3 := of_toList h11
    have hl2 : ws.length = 2 := hl
    rw [e2, hl2]
    rw [hl2] at hR
    clear e1 e2 hl hl2
    subst e3
    exact event_move base g cap ws w hR
  by_cases h12 : first.toList = [102, 111, 114, 103, 101]
  · have e1 : formOf first.toList = [73, 65, 83, 84] := by unfold formOf; rw [if_neg h0, if_neg h1, if_neg h2, if_neg h3, if_neg h4, if_neg h5, if_neg h6, if_neg h7, if_neg h8, if_neg h9, if_neg h10, if_neg h11, if_pos h12]
    have e2 : eventP first.toList ws = ⟨10, (wd ws 0).f0, (wd ws 1).f0, (wd ws 2).f0, 0, z52, (wd ws 3).f1⟩ := by unfold eventP; rw [if_neg h0, if_neg h1, if_neg h2, if_neg h3, if_neg h4, if_neg h5, if_neg h6, if_neg h7, if_neg h8, if_neg h9, if_neg h10, if_neg h11, if_pos h12]
    rw [e1] at hl
    have e3 := of_toList h12
    have hl2 : ws.length = 4 := hl
    rw [e2, hl2]
    rw [hl2] at hR
    clear e1 e2 hl hl2
    subst e3
    exact event_forge base g cap ws w hR
  exact absurd (by unfold formOf; rw [if_neg h0, if_neg h1, if_neg h2, if_neg h3, if_neg h4, if_neg h5, if_neg h6, if_neg h7, if_neg h8, if_neg h9, if_neg h10, if_neg h11, if_neg h12]) hf
end Go.Proofs.YtjpkphmihkbfeaaDoor.S34
/- script.parse by a contract. -/
namespace Go.Proofs.YtjpkphmihkbfeaaDoor.S34
open Go.RowKit Go.Proofs.YtjpkphmihkbfeaaDoorW.PrintWords Go.Proofs.YtjpkphmihkbfeaaDoorW.PrintLast Go.Proofs.YtjpkphmihkbfeaaDoorW.PrintMore Go.Proofs.YtjpkphmihkbfeaaDoor.Q
set_option maxRecDepth 100000
set_option linter.unusedSimpArgs false

/-- strings.Cut at one byte. -/
def cutAt (s : ByteArray) (c : UInt8) : ByteArray × ByteArray × Bool :=
  (⟨(Lib.cut s.data.toList [c]).1.toArray⟩, ⟨(Lib.cut s.data.toList [c]).2.1.toArray⟩, (Lib.cut s.data.toList [c]).2.2)
theorem cut_any (g : Er → Addr) (s : ByteArray) (c : UInt8) {F R : ByteArray} {m : Bool} (w : World) (hg : Glob g w) (hs : s.size < 4294967281) (h : cutAt s c = (F, R, m)) :
    Calls Tryd.prog 25 #[.string s, .string ⟨#[c]⟩] w fun e w' => e = .returned (.tuple #[.string F, .string R, .bool m]) ∧ ∃ n, w' = w.drewN n := by
  obtain ⟨x, hx⟩ := hg.ml
  refine (Tryd.strings_Cut s ⟨#[c]⟩ x w hs hx).mono fun e w' h1 => ⟨?_, h1.2⟩
  unfold cutAt at h
  simp only [Prod.mk.injEq] at h
  obtain ⟨rfl, rfl, rfl⟩ := h
  exact h1.1
theorem cut_size {s : ByteArray} {c : UInt8} {F R : ByteArray} {m : Bool} (h : cutAt s c = (F, R, m)) : F.size ≤ s.size ∧ R.size ≤ s.size := by
  unfold cutAt at h
  simp only [Prod.mk.injEq] at h
  obtain ⟨rfl, rfl, rfl⟩ := h
  unfold Lib.cut
  have hsz := Lib.size_eq s
  split
  · constructor
    · show (List.toArray _).size ≤ _
      rw [List.size_toArray, List.length_take]; omega
    · show (List.toArray _).size ≤ _
      rw [List.size_toArray, List.length_drop]; omega
  · constructor
    · show (List.toArray s.data.toList).size ≤ _
      rw [List.size_toArray]; omega
    · show (List.toArray ([] : List UInt8)).size ≤ _
      simp

/-- strings.SplitN at a blank. -/
def partsOf (s : ByteArray) (n : Nat) : List ByteArray := Lib.splitB ⟨#[32]⟩ 0 (min n (s.size + 1) - 1) s
theorem split_any (g : Er → Addr) (s : ByteArray) (n : Nat) (w : World) (hg : Glob g w) (hs : s.size < 4294967281) (h1 : 1 ≤ n) (h2 : n ≤ 9223372036854775807) :
    Calls Tryd.prog 45 #[.string s, .string ⟨#[32]⟩, .int .i64 n] w fun e w' => e = .returned (.slice (some ⟨w.heap.size, 0, none⟩) (partsOf s n).length (min n (s.size + 1))) ∧
      w' = w.alloc (.cells (Lib.cellsOf (partsOf s n) (min n (s.size + 1))) 9) := by
  obtain ⟨x, hx⟩ := hg.ml
  exact Tryd.strings_SplitN s ⟨#[32]⟩ n x w hs hx (by decide) h1 h2
theorem parts_len (s : ByteArray) (n : Nat) (h : 1 ≤ n) : (partsOf s n).length ≤ min n (s.size + 1) := by
  have := Lib.splitB_length_le ⟨#[32]⟩ 0 (min n (s.size + 1) - 1) s
  unfold partsOf; omega
theorem splitB_size (sep : ByteArray) : ∀ (k : Nat) (s p : ByteArray), p ∈ Lib.splitB sep 0 k s → p.size ≤ s.size
  | 0, s, p, h => by
    rw [Lib.splitB_zero] at h; rw [List.mem_singleton.1 h]; omega
  | k + 1, s, p, h => by
    unfold Lib.splitB at h
    split at h
    · rw [List.mem_singleton.1 h]; omega
    · rcases List.mem_cons.1 h with h | h
      · subst h; rw [ByteArray.size_extract]; omega
      · have := splitB_size sep k _ p h
        rw [ByteArray.size_extract] at this; omega

/-- The words of a line, each of its kind. -/
def readAll : List Int → List ByteArray → Except Er (List S93)
  | [], _ => .ok []
  | _ :: _, [] => .ok []
  | k :: ks, p :: ps => match readP p k with
    | .error x => .error x
    | .ok v => match readAll ks ps with
      | .error x => .error x
      | .ok l => .ok (v :: l)
def kindsOf (f : List UInt8) : List Int := (formOf f).map fun b => (b.toNat : Int)

/-- So many words are read. -/
def ReadAt (ks : List Int) (ps : List ByteArray) (k : Nat) (ws : List S93) : Prop :=
  ws.length = k ∧ readAll ks ps = match readAll (ks.drop k) (ps.drop k) with | .error x => .error x | .ok l => .ok (ws ++ l)
theorem ReadAt.zero (ks : List Int) (ps : List ByteArray) : ReadAt ks ps 0 [] := by
  refine ⟨rfl, ?_⟩
  simp only [List.drop_zero, List.nil_append]
  cases readAll ks ps <;> rfl
theorem readAll_drop {ks : List Int} {ps : List ByteArray} {k : Nat} (h1 : k < ks.length) (h2 : k < ps.length) :
    readAll (ks.drop k) (ps.drop k) = match readP (ps.getD k ByteArray.empty) (ks.getD k 0) with
      | .error x => .error x
      | .ok v => match readAll (ks.drop (k + 1)) (ps.drop (k + 1)) with
        | .error x => .error x
        | .ok l => .ok (v :: l) := by
  rw [List.drop_eq_getElem_cons h1, List.drop_eq_getElem_cons h2, readAll]
  simp [List.getD, h1, h2]
theorem ReadAt.step {ks : List Int} {ps : List ByteArray} {k : Nat} {ws : List S93} {v : S93} (h : ReadAt ks ps k ws) (h1 : k < ks.length) (h2 : k < ps.length)
    (hr : readP (ps.getD k ByteArray.empty) (ks.getD k 0) = .ok v) : ReadAt ks ps (k + 1) (ws ++ [v]) := by
  obtain ⟨ha, hb⟩ := h
  refine ⟨by simp [ha], ?_⟩
  rw [hb, readAll_drop h1 h2, hr]
  simp only
  cases readAll (ks.drop (k + 1)) (ps.drop (k + 1)) with
  | error x => rfl
  | ok l => simp
theorem ReadAt.bad {ks : List Int} {ps : List ByteArray} {k : Nat} {ws : List S93} {x : Er} (h : ReadAt ks ps k ws) (h1 : k < ks.length) (h2 : k < ps.length)
    (hr : readP (ps.getD k ByteArray.empty) (ks.getD k 0) = .error x) : readAll ks ps = .error x := by
  rw [h.2, readAll_drop h1 h2, hr]
theorem ReadAt.end_ {ks : List Int} {ps : List ByteArray} {ws : List S93} (h : ReadAt ks ps ks.length ws) : readAll ks ps = .ok ws := by
  rw [h.2, List.drop_of_length_le (Nat.le_refl _)]
  simp [readAll]

def parseP (s : ByteArray) : Except Er S54 :=
  let c := cutAt s 32
  let f := formOf c.1.toList
  if f = [] then .error .word else if c.2.2 = false then .error .word else
  if (partsOf c.2.1 f.length).length < f.length then .error .word else
  match readAll (kindsOf c.1.toList) (partsOf c.2.1 f.length) with
  | .error x => .error x
  | .ok ws => .ok (eventP c.1.toList ws)

def evv (r : Except Er S54) : S54 := match r with | .ok x => x | _ => z54
def ParseRes (g : Er → Addr) (r : Except Er S54) (w : World) (e : Ending) (w' : World) : Prop :=
  ∃ cs : List Value, e = .returned (.tuple #[.agg cs.toArray, errV g (ero r)]) ∧ k54.M w' w.heap.size (fun _ => True) (evv r) cs ∧ Below w.heap.size w w'
theorem ParseRes.fail (g : Er → Addr) (x : Er) (w w' : World) (hb : Below w.heap.size w w') :
    ParseRes g (.error x) w (.returned (.tuple #[.agg #[.int .i64 0, .int .i64 0, .int .i64 0, .int .i64 0, .int .i64 0, .int .i64 0, .slice none 0 0, .int .i64 0, .int .i64 0, .slice none 0 0], .iface 71 (.pointer (some (g x)))])) w' :=
  ⟨_, rfl, k54_mkM w' _ _ z54 (Kd.R_nil _ _ _ _ _) (Kd.R_nil _ _ _ _ _), hb⟩

theorem ite_le4 {c : Prop} [Decidable c] {a b : List UInt8} (ha : a.length ≤ 4) (hb : b.length ≤ 4) : (if c then a else b).length ≤ 4 := by
  split <;> assumption
theorem formOf_le (l : List UInt8) : (formOf l).length ≤ 4 := by
  unfold formOf
  repeat (first | (apply ite_le4; decide) | decide)
set_option maxHeartbeats 2000000 in
theorem parse_word (g : Er → Addr) (s : ByteArray) (w : World) (hg : Glob g w) (hs : s.size < 4294967281) {F R : ByteArray} {m : Bool} (hc : cutAt s 32 = (F, R, m))
    (h : formOf F.toList = [] ∨ m = false) : Calls Tryd.prog 26 #[.string s] w (ParseRes g (.error .word) w) := by
  have HC := Aside0.mk hc
  have c1 := hg.cell .word
  simp only [Er.var] at c1
  have hlt : 1 < w.heap.size := cell_lt c1
  clear hc
  obtain ⟨f, hf⟩ : ∃ f : ByteArray, f = ⟨(formOf F.toList).toArray⟩ := ⟨_, rfl⟩
  have hfl : f.toList = formOf F.toList := by rw [hf, ByteArray.toList_eq]
  have HF := Aside0.mk hf
  clear hf
  have hG0 := hg.below (below_alloc (Below.refl _ _) (.cells #[.int .i64 0, .int .i64 0, .int .i64 0, .int .i64 0, .int .i64 0, .int .i64 0, .slice none 0 0, .int .i64 0, .int .i64 0, .slice none 0 0] 54))
  by_cases he : formOf F.toList = []
  · have t0 : f.toList = [] := hfl.trans he
    clear hfl he h
    go_enter Tryd.func26, Tryd.ntmps26
    go_wp2_with fail
    refine (cut_any g s 32 _ (hG0) hs HC.out).mono ?_
    rintro e w' ⟨rfl, n1, rfl⟩
    go_wp2_with fail
    refine (form_any F _).mono ?_
    rw [← HF.out]
    rintro e w' ⟨rfl, n2, rfl⟩
    go_wp2_with fail
    go_region
    all_goals go_wp2
    refine bodyPost_ret (results_ct (u := 3) (p := 2) (ty := 54) rfl _ _ w.heap.size 54 _ (0, 0) _ rfl (by repeat (first | with_reducible exact blk_new _ _ | with_reducible apply blk_alloc | with_reducible apply blk_drewN | with_reducible apply blk_drew | with_reducible apply blk_set)) Tryd.underlying54 rfl (by exact info54s)) rfl ?_
    exact ParseRes.fail _ _ _ _ (by (repeat (first | with_reducible exact Below.refl _ _ | with_reducible apply below_alloc | with_reducible apply pw_below_drewN | with_reducible apply below_drew | refine Below.setCell ?_ (by simp) _)))
  · have hm : m = false := by rcases h with h | h; exact absurd h he; exact h
    subst hm
    have t0 : ¬ f.toList = [] := by rw [hfl]; exact he
    have t1 : f.toList.isEmpty = false := by cases hh : f.toList with
      | nil => exact absurd hh t0
      | cons => rfl
    clear hfl he h
    go_enter Tryd.func26, Tryd.ntmps26
    go_wp2_with fail
    refine (cut_any g s 32 _ (hG0) hs HC.out).mono ?_
    rintro e w' ⟨rfl, n1, rfl⟩
    go_wp2_with fail
    refine (form_any F _).mono ?_
    rw [← HF.out]
    rintro e w' ⟨rfl, n2, rfl⟩
    go_wp2_with fail
    go_region
    all_goals go_wp2
    refine bodyPost_ret (results_ct (u := 3) (p := 2) (ty := 54) rfl _ _ w.heap.size 54 _ (0, 0) _ rfl (by repeat (first | with_reducible exact blk_new _ _ | with_reducible apply blk_alloc | with_reducible apply blk_drewN | with_reducible apply blk_drew | with_reducible apply blk_set)) Tryd.underlying54 rfl (by exact info54s)) rfl ?_
    exact ParseRes.fail _ _ _ _ (by (repeat (first | with_reducible exact Below.refl _ _ | with_reducible apply below_alloc | with_reducible apply pw_below_drewN | with_reducible apply below_drew | refine Below.setCell ?_ (by simp) _)))

theorem split_cell (s : ByteArray) (n i : Nat) (w : World) (hi : i < (partsOf s n).length) :
    (w.alloc (.cells (Lib.cellsOf (partsOf s n) (min n (s.size + 1))) 9)).cell? ⟨w.heap.size, i, none⟩ = some (.string ((partsOf s n).getD i ByteArray.empty)) := by
  rw [blk_cell (blk_new _ _)]
  unfold Lib.cellsOf
  rw [List.getElem?_toArray, List.getElem?_append_left (by simpa using hi), List.getElem?_map, List.getElem?_eq_getElem hi]
  simp [List.getD, hi]

theorem info93 : (Tryd.prog.info? 93).map (fun i => (i.zero, i.size, i.bytes)) = some (some (.agg #[.int .i64 0, .slice none 0 0]), 2, 32) := by kernel_rfl
theorem M_apart {α β : Type} {d : Kd α} {d' : Kd β} {e base base' : Nat} {W : World} {ok ok' : Nat → Prop} {x : α} {cs : List Value} {v : Value} {xs : List β} (hM : d.M W base ok x cs)
    (hO : d'.R e W base' ok' v xs) (ht : ∀ q, q ∈ d.E → q ≠ e) : d.M W base (fun k => some k ≠ v.ownBlock) x cs :=
  d.M_mono (fun k hk => by
    obtain ⟨_, _, _, q, hq, cells, hc⟩ := hk
    intro he
    obtain ⟨inner, ho⟩ := Kd.R_own hO
    obtain ⟨cells', hc'⟩ := own_typed ho k he.symm
    rw [hc] at hc'
    injection hc' with h1
    injection h1 with _ h2
    exact ht q hq h2) (d.M_bound hM)

theorem R_but {α : Type} {d : Kd α} {e base g t : Nat} {W W1 : World} {ok : Nat → Prop} {v : Value} {xs : List α} {cells : Array Value} (h : d.R e W base ok v xs)
    (hb : W.heap[g]? = some (.cells cells t (0, 0))) (ht : ∀ q, q ∈ e :: d.E → q ≠ t) (hm : ∀ k, k ≠ g → W1.heap[k]? = W.heap[k]?) : d.R e W1 base ok v xs :=
  Kd.R_mono (Kd.R_move (Kd.R_types h hb ht) (fun k hk => hm k hk.2)) (fun _ hk => hk.1)
theorem role_bound {P : List ByteArray} {ws : List S93} (h : readAll [73, 82] P = .ok ws) (hl : ws.length = 2) : 0 ≤ (wd ws 1).f0 ∧ (wd ws 1).f0 ≤ 1 := by
  match P with
  | [] => simp [readAll] at h; subst h; simp at hl
  | [p] =>
    simp only [readAll] at h
    split at h
    · cases h
    · injection h with h; subst h; simp at hl
  | p :: q :: r =>
    simp only [readAll] at h
    split at h
    · cases h
    · rename_i v hv
      split at h
      · cases h
      · rename_i l hl2
        split at hl2
        · cases hl2
        · rename_i v2 hv2
          injection hl2 with hl2
          injection h with h
          subst hl2; subst h
          show 0 ≤ v2.f0 ∧ v2.f0 ≤ 1
          unfold readP at hv2
          rw [if_pos rfl] at hv2
          unfold choiceP at hv2
          split at hv2
          · injection hv2 with hv2; rw [← hv2]; decide
          · split at hv2
            · injection hv2 with hv2; rw [← hv2]; decide
            · cases hv2

theorem set10 (a0 a1 a2 a3 a4 a5 a6 a7 a8 a9 b0 b1 b2 b3 b4 b5 b6 b7 b8 b9 : Value) : ((((((((((#[a0, a1, a2, a3, a4, a5, a6, a7, a8, a9].setIfInBounds 0 b0).setIfInBounds 1 b1).setIfInBounds 2 b2).setIfInBounds 3 b3).setIfInBounds 4 b4).setIfInBounds 5 b5).setIfInBounds 6 b6).setIfInBounds 7 b7).setIfInBounds 8 b8).setIfInBounds 9 b9) = #[b0, b1, b2, b3, b4, b5, b6, b7, b8, b9] := by
  simp
theorem blk_set10 {W : World} {g t : Nat} {a0 a1 a2 a3 a4 a5 a6 a7 a8 a9 : Value} (h : W.heap[g]? = some (.cells #[a0, a1, a2, a3, a4, a5, a6, a7, a8, a9] t (0, 0))) (b0 b1 b2 b3 b4 b5 b6 b7 b8 b9 : Value) :
    ((((((((((W.setCell ⟨g, 0, none⟩ b0).setCell ⟨g, 1, none⟩ b1).setCell ⟨g, 2, none⟩ b2).setCell ⟨g, 3, none⟩ b3).setCell ⟨g, 4, none⟩ b4).setCell ⟨g, 5, none⟩ b5).setCell ⟨g, 6, none⟩ b6).setCell ⟨g, 7, none⟩ b7).setCell ⟨g, 8, none⟩ b8).setCell ⟨g, 9, none⟩ b9).heap[g]? = some (.cells #[b0, b1, b2, b3, b4, b5, b6, b7, b8, b9] t (0, 0)) := by
  have h1 := blk_set (blk_set (blk_set (blk_set (blk_set (blk_set (blk_set (blk_set (blk_set (blk_set h 0 b0) 1 b1) 2 b2) 3 b3) 4 b4) 5 b5) 6 b6) 7 b7) 8 b8) 9 b9
  rw [set10] at h1
  exact h1

set_option maxHeartbeats 4000000 in
theorem parse_any (g : Er → Addr) (s : ByteArray) (w : World) (hg : Glob g w) (hs : s.size < 4294967281) : Calls Tryd.prog 26 #[.string s] w (ParseRes g (parseP s) w) := by
  obtain ⟨F, R, m, hc⟩ : ∃ F R m, cutAt s 32 = (F, R, m) := ⟨_, _, _, rfl⟩
  by_cases hbad : formOf F.toList = [] ∨ m = false
  · have e1 : parseP s = .error .word := by
      unfold parseP
      simp only [hc]
      rcases hbad with h | h
      · rw [if_pos h]
      · split
        · rfl
        · simp [h]
    rw [e1]
    exact parse_word g s w hg hs hc hbad
  have hne : formOf F.toList ≠ [] := fun h => hbad (.inl h)
  have hm : m = true := by cases m; exact absurd (.inr rfl) hbad; rfl
  subst hm
  have hRs := (cut_size hc).2
  have c1 := hg.cell .word
  simp only [Er.var] at c1
  have hlt : 1 < w.heap.size := cell_lt c1
  obtain ⟨f, hf⟩ : ∃ f : ByteArray, f = ⟨(formOf F.toList).toArray⟩ := ⟨_, rfl⟩
  have hfl : f.toList = formOf F.toList := by rw [hf, ByteArray.toList_eq]
  have hfz : f.size = (formOf F.toList).length := by rw [hf]; exact List.size_toArray
  have hf4 : (formOf F.toList).length ≤ 4 := by
    exact formOf_le _
  have hf1 : 1 ≤ (formOf F.toList).length := by
    cases h : formOf F.toList with
    | nil => exact absurd h hne
    | cons => simp
  have t0 : ¬ f.toList = [] := by rw [hfl]; exact hne
  have t1 : f.toList.isEmpty = false := by cases hh : f.toList with
    | nil => exact absurd hh t0
    | cons => rfl
  have eP : parseP s = if (partsOf R f.size).length < f.size then .error .word else
      match readAll (kindsOf F.toList) (partsOf R f.size) with
      | .error x => .error x
      | .ok ws => .ok (eventP F.toList ws) := by
    unfold parseP
    simp only [hc]
    rw [if_neg hne, if_neg (by decide), ← hfz]
  have hpl := parts_len R f.size (by omega)
  obtain ⟨P, hP⟩ : ∃ P, P = partsOf R f.size := ⟨_, rfl⟩
  have hPz : ∀ p, p ∈ P → p.size ≤ 140737488351232 := fun p hp => by
    have := splitB_size _ _ _ p (by rw [hP] at hp; exact hp)
    omega
  have HC := Aside0.mk hc
  have HF := Aside0.mk hf
  have HFL := Aside0.mk hfl
  have HFZ := Aside0.mk hfz
  have EP := Aside0.mk eP
  have HPZ := Aside0.mk hPz
  have HPE := Aside0.mk hP
  have HNE := Aside0.mk hne
  have hfs4 : f.size ≤ 4 := by omega
  have hfs1 : 1 ≤ f.size := by omega
  have hfs0 : 0 < f.size := by omega
  have hRz : R.size < 4294967281 := by omega
  rw [← hP] at hpl
  clear hc hf hfl hfz eP hPz hP hne hbad hf4 hf1 hRs
  have hG0 := hg.below (below_alloc (Below.refl _ _) (.cells #[.int .i64 0, .int .i64 0, .int .i64 0, .int .i64 0, .int .i64 0, .int .i64 0, .slice none 0 0, .int .i64 0, .int .i64 0, .slice none 0 0] 54))
  go_enter Tryd.func26, Tryd.ntmps26
  go_wp2_with fail
  refine (cut_any g s 32 _ (hG0) hs HC.out).mono ?_
  rintro e w' ⟨rfl, n1, rfl⟩
  go_wp2_with fail
  refine (form_any F _).mono ?_
  rw [← HF.out]
  rintro e w' ⟨rfl, n2, rfl⟩
  go_wp2_with fail
  refine (split_any g R f.size _ (hG0.below (pw_below_drewN (Below.refl _ _) _)) hRz hfs1 (by omega)).mono ?_
  rw [← HPE.out]
  rintro e w' ⟨rfl, rfl⟩
  have hcells : ∀ i, i < P.length → (((w.alloc (.cells #[.int .i64 0, .int .i64 0, .int .i64 0, .int .i64 0, .int .i64 0, .int .i64 0, .slice none 0 0, .int .i64 0, .int .i64 0, .slice none 0 0] 54)).drewN (n1 + n2)).alloc (.cells (Lib.cellsOf P (min f.size (R.size + 1))) 9)).cell? ⟨((w.alloc (.cells #[.int .i64 0, .int .i64 0, .int .i64 0, .int .i64 0, .int .i64 0, .int .i64 0, .slice none 0 0, .int .i64 0, .int .i64 0, .slice none 0 0] 54)).drewN (n1 + n2)).heap.size, i, none⟩ = some (.string (P.getD i ByteArray.empty)) := by
    rw [HPE.out]
    exact fun i hi => split_cell R f.size i _ hi
  have hblk : (((w.alloc (.cells #[.int .i64 0, .int .i64 0, .int .i64 0, .int .i64 0, .int .i64 0, .int .i64 0, .slice none 0 0, .int .i64 0, .int .i64 0, .slice none 0 0] 54)).drewN (n1 + n2)).alloc (.cells (Lib.cellsOf P (min f.size (R.size + 1))) 9)).heap[w.heap.size]? = some (.cells #[.int .i64 0, .int .i64 0, .int .i64 0, .int .i64 0, .int .i64 0, .int .i64 0, .slice none 0 0, .int .i64 0, .int .i64 0, .slice none 0 0] 54 (0, 0)) := blk_alloc (blk_drewN (blk_new _ _) _) _
  have hw0 : Below w.heap.size w (((w.alloc (.cells #[.int .i64 0, .int .i64 0, .int .i64 0, .int .i64 0, .int .i64 0, .int .i64 0, .slice none 0 0, .int .i64 0, .int .i64 0, .slice none 0 0] 54)).drewN (n1 + n2)).alloc (.cells (Lib.cellsOf P (min f.size (R.size + 1))) 9)) := below_alloc (pw_below_drewN (below_alloc (Below.refl _ _) _) _) _
  have hsz : (((w.alloc (.cells #[.int .i64 0, .int .i64 0, .int .i64 0, .int .i64 0, .int .i64 0, .int .i64 0, .slice none 0 0, .int .i64 0, .int .i64 0, .slice none 0 0] 54)).drewN (n1 + n2)).alloc (.cells (Lib.cellsOf P (min f.size (R.size + 1))) 9)).heap.size = w.heap.size + 1 + 1 := by simp
  have hps : ((w.alloc (.cells #[.int .i64 0, .int .i64 0, .int .i64 0, .int .i64 0, .int .i64 0, .int .i64 0, .slice none 0 0, .int .i64 0, .int .i64 0, .slice none 0 0] 54)).drewN (n1 + n2)).heap.size = w.heap.size + 1 := by simp
  rw [hps] at hcells
  generalize hgw : ((w.alloc (.cells #[.int .i64 0, .int .i64 0, .int .i64 0, .int .i64 0, .int .i64 0, .int .i64 0, .slice none 0 0, .int .i64 0, .int .i64 0, .slice none 0 0] 54)).drewN (n1 + n2)).alloc (.cells (Lib.cellsOf P (min f.size (R.size + 1))) 9) = w0 at hcells hblk hw0 hsz ⊢
  have HCE := Aside0.mk hcells
  have HG := Aside0.mk (hg.below hw0)
  have HBLK := Aside0.mk hblk
  have HW0 := Aside0.mk hw0
  have HSZ := Aside0.mk hsz
  clear hcells hblk hw0 hsz hgw hps hG0 c1
  by_cases hshort : P.length < f.size
  · have HN := Aside0.mk (EP.out.trans (if_pos (by rw [← HPE.out]; exact hshort)))
    have d1 : decide (P.length < f.size) = true := by simpa using hshort
    have d2 : (P.length : Int) < (f.size : Int) := by omega
    have c1 := HG.out.cell .word
    simp only [Er.var] at c1
    have r0 : w0.cell? ⟨w.heap.size, 0, none⟩ = some (.int .i64 0) := by rw [blk_cell HBLK.out]; rfl
    have f0 := blk_frozen HBLK.out 0
    have r1 : w0.cell? ⟨w.heap.size, 1, none⟩ = some (.int .i64 0) := by rw [blk_cell HBLK.out]; rfl
    have f1 := blk_frozen HBLK.out 1
    have r2 : w0.cell? ⟨w.heap.size, 2, none⟩ = some (.int .i64 0) := by rw [blk_cell HBLK.out]; rfl
    have f2 := blk_frozen HBLK.out 2
    have r3 : w0.cell? ⟨w.heap.size, 3, none⟩ = some (.int .i64 0) := by rw [blk_cell HBLK.out]; rfl
    have f3 := blk_frozen HBLK.out 3
    have r4 : w0.cell? ⟨w.heap.size, 4, none⟩ = some (.int .i64 0) := by rw [blk_cell HBLK.out]; rfl
    have f4 := blk_frozen HBLK.out 4
    have r5 : w0.cell? ⟨w.heap.size, 5, none⟩ = some (.int .i64 0) := by rw [blk_cell HBLK.out]; rfl
    have f5 := blk_frozen HBLK.out 5
    have r6 : w0.cell? ⟨w.heap.size, 6, none⟩ = some (.slice none 0 0) := by rw [blk_cell HBLK.out]; rfl
    have f6 := blk_frozen HBLK.out 6
    have r7 : w0.cell? ⟨w.heap.size, 7, none⟩ = some (.int .i64 0) := by rw [blk_cell HBLK.out]; rfl
    have f7 := blk_frozen HBLK.out 7
    have r8 : w0.cell? ⟨w.heap.size, 8, none⟩ = some (.int .i64 0) := by rw [blk_cell HBLK.out]; rfl
    have f8 := blk_frozen HBLK.out 8
    have r9 : w0.cell? ⟨w.heap.size, 9, none⟩ = some (.slice none 0 0) := by rw [blk_cell HBLK.out]; rfl
    have f9 := blk_frozen HBLK.out 9
    clear hshort
    go_wp2_with fail
    go_region
    all_goals go_wp2
    refine bodyPost_ret (results_ct (u := 3) (p := 2) (ty := 54) rfl _ _ w.heap.size 54 _ (0, 0) _ rfl (by repeat (first | with_reducible exact HBLK.out | with_reducible apply blk_drewN | with_reducible apply blk_drew | with_reducible apply blk_set)) Tryd.underlying54 rfl (by exact info54s)) rfl ?_
    rw [HN.out]
    exact ParseRes.fail _ _ _ _ (by (repeat (first | with_reducible exact HW0.out | with_reducible apply pw_below_drewN | with_reducible apply below_drew | refine Below.setCell ?_ (by simp) _)))
  · have HN := Aside0.mk (EP.out.trans (if_neg (by rw [← HPE.out]; exact hshort)))
    have d1 : decide (P.length < f.size) = false := by simpa using hshort
    have d2 : (f.size : Int) ≤ (P.length : Int) := by omega
    have d3 : f.size ≤ P.length := by omega
    clear hshort
    have hks : kindsOf F.toList = bytesOf f := by
      unfold kindsOf bytesOf
      rw [← HFL.out, ByteArray.toList_eq]
    have hkl : (kindsOf F.toList).length = f.size := by rw [hks, bytesOf_length]
    have HKS := Aside0.mk hks
    have HKL := Aside0.mk hkl
    clear hks hkl
    go_wp2_with fail
    go_loopw [9, 42] (fun v i wr => ∃ (k : Nat) (ws : List S93), k ≤ f.size ∧ i = .int .i64 k ∧ Aside0 (ReadAt (kindsOf F.toList) P k ws) ∧ Aside0 (Kd.R k93 93 wr w0.heap.size (fun _ => True) v ws) ∧ Aside0 (Below w0.heap.size w0 wr)) (fun _ i _ => f.size - (intOf i).toNat)
    case atStart => exact ⟨0, [], Nat.zero_le _, rfl, ⟨ReadAt.zero _ _⟩, ⟨Kd.R_nil _ _ _ _ _⟩, ⟨Below.refl _ _⟩⟩
    case round =>
      obtain ⟨k, ws, hk, rfl, HD, HO, HB⟩ := hrel
      by_cases hlt2 : k < f.size
      · have hxk2 : ∀ h : k < f.size, ((f[k]'h).toNat : Int) = bt f k := by
          have := bt_at f k
          simp only [Int.toNat_natCast] at this
          exact this
        have hkP : k < P.length := by omega
        have hpk := pw_cell_below HB.out (HCE.out k hkP)
        obtain ⟨p, hp⟩ : ∃ p, p = P.getD k ByteArray.empty := ⟨_, rfl⟩
        rw [← hp] at hpk
        have hpz : p.size ≤ 140737488351232 := by
          rw [hp]
          refine HPZ.out _ ?_
          simp [List.getD, hkP]
        have HPK := Aside0.mk hp
        have hkPi : (k : Int) < (P.length : Int) := by omega
        clear hp
        obtain ⟨r, hr⟩ : ∃ r, r = readP p (bt f k) := ⟨_, rfl⟩
        have HRE := Aside0.mk hr
        clear hr
        have hlw : w.heap.size + 1 < wr.heap.size := by have h1 := HB.out.size; have h2 := HSZ.out; omega
        have hpk2 : ∀ o, (wr.alloc o).cell? ⟨w.heap.size + 1, k, none⟩ = some (.string p) := fun o => by rw [World.cell?_alloc_lt _ _ ⟨w.heap.size + 1, k, none⟩ hlw]; exact hpk
        go_upto_region 12 with (fail)
        go_cut [11, 12] (fun v11 v12 wc => ∃ (b c l : Nat) (A : Option Addr), v11 = .pointer (some ⟨b, 0, none⟩) ∧ v12 = errV g (ero r) ∧ Aside0 (wc.heap[b]? = some (.cells #[.int .i64 (wv r).f0, .slice A l c] 93 (0, 0))) ∧
          Aside0 (Kd.R (Kd.int .u8) 5 wc w0.heap.size (fun _ => True) (.slice A l c) (wv r).f1) ∧ Aside0 (Below wr.heap.size wr wc))
        case first =>
          go_region_with (go_at_call 46; refine (read_any g p (bt f k) _ (by exact HG.out.below (by (repeat (first | with_reducible exact HB.out | with_reducible apply below_alloc | with_reducible apply pw_below_drewN | with_reducible apply below_drew)))) hpz).mono ?_; rw [← HRE.out]; rintro e w1 ⟨v, rfl, hR, hB⟩; obtain ⟨A, c, rfl⟩ := Kd.R_slice hR; first | (have hq : w1.heap[wr.heap.size]? = some (.cells #[.int .i64 0, .slice none 0 0] 93 (0, 0)) := blk_below (by first | with_reducible exact blk_new _ _ | with_reducible exact blk_drew (blk_new _ _)) hB; have q0 : w1.cell? ⟨wr.heap.size, 0, none⟩ = some (.int .i64 0) := (by rw [blk_cell hq]; rfl); have q1 : w1.cell? ⟨wr.heap.size, 1, none⟩ = some (.slice none 0 0) := (by rw [blk_cell hq]; rfl); have q2 := blk_frozen hq 0; have q3 := blk_frozen hq 1; have HQ := Aside0.mk hq; clear hq) | skip)
          all_goals
            go_wp2
            go_meet
            case rel =>
              first
              | exact ⟨w1.heap.size, c, _, A, rfl, rfl, ⟨blk_new _ _⟩, ⟨Kd.R_alloc (Kd.R_lower hR HB.out.size) _⟩, ⟨below_alloc ((below_drew (Below.refl wr.heap.size wr)).trans hB) _⟩⟩
              | exact ⟨wr.heap.size, c, _, A, rfl, rfl, ⟨blk_set (blk_set HQ.out 0 _) 1 _⟩, ⟨Kd.R_set (Kd.R_set (Kd.R_lower hR (by have := HB.out.size; simp; omega)) HQ.out (by decide) 0 _) (blk_set HQ.out 0 _) (by decide) 1 _⟩,
                  ⟨Below.setCell (Below.setCell ((below_drew (below_alloc (Below.refl wr.heap.size wr) _)).trans (hB.mono (by simp))) (Nat.le_refl _) _) (Nat.le_refl _) _⟩⟩
        case rest =>
          obtain ⟨b, c, l, A, rfl, rfl, HQ, HRb, HBc⟩ := hcut
          have HO1 := Aside0.mk (Kd.R_below HO.out HBc.out)
          have HB1 := Aside0.mk (HB.out.trans (HBc.out.mono HB.out.size))
          have hkk : (kindsOf F.toList).getD k 0 = bt f k := by
            rw [HKS.out, ← rd_bytesOf]; simp [rd]
          have HRE2 := Aside0.mk (show readP (P.getD k ByteArray.empty) ((kindsOf F.toList).getD k 0) = r by rw [hkk, ← HPK.out]; exact HRE.out.symm)
          have hb0 : wc.cell? ⟨b, 0, none⟩ = some (.int .i64 (wv r).f0) := by rw [blk_cell HQ.out]; rfl
          have hb1 : wc.cell? ⟨b, 1, none⟩ = some (.slice A l c) := by rw [blk_cell HQ.out]; rfl
          clear HO HB HBc hkk hpk hpk2 hxk2
          cases r with
          | error x =>
            have he : errV g (ero (Except.error (α := S93) x)) = .iface 71 (.pointer (some (g x))) := rfl
            have HN2 := Aside0.mk (show parseP s = .error x by rw [HN.out, ← HPE.out, HD.out.bad (by rw [HKL.out]; exact hlt2) hkP HRE2.out])
            have hbr := blk_below HBLK.out HB1.out
            have r0 : wc.cell? ⟨w.heap.size, 0, none⟩ = some (.int .i64 0) := by rw [blk_cell hbr]; rfl
            have f0 := blk_frozen hbr 0
            have r1 : wc.cell? ⟨w.heap.size, 1, none⟩ = some (.int .i64 0) := by rw [blk_cell hbr]; rfl
            have f1 := blk_frozen hbr 1
            have r2 : wc.cell? ⟨w.heap.size, 2, none⟩ = some (.int .i64 0) := by rw [blk_cell hbr]; rfl
            have f2 := blk_frozen hbr 2
            have r3 : wc.cell? ⟨w.heap.size, 3, none⟩ = some (.int .i64 0) := by rw [blk_cell hbr]; rfl
            have f3 := blk_frozen hbr 3
            have r4 : wc.cell? ⟨w.heap.size, 4, none⟩ = some (.int .i64 0) := by rw [blk_cell hbr]; rfl
            have f4 := blk_frozen hbr 4
            have r5 : wc.cell? ⟨w.heap.size, 5, none⟩ = some (.int .i64 0) := by rw [blk_cell hbr]; rfl
            have f5 := blk_frozen hbr 5
            have r6 : wc.cell? ⟨w.heap.size, 6, none⟩ = some (.slice none 0 0) := by rw [blk_cell hbr]; rfl
            have f6 := blk_frozen hbr 6
            have r7 : wc.cell? ⟨w.heap.size, 7, none⟩ = some (.int .i64 0) := by rw [blk_cell hbr]; rfl
            have f7 := blk_frozen hbr 7
            have r8 : wc.cell? ⟨w.heap.size, 8, none⟩ = some (.int .i64 0) := by rw [blk_cell hbr]; rfl
            have f8 := blk_frozen hbr 8
            have r9 : wc.cell? ⟨w.heap.size, 9, none⟩ = some (.slice none 0 0) := by rw [blk_cell hbr]; rfl
            have f9 := blk_frozen hbr 9
            have HR := Aside0.mk hbr
            clear hbr
            go_wp2
            refine bodyPost_ret (results_ct (u := 3) (p := 2) (ty := 54) rfl _ _ w.heap.size 54 _ (0, 0) _ rfl (by repeat (first | with_reducible exact HR.out | with_reducible apply blk_drewN | with_reducible apply blk_drew | with_reducible apply blk_set)) Tryd.underlying54 rfl (by exact info54s)) rfl ?_
            rw [HN2.out]
            exact ParseRes.fail _ _ _ _ (by (repeat (first | with_reducible exact (HW0.out.trans (HB1.out.mono HW0.out.size)) | with_reducible apply pw_below_drewN | with_reducible apply below_drew | refine Below.setCell ?_ (by simp) _)))
          | ok v =>
            have he : errV g (ero (Except.ok (ε := Er) v)) = .nilIface := rfl
            have HP2 := Aside0.mk (HD.out.step (by rw [HKL.out]; exact hlt2) hkP HRE2.out)
            have hln : l = v.f1.length := (Kd.R_reads' HRb.out).1
            have HM := Aside0.mk (M_apart (k93_mkM wc w0.heap.size _ v HRb.out) HO1.out (by decide))
            have HLN := Aside0.mk hln
            have hwl : ws.length ≤ 4 := by have := HD.out.1; omega
            have hvv : (wv (Except.ok (ε := Er) v)).f0 = v.f0 := rfl
            clear hln
            go_wp2_with ((with_reducible refine gate_builtin (b := .append) (xs := #[.tmp 60, .tmp 62]) rfl ?_); (try (refine gate_guard (by rfl) ?_; dsimp only)); at_builtin; refine Kd.R_append k93 (w0 := w0) w0.heap.size rfl (.tmp 60) (.tmp 62) 91 93 (.agg #[.int .i64 0, .slice none 0 0]) 32 rfl Tryd.underlying91 info93 rfl (by decide) (by omega) _ ws v [.int .i64 v.f0, .slice A l c] (fun _ => True) _ rfl rfl ?aP (fun k hk => ⟨trivial, hk⟩) ?aF ?aO ?aB ?aS ?aL ?_; (case aP => exact HM.out); (case aB => exact HB1.out); (case aF => exact (fun _ _ => trivial)); (case aO => exact HO1.out); (case aS => exact HB1.out.size); (case aL => omega); intro v1 w1 ho hb hgr hat; have HO2 := Aside0.mk ho; have HB2 := Aside0.mk hb; clear HO1 HB1 ho hb hgr hat)
            go_roundw
            case rel => exact ⟨k + 1, ws ++ [v], by omega, by go_num, HP2, HO2, HB2⟩
            case measure => simp [intOf]; omega
      · have hk2 : k = f.size := by omega
        have hlen := HD.out.1
        have hE := (show ReadAt (kindsOf F.toList) P (kindsOf F.toList).length ws by rw [HKL.out, ← hk2]; exact HD.out).end_
        have HN2 := Aside0.mk (show parseP s = .ok (eventP F.toList ws) by rw [HN.out, ← HPE.out, hE])
        have hwl : ws.length = (formOf F.toList).length := by rw [hlen, hk2, HFZ.out]
        have hbd : formOf F.toList = [73, 82] → 0 ≤ (wd ws 1).f0 ∧ (wd ws 1).f0 ≤ 1 := fun h => by
          refine role_bound (P := P) ?_ (by rw [hwl, h]; rfl)
          have : kindsOf F.toList = [73, 82] := by unfold kindsOf; rw [h]; rfl
          rw [← this]; exact hE
        obtain ⟨gg, cap, hv, _, _, _⟩ := Kd.R_form HO.out (by omega)
        subst hv
        have HWL := Aside0.mk hwl
        have HBD := Aside0.mk hbd
        have d5 : (f.size : Int) ≤ (k : Int) := by omega
        clear hlen hE hwl hbd hk2
        go_wp2_with fail
        refine (event_any w0.heap.size gg cap F ws _ HNE.out HWL.out HBD.out HO.out).mono ?_
        rintro e w1 ⟨cs, rfl, hM, hB⟩
        obtain ⟨v6, v9, rfl, h6, h9⟩ := k54_openM hM
        obtain ⟨A6, c6, rfl⟩ := Kd.R_slice h6
        obtain ⟨A9, c9, rfl⟩ := Kd.R_slice h9
        have H6 := Aside0.mk h6
        have H9 := Aside0.mk h9
        have HB1 := Aside0.mk (HB.out.trans (hB.mono HB.out.size))
        obtain ⟨x, hx⟩ : ∃ x, x = eventP F.toList ws := ⟨_, rfl⟩
        rw [← hx] at H6 H9 HN2 ⊢
        clear hM hB h6 h9 hx HO HB
        have hbr := blk_below HBLK.out HB1.out
        have r0 : w1.cell? ⟨w.heap.size, 0, none⟩ = some (.int .i64 0) := by rw [blk_cell hbr]; rfl
        have f0 := blk_frozen hbr 0
        have r1 : w1.cell? ⟨w.heap.size, 1, none⟩ = some (.int .i64 0) := by rw [blk_cell hbr]; rfl
        have f1 := blk_frozen hbr 1
        have r2 : w1.cell? ⟨w.heap.size, 2, none⟩ = some (.int .i64 0) := by rw [blk_cell hbr]; rfl
        have f2 := blk_frozen hbr 2
        have r3 : w1.cell? ⟨w.heap.size, 3, none⟩ = some (.int .i64 0) := by rw [blk_cell hbr]; rfl
        have f3 := blk_frozen hbr 3
        have r4 : w1.cell? ⟨w.heap.size, 4, none⟩ = some (.int .i64 0) := by rw [blk_cell hbr]; rfl
        have f4 := blk_frozen hbr 4
        have r5 : w1.cell? ⟨w.heap.size, 5, none⟩ = some (.int .i64 0) := by rw [blk_cell hbr]; rfl
        have f5 := blk_frozen hbr 5
        have r6 : w1.cell? ⟨w.heap.size, 6, none⟩ = some (.slice none 0 0) := by rw [blk_cell hbr]; rfl
        have f6 := blk_frozen hbr 6
        have r7 : w1.cell? ⟨w.heap.size, 7, none⟩ = some (.int .i64 0) := by rw [blk_cell hbr]; rfl
        have f7 := blk_frozen hbr 7
        have r8 : w1.cell? ⟨w.heap.size, 8, none⟩ = some (.int .i64 0) := by rw [blk_cell hbr]; rfl
        have f8 := blk_frozen hbr 8
        have r9 : w1.cell? ⟨w.heap.size, 9, none⟩ = some (.slice none 0 0) := by rw [blk_cell hbr]; rfl
        have f9 := blk_frozen hbr 9
        have HR := Aside0.mk hbr
        clear hbr
        go_wp2_with fail
        refine bodyPost_ret (results_ct (u := 3) (p := 2) (ty := 54) rfl _ _ w.heap.size 54 _ (0, 0) _ rfl (by with_reducible exact blk_set10 HR.out _ _ _ _ _ _ _ _ _ _) Tryd.underlying54 rfl (by exact info54s)) rfl ?_
        rw [HN2.out]
        refine ⟨[.int .i64 x.f0, .int .i64 x.f1, .int .i64 x.f2, .int .i64 x.f3, .int .i64 x.f4, .int .i64 x.f5.f0, .slice A6 x.f5.f1.length c6, .int .i64 x.f5.f2, .int .i64 x.f5.f3, .slice A9 x.f6.length c9], rfl, k54_mkM _ w.heap.size _ x (R_but (Kd.R_lower H6.out HW0.out.size) HR.out (by decide) ?_) (R_but (Kd.R_lower H9.out HW0.out.size) HR.out (by decide) ?_), ?_⟩
        · intro k hk
          (repeat (first | with_reducible rfl | refine (Below.heap_setCell _ _ _ k hk).trans ?_))
        · intro k hk
          (repeat (first | with_reducible rfl | refine (Below.heap_setCell _ _ _ k hk).trans ?_))
        · (repeat (first | with_reducible exact (HW0.out.trans (HB1.out.mono HW0.out.size)) | with_reducible apply pw_below_drewN | with_reducible apply below_drew | refine Below.setCell ?_ (by simp) _))
end Go.Proofs.YtjpkphmihkbfeaaDoor.S34
/- script.in, and what a fault says, by contracts. -/
namespace Go.Proofs.YtjpkphmihkbfeaaDoor.S34
open Go.RowKit Go.Proofs.YtjpkphmihkbfeaaDoorW.PrintWords Go.Proofs.YtjpkphmihkbfeaaDoorW.PrintLast Go.Proofs.YtjpkphmihkbfeaaDoorW.PrintMore Go.Proofs.YtjpkphmihkbfeaaDoor.Q
set_option maxRecDepth 100000
set_option linter.unusedSimpArgs false

theorem blk_new_at {W : World} {o : Obj} {n : Nat} (h : n = W.heap.size) : (W.alloc o).heap[n]? = some o := by subst h; exact blk_new _ _
theorem below_grow (w : World) (q : Nat) (os : Array Obj) : Below w.heap.size w (Sort.grow (w.drewN q) os) :=
  ⟨rfl, rfl, rfl, by simp [Sort.grow], fun k hk => by simp [Sort.grow, Array.getElem?_append, hk]⟩
theorem itoa_any (g : Er → Addr) (n : Int) (w : World) (hg : Glob g w) (h1 : -9223372036854775808 ≤ n) (h2 : n ≤ 9223372036854775807) :
    Calls Tryd.prog 32 #[.int .i64 n] w fun e w' => e = .returned (.string ⟨(Lib.itoa n).toArray⟩) ∧ Below w.heap.size w w' :=
  (Tryd.strconv_Itoa n h1 h2 w hg.tab).mono fun e w' ⟨he, k, os, hw⟩ => ⟨he, by rw [hw]; exact below_grow w k os⟩
/-- errors.Is between sentinels. -/
theorem is_sent (g : Er → Addr) (x y : Er) (w : World) (hg : Glob g w) :
    Calls Tryd.prog 21 #[.iface 71 (.pointer (some (g x))), .iface 71 (.pointer (some (g y)))] w fun e w' => e = .returned (.bool (decide (x = y))) ∧ w' = w := by
  by_cases h : x = y
  · subst h
    simp only [decide_true]
    exact is_same (g x) w
  · have hd : decide (x = y) = false := by simpa using h
    rw [hd]
    obtain ⟨ca, ta, ha⟩ := hg.blk x
    obtain ⟨cb, tb, hb⟩ := hg.blk y
    exact is_other (g x) (g y) ca cb ta tb w (hg.inj x y h) ha hb
/-- errors.Is of a fault that holds a sentinel. -/
theorem is_fault (g : Er → Addr) (x y : Er) (p : Addr) (w : World) (hg : Glob g w) (h1 : w.cell? ⟨p.block, p.off + 1, none⟩ = some (.iface 71 (.pointer (some (g x))))) :
    Calls Tryd.prog 21 #[.iface 35 (.pointer (some p)), .iface 71 (.pointer (some (g y)))] w fun e w' => e = .returned (.bool (decide (x = y))) ∧ w' = w := by
  by_cases h : x = y
  · subst h
    simp only [decide_true]
    exact is_fault_same p (g x) w h1
  · have hd : decide (x = y) = false := by simpa using h
    rw [hd]
    obtain ⟨ca, ta, ha⟩ := hg.blk x
    obtain ⟨cb, tb, hb⟩ := hg.blk y
    exact is_fault_other p (g y) (g x) ca cb ta tb w h1 (hg.inj x y h) ha hb
/-- errors.Is of a fault that holds a fault that holds a sentinel. -/
theorem is_fault2 (g : Er → Addr) (x y : Er) (p q : Addr) (w : World) (hg : Glob g w) (h0 : w.cell? ⟨p.block, p.off + 1, none⟩ = some (.iface 35 (.pointer (some q)))) (h1 : w.cell? ⟨q.block, q.off + 1, none⟩ = some (.iface 71 (.pointer (some (g x))))) :
    Calls Tryd.prog 21 #[.iface 35 (.pointer (some p)), .iface 71 (.pointer (some (g y)))] w fun e w' => e = .returned (.bool (decide (x = y))) ∧ w' = w := by
  by_cases h : x = y
  · subst h
    simp only [decide_true]
    exact is_fault2_same p q (g x) w h0 h1
  · have hd : decide (x = y) = false := by simpa using h
    rw [hd]
    obtain ⟨ca, ta, ha⟩ := hg.blk x
    obtain ⟨cb, tb, hb⟩ := hg.blk y
    exact is_fault2_other p q (g y) (g x) ca cb ta tb w h0 h1 (hg.inj x y h) ha hb

/-- A fault of a line, made since base. -/
def FaultAt (g : Er → Addr) (x : Er) (line : Int) (b : Nat) (w : World) : Prop := w.heap[b]? = some (.cells #[.int .i64 line, .iface 71 (.pointer (some (g x)))] 39 (0, 0))
def InRes (g : Er → Addr) (x : Er) (line : Int) (w : World) (e : Ending) (w' : World) : Prop :=
  ∃ b : Nat, e = .returned (.iface 35 (.pointer (some ⟨b, 0, none⟩))) ∧ FaultAt g x line b w' ∧ w.heap.size ≤ b ∧ Below w.heap.size w w'

set_option maxHeartbeats 1000000 in
theorem in_any (g : Er → Addr) (x : Er) (line : Int) (w : World) (hg : Glob g w) :
    Calls Tryd.prog 27 #[.iface 71 (.pointer (some (g x))), .int .i64 line] w (InRes g x line w) := by
  have het := hg.et
  have hlt : 5 < w.heap.size := cell_lt het
  have h1 : (w.alloc (.cells #[.pointer none] 35)).cell? ⟨5, 0, none⟩ = some (.iface 121 (.agg #[.pointer (some ⟨12, 25, none⟩)])) := by
    rw [World.cell?_alloc_lt _ _ ⟨5, 0, none⟩ hlt]; exact het
  have h2 : (w.alloc (.cells #[.pointer none] 35)).cell? ⟨w.heap.size, 0, none⟩ = some (.pointer none) := by rw [blk_cell (blk_new _ _)]; rfl
  have H1 := Aside0.mk h1
  have H2 := Aside0.mk h2
  clear h1 h2 het
  go_enter Tryd.func27, Tryd.ntmps27
  go_wp2_with fail
  refine (as_miss (g x) ⟨w.heap.size, 0, none⟩ _ _ H1.out H2.out).mono ?_
  rintro e w' ⟨rfl, rfl⟩
  go_wp2_with fail
  go_ret
  refine ⟨w.heap.size + 1 + 1 + 1 + 1, rfl, ?_, by omega, ?_⟩
  · unfold FaultAt
    exact blk_new_at (by simp)
  · (repeat (first | with_reducible exact Below.refl _ _ | with_reducible apply below_alloc))

/-- What an error is called. -/
def whatB : Option Er → ByteArray
  | none => ⟨#[]⟩
  | some .long => ⟨#[116, 111, 111, 32, 108, 111, 110, 103]⟩
  | some .word => ⟨#[119, 111, 114, 100]⟩
  | some .number => ⟨#[110, 117, 109, 98, 101, 114]⟩
  | some .text => ⟨#[116, 101, 120, 116]⟩
  | some .ends => ⟨#[110, 111, 32, 108, 105, 110, 101, 32, 102, 101, 101, 100]⟩
/-- What a fault says. -/
def faultB (o : Option Er) (line : Int) : ByteArray := ⟨#[108, 105, 110, 101, 32]⟩ ++ ⟨(Lib.itoa line).toArray⟩ ++ ⟨#[58, 32]⟩ ++ whatB o

set_option maxHeartbeats 4000000 in
/-- Error of a fault whose error is told by errors.Is as o. -/
theorem error_any (g : Er → Addr) (o : Option Er) (line : Int) (T : TypeId) (v : Value) (w : World) (b : Nat) (hg : Glob g w)
    (hb : w.heap[b]? = some (.cells #[.int .i64 line, .iface T v] 39 (0, 0))) (h1 : -9223372036854775808 ≤ line) (h2 : line ≤ 9223372036854775807)
    (his : ∀ y w1, Below w.heap.size w w1 → Calls Tryd.prog 21 #[.iface T v, .iface 71 (.pointer (some (g y)))] w1 fun e w' => e = .returned (.bool (decide (o = some y))) ∧ w' = w1) :
    Calls Tryd.prog 17 #[.pointer (some ⟨b, 0, none⟩)] w fun e w' => e = .returned (.string (faultB o line)) ∧ Below w.heap.size w w' := by
  have cL := hg.cell .long
  have cW := hg.cell .word
  have cN := hg.cell .number
  have cT := hg.cell .text
  have cE := hg.cell .ends
  simp only [Er.var] at cL cW cN cT cE
  have hb0 : w.cell? ⟨b, 0, none⟩ = some (.int .i64 line) := by rw [blk_cell hb]; rfl
  have hb1 : w.cell? ⟨b, 1, none⟩ = some (.iface T v) := by rw [blk_cell hb]; rfl
  have hil := Lib.itoa_length_le line h1 h2
  have HIS := Aside0.mk his
  clear hb his
  cases o with
  | none =>
    have e0 : decide ((none : Option Er) = some .long) = false := by decide
    have e1 : decide ((none : Option Er) = some .word) = false := by decide
    have e2 : decide ((none : Option Er) = some .number) = false := by decide
    have e3 : decide ((none : Option Er) = some .text) = false := by decide
    have e4 : decide ((none : Option Er) = some .ends) = false := by decide
    have q0 : ∀ w1, Below w.heap.size w w1 → Calls Tryd.prog 21 #[.iface T v, .iface 71 (.pointer (some (g .long)))] w1 fun e w' => e = .returned (.bool false) ∧ w' = w1 := fun w1 h => by have := HIS.out .long w1 h; rwa [e0] at this
    have Q0 := Aside0.mk q0
    have q1 : ∀ w1, Below w.heap.size w w1 → Calls Tryd.prog 21 #[.iface T v, .iface 71 (.pointer (some (g .word)))] w1 fun e w' => e = .returned (.bool false) ∧ w' = w1 := fun w1 h => by have := HIS.out .word w1 h; rwa [e1] at this
    have Q1 := Aside0.mk q1
    have q2 : ∀ w1, Below w.heap.size w w1 → Calls Tryd.prog 21 #[.iface T v, .iface 71 (.pointer (some (g .number)))] w1 fun e w' => e = .returned (.bool false) ∧ w' = w1 := fun w1 h => by have := HIS.out .number w1 h; rwa [e2] at this
    have Q2 := Aside0.mk q2
    have q3 : ∀ w1, Below w.heap.size w w1 → Calls Tryd.prog 21 #[.iface T v, .iface 71 (.pointer (some (g .text)))] w1 fun e w' => e = .returned (.bool false) ∧ w' = w1 := fun w1 h => by have := HIS.out .text w1 h; rwa [e3] at this
    have Q3 := Aside0.mk q3
    have q4 : ∀ w1, Below w.heap.size w w1 → Calls Tryd.prog 21 #[.iface T v, .iface 71 (.pointer (some (g .ends)))] w1 fun e w' => e = .returned (.bool false) ∧ w' = w1 := fun w1 h => by have := HIS.out .ends w1 h; rwa [e4] at this
    have Q4 := Aside0.mk q4
    clear HIS e0 q0 e1 q1 e2 q2 e3 q3 e4 q4
    go_enter Tryd.func17, Tryd.ntmps17
    go_wp2_with fail
    go_quiet ((go_at_call 21; exact (Q0.out _ (by (repeat (first | with_reducible exact Below.refl _ _ | with_reducible apply pw_below_drewN | with_reducible apply below_drew)))).mono fun e w' h => ⟨h.1, _, h.2⟩))
    go_wp2_with fail
    go_quiet ((go_at_call 21; exact (Q1.out _ (by (repeat (first | with_reducible exact Below.refl _ _ | with_reducible apply pw_below_drewN | with_reducible apply below_drew)))).mono fun e w' h => ⟨h.1, _, h.2⟩))
    go_wp2_with fail
    go_quiet ((go_at_call 21; exact (Q2.out _ (by (repeat (first | with_reducible exact Below.refl _ _ | with_reducible apply pw_below_drewN | with_reducible apply below_drew)))).mono fun e w' h => ⟨h.1, _, h.2⟩))
    go_wp2_with fail
    go_quiet ((go_at_call 21; exact (Q3.out _ (by (repeat (first | with_reducible exact Below.refl _ _ | with_reducible apply pw_below_drewN | with_reducible apply below_drew)))).mono fun e w' h => ⟨h.1, _, h.2⟩))
    go_wp2_with fail
    go_quiet ((go_at_call 21; exact (Q4.out _ (by (repeat (first | with_reducible exact Below.refl _ _ | with_reducible apply pw_below_drewN | with_reducible apply below_drew)))).mono fun e w' h => ⟨h.1, _, h.2⟩))
    go_wp2_with fail
    refine (itoa_any g line _ (hg.below (by (repeat (first | with_reducible exact Below.refl _ _ | with_reducible apply pw_below_drewN | with_reducible apply below_drew)))) h1 h2).mono ?_
    rintro e w' ⟨rfl, hB⟩
    have HB := Aside0.mk hB
    clear hB
    go_wp2_with fail
    go_ret
    exact ⟨rfl, ((by (repeat (first | with_reducible exact Below.refl _ _ | with_reducible apply pw_below_drewN | with_reducible apply below_drew))) : Below w.heap.size w _).trans HB.out⟩
  | some x =>
    cases x with
    | text =>
      have e0 : decide ((some .text : Option Er) = some .long) = false := by decide
      have e1 : decide ((some .text : Option Er) = some .word) = false := by decide
      have e2 : decide ((some .text : Option Er) = some .number) = false := by decide
      have e3 : decide ((some .text : Option Er) = some .text) = true := by decide
      have q0 : ∀ w1, Below w.heap.size w w1 → Calls Tryd.prog 21 #[.iface T v, .iface 71 (.pointer (some (g .long)))] w1 fun e w' => e = .returned (.bool false) ∧ w' = w1 := fun w1 h => by have := HIS.out .long w1 h; rwa [e0] at this
      have Q0 := Aside0.mk q0
      have q1 : ∀ w1, Below w.heap.size w w1 → Calls Tryd.prog 21 #[.iface T v, .iface 71 (.pointer (some (g .word)))] w1 fun e w' => e = .returned (.bool false) ∧ w' = w1 := fun w1 h => by have := HIS.out .word w1 h; rwa [e1] at this
      have Q1 := Aside0.mk q1
      have q2 : ∀ w1, Below w.heap.size w w1 → Calls Tryd.prog 21 #[.iface T v, .iface 71 (.pointer (some (g .number)))] w1 fun e w' => e = .returned (.bool false) ∧ w' = w1 := fun w1 h => by have := HIS.out .number w1 h; rwa [e2] at this
      have Q2 := Aside0.mk q2
      have q3 : ∀ w1, Below w.heap.size w w1 → Calls Tryd.prog 21 #[.iface T v, .iface 71 (.pointer (some (g .text)))] w1 fun e w' => e = .returned (.bool true) ∧ w' = w1 := fun w1 h => by have := HIS.out .text w1 h; rwa [e3] at this
      have Q3 := Aside0.mk q3
      clear HIS e0 q0 e1 q1 e2 q2 e3 q3
      go_enter Tryd.func17, Tryd.ntmps17
      go_wp2_with fail
      go_quiet ((go_at_call 21; exact (Q0.out _ (by (repeat (first | with_reducible exact Below.refl _ _ | with_reducible apply pw_below_drewN | with_reducible apply below_drew)))).mono fun e w' h => ⟨h.1, _, h.2⟩))
      go_wp2_with fail
      go_quiet ((go_at_call 21; exact (Q1.out _ (by (repeat (first | with_reducible exact Below.refl _ _ | with_reducible apply pw_below_drewN | with_reducible apply below_drew)))).mono fun e w' h => ⟨h.1, _, h.2⟩))
      go_wp2_with fail
      go_quiet ((go_at_call 21; exact (Q2.out _ (by (repeat (first | with_reducible exact Below.refl _ _ | with_reducible apply pw_below_drewN | with_reducible apply below_drew)))).mono fun e w' h => ⟨h.1, _, h.2⟩))
      go_wp2_with fail
      go_quiet ((go_at_call 21; exact (Q3.out _ (by (repeat (first | with_reducible exact Below.refl _ _ | with_reducible apply pw_below_drewN | with_reducible apply below_drew)))).mono fun e w' h => ⟨h.1, _, h.2⟩))
      go_wp2_with fail
      refine (itoa_any g line _ (hg.below (by (repeat (first | with_reducible exact Below.refl _ _ | with_reducible apply pw_below_drewN | with_reducible apply below_drew)))) h1 h2).mono ?_
      rintro e w' ⟨rfl, hB⟩
      have HB := Aside0.mk hB
      clear hB
      go_wp2_with fail
      go_ret
      exact ⟨rfl, ((by (repeat (first | with_reducible exact Below.refl _ _ | with_reducible apply pw_below_drewN | with_reducible apply below_drew))) : Below w.heap.size w _).trans HB.out⟩
    | word =>
      have e0 : decide ((some .word : Option Er) = some .long) = false := by decide
      have e1 : decide ((some .word : Option Er) = some .word) = true := by decide
      have q0 : ∀ w1, Below w.heap.size w w1 → Calls Tryd.prog 21 #[.iface T v, .iface 71 (.pointer (some (g .long)))] w1 fun e w' => e = .returned (.bool false) ∧ w' = w1 := fun w1 h => by have := HIS.out .long w1 h; rwa [e0] at this
      have Q0 := Aside0.mk q0
      have q1 : ∀ w1, Below w.heap.size w w1 → Calls Tryd.prog 21 #[.iface T v, .iface 71 (.pointer (some (g .word)))] w1 fun e w' => e = .returned (.bool true) ∧ w' = w1 := fun w1 h => by have := HIS.out .word w1 h; rwa [e1] at this
      have Q1 := Aside0.mk q1
      clear HIS e0 q0 e1 q1
      go_enter Tryd.func17, Tryd.ntmps17
      go_wp2_with fail
      go_quiet ((go_at_call 21; exact (Q0.out _ (by (repeat (first | with_reducible exact Below.refl _ _ | with_reducible apply pw_below_drewN | with_reducible apply below_drew)))).mono fun e w' h => ⟨h.1, _, h.2⟩))
      go_wp2_with fail
      go_quiet ((go_at_call 21; exact (Q1.out _ (by (repeat (first | with_reducible exact Below.refl _ _ | with_reducible apply pw_below_drewN | with_reducible apply below_drew)))).mono fun e w' h => ⟨h.1, _, h.2⟩))
      go_wp2_with fail
      refine (itoa_any g line _ (hg.below (by (repeat (first | with_reducible exact Below.refl _ _ | with_reducible apply pw_below_drewN | with_reducible apply below_drew)))) h1 h2).mono ?_
      rintro e w' ⟨rfl, hB⟩
      have HB := Aside0.mk hB
      clear hB
      go_wp2_with fail
      go_ret
      exact ⟨rfl, ((by (repeat (first | with_reducible exact Below.refl _ _ | with_reducible apply pw_below_drewN | with_reducible apply below_drew))) : Below w.heap.size w _).trans HB.out⟩
    | ends =>
      have e0 : decide ((some .ends : Option Er) = some .long) = false := by decide
      have e1 : decide ((some .ends : Option Er) = some .word) = false := by decide
      have e2 : decide ((some .ends : Option Er) = some .number) = false := by decide
      have e3 : decide ((some .ends : Option Er) = some .text) = false := by decide
      have e4 : decide ((some .ends : Option Er) = some .ends) = true := by decide
      have q0 : ∀ w1, Below w.heap.size w w1 → Calls Tryd.prog 21 #[.iface T v, .iface 71 (.pointer (some (g .long)))] w1 fun e w' => e = .returned (.bool false) ∧ w' = w1 := fun w1 h => by have := HIS.out .long w1 h; rwa [e0] at this
      have Q0 := Aside0.mk q0
      have q1 : ∀ w1, Below w.heap.size w w1 → Calls Tryd.prog 21 #[.iface T v, .iface 71 (.pointer (some (g .word)))] w1 fun e w' => e = .returned (.bool false) ∧ w' = w1 := fun w1 h => by have := HIS.out .word w1 h; rwa [e1] at this
      have Q1 := Aside0.mk q1
      have q2 : ∀ w1, Below w.heap.size w w1 → Calls Tryd.prog 21 #[.iface T v, .iface 71 (.pointer (some (g .number)))] w1 fun e w' => e = .returned (.bool false) ∧ w' = w1 := fun w1 h => by have := HIS.out .number w1 h; rwa [e2] at this
      have Q2 := Aside0.mk q2
      have q3 : ∀ w1, Below w.heap.size w w1 → Calls Tryd.prog 21 #[.iface T v, .iface 71 (.pointer (some (g .text)))] w1 fun e w' => e = .returned (.bool false) ∧ w' = w1 := fun w1 h => by have := HIS.out .text w1 h; rwa [e3] at this
      have Q3 := Aside0.mk q3
      have q4 : ∀ w1, Below w.heap.size w w1 → Calls Tryd.prog 21 #[.iface T v, .iface 71 (.pointer (some (g .ends)))] w1 fun e w' => e = .returned (.bool true) ∧ w' = w1 := fun w1 h => by have := HIS.out .ends w1 h; rwa [e4] at this
      have Q4 := Aside0.mk q4
      clear HIS e0 q0 e1 q1 e2 q2 e3 q3 e4 q4
      go_enter Tryd.func17, Tryd.ntmps17
      go_wp2_with fail
      go_quiet ((go_at_call 21; exact (Q0.out _ (by (repeat (first | with_reducible exact Below.refl _ _ | with_reducible apply pw_below_drewN | with_reducible apply below_drew)))).mono fun e w' h => ⟨h.1, _, h.2⟩))
      go_wp2_with fail
      go_quiet ((go_at_call 21; exact (Q1.out _ (by (repeat (first | with_reducible exact Below.refl _ _ | with_reducible apply pw_below_drewN | with_reducible apply below_drew)))).mono fun e w' h => ⟨h.1, _, h.2⟩))
      go_wp2_with fail
      go_quiet ((go_at_call 21; exact (Q2.out _ (by (repeat (first | with_reducible exact Below.refl _ _ | with_reducible apply pw_below_drewN | with_reducible apply below_drew)))).mono fun e w' h => ⟨h.1, _, h.2⟩))
      go_wp2_with fail
      go_quiet ((go_at_call 21; exact (Q3.out _ (by (repeat (first | with_reducible exact Below.refl _ _ | with_reducible apply pw_below_drewN | with_reducible apply below_drew)))).mono fun e w' h => ⟨h.1, _, h.2⟩))
      go_wp2_with fail
      go_quiet ((go_at_call 21; exact (Q4.out _ (by (repeat (first | with_reducible exact Below.refl _ _ | with_reducible apply pw_below_drewN | with_reducible apply below_drew)))).mono fun e w' h => ⟨h.1, _, h.2⟩))
      go_wp2_with fail
      refine (itoa_any g line _ (hg.below (by (repeat (first | with_reducible exact Below.refl _ _ | with_reducible apply pw_below_drewN | with_reducible apply below_drew)))) h1 h2).mono ?_
      rintro e w' ⟨rfl, hB⟩
      have HB := Aside0.mk hB
      clear hB
      go_wp2_with fail
      go_ret
      exact ⟨rfl, ((by (repeat (first | with_reducible exact Below.refl _ _ | with_reducible apply pw_below_drewN | with_reducible apply below_drew))) : Below w.heap.size w _).trans HB.out⟩
    | long =>
      have e0 : decide ((some .long : Option Er) = some .long) = true := by decide
      have q0 : ∀ w1, Below w.heap.size w w1 → Calls Tryd.prog 21 #[.iface T v, .iface 71 (.pointer (some (g .long)))] w1 fun e w' => e = .returned (.bool true) ∧ w' = w1 := fun w1 h => by have := HIS.out .long w1 h; rwa [e0] at this
      have Q0 := Aside0.mk q0
      clear HIS e0 q0
      go_enter Tryd.func17, Tryd.ntmps17
      go_wp2_with fail
      go_quiet ((go_at_call 21; exact (Q0.out _ (by (repeat (first | with_reducible exact Below.refl _ _ | with_reducible apply pw_below_drewN | with_reducible apply below_drew)))).mono fun e w' h => ⟨h.1, _, h.2⟩))
      go_wp2_with fail
      refine (itoa_any g line _ (hg.below (by (repeat (first | with_reducible exact Below.refl _ _ | with_reducible apply pw_below_drewN | with_reducible apply below_drew)))) h1 h2).mono ?_
      rintro e w' ⟨rfl, hB⟩
      have HB := Aside0.mk hB
      clear hB
      go_wp2_with fail
      go_ret
      exact ⟨rfl, ((by (repeat (first | with_reducible exact Below.refl _ _ | with_reducible apply pw_below_drewN | with_reducible apply below_drew))) : Below w.heap.size w _).trans HB.out⟩
    | number =>
      have e0 : decide ((some .number : Option Er) = some .long) = false := by decide
      have e1 : decide ((some .number : Option Er) = some .word) = false := by decide
      have e2 : decide ((some .number : Option Er) = some .number) = true := by decide
      have q0 : ∀ w1, Below w.heap.size w w1 → Calls Tryd.prog 21 #[.iface T v, .iface 71 (.pointer (some (g .long)))] w1 fun e w' => e = .returned (.bool false) ∧ w' = w1 := fun w1 h => by have := HIS.out .long w1 h; rwa [e0] at this
      have Q0 := Aside0.mk q0
      have q1 : ∀ w1, Below w.heap.size w w1 → Calls Tryd.prog 21 #[.iface T v, .iface 71 (.pointer (some (g .word)))] w1 fun e w' => e = .returned (.bool false) ∧ w' = w1 := fun w1 h => by have := HIS.out .word w1 h; rwa [e1] at this
      have Q1 := Aside0.mk q1
      have q2 : ∀ w1, Below w.heap.size w w1 → Calls Tryd.prog 21 #[.iface T v, .iface 71 (.pointer (some (g .number)))] w1 fun e w' => e = .returned (.bool true) ∧ w' = w1 := fun w1 h => by have := HIS.out .number w1 h; rwa [e2] at this
      have Q2 := Aside0.mk q2
      clear HIS e0 q0 e1 q1 e2 q2
      go_enter Tryd.func17, Tryd.ntmps17
      go_wp2_with fail
      go_quiet ((go_at_call 21; exact (Q0.out _ (by (repeat (first | with_reducible exact Below.refl _ _ | with_reducible apply pw_below_drewN | with_reducible apply below_drew)))).mono fun e w' h => ⟨h.1, _, h.2⟩))
      go_wp2_with fail
      go_quiet ((go_at_call 21; exact (Q1.out _ (by (repeat (first | with_reducible exact Below.refl _ _ | with_reducible apply pw_below_drewN | with_reducible apply below_drew)))).mono fun e w' h => ⟨h.1, _, h.2⟩))
      go_wp2_with fail
      go_quiet ((go_at_call 21; exact (Q2.out _ (by (repeat (first | with_reducible exact Below.refl _ _ | with_reducible apply pw_below_drewN | with_reducible apply below_drew)))).mono fun e w' h => ⟨h.1, _, h.2⟩))
      go_wp2_with fail
      refine (itoa_any g line _ (hg.below (by (repeat (first | with_reducible exact Below.refl _ _ | with_reducible apply pw_below_drewN | with_reducible apply below_drew)))) h1 h2).mono ?_
      rintro e w' ⟨rfl, hB⟩
      have HB := Aside0.mk hB
      clear hB
      go_wp2_with fail
      go_ret
      exact ⟨rfl, ((by (repeat (first | with_reducible exact Below.refl _ _ | with_reducible apply pw_below_drewN | with_reducible apply below_drew))) : Below w.heap.size w _).trans HB.out⟩
end Go.Proofs.YtjpkphmihkbfeaaDoor.S34
/- script.Parse by a contract. -/
namespace Go.Proofs.YtjpkphmihkbfeaaDoor.S34
open Go.RowKit Go.Proofs.YtjpkphmihkbfeaaDoorW.PrintWords Go.Proofs.YtjpkphmihkbfeaaDoorW.PrintLast Go.Proofs.YtjpkphmihkbfeaaDoorW.PrintMore Go.Proofs.YtjpkphmihkbfeaaDoor.Q
set_option maxRecDepth 100000
set_option linter.unusedSimpArgs false

/-- The events of a text from a line on; or the number of a line, and what is amiss in it. -/
def parseFrom : Nat → ByteArray → Int → Except (Int × Er) (List S54)
  | 0, _, _ => .ok []
  | k + 1, s, n =>
    if s.size = 0 then .ok [] else
    if 3100 < (cutAt s 10).1.size then .error (n, .long) else
    if 1000 < n then .error (n, .long) else
    if (cutAt s 10).2.2 = false then .error (n, .ends) else
    match parseP (cutAt s 10).1 with
    | .error x => .error (n, x)
    | .ok e => match parseFrom k (cutAt s 10).2.1 (n + 1) with
      | .error x => .error x
      | .ok l => .ok (e :: l)
def parseAll (s : ByteArray) : Except (Int × Er) (List S54) := parseFrom (s.size + 1) s 1

/-- So many lines are read. -/
def PAt (s : ByteArray) (k : Nat) (t : ByteArray) (n : Int) (es : List S54) : Prop :=
  n = es.length + 1 ∧ t.size < k ∧ t.size + es.length ≤ s.size ∧ parseAll s = match parseFrom k t n with | .error x => .error x | .ok l => .ok (es ++ l)
theorem PAt.zero (s : ByteArray) : PAt s (s.size + 1) s 1 [] := by
  refine ⟨rfl, by omega, by simp, ?_⟩
  unfold parseAll
  cases parseFrom (s.size + 1) s 1 <;> rfl
theorem cut_less {s : ByteArray} {c : UInt8} {F R : ByteArray} (h : cutAt s c = (F, R, true)) : R.size + 1 ≤ s.size := by
  unfold cutAt at h
  simp only [Prod.mk.injEq] at h
  obtain ⟨rfl, rfl, h3⟩ := h
  unfold Lib.cut at h3 ⊢
  have hsz := Lib.size_eq s
  split at h3
  · rename_i h0
    rw [if_pos h0]
    show (List.toArray _).size + 1 ≤ _
    rw [List.size_toArray, List.length_drop, hsz]
    have : 0 < s.data.toList.length := by
      cases hl : s.data.toList with
      | nil => rw [hl] at h0; exact absurd h0 (by simp [Lib.index])
      | cons => simp
    simp; omega
  · cases h3

def AllRes (g : Er → Addr) (r : Except (Int × Er) (List S54)) (w : World) (e : Ending) (w' : World) : Prop :=
  match r with
  | .ok l => ∃ v, e = .returned (.tuple #[v, .nilIface]) ∧ Kd.R k54 54 w' w.heap.size (fun _ => True) v l ∧ Below w.heap.size w w'
  | .error (n, x) => ∃ b : Nat, e = .returned (.tuple #[.slice none 0 0, .iface 35 (.pointer (some ⟨b, 0, none⟩))]) ∧ FaultAt g x n b w' ∧ w.heap.size ≤ b ∧ Below w.heap.size w w'

theorem info54 : (Tryd.prog.info? 54).map (fun i => (i.zero, i.size, i.bytes)) = some (some (.agg #[.int .i64 0, .int .i64 0, .int .i64 0, .int .i64 0, .int .i64 0, .int .i64 0, .slice none 0 0, .int .i64 0, .int .i64 0, .slice none 0 0]), 10, 112) := by kernel_rfl
theorem parse_fail (g : Er → Addr) (x : Er) (n : Int) (w w0 : World) (hb : Below w.heap.size w w0) (e : Ending) (w' : World) (h : InRes g x n w0 e w') :
    ∃ b : Nat, e = .returned (.iface 35 (.pointer (some ⟨b, 0, none⟩))) ∧ FaultAt g x n b w' ∧ w.heap.size ≤ b ∧ Below w.heap.size w w' := by
  obtain ⟨b, he, hf, hle, hb2⟩ := h
  exact ⟨b, he, hf, Nat.le_trans hb.size hle, below_then hb hb.size hb2⟩

set_option maxHeartbeats 4000000 in
theorem Parse_any (g : Er → Addr) (s : ByteArray) (w : World) (hg : Glob g w) (hs : s.size < 4294967281) : Calls Tryd.prog 12 #[.string s] w (AllRes g (parseAll s) w) := by
  have HG := Aside0.mk hg
  clear hg
  go_enter Tryd.func12, Tryd.ntmps12
  go_wp2_with fail
  go_loopg [0, 4, 5] (s.size + 1) (fun k v0 v4 v5 wr => ∃ (t : ByteArray) (n : Int) (es : List S54), v0 = .string t ∧ v5 = .int .i64 n ∧ Aside0 (PAt s k t n es) ∧ Aside0 (Kd.R k54 54 wr w.heap.size (fun _ => True) v4 es) ∧ Aside0 (Below w.heap.size w wr))
  case atStart => exact ⟨s, 1, [], rfl, rfl, ⟨PAt.zero s⟩, ⟨Kd.R_nil _ _ _ _ _⟩, ⟨Below.refl _ _⟩⟩
  case round =>
    obtain ⟨t, n, es, rfl, rfl, HP, HO, HB⟩ := hrel
    obtain ⟨k, hk⟩ : ∃ k, gk = k + 1 := ⟨gk - 1, by have := HP.out.2.1; omega⟩
    have hn1 : 1 ≤ n := by have := HP.out.1; omega
    have hn2 : n ≤ 4294967281 := by have h1 := HP.out.1; have h2 := HP.out.2.2.1; omega
    have hts : t.size < 4294967281 := by have h2 := HP.out.2.2.1; omega
    have HK := Aside0.mk hk
    clear hk
    by_cases h0 : t.size = 0
    · have t0 := toList_nil_of h0
      have HR := Aside0.mk (show parseAll s = .ok es by rw [HP.out.2.2.2, HK.out, parseFrom, if_pos h0]; simp)
      clear h0
      go_wp2_with fail
      go_ret2
      rw [HR.out]
      exact ⟨_, rfl, HO.out, HB.out⟩
    have t0 := toList_ne_of (s := t) (by omega)
    have t1 : t.toList.isEmpty = false := by cases hh : t.toList with
      | nil => exact absurd hh t0
      | cons => rfl
    obtain ⟨F, R, m, hc⟩ : ∃ F R m, cutAt t 10 = (F, R, m) := ⟨_, _, _, rfl⟩
    have HC := Aside0.mk hc
    have hFz := (cut_size hc).1
    clear hc
    have hpf : parseFrom (k + 1) t n = if 3100 < F.size then .error (n, .long) else if 1000 < n then .error (n, .long) else if m = false then .error (n, .ends) else
        match parseP F with
        | .error x => .error (n, x)
        | .ok e => match parseFrom k R (n + 1) with
          | .error x => .error x
          | .ok l => .ok (e :: l) := by
      rw [parseFrom, if_neg h0, HC.out]
    have HPF := Aside0.mk hpf
    clear hpf h0
    have HGr := Aside0.mk (HG.out.below HB.out)
    have cL := HGr.out.cell .long
    have cE := HGr.out.cell .ends
    simp only [Er.var] at cL cE
    by_cases h1 : 3100 < F.size
    · have HR := Aside0.mk (show parseAll s = .error (n, .long) by rw [HP.out.2.2.2, HK.out, HPF.out, if_pos h1])
      have d1 : decide ((3100 : Int) < (F.size : Int)) = true := by simp; omega
      clear h1
      go_wp2_with fail
      refine (cut_any g t 10 _ HGr.out hts HC.out).mono ?_
      rintro e w' ⟨rfl, n1, rfl⟩
      go_wp2_with fail
      refine (in_any g .long n _ (by exact HGr.out.below (by (repeat (first | with_reducible exact Below.refl _ _ | with_reducible apply pw_below_drewN))))).mono ?_
      rintro e w' hin
      obtain ⟨b, rfl, hf, hle, hb⟩ := parse_fail g .long n w _ (by (repeat (first | with_reducible exact HB.out | with_reducible apply pw_below_drewN))) e w' hin
      have HF := Aside0.mk hf
      have HBF := Aside0.mk hb
      clear hin hf hb
      go_wp2_with fail
      go_ret2
      rw [HR.out]
      exact ⟨b, rfl, HF.out, hle, HBF.out⟩
    have d1 : decide ((3100 : Int) < (F.size : Int)) = false := by simp; omega
    by_cases h2 : 1000 < n
    · have HR := Aside0.mk (show parseAll s = .error (n, .long) by rw [HP.out.2.2.2, HK.out, HPF.out, if_neg h1, if_pos h2])
      have d2 : decide ((1000 : Int) < n) = true := by simpa using h2
      clear h1 h2
      go_wp2_with fail
      refine (cut_any g t 10 _ HGr.out hts HC.out).mono ?_
      rintro e w' ⟨rfl, n1, rfl⟩
      go_wp2_with fail
      refine (in_any g .long n _ (by exact HGr.out.below (by (repeat (first | with_reducible exact Below.refl _ _ | with_reducible apply pw_below_drewN))))).mono ?_
      rintro e w' hin
      obtain ⟨b, rfl, hf, hle, hb⟩ := parse_fail g .long n w _ (by (repeat (first | with_reducible exact HB.out | with_reducible apply pw_below_drewN))) e w' hin
      have HF := Aside0.mk hf
      have HBF := Aside0.mk hb
      clear hin hf hb
      go_wp2_with fail
      go_ret2
      rw [HR.out]
      exact ⟨b, rfl, HF.out, hle, HBF.out⟩
    have d2 : decide ((1000 : Int) < n) = false := by simpa using h2
    cases m with
    | false =>
      have HR := Aside0.mk (show parseAll s = .error (n, .ends) by rw [HP.out.2.2.2, HK.out, HPF.out, if_neg h1, if_neg h2, if_pos rfl])
      clear h1 h2
      go_wp2_with fail
      refine (cut_any g t 10 _ HGr.out hts HC.out).mono ?_
      rintro e w' ⟨rfl, n1, rfl⟩
      go_wp2_with fail
      refine (in_any g .ends n _ (by exact HGr.out.below (by (repeat (first | with_reducible exact Below.refl _ _ | with_reducible apply pw_below_drewN))))).mono ?_
      rintro e w' hin
      obtain ⟨b, rfl, hf, hle, hb⟩ := parse_fail g .ends n w _ (by (repeat (first | with_reducible exact HB.out | with_reducible apply pw_below_drewN))) e w' hin
      have HF := Aside0.mk hf
      have HBF := Aside0.mk hb
      clear hin hf hb
      go_wp2_with fail
      go_ret2
      rw [HR.out]
      exact ⟨b, rfl, HF.out, hle, HBF.out⟩
    | true =>
      have hR1 := cut_less HC.out
      have HPF2 := Aside0.mk (HPF.out.trans ((if_neg h1).trans ((if_neg h2).trans (if_neg (by decide)))))
      have hFs : F.size < 4294967281 := by omega
      clear h1 h2
      go_wp2_with fail
      refine (cut_any g t 10 _ HGr.out hts HC.out).mono ?_
      rintro e w' ⟨rfl, n1, rfl⟩
      go_wp2_with fail
      refine (parse_any g F _ (by exact HGr.out.below (by (repeat (first | with_reducible exact Below.refl _ _ | with_reducible apply pw_below_drewN | with_reducible apply below_alloc)))) hFs).mono ?_
      rintro e w1 ⟨cs, rfl, hM, hB⟩
      obtain ⟨v6, v9, rfl, h6, h9⟩ := k54_openM hM
      obtain ⟨A6, c6, rfl⟩ := Kd.R_slice h6
      obtain ⟨A9, c9, rfl⟩ := Kd.R_slice h9
      have hbr : w1.heap[wr.heap.size]? = some (.cells #[.int .i64 0, .int .i64 0, .int .i64 0, .int .i64 0, .int .i64 0, .int .i64 0, .slice none 0 0, .int .i64 0, .int .i64 0, .slice none 0 0] 54 (0, 0)) := blk_below (blk_new (wr.drewN n1) _) hB
      have r0 : w1.cell? ⟨wr.heap.size, 0, none⟩ = some (.int .i64 0) := by rw [blk_cell hbr]; rfl
      have f0 := blk_frozen hbr 0
      have r1 : w1.cell? ⟨wr.heap.size, 1, none⟩ = some (.int .i64 0) := by rw [blk_cell hbr]; rfl
      have f1 := blk_frozen hbr 1
      have r2 : w1.cell? ⟨wr.heap.size, 2, none⟩ = some (.int .i64 0) := by rw [blk_cell hbr]; rfl
      have f2 := blk_frozen hbr 2
      have r3 : w1.cell? ⟨wr.heap.size, 3, none⟩ = some (.int .i64 0) := by rw [blk_cell hbr]; rfl
      have f3 := blk_frozen hbr 3
      have r4 : w1.cell? ⟨wr.heap.size, 4, none⟩ = some (.int .i64 0) := by rw [blk_cell hbr]; rfl
      have f4 := blk_frozen hbr 4
      have r5 : w1.cell? ⟨wr.heap.size, 5, none⟩ = some (.int .i64 0) := by rw [blk_cell hbr]; rfl
      have f5 := blk_frozen hbr 5
      have r6 : w1.cell? ⟨wr.heap.size, 6, none⟩ = some (.slice none 0 0) := by rw [blk_cell hbr]; rfl
      have f6 := blk_frozen hbr 6
      have r7 : w1.cell? ⟨wr.heap.size, 7, none⟩ = some (.int .i64 0) := by rw [blk_cell hbr]; rfl
      have f7 := blk_frozen hbr 7
      have r8 : w1.cell? ⟨wr.heap.size, 8, none⟩ = some (.int .i64 0) := by rw [blk_cell hbr]; rfl
      have f8 := blk_frozen hbr 8
      have r9 : w1.cell? ⟨wr.heap.size, 9, none⟩ = some (.slice none 0 0) := by rw [blk_cell hbr]; rfl
      have f9 := blk_frozen hbr 9
      obtain ⟨pr, hpr⟩ : ∃ pr, pr = parseP F := ⟨_, rfl⟩
      have HPR := Aside0.mk hpr
      rw [← hpr] at h6 h9 hM ⊢
      obtain ⟨x, hx⟩ : ∃ x, x = evv pr := ⟨_, rfl⟩
      have HX := Aside0.mk hx
      rw [← hx] at h6 h9 hM ⊢
      clear hpr hx
      go_upto_region 9 with (fail)
      have hw1 : Below w.heap.size w w1 := HB.out.trans ((below_alloc (pw_below_drewN (Below.refl wr.heap.size wr) n1) _).mono HB.out.size |>.trans (hB.mono (by have := HB.out.size; simp; omega)))
      obtain ⟨W2, hW2⟩ : ∃ W2, W2 = (((((((((w1.setCell ⟨wr.heap.size, 0, none⟩ (.int .i64 x.f0)).setCell ⟨wr.heap.size, 1, none⟩ (.int .i64 x.f1)).setCell ⟨wr.heap.size, 2, none⟩ (.int .i64 x.f2)).setCell ⟨wr.heap.size, 3, none⟩ (.int .i64 x.f3)).setCell ⟨wr.heap.size, 4, none⟩ (.int .i64 x.f4)).setCell ⟨wr.heap.size, 5, none⟩ (.int .i64 x.f5.f0)).setCell ⟨wr.heap.size, 6, none⟩ (.slice A6 x.f5.f1.length c6)).setCell ⟨wr.heap.size, 7, none⟩ (.int .i64 x.f5.f2)).setCell ⟨wr.heap.size, 8, none⟩ (.int .i64 x.f5.f3)).setCell ⟨wr.heap.size, 9, none⟩ (.slice A9 x.f6.length c9) := ⟨_, rfl⟩
      rw [← hW2]
      have hh2 : ∀ k, k ≠ wr.heap.size → W2.heap[k]? = w1.heap[k]? := by
        intro k hk
        rw [hW2]
        (repeat (first | with_reducible rfl | refine (Below.heap_setCell _ _ _ k hk).trans ?_))
      have hb2 : W2.heap[wr.heap.size]? = some (.cells #[.int .i64 x.f0, .int .i64 x.f1, .int .i64 x.f2, .int .i64 x.f3, .int .i64 x.f4, .int .i64 x.f5.f0, .slice A6 x.f5.f1.length c6, .int .i64 x.f5.f2, .int .i64 x.f5.f3, .slice A9 x.f6.length c9] 54 (0, 0)) := by
        rw [hW2]
        exact blk_set10 hbr _ _ _ _ _ _ _ _ _ _
      have hB2 : Below w.heap.size w W2 := by
        rw [hW2]
        (repeat (first | with_reducible exact hw1 | refine Below.setCell ?_ HB.out.size _))
      have hO2 : Kd.R k54 54 W2 w.heap.size (fun _ => True) u4 es := Kd.R_step HO.out (fun k _ hk => by
        rw [hh2 k (by omega), hB.block k (by simp; omega)]
        exact (below_alloc (pw_below_drewN (Below.refl wr.heap.size wr) n1) _).block k hk)
      have hle : w.heap.size ≤ ((wr.drewN n1).alloc (.cells #[.int .i64 0, .int .i64 0, .int .i64 0, .int .i64 0, .int .i64 0, .int .i64 0, .slice none 0 0, .int .i64 0, .int .i64 0, .slice none 0 0] 54)).heap.size := by have := HB.out.size; simp; omega
      have h6' := R_but (Kd.R_lower h6 hle) hbr (by decide) hh2
      have h9' := R_but (Kd.R_lower h9 hle) hbr (by decide) hh2
      have HM2 := Aside0.mk (M_apart (k54_mkM W2 w.heap.size _ x h6' h9') hO2 (by decide))
      have HO2 := Aside0.mk hO2
      have HB2 := Aside0.mk hB2
      have HH2 := Aside0.mk hb2
      have s0 : W2.cell? ⟨wr.heap.size, 0, none⟩ = some (.int .i64 x.f0) := by rw [blk_cell hb2]; rfl
      have s1 : W2.cell? ⟨wr.heap.size, 1, none⟩ = some (.int .i64 x.f1) := by rw [blk_cell hb2]; rfl
      have s2 : W2.cell? ⟨wr.heap.size, 2, none⟩ = some (.int .i64 x.f2) := by rw [blk_cell hb2]; rfl
      have s3 : W2.cell? ⟨wr.heap.size, 3, none⟩ = some (.int .i64 x.f3) := by rw [blk_cell hb2]; rfl
      have s4 : W2.cell? ⟨wr.heap.size, 4, none⟩ = some (.int .i64 x.f4) := by rw [blk_cell hb2]; rfl
      have s5 : W2.cell? ⟨wr.heap.size, 5, none⟩ = some (.int .i64 x.f5.f0) := by rw [blk_cell hb2]; rfl
      have s6 : W2.cell? ⟨wr.heap.size, 6, none⟩ = some (.slice A6 x.f5.f1.length c6) := by rw [blk_cell hb2]; rfl
      have s7 : W2.cell? ⟨wr.heap.size, 7, none⟩ = some (.int .i64 x.f5.f2) := by rw [blk_cell hb2]; rfl
      have s8 : W2.cell? ⟨wr.heap.size, 8, none⟩ = some (.int .i64 x.f5.f3) := by rw [blk_cell hb2]; rfl
      have s9 : W2.cell? ⟨wr.heap.size, 9, none⟩ = some (.slice A9 x.f6.length c9) := by rw [blk_cell hb2]; rfl
      clear hW2 hh2 hb2 hB2 hO2 hle h6 h9 h6' h9' hM hB hbr hw1 HO HB r0 f0 r1 f1 r2 f2 r3 f3 r4 f4 r5 f5 r6 f6 r7 f7 r8 f8 r9 f9
      have hel : es.length ≤ 4294967281 := by have := HP.out.2.2.1; omega
      cases pr with
      | error y =>
        have he : errV g (ero (Except.error (α := S54) y)) = .iface 71 (.pointer (some (g y))) := rfl
        have HR := Aside0.mk (show parseAll s = .error (n, y) by rw [HP.out.2.2.2, HK.out, HPF2.out, ← HPR.out])
        go_wp2_with ((with_reducible refine gate_builtin (b := .append) (xs := #[.tmp 26, .tmp 28]) rfl ?_); (try (refine gate_guard (by rfl) ?_; dsimp only)); at_builtin; refine Kd.R_append k54 (w0 := w) w.heap.size rfl (.tmp 26) (.tmp 28) 23 54 (.agg #[.int .i64 0, .int .i64 0, .int .i64 0, .int .i64 0, .int .i64 0, .int .i64 0, .slice none 0 0, .int .i64 0, .int .i64 0, .slice none 0 0]) 112 rfl Tryd.underlying23 info54 rfl (by decide) (by omega) _ es x [.int .i64 x.f0, .int .i64 x.f1, .int .i64 x.f2, .int .i64 x.f3, .int .i64 x.f4, .int .i64 x.f5.f0, .slice A6 x.f5.f1.length c6, .int .i64 x.f5.f2, .int .i64 x.f5.f3, .slice A9 x.f6.length c9] (fun _ => True) _ rfl rfl ?aP (fun k hk => ⟨trivial, hk⟩) ?aF ?aO ?aB ?aS ?aL ?_; (case aP => exact HM2.out); (case aB => exact HB2.out); (case aF => exact (fun _ _ => trivial)); (case aO => exact HO2.out); (case aS => exact HB2.out.size); (case aL => omega); intro v1 w3 ho hb hgr hat; have HO3 := Aside0.mk ho; have HB3 := Aside0.mk hb; clear HO2 HB2 ho hb hgr hat)
        refine (in_any g y n _ (by exact (HG.out.below HB3.out).below (by (repeat (first | with_reducible exact Below.refl _ _ | with_reducible apply pw_below_drewN))))).mono ?_
        rintro e w' hin
        obtain ⟨b, rfl, hf, hle, hb⟩ := parse_fail g y n w _ (by (repeat (first | with_reducible exact HB3.out | with_reducible apply pw_below_drewN))) e w' hin
        have HF := Aside0.mk hf
        have HBF := Aside0.mk hb
        clear hin hf hb
        go_wp2_with fail
        go_ret2
        rw [HR.out]
        exact ⟨b, rfl, HF.out, hle, HBF.out⟩
      | ok y =>
        have he : errV g (ero (Except.ok (ε := Er) y)) = .nilIface := rfl
        have HP2 := Aside0.mk (show PAt s k R (n + 1) (es ++ [x]) from by
          obtain ⟨ha, hb, hc, hd⟩ := HP.out
          have hk := HK.out
          refine ⟨by rw [List.length_append, ha]; simp, by omega, by rw [List.length_append]; simp; omega, ?_⟩
          rw [hd, HK.out, HPF2.out, ← HPR.out, HX.out]
          show _ = (match parseFrom k R (n + 1) with | .error x => .error x | .ok l => .ok (es ++ [y] ++ l) : Except (Int × Er) (List S54))
          cases parseFrom k R (n + 1) with
          | error x => rfl
          | ok l => simp)
        go_wp2_with ((with_reducible refine gate_builtin (b := .append) (xs := #[.tmp 26, .tmp 28]) rfl ?_); (try (refine gate_guard (by rfl) ?_; dsimp only)); at_builtin; refine Kd.R_append k54 (w0 := w) w.heap.size rfl (.tmp 26) (.tmp 28) 23 54 (.agg #[.int .i64 0, .int .i64 0, .int .i64 0, .int .i64 0, .int .i64 0, .int .i64 0, .slice none 0 0, .int .i64 0, .int .i64 0, .slice none 0 0]) 112 rfl Tryd.underlying23 info54 rfl (by decide) (by omega) _ es x [.int .i64 x.f0, .int .i64 x.f1, .int .i64 x.f2, .int .i64 x.f3, .int .i64 x.f4, .int .i64 x.f5.f0, .slice A6 x.f5.f1.length c6, .int .i64 x.f5.f2, .int .i64 x.f5.f3, .slice A9 x.f6.length c9] (fun _ => True) _ rfl rfl ?aP (fun k hk => ⟨trivial, hk⟩) ?aF ?aO ?aB ?aS ?aL ?_; (case aP => exact HM2.out); (case aB => exact HB2.out); (case aF => exact (fun _ _ => trivial)); (case aO => exact HO2.out); (case aS => exact HB2.out.size); (case aL => omega); intro v1 w3 ho hb hgr hat; have HO3 := Aside0.mk ho; have HB3 := Aside0.mk hb; clear HO2 HB2 ho hb hgr hat)
        go_roundg k
        case measure => have := HK.out; omega
        case rel => exact ⟨R, n + 1, es ++ [x], rfl, rfl, HP2, HO3, HB3⟩
end Go.Proofs.YtjpkphmihkbfeaaDoor.S34
