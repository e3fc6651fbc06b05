/- Functions as plain ones, and that the calls come to what they answer: script_form, script_plain, script_bounds, orielref12_Digits, orielref34_plain, orielref34_hex. -/
import Derived.Test.YtjpkphmihkbfeaaDoorQ0
namespace Go.Proofs.YtjpkphmihkbfeaaDoor.Q
open Go.RowKit Go.Proofs.YtjpkphmihkbfeaaDoorW.PrintWords Go.Proofs.YtjpkphmihkbfeaaDoorW.PrintLast Go.Proofs.YtjpkphmihkbfeaaDoorW.PrintMore
attribute [local go_sem] max2_int min2_int max_two min_two max_three min_three max_four min_four
set_option linter.unusedVariables false
set_option linter.unusedSimpArgs false

/-! ### script_form -/
mutual
def script_form.j0 : Nat → ByteArray → Bool → Option (ByteArray)
  | 0, _, _ => none
  | k + 1, x3, x4 => if x4 = true then (some (⟨#[73, 82]⟩ : ByteArray)) else (if x3.toList = ([108, 101, 97, 118, 101] : List UInt8) then (script_form.j1 k x3 (x3.toList == ([108, 101, 97, 118, 101] : List UInt8))) else (if x3.toList = ([97, 115, 107] : List UInt8) then (script_form.j1 k x3 (x3.toList == ([97, 115, 107] : List UInt8))) else (script_form.j1 k x3 (x3.toList == ([102, 114, 101, 101] : List UInt8)))))
def script_form.j1 : Nat → ByteArray → Bool → Option (ByteArray)
  | 0, _, _ => none
  | k + 1, x3, x7 => if x7 = true then (some (⟨#[73]⟩ : ByteArray)) else (if x3.toList = ([111, 117, 116] : List UInt8) then (some (⟨#[84]⟩ : ByteArray)) else (if x3.toList = ([107, 101, 121, 115] : List UInt8) then (some (⟨#[73, 75]⟩ : ByteArray)) else (if x3.toList = ([115, 105, 122, 101] : List UInt8) then (some (⟨#[73, 87, 87]⟩ : ByteArray)) else (if x3.toList = ([116, 105, 99, 107] : List UInt8) then (some (⟨#[78]⟩ : ByteArray)) else (if x3.toList = ([100, 101, 108, 105, 118, 101, 114] : List UInt8) then (some (⟨#[80]⟩ : ByteArray)) else (if x3.toList = ([115, 112, 111, 105, 108] : List UInt8) then (some (⟨#[80, 88]⟩ : ByteArray)) else (if x3.toList = ([109, 111, 118, 101] : List UInt8) then (some (⟨#[73, 65]⟩ : ByteArray)) else (if x3.toList = ([102, 111, 114, 103, 101] : List UInt8) then (some (⟨#[73, 65, 83, 84]⟩ : ByteArray)) else (some (⟨#[]⟩ : ByteArray))))))))))
end
def script_form.f (k : Nat) (a0 : ByteArray) : Option (ByteArray) := if a0.toList = ([106, 111, 105, 110] : List UInt8) then (script_form.j0 k a0 (a0.toList == ([106, 111, 105, 110] : List UInt8))) else (script_form.j0 k a0 (a0.toList == ([114, 111, 108, 101] : List UInt8)))
theorem script_form.mono_l : ∀ k, (∀ y0 y1, LeO (script_form.j0 k y0 y1) (script_form.j0 (k + 1) y0 y1)) ∧ (∀ y0 y1, LeO (script_form.j1 k y0 y1) (script_form.j1 (k + 1) y0 y1))
  | 0 => ⟨fun _ _ r h => by simp [script_form.j0] at h, fun _ _ r h => by simp [script_form.j1] at h⟩
  | k + 1 => by
    obtain ⟨ih0, ih1⟩ := script_form.mono_l k
    refine ⟨?_, ?_⟩
    · intro y0 y1
      unfold script_form.j0
      repeat' first
      | (with_reducible exact ih0 _ _)
      | (with_reducible exact ih1 _ _)
      | (with_reducible exact LeO.refl _)
      | (with_reducible exact LeO.none _)
      | (with_reducible refine LeO.ite ?_ ?_)
      | (with_reducible refine LeO.bind ?_ (fun _ => ?_))
      | exact ih0 _ _
      | exact ih1 _ _
      | exact LeO.none _
      | refine LeO.ite ?_ ?_
      | refine LeO.bind ?_ (fun _ => ?_)
    · intro y0 y1
      unfold script_form.j1
      repeat' first
      | (with_reducible exact ih0 _ _)
      | (with_reducible exact ih1 _ _)
      | (with_reducible exact LeO.refl _)
      | (with_reducible exact LeO.none _)
      | (with_reducible refine LeO.ite ?_ ?_)
      | (with_reducible refine LeO.bind ?_ (fun _ => ?_))
      | exact ih0 _ _
      | exact ih1 _ _
      | exact LeO.none _
      | refine LeO.ite ?_ ?_
      | refine LeO.bind ?_ (fun _ => ?_)
theorem script_form.mono : ∀ a0 k, LeO (script_form.f k a0) (script_form.f (k + 1) a0) := by
  intro a0 k
  obtain ⟨ih0, ih1⟩ := script_form.mono_l k
  unfold script_form.f
  repeat' first
      | (with_reducible exact ih0 _ _)
      | (with_reducible exact ih1 _ _)
      | (with_reducible exact LeO.refl _)
      | (with_reducible exact LeO.none _)
      | (with_reducible refine LeO.ite ?_ ?_)
      | (with_reducible refine LeO.bind ?_ (fun _ => ?_))
      | exact ih0 _ _
      | exact ih1 _ _
      | exact LeO.none _
      | refine LeO.ite ?_ ?_
      | refine LeO.bind ?_ (fun _ => ?_)
set_option maxHeartbeats 8000000 in
set_option maxRecDepth 100000 in
theorem script_form.calls (k : Nat) (a0 : ByteArray) (r : ByteArray) (w : World) (h : script_form.f k a0 = some r) :
    Calls Tryd.prog 44 #[.string a0] w fun e w' => e = .returned (.string r) ∧ Drawn0 w w' := by
  have H : (if a0.toList = ([106, 111, 105, 110] : List UInt8) then (script_form.j0 k a0 (a0.toList == ([106, 111, 105, 110] : List UInt8))) else (script_form.j0 k a0 (a0.toList == ([114, 111, 108, 101] : List UInt8)))) = some r := h
  clear h
  have HC2 := Aside0.mk H
  clear H
  go_enter Tryd.func44, Tryd.ntmps44
  go_upto_if 4 with (fail)
  go_cut [4] (fun v4 wc => ∃ (kq : Nat) (x4_1 : Bool), v4 = .bool x4_1 ∧ Aside0 (script_form.j0 kq a0 x4_1 = some r) ∧ Aside0 (kq ≤ k) ∧ Drawn0 w wc)
  case first =>
    have H := HC2.out
    clear HC2
    by_cases c3 : a0.toList = ([106, 111, 105, 110] : List UInt8)
    · rw [if_pos c3] at H
      have c3b0 : (a0.toList == ([106, 111, 105, 110] : List UInt8)) = true := beq_iff_eq.mpr c3
      have c3b1 : (a0.toList != ([106, 111, 105, 110] : List UInt8)) = false := bne_eq_false_iff_eq.mpr c3
      clear c3
      (first | rw [c3b0] | (simp only [i64_w, i32_w]; rw [c3b0]) | skip)
      have H' := Aside0.mk H
      clear H
      go_wp2
      go_meet
      case rel => exact ⟨_, ((a0.toList == ([106, 111, 105, 110] : List UInt8))), (by first | rfl | (simp; done) | (simp [*]; done)), H', ⟨by first | omega | exact Nat.le_refl _⟩, by repeat (first | exact Drawn0.refl _ | apply Drawn0.step)⟩
    · rw [if_neg c3] at H
      have c3b0 : (a0.toList == ([106, 111, 105, 110] : List UInt8)) = false := beq_eq_false_iff_ne.mpr c3
      have c3b1 : (a0.toList != ([106, 111, 105, 110] : List UInt8)) = true := bne_iff_ne.mpr c3
      (first | rw [c3b0] | (simp only [i64_w, i32_w]; rw [c3b0]) | skip)
      have H' := Aside0.mk H
      clear H
      go_wp2
      go_meet
      case rel => exact ⟨_, ((a0.toList == ([114, 111, 108, 101] : List UInt8))), (by first | rfl | (simp; done) | (simp [*]; done)), H', ⟨by first | omega | exact Nat.le_refl _⟩, by repeat (first | exact Drawn0.refl _ | apply Drawn0.step)⟩
  case rest =>
    clear HC2
    try clear p2
    try clear c3
    try clear c3b0
    try clear c3b1
    obtain ⟨kq, x4_1, rfl, HA, HJ1, ⟨mc1, rfl⟩⟩ := hcut
    cases kq with
    | zero => exact absurd HA.out (by simp [script_form.j0])
    | succ kj1 =>
      have H := HA.out
      clear HA
      simp only [script_form.j0] at H
      by_cases c4 : x4_1 = true
      · subst c4
        have H1 : (some (⟨#[73, 82]⟩ : ByteArray)) = some r := by rw [if_pos rfl] at H; exact H
        clear H
        have H := H1
        clear H1
        obtain rfl := Option.some.inj H
        go_wp2
        go_ret
        exact ⟨by first | rfl | (simp; done) | (simp [*]; done), by repeat (first | exact Drawn0.refl _ | apply Drawn0.step)⟩
      · replace c4 := Bool.eq_false_iff.mpr c4
        subst c4
        have H1 : (if a0.toList = ([108, 101, 97, 118, 101] : List UInt8) then (script_form.j1 kj1 a0 (a0.toList == ([108, 101, 97, 118, 101] : List UInt8))) else (if a0.toList = ([97, 115, 107] : List UInt8) then (script_form.j1 kj1 a0 (a0.toList == ([97, 115, 107] : List UInt8))) else (script_form.j1 kj1 a0 (a0.toList == ([102, 114, 101, 101] : List UInt8))))) = some r := by rw [if_neg (show ¬ (false = true) by decide)] at H; exact H
        clear H
        have H := H1
        clear H1
        have HC5 := Aside0.mk H
        clear H
        go_upto_if 7 with (fail)
        go_cut [7] (fun v7 wc => ∃ (kq : Nat) (x7_4 : Bool), v7 = .bool x7_4 ∧ Aside0 (script_form.j1 kq a0 x7_4 = some r) ∧ Aside0 (kq ≤ kj1) ∧ Drawn0 w wc)
        case first =>
          have H := HC5.out
          clear HC5
          by_cases c6 : a0.toList = ([108, 101, 97, 118, 101] : List UInt8)
          · rw [if_pos c6] at H
            have c6b0 : (a0.toList == ([108, 101, 97, 118, 101] : List UInt8)) = true := beq_iff_eq.mpr c6
            have c6b1 : (a0.toList != ([108, 101, 97, 118, 101] : List UInt8)) = false := bne_eq_false_iff_eq.mpr c6
            clear c6
            (first | rw [c6b0] | (simp only [i64_w, i32_w]; rw [c6b0]) | skip)
            have H' := Aside0.mk H
            clear H
            go_wp2
            go_meet
            case rel => exact ⟨_, ((a0.toList == ([108, 101, 97, 118, 101] : List UInt8))), (by first | rfl | (simp; done) | (simp [*]; done)), H', ⟨by have := HJ1.out; first | omega | exact Nat.le_refl _⟩, by repeat (first | exact Drawn0.refl _ | apply Drawn0.step)⟩
          · rw [if_neg c6] at H
            have c6b0 : (a0.toList == ([108, 101, 97, 118, 101] : List UInt8)) = false := beq_eq_false_iff_ne.mpr c6
            have c6b1 : (a0.toList != ([108, 101, 97, 118, 101] : List UInt8)) = true := bne_iff_ne.mpr c6
            (first | rw [c6b0] | (simp only [i64_w, i32_w]; rw [c6b0]) | skip)
            by_cases c7 : a0.toList = ([97, 115, 107] : List UInt8)
            · rw [if_pos c7] at H
              have c7b0 : (a0.toList == ([97, 115, 107] : List UInt8)) = true := beq_iff_eq.mpr c7
              have c7b1 : (a0.toList != ([97, 115, 107] : List UInt8)) = false := bne_eq_false_iff_eq.mpr c7
              clear c7
              have H' := Aside0.mk H
              clear H
              go_wp2
              go_meet
              case rel => exact ⟨_, ((a0.toList == ([97, 115, 107] : List UInt8))), (by first | rfl | (simp; done) | (simp [*]; done)), H', ⟨by have := HJ1.out; first | omega | exact Nat.le_refl _⟩, by repeat (first | exact Drawn0.refl _ | apply Drawn0.step)⟩
            · rw [if_neg c7] at H
              have c7b0 : (a0.toList == ([97, 115, 107] : List UInt8)) = false := beq_eq_false_iff_ne.mpr c7
              have c7b1 : (a0.toList != ([97, 115, 107] : List UInt8)) = true := bne_iff_ne.mpr c7
              have H' := Aside0.mk H
              clear H
              go_wp2
              go_meet
              case rel => exact ⟨_, ((a0.toList == ([102, 114, 101, 101] : List UInt8))), (by first | rfl | (simp; done) | (simp [*]; done)), H', ⟨by have := HJ1.out; first | omega | exact Nat.le_refl _⟩, by repeat (first | exact Drawn0.refl _ | apply Drawn0.step)⟩
        case rest =>
          clear HC5
          try clear c1
          try clear p2
          try clear c3
          try clear c3b0
          try clear c3b1
          try clear c4
          try clear c6
          try clear c6b0
          try clear c6b1
          try clear c7
          try clear c7b0
          try clear c7b1
          try clear p2
          obtain ⟨kq, x7_4, rfl, HA, HJ4, ⟨mc4, rfl⟩⟩ := hcut
          cases kq with
          | zero => exact absurd HA.out (by simp [script_form.j1])
          | succ kj4 =>
            have H := HA.out
            clear HA
            simp only [script_form.j1] at H
            by_cases c8 : x7_4 = true
            · subst c8
              have H1 : (some (⟨#[73]⟩ : ByteArray)) = some r := by rw [if_pos rfl] at H; exact H
              clear H
              have H := H1
              clear H1
              obtain rfl := Option.some.inj H
              go_wp2
              go_ret
              exact ⟨by first | rfl | (simp; done) | (simp [*]; done), by repeat (first | exact Drawn0.refl _ | apply Drawn0.step)⟩
            · replace c8 := Bool.eq_false_iff.mpr c8
              subst c8
              have H1 : (if a0.toList = ([111, 117, 116] : List UInt8) then (some (⟨#[84]⟩ : ByteArray)) else (if a0.toList = ([107, 101, 121, 115] : List UInt8) then (some (⟨#[73, 75]⟩ : ByteArray)) else (if a0.toList = ([115, 105, 122, 101] : List UInt8) then (some (⟨#[73, 87, 87]⟩ : ByteArray)) else (if a0.toList = ([116, 105, 99, 107] : List UInt8) then (some (⟨#[78]⟩ : ByteArray)) else (if a0.toList = ([100, 101, 108, 105, 118, 101, 114] : List UInt8) then (some (⟨#[80]⟩ : ByteArray)) else (if a0.toList = ([115, 112, 111, 105, 108] : List UInt8) then (some (⟨#[80, 88]⟩ : ByteArray)) else (if a0.toList = ([109, 111, 118, 101] : List UInt8) then (some (⟨#[73, 65]⟩ : ByteArray)) else (if a0.toList = ([102, 111, 114, 103, 101] : List UInt8) then (some (⟨#[73, 65, 83, 84]⟩ : ByteArray)) else (some (⟨#[]⟩ : ByteArray)))))))))) = some r := by rw [if_neg (show ¬ (false = true) by decide)] at H; exact H
              clear H
              have H := H1
              clear H1
              by_cases c9 : a0.toList = ([111, 117, 116] : List UInt8)
              · rw [if_pos c9] at H
                have c9b0 : (a0.toList == ([111, 117, 116] : List UInt8)) = true := beq_iff_eq.mpr c9
                have c9b1 : (a0.toList != ([111, 117, 116] : List UInt8)) = false := bne_eq_false_iff_eq.mpr c9
                clear c9
                obtain rfl := Option.some.inj H
                go_wp2
                go_ret
                exact ⟨by first | rfl | (simp; done) | (simp [*]; done), by repeat (first | exact Drawn0.refl _ | apply Drawn0.step)⟩
              · rw [if_neg c9] at H
                have c9b0 : (a0.toList == ([111, 117, 116] : List UInt8)) = false := beq_eq_false_iff_ne.mpr c9
                have c9b1 : (a0.toList != ([111, 117, 116] : List UInt8)) = true := bne_iff_ne.mpr c9
                by_cases c10 : a0.toList = ([107, 101, 121, 115] : List UInt8)
                · rw [if_pos c10] at H
                  have c10b0 : (a0.toList == ([107, 101, 121, 115] : List UInt8)) = true := beq_iff_eq.mpr c10
                  have c10b1 : (a0.toList != ([107, 101, 121, 115] : List UInt8)) = false := bne_eq_false_iff_eq.mpr c10
                  clear c10
                  obtain rfl := Option.some.inj H
                  go_wp2
                  go_ret
                  exact ⟨by first | rfl | (simp; done) | (simp [*]; done), by repeat (first | exact Drawn0.refl _ | apply Drawn0.step)⟩
                · rw [if_neg c10] at H
                  have c10b0 : (a0.toList == ([107, 101, 121, 115] : List UInt8)) = false := beq_eq_false_iff_ne.mpr c10
                  have c10b1 : (a0.toList != ([107, 101, 121, 115] : List UInt8)) = true := bne_iff_ne.mpr c10
                  by_cases c11 : a0.toList = ([115, 105, 122, 101] : List UInt8)
                  · rw [if_pos c11] at H
                    have c11b0 : (a0.toList == ([115, 105, 122, 101] : List UInt8)) = true := beq_iff_eq.mpr c11
                    have c11b1 : (a0.toList != ([115, 105, 122, 101] : List UInt8)) = false := bne_eq_false_iff_eq.mpr c11
                    clear c11
                    obtain rfl := Option.some.inj H
                    go_wp2
                    go_ret
                    exact ⟨by first | rfl | (simp; done) | (simp [*]; done), by repeat (first | exact Drawn0.refl _ | apply Drawn0.step)⟩
                  · rw [if_neg c11] at H
                    have c11b0 : (a0.toList == ([115, 105, 122, 101] : List UInt8)) = false := beq_eq_false_iff_ne.mpr c11
                    have c11b1 : (a0.toList != ([115, 105, 122, 101] : List UInt8)) = true := bne_iff_ne.mpr c11
                    by_cases c12 : a0.toList = ([116, 105, 99, 107] : List UInt8)
                    · rw [if_pos c12] at H
                      have c12b0 : (a0.toList == ([116, 105, 99, 107] : List UInt8)) = true := beq_iff_eq.mpr c12
                      have c12b1 : (a0.toList != ([116, 105, 99, 107] : List UInt8)) = false := bne_eq_false_iff_eq.mpr c12
                      clear c12
                      obtain rfl := Option.some.inj H
                      go_wp2
                      go_ret
                      exact ⟨by first | rfl | (simp; done) | (simp [*]; done), by repeat (first | exact Drawn0.refl _ | apply Drawn0.step)⟩
                    · rw [if_neg c12] at H
                      have c12b0 : (a0.toList == ([116, 105, 99, 107] : List UInt8)) = false := beq_eq_false_iff_ne.mpr c12
                      have c12b1 : (a0.toList != ([116, 105, 99, 107] : List UInt8)) = true := bne_iff_ne.mpr c12
                      by_cases c13 : a0.toList = ([100, 101, 108, 105, 118, 101, 114] : List UInt8)
                      · rw [if_pos c13] at H
                        have c13b0 : (a0.toList == ([100, 101, 108, 105, 118, 101, 114] : List UInt8)) = true := beq_iff_eq.mpr c13
                        have c13b1 : (a0.toList != ([100, 101, 108, 105, 118, 101, 114] : List UInt8)) = false := bne_eq_false_iff_eq.mpr c13
                        clear c13
                        obtain rfl := Option.some.inj H
                        go_wp2
                        go_ret
                        exact ⟨by first | rfl | (simp; done) | (simp [*]; done), by repeat (first | exact Drawn0.refl _ | apply Drawn0.step)⟩
                      · rw [if_neg c13] at H
                        have c13b0 : (a0.toList == ([100, 101, 108, 105, 118, 101, 114] : List UInt8)) = false := beq_eq_false_iff_ne.mpr c13
                        have c13b1 : (a0.toList != ([100, 101, 108, 105, 118, 101, 114] : List UInt8)) = true := bne_iff_ne.mpr c13
                        by_cases c14 : a0.toList = ([115, 112, 111, 105, 108] : List UInt8)
                        · rw [if_pos c14] at H
                          have c14b0 : (a0.toList == ([115, 112, 111, 105, 108] : List UInt8)) = true := beq_iff_eq.mpr c14
                          have c14b1 : (a0.toList != ([115, 112, 111, 105, 108] : List UInt8)) = false := bne_eq_false_iff_eq.mpr c14
                          clear c14
                          obtain rfl := Option.some.inj H
                          go_wp2
                          go_ret
                          exact ⟨by first | rfl | (simp; done) | (simp [*]; done), by repeat (first | exact Drawn0.refl _ | apply Drawn0.step)⟩
                        · rw [if_neg c14] at H
                          have c14b0 : (a0.toList == ([115, 112, 111, 105, 108] : List UInt8)) = false := beq_eq_false_iff_ne.mpr c14
                          have c14b1 : (a0.toList != ([115, 112, 111, 105, 108] : List UInt8)) = true := bne_iff_ne.mpr c14
                          by_cases c15 : a0.toList = ([109, 111, 118, 101] : List UInt8)
                          · rw [if_pos c15] at H
                            have c15b0 : (a0.toList == ([109, 111, 118, 101] : List UInt8)) = true := beq_iff_eq.mpr c15
                            have c15b1 : (a0.toList != ([109, 111, 118, 101] : List UInt8)) = false := bne_eq_false_iff_eq.mpr c15
                            clear c15
                            obtain rfl := Option.some.inj H
                            go_wp2
                            go_ret
                            exact ⟨by first | rfl | (simp; done) | (simp [*]; done), by repeat (first | exact Drawn0.refl _ | apply Drawn0.step)⟩
                          · rw [if_neg c15] at H
                            have c15b0 : (a0.toList == ([109, 111, 118, 101] : List UInt8)) = false := beq_eq_false_iff_ne.mpr c15
                            have c15b1 : (a0.toList != ([109, 111, 118, 101] : List UInt8)) = true := bne_iff_ne.mpr c15
                            by_cases c16 : a0.toList = ([102, 111, 114, 103, 101] : List UInt8)
                            · rw [if_pos c16] at H
                              have c16b0 : (a0.toList == ([102, 111, 114, 103, 101] : List UInt8)) = true := beq_iff_eq.mpr c16
                              have c16b1 : (a0.toList != ([102, 111, 114, 103, 101] : List UInt8)) = false := bne_eq_false_iff_eq.mpr c16
                              clear c16
                              obtain rfl := Option.some.inj H
                              go_wp2
                              go_ret
                              exact ⟨by first | rfl | (simp; done) | (simp [*]; done), by repeat (first | exact Drawn0.refl _ | apply Drawn0.step)⟩
                            · rw [if_neg c16] at H
                              have c16b0 : (a0.toList == ([102, 111, 114, 103, 101] : List UInt8)) = false := beq_eq_false_iff_ne.mpr c16
                              have c16b1 : (a0.toList != ([102, 111, 114, 103, 101] : List UInt8)) = true := bne_iff_ne.mpr c16
                              obtain rfl := Option.some.inj H
                              go_wp2
                              go_ret
                              exact ⟨by first | rfl | (simp; done) | (simp [*]; done), by repeat (first | exact Drawn0.refl _ | apply Drawn0.step)⟩

/-! ### script_plain -/
def script_plain.f (a0 : Int) : Option (Bool) := if a0 ≥ 32 then (if a0 ≤ 126 then (if a0 = 34 then (some false) else (some (a0 != 92))) else (some false)) else (some false)
set_option maxHeartbeats 8000000 in
set_option maxRecDepth 100000 in
theorem script_plain.calls (a0 : Int) (r : Bool) (w : World) (h : script_plain.f a0 = some r) :
    Calls Tryd.prog 73 #[.int .u8 a0] w fun e w' => e = .returned (.bool r) ∧ Drawn0 w w' := by
  have H : (if a0 ≥ 32 then (if a0 ≤ 126 then (if a0 = 34 then (some false) else (some (a0 != 92))) else (some false)) else (some false)) = some r := h
  clear h
  by_cases c2 : a0 ≥ 32
  · rw [if_pos c2] at H
    have c2b0 : decide (32 ≤ a0) = true := decide_eq_true c2
    clear c2
    by_cases c3 : a0 ≤ 126
    · rw [if_pos c3] at H
      have c3b0 : decide (a0 ≤ 126) = true := decide_eq_true c3
      clear c3
      by_cases c4 : a0 = 34
      · rw [if_pos c4] at H
        have c4b0 : (a0 == 34) = true := beq_iff_eq.mpr c4
        have c4b1 : (a0 != 34) = false := bne_eq_false_iff_eq.mpr c4
        clear c4
        obtain rfl := Option.some.inj H
        go_enter Tryd.func73, Tryd.ntmps73
        go_wp2
        go_ret
        exact ⟨by first | rfl | (simp; done) | (simp [*]; done), by repeat (first | exact Drawn0.refl _ | apply Drawn0.step)⟩
      · rw [if_neg c4] at H
        have c4b0 : (a0 == 34) = false := beq_eq_false_iff_ne.mpr c4
        have c4b1 : (a0 != 34) = true := bne_iff_ne.mpr c4
        obtain rfl := Option.some.inj H
        go_enter Tryd.func73, Tryd.ntmps73
        go_wp2
        go_ret
        exact ⟨by first | rfl | (simp; done) | (simp [*]; done), by repeat (first | exact Drawn0.refl _ | apply Drawn0.step)⟩
    · rw [if_neg c3] at H
      have c3b0 : decide (a0 ≤ 126) = false := decide_eq_false c3
      clear c3
      obtain rfl := Option.some.inj H
      go_enter Tryd.func73, Tryd.ntmps73
      go_wp2
      go_ret
      exact ⟨by first | rfl | (simp; done) | (simp [*]; done), by repeat (first | exact Drawn0.refl _ | apply Drawn0.step)⟩
  · rw [if_neg c2] at H
    have c2b0 : decide (32 ≤ a0) = false := decide_eq_false c2
    clear c2
    obtain rfl := Option.some.inj H
    go_enter Tryd.func73, Tryd.ntmps73
    go_wp2
    go_ret
    exact ⟨by first | rfl | (simp; done) | (simp [*]; done), by repeat (first | exact Drawn0.refl _ | apply Drawn0.step)⟩

/-! ### script_bounds -/
def script_bounds.f (a0 : Int) : Option (Int × Int) := if a0 = 73 then (some (1, 8)) else (if a0 = 87 then (some (1, 1000)) else (if a0 = 78 then (some (1, 10000)) else (if a0 = 80 then (some (0, 1073741824)) else (if a0 = 88 then (some (1, 255)) else (some (0, 65535))))))
set_option maxHeartbeats 8000000 in
set_option maxRecDepth 100000 in
theorem script_bounds.calls (a0 : Int) (r1 : Int) (r2 : Int) (w : World) (h : script_bounds.f a0 = some (r1, r2)) :
    Calls Tryd.prog 83 #[.int .u8 a0] w fun e w' => e = .returned (.tuple #[.int .i64 r1, .int .i64 r2]) ∧ Drawn0 w w' := by
  have H : (if a0 = 73 then (some (1, 8)) else (if a0 = 87 then (some (1, 1000)) else (if a0 = 78 then (some (1, 10000)) else (if a0 = 80 then (some (0, 1073741824)) else (if a0 = 88 then (some (1, 255)) else (some (0, 65535))))))) = some (r1, r2) := h
  clear h
  by_cases c2 : a0 = 73
  · rw [if_pos c2] at H
    have c2b0 : (a0 == 73) = true := beq_iff_eq.mpr c2
    have c2b1 : (a0 != 73) = false := bne_eq_false_iff_eq.mpr c2
    clear c2
    simp only [Option.some.injEq, Prod.mk.injEq] at H
    obtain ⟨rfl, rfl⟩ := H
    go_enter Tryd.func83, Tryd.ntmps83
    go_wp2
    go_ret2
    exact ⟨by first | rfl | (simp; done) | (simp [*]; done), by repeat (first | exact Drawn0.refl _ | apply Drawn0.step)⟩
  · rw [if_neg c2] at H
    have c2b0 : (a0 == 73) = false := beq_eq_false_iff_ne.mpr c2
    have c2b1 : (a0 != 73) = true := bne_iff_ne.mpr c2
    by_cases c3 : a0 = 87
    · rw [if_pos c3] at H
      have c3b0 : (a0 == 87) = true := beq_iff_eq.mpr c3
      have c3b1 : (a0 != 87) = false := bne_eq_false_iff_eq.mpr c3
      clear c3
      simp only [Option.some.injEq, Prod.mk.injEq] at H
      obtain ⟨rfl, rfl⟩ := H
      go_enter Tryd.func83, Tryd.ntmps83
      go_wp2
      go_ret2
      exact ⟨by first | rfl | (simp; done) | (simp [*]; done), by repeat (first | exact Drawn0.refl _ | apply Drawn0.step)⟩
    · rw [if_neg c3] at H
      have c3b0 : (a0 == 87) = false := beq_eq_false_iff_ne.mpr c3
      have c3b1 : (a0 != 87) = true := bne_iff_ne.mpr c3
      by_cases c4 : a0 = 78
      · rw [if_pos c4] at H
        have c4b0 : (a0 == 78) = true := beq_iff_eq.mpr c4
        have c4b1 : (a0 != 78) = false := bne_eq_false_iff_eq.mpr c4
        clear c4
        simp only [Option.some.injEq, Prod.mk.injEq] at H
        obtain ⟨rfl, rfl⟩ := H
        go_enter Tryd.func83, Tryd.ntmps83
        go_wp2
        go_ret2
        exact ⟨by first | rfl | (simp; done) | (simp [*]; done), by repeat (first | exact Drawn0.refl _ | apply Drawn0.step)⟩
      · rw [if_neg c4] at H
        have c4b0 : (a0 == 78) = false := beq_eq_false_iff_ne.mpr c4
        have c4b1 : (a0 != 78) = true := bne_iff_ne.mpr c4
        by_cases c5 : a0 = 80
        · rw [if_pos c5] at H
          have c5b0 : (a0 == 80) = true := beq_iff_eq.mpr c5
          have c5b1 : (a0 != 80) = false := bne_eq_false_iff_eq.mpr c5
          clear c5
          simp only [Option.some.injEq, Prod.mk.injEq] at H
          obtain ⟨rfl, rfl⟩ := H
          go_enter Tryd.func83, Tryd.ntmps83
          go_wp2
          go_ret2
          exact ⟨by first | rfl | (simp; done) | (simp [*]; done), by repeat (first | exact Drawn0.refl _ | apply Drawn0.step)⟩
        · rw [if_neg c5] at H
          have c5b0 : (a0 == 80) = false := beq_eq_false_iff_ne.mpr c5
          have c5b1 : (a0 != 80) = true := bne_iff_ne.mpr c5
          by_cases c6 : a0 = 88
          · rw [if_pos c6] at H
            have c6b0 : (a0 == 88) = true := beq_iff_eq.mpr c6
            have c6b1 : (a0 != 88) = false := bne_eq_false_iff_eq.mpr c6
            clear c6
            simp only [Option.some.injEq, Prod.mk.injEq] at H
            obtain ⟨rfl, rfl⟩ := H
            go_enter Tryd.func83, Tryd.ntmps83
            go_wp2
            go_ret2
            exact ⟨by first | rfl | (simp; done) | (simp [*]; done), by repeat (first | exact Drawn0.refl _ | apply Drawn0.step)⟩
          · rw [if_neg c6] at H
            have c6b0 : (a0 == 88) = false := beq_eq_false_iff_ne.mpr c6
            have c6b1 : (a0 != 88) = true := bne_iff_ne.mpr c6
            simp only [Option.some.injEq, Prod.mk.injEq] at H
            obtain ⟨rfl, rfl⟩ := H
            go_enter Tryd.func83, Tryd.ntmps83
            go_wp2
            go_ret2
            exact ⟨by first | rfl | (simp; done) | (simp [*]; done), by repeat (first | exact Drawn0.refl _ | apply Drawn0.step)⟩

/-! ### orielref12_Digits -/
def orielref12_Digits.l0 : Nat → Int → ByteArray → Option (ByteArray)
  | 0, _, _ => none
  | k + 1, x0, x3 => if x0 > 9 then ((some (([(wrap64 (48 + (Int.tmod x0 10))) % 256] : List Int) : List Int)).bind fun y147 => (if (strOfNums y147).size + x3.size ≤ 9223372036854775807 then (orielref12_Digits.l0 k (wrap64 (Int.tdiv x0 10)) ((strOfNums y147) ++ x3)) else (none))) else ((some (([(wrap64 (48 + x0)) % 256] : List Int) : List Int)).bind fun y150 => (if (strOfNums y150).size + x3.size ≤ 9223372036854775807 then (some ((strOfNums y150) ++ x3)) else (none)))
def orielref12_Digits.f (k : Nat) (a0 : Int) : Option (ByteArray) := orielref12_Digits.l0 k a0 (⟨#[]⟩ : ByteArray)
theorem orielref12_Digits.mono_l : ∀ k, (∀ y0 y1, LeO (orielref12_Digits.l0 k y0 y1) (orielref12_Digits.l0 (k + 1) y0 y1))
  | 0 => fun _ _ r h => by simp [orielref12_Digits.l0] at h
  | k + 1 => by
    have ih0 := orielref12_Digits.mono_l k
    · intro y0 y1
      unfold orielref12_Digits.l0
      repeat' first
      | (with_reducible exact ih0 _ _)
      | (with_reducible exact LeO.refl _)
      | (with_reducible exact LeO.none _)
      | (with_reducible refine LeO.ite ?_ ?_)
      | (with_reducible refine LeO.bind ?_ (fun _ => ?_))
      | exact ih0 _ _
      | exact LeO.none _
      | refine LeO.ite ?_ ?_
      | refine LeO.bind ?_ (fun _ => ?_)
theorem orielref12_Digits.mono : ∀ a0 k, LeO (orielref12_Digits.f k a0) (orielref12_Digits.f (k + 1) a0) := by
  intro a0 k
  have ih0 := orielref12_Digits.mono_l k
  unfold orielref12_Digits.f
  repeat' first
      | (with_reducible exact ih0 _ _)
      | (with_reducible exact LeO.refl _)
      | (with_reducible exact LeO.none _)
      | (with_reducible refine LeO.ite ?_ ?_)
      | (with_reducible refine LeO.bind ?_ (fun _ => ?_))
      | exact ih0 _ _
      | exact LeO.none _
      | refine LeO.ite ?_ ?_
      | refine LeO.bind ?_ (fun _ => ?_)
set_option maxHeartbeats 8000000 in
set_option maxRecDepth 100000 in
theorem orielref12_Digits.calls (k : Nat) (a0 : Int) (r : ByteArray) (w : World) (h : orielref12_Digits.f k a0 = some r) :
    Calls Tryd.prog 19 #[.int .i64 a0] w fun e w' => e = .returned (.string r) ∧ Below w.heap.size w w' := by
  have HB := Aside0.mk (Below.refl w.heap.size w)
  have H : (orielref12_Digits.l0 k a0 (⟨#[]⟩ : ByteArray)) = some r := h
  clear h
  have H' := Aside0.mk H
  clear H
  go_enter Tryd.func19, Tryd.ntmps19
  go_wp2
  go_loopg [0, 3] k (fun kq v0 v3 w' => ∃ (x0_1 : Int) (x3_1 : ByteArray), v0 = .int .i64 x0_1 ∧ v3 = .string x3_1 ∧ Aside0 (orielref12_Digits.l0 kq x0_1 x3_1 = some r) ∧ Aside0 (kq ≤ k) ∧ Aside0 (Below w.heap.size w w'))
  case atStart => exact ⟨(a0), ((⟨#[]⟩ : ByteArray)), (by first | rfl | (simp; done) | (simp [*]; done)), (by first | rfl | (simp; done) | (simp [*]; done)), H', ⟨Nat.le_refl _⟩, ⟨by repeat (first | (with_reducible first | exact HB.out | apply below_alloc | apply pw_below_drewN | apply below_drew1) | exact HB.out)⟩⟩
  case round =>
    clear H'
    try clear c1
    obtain ⟨x0_1, x3_1, rfl, rfl, HA, HK1, HB⟩ := hrel
    cases gk with
    | zero => exact absurd HA.out (by simp [orielref12_Digits.l0])
    | succ k1 =>
      have H := HA.out
      clear HA
      simp only [orielref12_Digits.l0] at H
      by_cases c2 : x0_1 > 9
      · rw [if_pos c2] at H
        have c2b0 : decide (9 < x0_1) = true := decide_eq_true c2
        clear c2
        obtain ⟨y147, hy147⟩ : ∃ y_ : List Int, y_ = (([(wrap64 (48 + (Int.tmod x0_1 10))) % 256] : List Int)) := ⟨_, rfl⟩
        replace H : (if (strOfNums y147).size + x3_1.size ≤ 9223372036854775807 then (orielref12_Digits.l0 k1 (wrap64 (Int.tdiv x0_1 10)) ((strOfNums y147) ++ x3_1)) else (none)) = some r := by first | (rw [hy147]; with_reducible exact H) | (have H2_ := (Option.bind_some _ _).symm.trans H; rw [hy147]; with_reducible exact H2_) | (have H2_ := (Option.bind_some _ _).symm.trans H; with_reducible exact H2_) | with_reducible exact H | (rw [hy147]; exact H) | exact H
        have Ny147 := Aside0.mk hy147
        clear hy147
        by_cases c3 : (strOfNums y147).size + x3_1.size ≤ 9223372036854775807
        · rw [if_pos c3] at H
          have c3b0 := eq_true c3
          have c3b1 : decide ((strOfNums y147).size + x3_1.size ≤ 9223372036854775807) = true := decide_eq_true c3
          try have c3b2 : (9223372036854775807 < (strOfNums y147).size + x3_1.size) = False := eq_false (Nat.not_lt.2 c3)
          have H' := Aside0.mk H
          clear H
          go_wp2_with (first | ((with_reducible refine gate_dst (N := 10) rfl ?_); refine Kd.R_lit (Kd.int .u8) _ 5 ?hg (N := 10) ?hd (xs := ([(wrap64 (48 + (Int.tmod x0_1 10))) % 256] : List Int)) (inner := [.int .u8 ((wrap64 (48 + (Int.tmod x0_1 10))) % 256)]) (ok := fun _ => True) (okp := fun _ => True) ?hr ?hp (fun _ hk => hk) trivial (Below.refl _ _) (Nat.le_refl _) (by simp) ?_; (case hd => rfl); (case hg => rfl); (case hr => first | (go_simp; done) | (go_simp; rfl)); (case hp => exact (Reps.one (show Kd.M (Kd.int .u8) _ _ _ ((wrap64 (48 + (Int.tmod x0_1 10))) % 256) [.int .u8 ((wrap64 (48 + (Int.tmod x0_1 10))) % 256)] from rfl) (Reps.none _ _))); intro v148 w4 ho5 hb hg_ hnew_; clear hg_ hnew_; (first | rw [← Ny147.out] at ho5 | (simp only [Int.reduceToNat] at ho5; rw [← Ny147.out] at ho5)); have n0_ := Aside0.mk (Kd.R_lower ho5 (below_size (by repeat (first | (with_reducible first | exact HB.out | apply below_alloc | apply pw_below_drewN | apply below_drew1) | exact HB.out)))); have n1_ := Aside0.mk (below_step (by repeat (first | (with_reducible first | exact HB.out | apply below_alloc | apply pw_below_drewN | apply below_drew1) | exact HB.out)) hb); clear HB; have HO149 := n0_; have HB := n1_; clear n0_ n1_; clear hb ho5; have hcv6 := own_string (P := Tryd.prog) Tryd.underlying50 Tryd.underlying5 Tryd.underlying9 (Kd.own_of_R HO149.out)))
          go_roundg k1
          case measure => have := HK1.out; omega
          case rel => exact ⟨(wrap64 (Int.tdiv x0_1 10)), ((strOfNums y147) ++ x3_1), (by first | rfl | (simp; done) | (simp [*]; done)), (by first | rfl | (simp; done) | (simp [*]; done)), H', ⟨by have := HK1.out; omega⟩, ⟨by repeat (first | (with_reducible first | exact HB.out | apply below_alloc | apply pw_below_drewN | apply below_drew1) | exact HB.out)⟩⟩
        · rw [if_neg c3] at H
          exact absurd H (by simp)
      · rw [if_neg c2] at H
        have c2b0 : decide (9 < x0_1) = false := decide_eq_false c2
        clear c2
        obtain ⟨y150, hy150⟩ : ∃ y_ : List Int, y_ = (([(wrap64 (48 + x0_1)) % 256] : List Int)) := ⟨_, rfl⟩
        replace H : (if (strOfNums y150).size + x3_1.size ≤ 9223372036854775807 then (some ((strOfNums y150) ++ x3_1)) else (none)) = some r := by first | (rw [hy150]; with_reducible exact H) | (have H2_ := (Option.bind_some _ _).symm.trans H; rw [hy150]; with_reducible exact H2_) | (have H2_ := (Option.bind_some _ _).symm.trans H; with_reducible exact H2_) | with_reducible exact H | (rw [hy150]; exact H) | exact H
        have Ny150 := Aside0.mk hy150
        clear hy150
        by_cases c7 : (strOfNums y150).size + x3_1.size ≤ 9223372036854775807
        · rw [if_pos c7] at H
          have c7b0 := eq_true c7
          have c7b1 : decide ((strOfNums y150).size + x3_1.size ≤ 9223372036854775807) = true := decide_eq_true c7
          try have c7b2 : (9223372036854775807 < (strOfNums y150).size + x3_1.size) = False := eq_false (Nat.not_lt.2 c7)
          obtain rfl := Option.some.inj H
          go_wp2_with (first | ((with_reducible refine gate_dst (N := 19) rfl ?_); refine Kd.R_lit (Kd.int .u8) _ 5 ?hg (N := 19) ?hd (xs := ([(wrap64 (48 + x0_1)) % 256] : List Int)) (inner := [.int .u8 ((wrap64 (48 + x0_1)) % 256)]) (ok := fun _ => True) (okp := fun _ => True) ?hr ?hp (fun _ hk => hk) trivial (Below.refl _ _) (Nat.le_refl _) (by simp) ?_; (case hd => rfl); (case hg => rfl); (case hr => first | (go_simp; done) | (go_simp; rfl)); (case hp => exact (Reps.one (show Kd.M (Kd.int .u8) _ _ _ ((wrap64 (48 + x0_1)) % 256) [.int .u8 ((wrap64 (48 + x0_1)) % 256)] from rfl) (Reps.none _ _))); intro v151 w8 ho9 hb hg_ hnew_; clear hg_ hnew_; (first | rw [← Ny150.out] at ho9 | (simp only [Int.reduceToNat] at ho9; rw [← Ny150.out] at ho9)); have n0_ := Aside0.mk (Kd.R_lower ho9 (below_size (by repeat (first | (with_reducible first | exact HB.out | apply below_alloc | apply pw_below_drewN | apply below_drew1) | exact HB.out)))); have n1_ := Aside0.mk (below_step (by repeat (first | (with_reducible first | exact HB.out | apply below_alloc | apply pw_below_drewN | apply below_drew1) | exact HB.out)) hb); clear HB; have HO152 := n0_; have HB := n1_; clear n0_ n1_; clear hb ho9; have hcv10 := own_string (P := Tryd.prog) Tryd.underlying50 Tryd.underlying5 Tryd.underlying9 (Kd.own_of_R HO152.out)))
          go_ret
          exact ⟨by first | rfl | (simp [errW_none, errW_some] <;> rfl) | (simp [*, errW_none, errW_some] <;> rfl), by repeat (first | (with_reducible first | exact HB.out | apply below_alloc | apply pw_below_drewN | apply below_drew1) | exact HB.out)⟩
        · rw [if_neg c7] at H
          exact absurd H (by simp)

/-! ### orielref34_plain -/
def orielref34_plain.f (a0 : Int) : Option (Bool) := if a0 ≥ 32 then (if a0 < 127 then (if a0 = 34 then (some false) else (some (a0 != 92))) else (some false)) else (some false)
set_option maxHeartbeats 8000000 in
set_option maxRecDepth 100000 in
theorem orielref34_plain.calls (a0 : Int) (r : Bool) (w : World) (h : orielref34_plain.f a0 = some r) :
    Calls Tryd.prog 60 #[.int .u8 a0] w fun e w' => e = .returned (.bool r) ∧ Drawn0 w w' := by
  have H : (if a0 ≥ 32 then (if a0 < 127 then (if a0 = 34 then (some false) else (some (a0 != 92))) else (some false)) else (some false)) = some r := h
  clear h
  by_cases c2 : a0 ≥ 32
  · rw [if_pos c2] at H
    have c2b0 : decide (32 ≤ a0) = true := decide_eq_true c2
    clear c2
    by_cases c3 : a0 < 127
    · rw [if_pos c3] at H
      have c3b0 : decide (a0 < 127) = true := decide_eq_true c3
      clear c3
      by_cases c4 : a0 = 34
      · rw [if_pos c4] at H
        have c4b0 : (a0 == 34) = true := beq_iff_eq.mpr c4
        have c4b1 : (a0 != 34) = false := bne_eq_false_iff_eq.mpr c4
        clear c4
        obtain rfl := Option.some.inj H
        go_enter Tryd.func60, Tryd.ntmps60
        go_wp2
        go_ret
        exact ⟨by first | rfl | (simp; done) | (simp [*]; done), by repeat (first | exact Drawn0.refl _ | apply Drawn0.step)⟩
      · rw [if_neg c4] at H
        have c4b0 : (a0 == 34) = false := beq_eq_false_iff_ne.mpr c4
        have c4b1 : (a0 != 34) = true := bne_iff_ne.mpr c4
        obtain rfl := Option.some.inj H
        go_enter Tryd.func60, Tryd.ntmps60
        go_wp2
        go_ret
        exact ⟨by first | rfl | (simp; done) | (simp [*]; done), by repeat (first | exact Drawn0.refl _ | apply Drawn0.step)⟩
    · rw [if_neg c3] at H
      have c3b0 : decide (a0 < 127) = false := decide_eq_false c3
      clear c3
      obtain rfl := Option.some.inj H
      go_enter Tryd.func60, Tryd.ntmps60
      go_wp2
      go_ret
      exact ⟨by first | rfl | (simp; done) | (simp [*]; done), by repeat (first | exact Drawn0.refl _ | apply Drawn0.step)⟩
  · rw [if_neg c2] at H
    have c2b0 : decide (32 ≤ a0) = false := decide_eq_false c2
    clear c2
    obtain rfl := Option.some.inj H
    go_enter Tryd.func60, Tryd.ntmps60
    go_wp2
    go_ret
    exact ⟨by first | rfl | (simp; done) | (simp [*]; done), by repeat (first | exact Drawn0.refl _ | apply Drawn0.step)⟩

/-! ### orielref34_hex -/
def orielref34_hex.f (a0 : Int) : Option (Int) := if a0 < 10 then (some ((wrap64 (48 + a0)) % 256)) else (some ((wrap64 ((wrap64 (97 + a0)) - 10)) % 256))
set_option maxHeartbeats 8000000 in
set_option maxRecDepth 100000 in
theorem orielref34_hex.calls (a0 : Int) (r : Int) (w : World) (h : orielref34_hex.f a0 = some r) :
    Calls Tryd.prog 61 #[.int .i64 a0] w fun e w' => e = .returned (.int .u8 r) ∧ Drawn0 w w' := by
  have H : (if a0 < 10 then (some ((wrap64 (48 + a0)) % 256)) else (some ((wrap64 ((wrap64 (97 + a0)) - 10)) % 256))) = some r := h
  clear h
  by_cases c2 : a0 < 10
  · rw [if_pos c2] at H
    have c2b0 : decide (a0 < 10) = true := decide_eq_true c2
    clear c2
    obtain rfl := Option.some.inj H
    go_enter Tryd.func61, Tryd.ntmps61
    go_wp2
    go_ret
    exact ⟨by first | rfl | (simp; done) | (simp [*]; done), by repeat (first | exact Drawn0.refl _ | apply Drawn0.step)⟩
  · rw [if_neg c2] at H
    have c2b0 : decide (a0 < 10) = false := decide_eq_false c2
    clear c2
    obtain rfl := Option.some.inj H
    go_enter Tryd.func61, Tryd.ntmps61
    go_wp2
    go_ret
    exact ⟨by first | rfl | (simp; done) | (simp [*]; done), by repeat (first | exact Drawn0.refl _ | apply Drawn0.step)⟩

end Go.Proofs.YtjpkphmihkbfeaaDoor.Q
