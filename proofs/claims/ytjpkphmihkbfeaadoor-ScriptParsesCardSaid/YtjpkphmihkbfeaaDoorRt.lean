/- orielref34.Parse walked: it answers what the program's Parse does. -/
import Derived.Test.YtjpkphmihkbfeaaDoorRv
import Derived.Test.YtjpkphmihkbfeaaDoorRf
namespace Go.Proofs.YtjpkphmihkbfeaaDoor.S34
open Go.RowKit Go.Proofs.YtjpkphmihkbfeaaDoorW.PrintWords Go.Proofs.YtjpkphmihkbfeaaDoorW.PrintLast Go.Proofs.YtjpkphmihkbfeaaDoorW.PrintMore Go.Proofs.YtjpkphmihkbfeaaDoor.Q
set_option maxRecDepth 100000
set_option linter.unusedSimpArgs false
def RParseRes (r : Except (Int × Er) (List S54)) (w : World) (e : Ending) (w' : World) : Prop :=
  match r with
  | .ok l => ∃ v, e = .returned (.tuple #[v, .int .i64 0, .int .i64 0]) ∧ Kd.R k54 54 w' w.heap.size (fun _ => True) v l ∧ Below w.heap.size w w'
  | .error (n, x) => e = .returned (.tuple #[.slice none 0 0, .int .i64 n, .int .i64 x.code]) ∧ Below w.heap.size w w'
/-- So many bytes are read, and those events are in them. -/
def RPAt (s : ByteArray) (fr : Nat) (es : List S54) : Prop :=
  parseAll s = match parseN (s.extract fr s.size) ((es.length : Int) + 1) with | .error x => .error x | .ok l => .ok (es ++ l)
theorem ext_all (s : ByteArray) : s.extract 0 s.size = s := by
  apply ba_eq
  rw [ext_list]
  simp only [List.drop_zero]
  rw [List.take_of_length_le (by rw [Array.length_toList]; exact Nat.le_refl _)]
theorem RPAt.zero (s : ByteArray) : RPAt s 0 [] := by
  unfold RPAt
  rw [ext_all, parseAll_N]
  show parseN s 1 = match parseN s 1 with | .error x => .error x | .ok l => .ok ([] ++ l)
  cases parseN s 1 <;> rfl
theorem RPAt.end_ {s : ByteArray} {fr : Nat} {es : List S54} (h : RPAt s fr es) (hf : s.size ≤ fr) : parseAll s = .ok es := by
  unfold RPAt at h
  have : (s.extract fr s.size).size = 0 := by rw [ByteArray.size_extract]; omega
  rw [h, parseN_nil this]
  simp
theorem no10_range {s : ByteArray} {fr e : Nat} (he : e ≤ s.size) (h : ∀ j : Nat, fr ≤ j → j < e → bt s j ≠ 10) : (10 : UInt8) ∉ (s.extract fr e).data.toList := by
  rw [ext_list]
  intro hm
  obtain ⟨j, hj, hv⟩ := List.getElem_of_mem hm
  rw [List.length_drop, List.length_take] at hj
  have hs : s.data.toList.length = s.size := Array.length_toList
  rw [List.getElem_drop, List.getElem_take] at hv
  have hb := bt_getElem s (fr + j) (by omega)
  rw [hb] at hv
  have hr := bt_range s ((fr + j : Nat) : Int)
  have := congrArg UInt8.toNat hv
  rw [UInt8.toNat_ofNat'] at this
  rw [show (10 : UInt8).toNat = 10 from rfl] at this
  exact h (fr + j) (by omega) (by omega) (by omega)
theorem ext_split {s : ByteArray} {fr e : Nat} (h1 : fr ≤ e) (h2 : e < s.size) (h3 : bt s e = 10) : s.extract fr s.size = s.extract fr e ++ ⟨#[10]⟩ ++ s.extract (e + 1) s.size := by
  apply ba_eq
  have hs : s.data.toList.length = s.size := Array.length_toList
  have hb := bt_getElem s e h2
  rw [h3] at hb
  simp only [ByteArray.data_append, Array.toList_append]
  rw [ext_list, ext_list, ext_list, List.take_of_length_le (i := s.size) (by omega)]
  have h4 : s.data.toList.drop e = 10 :: s.data.toList.drop (e + 1) := by
    rw [List.drop_eq_getElem_cons (by omega), hb]; rfl
  have h5 : s.data.toList = s.data.toList.take e ++ 10 :: s.data.toList.drop (e + 1) := by
    rw [← h4, List.take_append_drop]
  conv => lhs; rw [h5]
  rw [List.drop_append_of_le_length (by rw [List.length_take]; omega)]
  simp
theorem cut_hit {s : ByteArray} {fr e : Nat} (h1 : fr ≤ e) (h2 : e < s.size) (h3 : bt s e = 10) (h : ∀ j : Nat, fr ≤ j → j < e → bt s j ≠ 10) :
    cutAt (s.extract fr s.size) 10 = (s.extract fr e, s.extract (e + 1) s.size, true) := by
  rw [ext_split h1 h2 h3]
  exact cut_mk (no10_range (by omega) h)
theorem cut_end {s : ByteArray} {fr : Nat} (h : ∀ j : Nat, fr ≤ j → j < s.size → bt s j ≠ 10) : ∃ R, cutAt (s.extract fr s.size) 10 = (s.extract fr s.size, R, false) := by
  have hn := no10_range (Nat.le_refl s.size) h
  rcases hc : cutAt (s.extract fr s.size) 10 with ⟨F, R, m⟩
  cases m with
  | false => exact ⟨R, by rw [(cut_false hc).1]⟩
  | true => exact absurd (by rw [(cut_true hc).1]; simp) hn
theorem ext_size (s : ByteArray) (i j : Nat) (h : j ≤ s.size) : (s.extract i j).size = j - i := by
  rw [ByteArray.size_extract, Nat.min_eq_left h]
/-- What a line's end says. -/
def RCut (s : ByteArray) (fr : Nat) (F : ByteArray) : Prop := ∃ R m, cutAt (s.extract fr s.size) 10 = (F, R, m) ∧ (s.extract fr s.size).size ≠ 0
theorem RPAt.long {s F : ByteArray} {fr : Nat} {es : List S54} (h : RPAt s fr es) (hc : RCut s fr F) (hF : 3100 < F.size) : parseAll s = .error ((es.length : Int) + 1, .long) := by
  obtain ⟨R, m, hc, h0⟩ := hc
  unfold RPAt at h
  cases m with
  | true => rw [h, parseN_cut hc, if_pos hF]
  | false => rw [h, parseN_open h0 hc, if_pos hF]
theorem RPAt.many {s F : ByteArray} {fr : Nat} {es : List S54} (h : RPAt s fr es) (hc : RCut s fr F) (hF : F.size ≤ 3100) (hn : 1000 < es.length + 1) : parseAll s = .error ((es.length : Int) + 1, .long) := by
  obtain ⟨R, m, hc, h0⟩ := hc
  unfold RPAt at h
  cases m with
  | true => rw [h, parseN_cut hc, if_neg (by omega), if_pos (by omega)]
  | false => rw [h, parseN_open h0 hc, if_neg (by omega), if_pos (by omega)]
theorem RPAt.open_ {s F R : ByteArray} {fr : Nat} {es : List S54} (h : RPAt s fr es) (hc : cutAt (s.extract fr s.size) 10 = (F, R, false)) (h0 : (s.extract fr s.size).size ≠ 0) (hF : F.size ≤ 3100) (hn : es.length + 1 ≤ 1000) : parseAll s = .error ((es.length : Int) + 1, .ends) := by
  unfold RPAt at h
  rw [h, parseN_open h0 hc, if_neg (by omega), if_neg (by omega)]
theorem RPAt.bad {s F R : ByteArray} {fr : Nat} {es : List S54} {x : Er} (h : RPAt s fr es) (hc : cutAt (s.extract fr s.size) 10 = (F, R, true)) (hF : F.size ≤ 3100) (hn : es.length + 1 ≤ 1000) (hp : parseP F = .error x) : parseAll s = .error ((es.length : Int) + 1, x) := by
  unfold RPAt at h
  rw [h, parseN_cut hc, if_neg (by omega), if_neg (by omega), hp]
theorem RPAt.step {s F : ByteArray} {fr e : Nat} {es : List S54} {x : S54} (h : RPAt s fr es) (hc : cutAt (s.extract fr s.size) 10 = (F, s.extract (e + 1) s.size, true)) (hF : F.size ≤ 3100) (hn : es.length + 1 ≤ 1000) (hp : parseP F = .ok x) : RPAt s (e + 1) (es ++ [x]) := by
  unfold RPAt at h ⊢
  rw [h, parseN_cut hc, if_neg (by omega), if_neg (by omega), hp]
  dsimp only
  rw [show ((es ++ [x]).length : Int) + 1 = (es.length : Int) + 1 + 1 by simp]
  cases parseN (s.extract (e + 1) s.size) ((es.length : Int) + 1 + 1) <;> simp
set_option maxHeartbeats 8000000 in
theorem rparse_any (s : ByteArray) (w : World) (hs : s.size ≤ 1000000) : Calls Tryd.prog 13 #[.string s] w (RParseRes (parseAll s) w) := by
  have HSS := Aside0.mk hs
  go_enter Tryd.func13, Tryd.ntmps13
  go_wp2_with fail
  go_loopw [5, 6, 7] (fun v5 v6 v7 wr => ∃ (fr : Nat) (es : List S54), v6 = .int .i64 fr ∧ v7 = .int .i64 ((es.length : Int) + 1) ∧ fr ≤ s.size ∧ es.length ≤ fr ∧ Aside0 (RPAt s fr es) ∧ Aside0 (Kd.R k54 54 wr w.heap.size (fun _ => True) v5 es) ∧ Aside0 (Below w.heap.size w wr)) (fun _ v6 _ _ => s.size - (intOf v6).toNat)
  case atStart => exact ⟨0, [], rfl, rfl, Nat.zero_le _, Nat.zero_le _, ⟨RPAt.zero s⟩, ⟨Kd.R_nil _ _ _ _ _⟩, ⟨Below.refl _ _⟩⟩
  case round =>
    obtain ⟨fr, es, rfl, rfl, hfr, hes, HP, HO, HB⟩ := hrel
    obtain ⟨A5, c5, rfl⟩ := Kd.R_slice HO.out
    obtain ⟨wo, rfl⟩ : ∃ W : World, W = wr := ⟨_, rfl⟩
    have HEL := Aside0.mk (show es.length ≤ 1000000 by omega)
    by_cases hlt : fr < s.size
    · go_wp2_with fail
      go_loop [8] (fun v8 => ∃ e : Nat, fr ≤ e ∧ e ≤ s.size ∧ v8 = .int .i64 e ∧ Aside0 (∀ j : Nat, fr ≤ j → j < e → bt s j ≠ 10)) (fun v8 => s.size - (intOf v8).toNat)
      case atStart => exact ⟨fr, Nat.le_refl _, by omega, rfl, ⟨fun j h1 h2 => by omega⟩⟩
      case round =>
        obtain ⟨e, he1, he2, rfl, HN⟩ := hrel
        by_cases hle : e < s.size
        · have hxk : ∀ h : (e : Int).toNat < s.size, ((s[(e : Int).toNat]'h).toNat : Int) = bt s e := bt_at s e
          simp only [Int.toNat_natCast] at hxk
          cases h10 : (bt s e == 10) with
          | false =>
            have H10 := Aside0.mk h10
            have h10' : (bt s e != 10) = true := by simp [bne, h10]
            go_wp2
            go_round
            case rel => exact ⟨e + 1, by omega, by omega, by go_num, ⟨fun j h1 h2 => by
              rcases Nat.lt_or_ge j e with h | h
              · exact HN.out j h1 h
              · obtain rfl : j = e := by omega
                exact beq_eq_false_iff_ne.1 H10.out⟩⟩
            case measure => simp [intOf]; omega
          | true =>
            have h10' : (bt s e != 10) = false := by simp [bne, h10]
            have HCH := Aside0.mk (cut_hit he1 hle (beq_iff_eq.1 h10) HN.out)
            have HC := Aside0.mk (show RCut s fr (s.extract fr e) from ⟨_, _, HCH.out, by rw [ext_size _ _ _ (Nat.le_refl _)]; omega⟩)
            have HFS := Aside0.mk (ext_size s fr e he2)
            have n1 : (e == s.size) = false := beq_eq_false_iff_ne.2 (by omega)
            have n2 : ((e : Int) == (s.size : Int)) = false := beq_eq_false_iff_ne.2 (by omega)
            have n3 : (fr : Int) ≤ (e : Int) := by omega
            have n4 : (e : Int) ≤ (s.size : Int) := by omega
            have n5 : (0 : Int) ≤ (fr : Int) := by omega
            by_cases h31 : 3100 < e - fr
            · have HR := Aside0.mk (show parseAll s = .error ((es.length : Int) + 1, .long) from HP.out.long HC.out (by have := HFS.out; omega))
              have d1 : decide ((3100 : Int) < (e : Int) - (fr : Int)) = true := decide_eq_true (by omega)
              clear h31 HFS HC HN
              go_wp2
              go_ret3
              unfold RParseRes
              rw [HR.out]
              exact ⟨rfl, HB.out⟩
            have d1 : decide ((3100 : Int) < (e : Int) - (fr : Int)) = false := decide_eq_false (by omega)
            by_cases h10 : 1000 < es.length + 1
            · have HR := Aside0.mk (show parseAll s = .error ((es.length : Int) + 1, .long) from HP.out.many HC.out (by have := HFS.out; omega) (by omega))
              have d2 : decide ((1000 : Int) < (es.length : Int) + 1) = true := decide_eq_true (by omega)
              clear h31 h10 HFS HC HN
              go_wp2
              go_ret3
              unfold RParseRes
              rw [HR.out]
              exact ⟨rfl, HB.out⟩
            have d2 : decide ((1000 : Int) < (es.length : Int) + 1) = false := decide_eq_false (by omega)
            have hk31 : e - fr ≤ 3100 := by omega
            have hk10 : es.length + 1 ≤ 1000 := by omega
            have HK31 := Aside0.mk hk31
            have HK10 := Aside0.mk hk10
            obtain ⟨F, hF⟩ : ∃ F, F = s.extract fr e := ⟨_, rfl⟩
            have HFE := Aside0.mk hF
            have HFZ := Aside0.mk (show F.size ≤ 3100 by rw [hF, HFS.out]; exact hk31)
            clear h31 h10 hk31 hk10 hF HC HN
            go_wp2_with fail
            rw [← HFE.out]
            rw [← HFE.out] at HCH
            have HLC := Aside0.mk (rline_any F wo HFZ.out)
            obtain ⟨pr, hpr⟩ : ∃ pr, pr = parseP F := ⟨_, rfl⟩
            have HPR := Aside0.mk hpr
            rw [← hpr] at HLC
            clear hpr
            refine HLC.out.mono ?_
            clear HLC
            rintro e1 w1 ⟨cs, rfl, hM, hB⟩
            obtain ⟨v6, v9, rfl, h6, h9⟩ := k54_openM hM
            obtain ⟨A6, c6, rfl⟩ := Kd.R_slice h6
            obtain ⟨A9, c9, rfl⟩ := Kd.R_slice h9
            obtain ⟨x, hx⟩ : ∃ x, x = evv pr := ⟨_, rfl⟩
            have HX := Aside0.mk hx
            rw [← hx] at h6 h9 hM ⊢
            have hb1 : Below w.heap.size w w1 := HB.out.trans (hB.mono HB.out.size)
            have hB2 : Below w.heap.size w (w1.alloc (.cells #[.int .i64 x.f0, .int .i64 x.f1, .int .i64 x.f2, .int .i64 x.f3, .int .i64 x.f4, .int .i64 x.f5.f0, .slice A6 x.f5.f1.length c6, .int .i64 x.f5.f2, .int .i64 x.f5.f3, .slice A9 x.f6.length c9] 54)) := below_alloc hb1 _
            have hO2 : Kd.R k54 54 (w1.alloc (.cells #[.int .i64 x.f0, .int .i64 x.f1, .int .i64 x.f2, .int .i64 x.f3, .int .i64 x.f4, .int .i64 x.f5.f0, .slice A6 x.f5.f1.length c6, .int .i64 x.f5.f2, .int .i64 x.f5.f3, .slice A9 x.f6.length c9] 54)) w.heap.size (fun _ => True) (.slice A5 es.length c5) es := Kd.R_below (Kd.R_below HO.out hB) (below_alloc (Below.refl _ _) _)
            have HM2 := Aside0.mk (M_apart (Kd.M_below (d := k54) (k54.M_lower HB.out.size hM) (below_alloc (Below.refl _ _) (.cells #[.int .i64 x.f0, .int .i64 x.f1, .int .i64 x.f2, .int .i64 x.f3, .int .i64 x.f4, .int .i64 x.f5.f0, .slice A6 x.f5.f1.length c6, .int .i64 x.f5.f2, .int .i64 x.f5.f3, .slice A9 x.f6.length c9] 54))) hO2 (by decide))
            have HO2 := Aside0.mk hO2
            have HB2 := Aside0.mk hB2
            clear hx h6 h9 hM hb1 hB2 hO2 hB HO
            cases pr with
            | error y =>
              have HR := Aside0.mk (show parseAll s = .error ((es.length : Int) + 1, y) from HP.out.bad HCH.out HFZ.out HK10.out HPR.out.symm)
              have he : codeE (ero (Except.error (α := S54) y)) = y.code := rfl
              rw [he]
              obtain ⟨cd, hcd⟩ : ∃ cd, cd = y.code := ⟨_, rfl⟩
              rw [← hcd]
              have hc0 : (cd == 0) = false := beq_eq_false_iff_ne.2 (by rw [hcd]; exact code_ne y)
              have HCD := Aside0.mk hcd
              clear he hcd
              go_wp2
              go_ret3
              unfold RParseRes
              rw [HR.out]
              exact ⟨by rw [HCD.out]; rfl, HB2.out⟩
            | ok y =>
              have he : codeE (ero (Except.ok (ε := Er) y)) = 0 := rfl
              rw [he]
              have HP2 := Aside0.mk (show RPAt s (e + 1) (es ++ [x]) from HP.out.step HCH.out HFZ.out HK10.out (by rw [HX.out]; exact HPR.out.symm))
              clear he
              obtain ⟨w2, hw2⟩ : ∃ w2, w2 = w1.alloc (.cells #[.int .i64 x.f0, .int .i64 x.f1, .int .i64 x.f2, .int .i64 x.f3, .int .i64 x.f4, .int .i64 x.f5.f0, .slice A6 x.f5.f1.length c6, .int .i64 x.f5.f2, .int .i64 x.f5.f3, .slice A9 x.f6.length c9] 54) := ⟨_, rfl⟩
              have HE2 := Aside0.mk (show w2.heap[w1.heap.size]? = some (.cells #[.int .i64 x.f0, .int .i64 x.f1, .int .i64 x.f2, .int .i64 x.f3, .int .i64 x.f4, .int .i64 x.f5.f0, .slice A6 x.f5.f1.length c6, .int .i64 x.f5.f2, .int .i64 x.f5.f3, .slice A9 x.f6.length c9] 54 (0, 0)) by rw [hw2]; exact blk_new _ _)
              rw [← hw2] at HM2 HO2 HB2
              have s0 : w2.cell? ⟨w1.heap.size, 0, none⟩ = some (.int .i64 x.f0) := by rw [blk_cell HE2.out]; rfl
              have s1 : w2.cell? ⟨w1.heap.size, 1, none⟩ = some (.int .i64 x.f1) := by rw [blk_cell HE2.out]; rfl
              have s2 : w2.cell? ⟨w1.heap.size, 2, none⟩ = some (.int .i64 x.f2) := by rw [blk_cell HE2.out]; rfl
              have s3 : w2.cell? ⟨w1.heap.size, 3, none⟩ = some (.int .i64 x.f3) := by rw [blk_cell HE2.out]; rfl
              have s4 : w2.cell? ⟨w1.heap.size, 4, none⟩ = some (.int .i64 x.f4) := by rw [blk_cell HE2.out]; rfl
              have s5 : w2.cell? ⟨w1.heap.size, 5, none⟩ = some (.int .i64 x.f5.f0) := by rw [blk_cell HE2.out]; rfl
              have s6 : w2.cell? ⟨w1.heap.size, 6, none⟩ = some (.slice A6 x.f5.f1.length c6) := by rw [blk_cell HE2.out]; rfl
              have s7 : w2.cell? ⟨w1.heap.size, 7, none⟩ = some (.int .i64 x.f5.f2) := by rw [blk_cell HE2.out]; rfl
              have s8 : w2.cell? ⟨w1.heap.size, 8, none⟩ = some (.int .i64 x.f5.f3) := by rw [blk_cell HE2.out]; rfl
              have s9 : w2.cell? ⟨w1.heap.size, 9, none⟩ = some (.slice A9 x.f6.length c9) := by rw [blk_cell HE2.out]; rfl
              go_upto_region 16 with (fail)
              rw [← hw2]
              clear hw2
              go_wp2_with ((with_reducible refine gate_builtin (b := .append) (xs := #[.tmp 56, .tmp 58]) rfl ?_); (try (refine gate_guard (by rfl) ?_; dsimp only)); at_builtin; refine Kd.R_append k54 (w0 := w) w.heap.size rfl (.tmp 56) (.tmp 58) 23 54 (.agg #[.int .i64 0, .int .i64 0, .int .i64 0, .int .i64 0, .int .i64 0, .int .i64 0, .slice none 0 0, .int .i64 0, .int .i64 0, .slice none 0 0]) 112 rfl Tryd.underlying23 info54 rfl (by decide) (by omega) _ es x [.int .i64 x.f0, .int .i64 x.f1, .int .i64 x.f2, .int .i64 x.f3, .int .i64 x.f4, .int .i64 x.f5.f0, .slice A6 x.f5.f1.length c6, .int .i64 x.f5.f2, .int .i64 x.f5.f3, .slice A9 x.f6.length c9] (fun _ => True) _ rfl rfl ?aP (fun k hk => ⟨trivial, hk⟩) ?aF ?aO ?aB ?aS ?aL ?_; (case aP => exact HM2.out); (case aB => exact HB2.out); (case aF => exact (fun _ _ => trivial)); (case aO => exact HO2.out); (case aS => exact HB2.out.size); (case aL => have := HEL.out; omega); intro v1 w3 ho hb hgr hat; have HO3 := Aside0.mk ho; have HB3 := Aside0.mk hb; clear HO2 HB2 ho hb hgr hat)
              go_roundw
              case rel => exact ⟨e + 1, es ++ [x], by go_num, by simp, by omega, by simp; omega, HP2, HO3, HB3⟩
              case measure => simp [intOf]; omega
        · have hee : e = s.size := by omega
          subst hee
          obtain ⟨R, hcR⟩ := cut_end HN.out
          have h0 : (s.extract fr s.size).size ≠ 0 := by rw [ext_size _ _ _ (Nat.le_refl _)]; omega
          have HCE := Aside0.mk hcR
          have HC := Aside0.mk (show RCut s fr (s.extract fr s.size) from ⟨_, _, hcR, h0⟩)
          have HFS := Aside0.mk (ext_size s fr s.size (Nat.le_refl _))
          have H00 := Aside0.mk h0
          obtain ⟨e, he⟩ : ∃ e, e = s.size := ⟨_, rfl⟩
          have hnl : decide (s.size < s.size) = false := by simp
          clear hcR h0 hle
          by_cases h31 : 3100 < s.size - fr
          · have HR := Aside0.mk (show parseAll s = .error ((es.length : Int) + 1, .long) from HP.out.long HC.out (by have := HFS.out; omega))
            have d1 : decide ((3100 : Int) < (s.size : Int) - (fr : Int)) = true := decide_eq_true (by omega)
            clear h31 HFS HC HN
            go_wp2
            go_ret3
            unfold RParseRes
            rw [HR.out]
            exact ⟨rfl, HB.out⟩
          have d1 : decide ((3100 : Int) < (s.size : Int) - (fr : Int)) = false := decide_eq_false (by omega)
          by_cases h10 : 1000 < es.length + 1
          · have HR := Aside0.mk (show parseAll s = .error ((es.length : Int) + 1, .long) from HP.out.many HC.out (by have := HFS.out; omega) (by omega))
            have d2 : decide ((1000 : Int) < (es.length : Int) + 1) = true := decide_eq_true (by omega)
            clear h31 h10 HFS HC HN
            go_wp2
            go_ret3
            unfold RParseRes
            rw [HR.out]
            exact ⟨rfl, HB.out⟩
          have d2 : decide ((1000 : Int) < (es.length : Int) + 1) = false := decide_eq_false (by omega)
          have HR := Aside0.mk (show parseAll s = .error ((es.length : Int) + 1, .ends) from HP.out.open_ HCE.out H00.out (by have := HFS.out; omega) (by omega))
          clear h31 h10 HFS HC HN
          go_wp2
          go_ret3
          unfold RParseRes
          rw [HR.out]
          exact ⟨rfl, HB.out⟩
    · have HR := Aside0.mk (show parseAll s = .ok es from HP.out.end_ (by omega))
      have hnl : decide (fr < s.size) = false := decide_eq_false hlt
      clear hlt
      go_wp2
      go_ret3
      unfold RParseRes
      rw [HR.out]
      exact ⟨_, rfl, HO.out, HB.out⟩
end Go.Proofs.YtjpkphmihkbfeaaDoor.S34
