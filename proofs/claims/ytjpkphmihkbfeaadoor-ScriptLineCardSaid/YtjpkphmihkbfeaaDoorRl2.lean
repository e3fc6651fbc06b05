/- ScriptLine walked. -/
import Derived.Test.YtjpkphmihkbfeaaDoorRl
import Derived.Test.YtjpkphmihkbfeaaDoorG4
namespace Go.Proofs.YtjpkphmihkbfeaaDoor.S34
open Go.RowKit Go.Proofs.YtjpkphmihkbfeaaDoorW.PrintWords Go.Proofs.YtjpkphmihkbfeaaDoorW.PrintLast Go.Proofs.YtjpkphmihkbfeaaDoorW.PrintMore Go.Proofs.YtjpkphmihkbfeaaDoor.Q
set_option maxRecDepth 100000
set_option linter.unusedSimpArgs false
theorem no10_of {s : ByteArray} (h : ∀ j : Nat, j < s.size → bt s j ≠ 10) : (10 : UInt8) ∉ s.data.toList := by
  intro hm
  obtain ⟨j, hj, he⟩ := List.getElem_of_mem hm
  have hj' : j < s.size := by rw [Array.length_toList] at hj; exact hj
  refine h j hj' ?_
  have := bt_at s j (by simpa using hj')
  rw [← this]
  simp only [Int.toNat_natCast]
  have e : s[j] = (10 : UInt8) := by
    rw [← he]; rfl
  rw [e]; rfl
theorem byte_no10 {b : Int} (h : 0 ≤ b ∧ b ≤ 255) (hn : b ≠ 10) {s : ByteArray} (hs : (10 : UInt8) ∉ s.data.toList) : (10 : UInt8) ∉ (⟨#[UInt8.ofNat b.toNat]⟩ ++ s).data.toList := by
  intro hm
  simp only [ByteArray.data_append, Array.toList_append, List.mem_append, List.mem_singleton] at hm
  rcases hm with hm | hm
  · have := congrArg UInt8.toNat hm
    rw [UInt8.toNat_ofNat'] at this
    rw [show (10 : UInt8).toNat = 10 from rfl] at this
    omega
  · exact hs hm
theorem C_byte {W : World} {p t : Nat} (b : Int) (h : W.heap[p]? = some (.cells #[.int .u8 b] t (0, 0))) : Kd.C (Kd.int .u8) W (some ⟨p, 0, none⟩) 1 [b] := by
  refine ⟨rfl, by decide, fun _ => ⟨_, rfl, fun j q hj => ?_⟩⟩
  have hj0 : j = 0 := by
    rcases j with _ | j
    · rfl
    · simp at hj
  subst hj0
  have hq : b = q := by simpa using hj
  subst hq
  refine ⟨[.int .u8 b], rfl, rfl, fun i u hi => ?_⟩
  have hi0 : i = 0 := by
    rcases i with _ | i
    · rfl
    · simp at hi
  subst hi0
  have hu : u = .int .u8 b := by simpa using hi.symm
  subst hu
  rw [Nat.zero_mul, Nat.zero_add, add_plain, blk_cell h]
  rfl
theorem str_one (b : Int) : strOfNums [b] = ⟨#[UInt8.ofNat b.toNat]⟩ := rfl
set_option maxHeartbeats 2000000 in
theorem line_law (g : Er → Addr) (s : ByteArray) (b : Int) (w : World) (hg : Glob g w) (hb : 0 ≤ b ∧ b ≤ 255) :
    Calls Tryd.prog 6 #[.string s, .int .u8 b] w fun r w' => r = .returned (.bool true) ∧ Below w.heap.size w w' := by
  have HG := Aside0.mk hg
  have HBB := Aside0.mk hb
  clear hg hb
  by_cases hbig : 3000 < s.size
  · have d0 : decide ((3000 : Int) < (s.size : Int)) = true := decide_eq_true (by omega)
    clear hbig
    go_enter Tryd.func6, Tryd.ntmps6
    go_wp2_with fail
    refine (known_any g w HG.out).mono ?_
    rintro e w1 ⟨rfl, hB⟩
    have HB := Aside0.mk hB
    clear hB
    go_wp2_with fail
    go_ret
    exact ⟨rfl, HB.out⟩
  have d0 : decide ((3000 : Int) < (s.size : Int)) = false := decide_eq_false (by omega)
  have hsz : s.size ≤ 3000 := by omega
  clear hbig
  go_enter Tryd.func6, Tryd.ntmps6
  go_wp2_with fail
  refine (known_any g w HG.out).mono ?_
  rintro e w1 ⟨rfl, hB⟩
  have HB := Aside0.mk hB
  have HG1 := Aside0.mk (HG.out.below hB)
  clear hB HG
  go_wp2_with fail
  go_loop [5] (fun i => ∃ k : Nat, k ≤ s.size ∧ i = .int .i64 k ∧ Aside0 (∀ j : Nat, j < k → bt s j ≠ 10)) (fun i => s.size - (intOf i).toNat)
  case atStart => exact ⟨0, Nat.zero_le _, rfl, ⟨fun j h => absurd h (Nat.not_lt_zero j)⟩⟩
  case round =>
    obtain ⟨k, hk, rfl, HN⟩ := hrel
    by_cases hlt : k < s.size
    · have hxk : ∀ h : (k : Int).toNat < s.size, ((s[(k : Int).toNat]'h).toNat : Int) = bt s k := bt_at s k
      simp only [Int.toNat_natCast] at hxk
      cases h10 : (bt s k == 10) with
      | true =>
        go_wp2
        go_ret
        exact ⟨rfl, HB.out⟩
      | false =>
        have H10 := Aside0.mk h10
        go_wp2
        go_round
        case rel => exact ⟨k + 1, by omega, by go_num, ⟨fun j hj => by
          rcases Nat.lt_or_ge j k with h | h
          · exact HN.out j h
          · obtain rfl : j = k := by omega
            exact beq_eq_false_iff_ne.1 H10.out⟩⟩
        case measure => simp [intOf]; omega
    · have HNO := Aside0.mk (no10_of (s := s) (fun j hj => HN.out j (by omega)))
      have d1 : decide (k < s.size) = false := decide_eq_false (by omega)
      have d2 : ¬ k < s.size := by omega
      have hz : (s ++ ⟨#[10]⟩).size = s.size + 1 := by rw [ByteArray.size_append]; rfl
      have HZ := Aside0.mk hz
      have HSZ := Aside0.mk hsz
      clear HN hz hk hlt
      obtain ⟨r, hr⟩ : ∃ r, r = parseP s := ⟨_, rfl⟩
      have HR := Aside0.mk hr
      have HPA := Aside0.mk (parse_one HNO.out (by have := HSZ.out; omega))
      rw [← hr] at HPA
      clear hr
      go_wp2_with fail
      have HPC := Aside0.mk (Parse_any g (s ++ ⟨#[10]⟩) w1 HG1.out (by have := HZ.out; have := HSZ.out; omega))
      rw [HPA.out] at HPC
      refine HPC.out.mono ?_
      clear HPC
      cases r with
      | error x =>
        rintro e w2 ⟨b2, rfl, hF, _, hB2⟩
        have HB2 := Aside0.mk (below_seq HB.out hB2)
        clear hF hB2
        go_wp2
        go_ret
        exact ⟨rfl, HB2.out⟩
      | ok x =>
        have HPX := Aside0.mk (HR.out.symm)
        rintro e w2 ⟨v, rfl, hR, hB2⟩
        obtain ⟨A, c, rfl, hc, hC⟩ := Kd.R_reads hR
        have HGX := Aside0.mk (parseP_good HPX.out)
        obtain ⟨ad, A6, A9, c6, c9, rfl, ix, x0, x1, x2, x3, x4, x5, x6, x7, x8, x9⟩ := ev_at hC (fun z hz => by rw [List.mem_singleton.1 hz]; exact HGX.out) 0 (by simp)
        have hrd : rd_T54 [x] ((0 : Nat) : Int) = x := rfl
        have ha : ad.add (0 * 10) = ad := by simp [Addr.add]
        rw [hrd] at ix x0 x1 x2 x3 x4 x5 x6 x7 x8 x9
        rw [ha] at x0 x1 x2 x3 x4 x5 x6 x7 x8 x9
        have HIX := Aside0.mk ix
        have HC2 := Aside0.mk hC
        have HB2 := Aside0.mk (below_seq HB.out hB2)
        have HG2 := Aside0.mk (HG1.out.below hB2)
        have HL := Aside0.mk (line_back HPX.out)
        clear ix hC hR hB2 hrd hc ha
        simp only [List.length_singleton] 
        go_wp2_with fail
        have HLC := Aside0.mk (line_any g x A6 A9 c6 c9 w2 HG2.out HIX.out)
        rw [HL.out] at HLC
        refine HLC.out.mono ?_
        clear HLC
        rintro e w3 ⟨rfl, hB3⟩
        have HB3 := Aside0.mk (below_seq HB2.out hB3)
        have HG3 := Aside0.mk (HG2.out.below hB3)
        have HC3 := Aside0.mk (Kd.C_below HC2.out hB3)
        clear hB3 HB2 HG2 HC2 x0 x1 x2 x3 x4 x5 x6 x7 x8 x9
        simp only [Option.getD, Option.isSome]
        cases hq : (b == 10) with
        | true =>
          go_wp2
          go_ret
          exact ⟨rfl, HB3.out⟩
        | false =>
          have HQ := Aside0.mk hq
          obtain ⟨w4, hw4⟩ : ∃ w4, w4 = w3.alloc (.cells #[.int .u8 b] 5) := ⟨_, rfl⟩
          have hB4 : Below w3.heap.size w3 w4 := by rw [hw4]; exact below_alloc (Below.refl _ _) _
          obtain ⟨bs, hbs⟩ : ∃ bs, bs = strOfNums [b] := ⟨_, rfl⟩
          have hcv : (convert 50 9 (.slice (some ⟨w3.heap.size, 0, none⟩) 1 1)).run Tryd.prog (w3.alloc (.cells #[.int .u8 b] 5)) = .ok (.string bs) (w3.alloc (.cells #[.int .u8 b] 5)) := by
            rw [hbs]; exact conv_any (C_byte b (blk_new _ _))
          have hbz : bs.size ≤ 1 := by rw [hbs, str_one, sz1]; exact Nat.le_refl _
          have hn : (10 : UInt8) ∉ (bs ++ s).data.toList := by rw [hbs, str_one]; exact byte_no10 HBB.out (beq_eq_false_iff_ne.1 HQ.out) HNO.out
          have HNN := Aside0.mk hn
          have HZ2 := Aside0.mk (show (bs ++ s).size ≤ s.size + 1 by rw [ByteArray.size_append]; omega)
          have HZ3 := Aside0.mk (show (bs ++ s ++ ⟨#[10]⟩).size ≤ s.size + 2 by rw [ByteArray.size_append, ByteArray.size_append]; have : (⟨#[10]⟩ : ByteArray).size = 1 := rfl; omega)
          have HBS := Aside0.mk (show bs = ⟨#[UInt8.ofNat b.toNat]⟩ by rw [hbs]; rfl)
          have HB4 := Aside0.mk (below_seq HB3.out hB4)
          have HG4 := Aside0.mk (HG3.out.below hB4)
          have HC4 := Aside0.mk (Kd.C_below HC3.out hB4)
          have HW4 := Aside0.mk hw4
          clear hbs hn hw4 hB4
          go_wp2_with fail
          rw [← HW4.out]
          obtain ⟨r2, hr2⟩ : ∃ r, r = parseP (bs ++ s) := ⟨_, rfl⟩
          have HR2 := Aside0.mk hr2
          have HPA2 := Aside0.mk (parse_one HNN.out (by have := HZ2.out; omega))
          rw [← hr2] at HPA2
          have HPC := Aside0.mk (Parse_any g (bs ++ s ++ ⟨#[10]⟩) w4 HG4.out (by have := HZ3.out; omega))
          rw [HPA2.out] at HPC
          clear hr2 hcv
          refine HPC.out.mono ?_
          clear HPC
          cases r2 with
          | error y =>
            rintro e w5 ⟨b5, rfl, hF, _, hB5⟩
            have HB5 := Aside0.mk (below_seq HB4.out hB5)
            clear hF hB5
            go_wp2
            go_ret
            exact ⟨rfl, HB5.out⟩
          | ok z =>
            rintro e w5 ⟨v5, rfl, hR5, hB5⟩
            obtain ⟨A5, c5, rfl, hc5, hC5⟩ := Kd.R_reads hR5
            have HC5 := Aside0.mk hC5
            have HB5 := Aside0.mk (below_seq HB4.out hB5)
            have HC6 := Aside0.mk (Kd.C_below HC4.out hB5)
            have HAL := Aside0.mk (show alikeP [z] [x] = false from decide_eq_false (fun h => one_more HPX.out (e' := z) (b := UInt8.ofNat b.toNat) (by rw [← HBS.out]; exact HR2.out.symm) (by simpa using h)))
            have HGZ := Aside0.mk (parseP_good HR2.out.symm)
            clear hR5 hB5 hc5 hC5
            simp only [List.length_singleton]
            go_wp2_with fail
            have HLC := Aside0.mk (alike_any [z] [x] A5 (some ad) c5 c w5 HC5.out HC6.out (fun q hq => by rw [List.mem_singleton.1 hq]; exact HGZ.out) (fun q hq => by rw [List.mem_singleton.1 hq]; exact HGX.out) (by simp))
            rw [HAL.out] at HLC
            refine HLC.out.mono ?_
            clear HLC
            rintro e w6 ⟨rfl, hB6⟩
            have HB6 := Aside0.mk (below_seq HB5.out hB6)
            clear hB6
            go_wp2
            go_ret
            exact ⟨rfl, HB6.out⟩
end Go.Proofs.YtjpkphmihkbfeaaDoor.S34
