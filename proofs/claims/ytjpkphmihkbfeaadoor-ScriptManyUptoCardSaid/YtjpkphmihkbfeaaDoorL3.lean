/- An argument of type Event, opened; the arguments read as before. -/
import Derived.Test.YtjpkphmihkbfeaaDoorZe
import Derived.Carry
import Derived.Lib.SmallJoins
import Derived.Deep.Slices
namespace Go.Proofs.YtjpkphmihkbfeaaDoor.S34
open Go.ChangeShapes Go.WideShapes Go.ChangeAt Go.RowKit Go.Proofs.YtjpkphmihkbfeaaDoorW.PrintWords Go.Proofs.YtjpkphmihkbfeaaDoor.Q
set_option maxRecDepth 100000
set_option linter.unusedSimpArgs false
theorem laidOut : laidOutB Tryd.prog = true := by kernel_rfl
section
variable {H : Type} {enc : TypeId × Value → H} {W : World} {base : Nat} {spare : Nat → Bool} {held : Bool}
theorem open_i64 {t : TypeId} {fuel : Nat} {v : Value} {x : DataW H × List MemPlace} (ht : Tryd.prog.underlying t = some (.int .i64)) (h : DataW.trod enc Tryd.prog W base spare held fuel t [v] = some x) : ∃ n, v = .int .i64 n ∧ I64 n := by
  obtain ⟨n, e1, _, hw⟩ := DataW.trod_int ht h
  refine ⟨n, by simpa using e1, ?_⟩
  have := bounds_i64 hw
  exact ⟨this.1, this.2⟩
theorem open_bytes {fuel : Nat} {v : Value} {x : DataW H × List MemPlace} (h : DataW.trod enc Tryd.prog W base spare held fuel 50 [v] = some x) :
    ∃ (A : Option Addr) (c : Nat) (l : List Int), v = .slice A l.length c ∧ Kd.C (Kd.int .u8) W A l.length l ∧ l.length ≤ c ∧ Bytes l := by
  rcases open_ints Tryd.underlying50 (by kernel_rfl) (by kernel_rfl) h with ⟨hcs, _⟩ | ⟨a, len, cap, zs, hcs, _, hl, hm, hz, _, hc, hw⟩
  · have hv : v = .slice none 0 0 := by simpa using hcs
    exact ⟨none, 0, [], hv, Kd.C_nil _ _, Nat.le_refl _, Bytes.nil⟩
  · have hv : v = .slice (some a) len cap := by simpa using hcs
    have hle : len ≤ zs.length := by rw [hz]; split <;> omega
    have hlen : (zs.take len).length = len := by simp; omega
    refine ⟨some a, cap, zs.take len, by rw [hlen]; exact hv, ⟨rfl, by rw [hlen]; unfold maxLen at hm; omega, fun _ => ⟨a, rfl, fun j p hj => ?_⟩⟩, by rw [hlen]; exact hl, ?_⟩
    · have hj1 : j < len := by
        have := (List.getElem?_eq_some_iff.1 hj).1
        omega
      refine ⟨[.int .u8 p], rfl, rfl, fun i u hi => ?_⟩
      have hi0 : i = 0 := by
        rcases i with _ | i
        · rfl
        · simp at hi
      subst hi0
      have hu : u = .int .u8 p := by simpa using hi.symm
      subst hu
      have hp : zs.getD j 0 = p := by
        rw [List.getElem?_take_of_lt hj1] at hj
        rw [List.getD_eq_getElem?_getD, hj]; rfl
      have := hc j (by omega)
      rw [hp] at this
      rw [show (Kd.int .u8).sz = 1 from rfl, Nat.mul_one]
      exact this
    · intro b hb
      exact bounds_u8 (hw b (List.mem_of_mem_take hb))
theorem ev_cells {fuel : Nat} {cs : List Value} {y : DataW H × List MemPlace} (hl : cs.length = 10) (hf : DataW.trod enc Tryd.prog W base spare held fuel 54 cs = some y) :
    ∃ (x : S54) (A6 A9 : Option Addr) (c6 c9 : Nat), cs = [.int .i64 x.f0, .int .i64 x.f1, .int .i64 x.f2, .int .i64 x.f3, .int .i64 x.f4, .int .i64 x.f5.f0, .slice A6 x.f5.f1.length c6, .int .i64 x.f5.f2, .int .i64 x.f5.f3, .slice A9 x.f6.length c9] ∧ EvIn x A6 A9 c6 c9 W := by
  match cs, hl with
  | [v0, v1, v2, v3, v4, v5, v6, v7, v8, v9], _ =>
    obtain ⟨xs, n, _, _, _, hxl, hel⟩ := DataW.trod_struct Tryd.underlying54 hf
    have c1 : Tryd.prog.cellsOf 3 = 1 := by kernel_rfl
    have c47 : Tryd.prog.cellsOf 47 = 1 := by kernel_rfl
    have c48 : Tryd.prog.cellsOf 48 = 1 := by kernel_rfl
    have c49 : Tryd.prog.cellsOf 49 = 1 := by kernel_rfl
    have c50 : Tryd.prog.cellsOf 50 = 1 := by kernel_rfl
    have c52 : Tryd.prog.cellsOf 52 = 4 := by kernel_rfl
    have hx : ∀ i, i < 7 → ∃ y, xs[i]? = some y := fun i hi => ⟨xs[i]'(by rw [hxl]; exact hi), List.getElem?_eq_getElem _⟩
    obtain ⟨y0, e0⟩ := hx 0 (by decide)
    obtain ⟨y1, e1⟩ := hx 1 (by decide)
    obtain ⟨y2, e2⟩ := hx 2 (by decide)
    obtain ⟨y3, e3⟩ := hx 3 (by decide)
    obtain ⟨y4, e4⟩ := hx 4 (by decide)
    obtain ⟨y5, e5⟩ := hx 5 (by decide)
    obtain ⟨y6, e6⟩ := hx 6 (by decide)
    have h0 := (hel 0 _ rfl).trans e0
    have h1 := (hel 1 _ rfl).trans e1
    have h2 := (hel 2 _ rfl).trans e2
    have h3 := (hel 3 _ rfl).trans e3
    have h4 := (hel 4 _ rfl).trans e4
    have h5 := (hel 5 _ rfl).trans e5
    have h6 := (hel 6 _ rfl).trans e6
    try simp only [c1, c47, c48, c50, c52, Value.cells, List.drop, List.take, List.drop_zero, List.drop_succ_cons, List.take_succ_cons, List.take_zero] at h0
    try simp only [c1, c47, c48, c50, c52, Value.cells, List.drop, List.take, List.drop_zero, List.drop_succ_cons, List.take_succ_cons, List.take_zero] at h1
    try simp only [c1, c47, c48, c50, c52, Value.cells, List.drop, List.take, List.drop_zero, List.drop_succ_cons, List.take_succ_cons, List.take_zero] at h2
    try simp only [c1, c47, c48, c50, c52, Value.cells, List.drop, List.take, List.drop_zero, List.drop_succ_cons, List.take_succ_cons, List.take_zero] at h3
    try simp only [c1, c47, c48, c50, c52, Value.cells, List.drop, List.take, List.drop_zero, List.drop_succ_cons, List.take_succ_cons, List.take_zero] at h4
    try simp only [c1, c47, c48, c50, c52, Value.cells, List.drop, List.take, List.drop_zero, List.drop_succ_cons, List.take_succ_cons, List.take_zero] at h5
    try simp only [c1, c47, c48, c50, c52, Value.cells, List.drop, List.take, List.drop_zero, List.drop_succ_cons, List.take_succ_cons, List.take_zero] at h6
    obtain ⟨n0, rfl, i0⟩ := open_i64 (by kernel_rfl) h0
    obtain ⟨n1, rfl, i1⟩ := open_i64 Tryd.underlying3 h1
    obtain ⟨n2, rfl, i2⟩ := open_i64 Tryd.underlying3 h2
    obtain ⟨n3, rfl, i3⟩ := open_i64 Tryd.underlying3 h3
    obtain ⟨n4, rfl, i4⟩ := open_i64 (by kernel_rfl) h4
    obtain ⟨A9, c9, l9, rfl, q9, k9, b9⟩ := open_bytes h6
    obtain ⟨zs, m, _, _, _, hzl, hez⟩ := DataW.trod_struct Tryd.underlying52 h5
    have hz : ∀ i, i < 4 → ∃ y, zs[i]? = some y := fun i hi => ⟨zs[i]'(by rw [hzl]; exact hi), List.getElem?_eq_getElem _⟩
    obtain ⟨z0, f0⟩ := hz 0 (by decide)
    obtain ⟨z1, f1⟩ := hz 1 (by decide)
    obtain ⟨z2, f2⟩ := hz 2 (by decide)
    obtain ⟨z3, f3⟩ := hz 3 (by decide)
    have g0 := (hez 0 _ rfl).trans f0
    have g1 := (hez 1 _ rfl).trans f1
    have g2 := (hez 2 _ rfl).trans f2
    have g3 := (hez 3 _ rfl).trans f3
    obtain ⟨m0, rfl, j0⟩ := open_i64 (by kernel_rfl) g0
    obtain ⟨A6, c6, l6, rfl, q6, k6, b6⟩ := open_bytes g1
    obtain ⟨m2, rfl, j2⟩ := open_i64 Tryd.underlying3 g2
    obtain ⟨m3, rfl, j3⟩ := open_i64 Tryd.underlying3 g3
    exact ⟨⟨n0, n1, n2, n3, n4, ⟨m0, l6, m2, m3⟩, l9⟩, A6, A9, c6, c9, rfl, ⟨i0, i1, i2, i3, i4, j0, j2, j3, q6, k6, b6, q9, k9, b9⟩⟩
theorem open_event {v : Value} {d : DataW H} {ps : List MemPlace} (hval : Value.okWide Tryd.prog W .any base 54 v) (hd : DataW.Trod enc Tryd.prog W 0 spare held 54 v d ps) :
    ∃ (x : S54) (A6 A9 : Option Addr) (c6 c9 : Nat), v = evArg x A6 A9 c6 c9 ∧ EvIn x A6 A9 c6 c9 W := by
  unfold Value.okWide at hval
  rw [Tryd.underlying54] at hval
  obtain ⟨cs, rfl, hsz, -⟩ := hval
  obtain ⟨fuel, hf⟩ := hd
  have hsz' : cs.size = 10 := hsz.trans (by kernel_rfl)
  obtain ⟨l⟩ := cs
  obtain ⟨x, A6, A9, c6, c9, hl, hx⟩ := ev_cells (show l.length = 10 from hsz') hf
  subst hl
  exact ⟨x, A6, A9, c6, c9, rfl, hx⟩
theorem open_events {v : Value} {d : DataW H} {ps : List MemPlace} (hval : Value.okWide Tryd.prog W .any base 23 v) (hd : DataW.Trod enc Tryd.prog W 0 spare held 23 v d ps) :
    ∃ (A : Option Addr) (c : Nat) (l : List S54), v = .slice A l.length c ∧ Kd.C k54 W A l.length l ∧ l.length ≤ c ∧ ∀ x ∈ l, EvGood x := by
  obtain ⟨a0, n0, c0, rfl⟩ := okWide_slice Tryd.underlying23 hval
  obtain ⟨fuel, hf⟩ := hd
  have c54 : Tryd.prog.cellsOf 54 = 10 := by kernel_rfl
  rcases Go.Deep.open_slice Tryd.underlying23 hf with ⟨hcs, _⟩ | ⟨a, len, cap, m, n, D, Pl, hcs, _, hl, hm, hmm, _, hi⟩
  · have hv : Value.slice a0 n0 c0 = .slice none 0 0 := by simpa [Value.cells] using hcs
    exact ⟨none, 0, [], hv, Kd.C_nil _ _, Nat.le_refl _, fun x hx => absurd hx List.not_mem_nil⟩
  · have hv : Value.slice a0 n0 c0 = .slice (some a) len cap := by simpa [Value.cells] using hcs
    have hlm : len ≤ m := by rw [hmm]; split <;> omega
    have key : ∀ k, k ≤ len → ∃ l : List S54, l.length = k ∧ (∀ x ∈ l, EvGood x) ∧ ∀ j x, l[j]? = some x → ∃ A6 A9 c6 c9, EvIn x A6 A9 c6 c9 W ∧
        ∀ i u, ([.int .i64 x.f0, .int .i64 x.f1, .int .i64 x.f2, .int .i64 x.f3, .int .i64 x.f4, .int .i64 x.f5.f0, .slice A6 x.f5.f1.length c6, .int .i64 x.f5.f2, .int .i64 x.f5.f3, .slice A9 x.f6.length c9] : List Value)[i]? = some u → W.cell? (a.add (j * 10 + i)) = some u := by
      intro k
      induction k with
      | zero => intro _; exact ⟨[], rfl, fun x hx => absurd hx List.not_mem_nil, fun j x hj => by simp at hj⟩
      | succ k ih =>
        intro hk
        obtain ⟨l, hll, hg, hc⟩ := ih (by omega)
        obtain ⟨cs', h1, h2⟩ := hi k (by omega)
        rw [c54] at h1
        obtain ⟨_, hlen, hat⟩ := World.cells?_some h1
        obtain ⟨x, A6, A9, c6, c9, he, hx⟩ := ev_cells hlen h2
        refine ⟨l ++ [x], by simp [hll], ?_, ?_⟩
        · intro z hz
          rcases List.mem_append.1 hz with hz | hz
          · exact hg z hz
          · rw [List.mem_singleton.1 hz]; exact hx.good
        · intro j z hj
          rcases Nat.lt_or_ge j k with hjk | hjk
          · rw [List.getElem?_append_left (by omega)] at hj
            exact hc j z hj
          · have hjk' : j = k := by
              have := (List.getElem?_eq_some_iff.1 hj).1
              simp [hll] at this
              omega
            subst hjk'
            rw [List.getElem?_append_right (by omega), hll, Nat.sub_self] at hj
            have hz : x = z := by simpa using hj
            subst hz
            refine ⟨A6, A9, c6, c9, hx, fun i u hu => ?_⟩
            have hi10 : i < 10 := (List.getElem?_eq_some_iff.1 hu).1
            have := hat i hi10
            rw [he, hu] at this
            rw [← this, Go.Deep.add_add]
    obtain ⟨l, hll, hg, hc⟩ := key len (Nat.le_refl _)
    refine ⟨some a, cap, l, by rw [hll]; exact hv, ⟨rfl, by unfold maxLen at hm; omega, fun _ => ⟨a, rfl, fun j x hj => ?_⟩⟩, by omega, hg⟩
    obtain ⟨A6, A9, c6, c9, hx, hcell⟩ := hc j x hj
    exact ⟨_, rfl, k54_mk W x hx.h6 hx.q6 hx.h9 hx.q9, hcell⟩
end
end Go.Proofs.YtjpkphmihkbfeaaDoor.S34
