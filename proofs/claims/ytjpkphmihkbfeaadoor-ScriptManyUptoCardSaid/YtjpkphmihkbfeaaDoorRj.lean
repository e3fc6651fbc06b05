/- Plain: the events that have a line, and which: the reference's answer is the program's. -/
import Derived.Test.YtjpkphmihkbfeaaDoorRk
import Derived.Test.YtjpkphmihkbfeaaDoorRd
namespace Go.Proofs.YtjpkphmihkbfeaaDoor.S34
open Go.RowKit Go.Proofs.YtjpkphmihkbfeaaDoorW.PrintWords Go.Proofs.YtjpkphmihkbfeaaDoor.Q
set_option maxRecDepth 100000
set_option linter.unusedSimpArgs false
/-- Are an event's own fields within bounds? -/
def refOk (x : S54) : Bool :=
  if x.f0 = 1 ∨ x.f0 = 3 then decide (1 ≤ x.f1 ∧ x.f1 ≤ 8 ∧ (x.f4 = 1 ∨ x.f4 = 2))
  else if x.f0 = 2 then decide (1 ≤ x.f1 ∧ x.f1 ≤ 8)
  else if x.f0 = 4 then decide (x.f6.length ≤ 1000)
  else if x.f0 = 5 then decide (1 ≤ x.f1 ∧ x.f1 ≤ 8) && deedOk x.f5
  else if x.f0 = 6 then decide (1 ≤ x.f2 ∧ x.f2 ≤ 10000)
  else if x.f0 = 7 then decide (0 ≤ x.f2 ∧ x.f2 ≤ 1073741824)
  else if x.f0 = 8 then decide (0 ≤ x.f2 ∧ x.f2 ≤ 1073741824 ∧ 1 ≤ x.f3 ∧ x.f3 ≤ 255)
  else if x.f0 = 9 then decide (1 ≤ x.f1 ∧ x.f1 ≤ 8 ∧ 0 ≤ x.f2 ∧ x.f2 ≤ 65535)
  else if x.f0 = 10 then decide (1 ≤ x.f1 ∧ x.f1 ≤ 8 ∧ 0 ≤ x.f2 ∧ x.f2 ≤ 65535 ∧ (x.f3 = 0 ∨ x.f3 = 1) ∧ x.f6.length ≤ 1000)
  else false
/-- An event of its own fields alone. -/
def refRest (x : S54) : S54 :=
  if x.f0 = 1 ∨ x.f0 = 3 then ⟨x.f0, x.f1, 0, 0, x.f4, z52, []⟩
  else if x.f0 = 2 then ⟨x.f0, x.f1, 0, 0, 0, z52, []⟩
  else if x.f0 = 4 then ⟨x.f0, 0, 0, 0, 0, z52, x.f6⟩
  else if x.f0 = 5 then ⟨x.f0, x.f1, 0, 0, 0, x.f5, []⟩
  else if x.f0 = 6 then ⟨x.f0, 0, x.f2, 0, 0, z52, []⟩
  else if x.f0 = 7 then ⟨x.f0, 0, x.f2, 0, 0, z52, []⟩
  else if x.f0 = 8 then ⟨x.f0, 0, x.f2, x.f3, 0, z52, []⟩
  else if x.f0 = 9 then ⟨x.f0, x.f1, x.f2, 0, 0, z52, []⟩
  else if x.f0 = 10 then ⟨x.f0, x.f1, x.f2, x.f3, 0, z52, x.f6⟩
  else ⟨x.f0, 0, 0, 0, 0, z52, []⟩
def RefGood (x : S54) : Prop := refOk x = true ∧ x = refRest x
/-- What the reference prints of an event. -/
def refPrint (x : S54) : Option ByteArray := if refOk x = true ∧ x = refRest x then some (wordsP x) else none
theorem numP_in {s : ByteArray} {kd n : Int} (h : numP s kd = .ok n) : inB kd n = true := by
  unfold numP at h
  split at h
  · cases h
  · split at h
    · cases h
    · split at h
      · rename_i hb; injection h with h; rw [← h]; exact hb
      · cases h
theorem read_in {p : ByteArray} {kd : Int} {v : S93} (h : readP p kd = .ok v) (h1 : kd ≠ 82) (h2 : kd ≠ 83) (h3 : kd ≠ 84) (h4 : kd ≠ 75) : (boundsP kd).1 ≤ v.f0 ∧ v.f0 ≤ (boundsP kd).2 := by
  unfold readP at h
  rw [if_neg h1, if_neg h2, if_neg h3, if_neg h4] at h
  obtain ⟨n, hn, rfl⟩ := map_ok' h
  have := numP_in hn
  simpa [inB] using this
theorem read_84 {p : ByteArray} {v : S93} (h : readP p 84 = .ok v) : v.f0 = 0 ∧ v.f1.length ≤ 1000 := by
  unfold readP at h
  rw [if_neg (by decide), if_neg (by decide), if_pos rfl] at h
  have := text_back h
  exact ⟨this.2.1, by omega⟩
theorem read_75 {p : ByteArray} {v : S93} (h : readP p 75 = .ok v) : 0 < v.f1.length ∧ v.f1.length ≤ 16 := by
  unfold readP at h
  rw [if_neg (by decide), if_neg (by decide), if_neg (by decide), if_pos rfl] at h
  have := text_back h
  exact ⟨by omega, by omega⟩
theorem good_join {p0 p1 : ByteArray} {ws : List S93} (h : readAll [73, 82] [p0, p1] = .ok ws) : RefGood (eventP [106, 111, 105, 110] ws) := by
  obtain ⟨v0, l0, r0, h0, rfl⟩ := readAll_cons h
  obtain ⟨v1, l1, r1, h1, rfl⟩ := readAll_cons h0
  have hnil := readAll_nil h1
  subst hnil
  have b0 : 1 ≤ v0.f0 ∧ v0.f0 ≤ 8 := read_in r0 (by decide) (by decide) (by decide) (by decide)
  have b1 : v1.f0 = 0 ∨ v1.f0 = 1 := (read_role r1).imp And.left And.left
  have e : eventP [106, 111, 105, 110] [v0, v1] = ⟨1, v0.f0, 0, 0, 1 + v1.f0, z52, []⟩ := by simp [eventP, wd, z52]
  rw [e]
  refine ⟨?_, ?_⟩
  · simp [refOk, deedOk]
    try omega
  · simp [refRest]
theorem good_role {p0 p1 : ByteArray} {ws : List S93} (h : readAll [73, 82] [p0, p1] = .ok ws) : RefGood (eventP [114, 111, 108, 101] ws) := by
  obtain ⟨v0, l0, r0, h0, rfl⟩ := readAll_cons h
  obtain ⟨v1, l1, r1, h1, rfl⟩ := readAll_cons h0
  have hnil := readAll_nil h1
  subst hnil
  have b0 : 1 ≤ v0.f0 ∧ v0.f0 ≤ 8 := read_in r0 (by decide) (by decide) (by decide) (by decide)
  have b1 : v1.f0 = 0 ∨ v1.f0 = 1 := (read_role r1).imp And.left And.left
  have e : eventP [114, 111, 108, 101] [v0, v1] = ⟨3, v0.f0, 0, 0, 1 + v1.f0, z52, []⟩ := by simp [eventP, wd, z52]
  rw [e]
  refine ⟨?_, ?_⟩
  · simp [refOk, deedOk]
    try omega
  · simp [refRest]
theorem good_leave {p0 : ByteArray} {ws : List S93} (h : readAll [73] [p0] = .ok ws) : RefGood (eventP [108, 101, 97, 118, 101] ws) := by
  obtain ⟨v0, l0, r0, h0, rfl⟩ := readAll_cons h
  have hnil := readAll_nil h0
  subst hnil
  have b0 : 1 ≤ v0.f0 ∧ v0.f0 ≤ 8 := read_in r0 (by decide) (by decide) (by decide) (by decide)
  have e : eventP [108, 101, 97, 118, 101] [v0] = ⟨2, v0.f0, 0, 0, 0, z52, []⟩ := by simp [eventP, wd, z52]
  rw [e]
  refine ⟨?_, ?_⟩
  · simp [refOk, deedOk]
    try omega
  · simp [refRest]
theorem good_ask {p0 : ByteArray} {ws : List S93} (h : readAll [73] [p0] = .ok ws) : RefGood (eventP [97, 115, 107] ws) := by
  obtain ⟨v0, l0, r0, h0, rfl⟩ := readAll_cons h
  have hnil := readAll_nil h0
  subst hnil
  have b0 : 1 ≤ v0.f0 ∧ v0.f0 ≤ 8 := read_in r0 (by decide) (by decide) (by decide) (by decide)
  have e : eventP [97, 115, 107] [v0] = ⟨5, v0.f0, 0, 0, 0, ⟨3, [], 0, 0⟩, []⟩ := by simp [eventP, wd, z52]
  rw [e]
  refine ⟨?_, ?_⟩
  · simp [refOk, deedOk]
    try omega
  · simp [refRest]
theorem good_free {p0 : ByteArray} {ws : List S93} (h : readAll [73] [p0] = .ok ws) : RefGood (eventP [102, 114, 101, 101] ws) := by
  obtain ⟨v0, l0, r0, h0, rfl⟩ := readAll_cons h
  have hnil := readAll_nil h0
  subst hnil
  have b0 : 1 ≤ v0.f0 ∧ v0.f0 ≤ 8 := read_in r0 (by decide) (by decide) (by decide) (by decide)
  have e : eventP [102, 114, 101, 101] [v0] = ⟨5, v0.f0, 0, 0, 0, ⟨4, [], 0, 0⟩, []⟩ := by simp [eventP, wd, z52]
  rw [e]
  refine ⟨?_, ?_⟩
  · simp [refOk, deedOk]
    try omega
  · simp [refRest]
theorem good_out {p0 : ByteArray} {ws : List S93} (h : readAll [84] [p0] = .ok ws) : RefGood (eventP [111, 117, 116] ws) := by
  obtain ⟨v0, l0, r0, h0, rfl⟩ := readAll_cons h
  have hnil := readAll_nil h0
  subst hnil
  have b0 := read_84 r0
  have e : eventP [111, 117, 116] [v0] = ⟨4, v0.f0, 0, 0, 0, z52, v0.f1⟩ := by simp [eventP, wd, z52]
  rw [e]
  rw [b0.1]
  refine ⟨?_, ?_⟩
  · simp [refOk, deedOk]
    try omega
  · simp [refRest]
theorem good_keys {p0 p1 : ByteArray} {ws : List S93} (h : readAll [73, 75] [p0, p1] = .ok ws) : RefGood (eventP [107, 101, 121, 115] ws) := by
  obtain ⟨v0, l0, r0, h0, rfl⟩ := readAll_cons h
  obtain ⟨v1, l1, r1, h1, rfl⟩ := readAll_cons h0
  have hnil := readAll_nil h1
  subst hnil
  have b0 : 1 ≤ v0.f0 ∧ v0.f0 ≤ 8 := read_in r0 (by decide) (by decide) (by decide) (by decide)
  have b1 := read_75 r1
  have e : eventP [107, 101, 121, 115] [v0, v1] = ⟨5, v0.f0, 0, 0, 0, ⟨1, v1.f1, 0, 0⟩, []⟩ := by simp [eventP, wd, z52]
  rw [e]
  refine ⟨?_, ?_⟩
  · simp [refOk, deedOk]
    try omega
  · simp [refRest]
theorem good_size {p0 p1 p2 : ByteArray} {ws : List S93} (h : readAll [73, 87, 87] [p0, p1, p2] = .ok ws) : RefGood (eventP [115, 105, 122, 101] ws) := by
  obtain ⟨v0, l0, r0, h0, rfl⟩ := readAll_cons h
  obtain ⟨v1, l1, r1, h1, rfl⟩ := readAll_cons h0
  obtain ⟨v2, l2, r2, h2, rfl⟩ := readAll_cons h1
  have hnil := readAll_nil h2
  subst hnil
  have b0 : 1 ≤ v0.f0 ∧ v0.f0 ≤ 8 := read_in r0 (by decide) (by decide) (by decide) (by decide)
  have b1 : 1 ≤ v1.f0 ∧ v1.f0 ≤ 1000 := read_in r1 (by decide) (by decide) (by decide) (by decide)
  have b2 : 1 ≤ v2.f0 ∧ v2.f0 ≤ 1000 := read_in r2 (by decide) (by decide) (by decide) (by decide)
  have e : eventP [115, 105, 122, 101] [v0, v1, v2] = ⟨5, v0.f0, 0, 0, 0, ⟨2, [], v1.f0, v2.f0⟩, []⟩ := by simp [eventP, wd, z52]
  rw [e]
  refine ⟨?_, ?_⟩
  · simp [refOk, deedOk]
    try omega
  · simp [refRest]
theorem good_tick {p0 : ByteArray} {ws : List S93} (h : readAll [78] [p0] = .ok ws) : RefGood (eventP [116, 105, 99, 107] ws) := by
  obtain ⟨v0, l0, r0, h0, rfl⟩ := readAll_cons h
  have hnil := readAll_nil h0
  subst hnil
  have b0 : 1 ≤ v0.f0 ∧ v0.f0 ≤ 10000 := read_in r0 (by decide) (by decide) (by decide) (by decide)
  have e : eventP [116, 105, 99, 107] [v0] = ⟨6, 0, v0.f0, 0, 0, z52, []⟩ := by simp [eventP, wd, z52]
  rw [e]
  refine ⟨?_, ?_⟩
  · simp [refOk, deedOk]
    try omega
  · simp [refRest]
theorem good_deliver {p0 : ByteArray} {ws : List S93} (h : readAll [80] [p0] = .ok ws) : RefGood (eventP [100, 101, 108, 105, 118, 101, 114] ws) := by
  obtain ⟨v0, l0, r0, h0, rfl⟩ := readAll_cons h
  have hnil := readAll_nil h0
  subst hnil
  have b0 : 0 ≤ v0.f0 ∧ v0.f0 ≤ 1073741824 := read_in r0 (by decide) (by decide) (by decide) (by decide)
  have e : eventP [100, 101, 108, 105, 118, 101, 114] [v0] = ⟨7, 0, v0.f0, 0, 0, z52, []⟩ := by simp [eventP, wd, z52]
  rw [e]
  refine ⟨?_, ?_⟩
  · simp [refOk, deedOk]
    try omega
  · simp [refRest]
theorem good_spoil {p0 p1 : ByteArray} {ws : List S93} (h : readAll [80, 88] [p0, p1] = .ok ws) : RefGood (eventP [115, 112, 111, 105, 108] ws) := by
  obtain ⟨v0, l0, r0, h0, rfl⟩ := readAll_cons h
  obtain ⟨v1, l1, r1, h1, rfl⟩ := readAll_cons h0
  have hnil := readAll_nil h1
  subst hnil
  have b0 : 0 ≤ v0.f0 ∧ v0.f0 ≤ 1073741824 := read_in r0 (by decide) (by decide) (by decide) (by decide)
  have b1 : 1 ≤ v1.f0 ∧ v1.f0 ≤ 255 := read_in r1 (by decide) (by decide) (by decide) (by decide)
  have e : eventP [115, 112, 111, 105, 108] [v0, v1] = ⟨8, 0, v0.f0, v1.f0, 0, z52, []⟩ := by simp [eventP, wd, z52]
  rw [e]
  refine ⟨?_, ?_⟩
  · simp [refOk, deedOk]
    try omega
  · simp [refRest]
theorem good_move {p0 p1 : ByteArray} {ws : List S93} (h : readAll [73, 65] [p0, p1] = .ok ws) : RefGood (eventP [109, 111, 118, 101] ws) := by
  obtain ⟨v0, l0, r0, h0, rfl⟩ := readAll_cons h
  obtain ⟨v1, l1, r1, h1, rfl⟩ := readAll_cons h0
  have hnil := readAll_nil h1
  subst hnil
  have b0 : 1 ≤ v0.f0 ∧ v0.f0 ≤ 8 := read_in r0 (by decide) (by decide) (by decide) (by decide)
  have b1 : 0 ≤ v1.f0 ∧ v1.f0 ≤ 65535 := read_in r1 (by decide) (by decide) (by decide) (by decide)
  have e : eventP [109, 111, 118, 101] [v0, v1] = ⟨9, v0.f0, v1.f0, 0, 0, z52, []⟩ := by simp [eventP, wd, z52]
  rw [e]
  refine ⟨?_, ?_⟩
  · simp [refOk, deedOk]
    try omega
  · simp [refRest]
theorem good_forge {p0 p1 p2 p3 : ByteArray} {ws : List S93} (h : readAll [73, 65, 83, 84] [p0, p1, p2, p3] = .ok ws) : RefGood (eventP [102, 111, 114, 103, 101] ws) := by
  obtain ⟨v0, l0, r0, h0, rfl⟩ := readAll_cons h
  obtain ⟨v1, l1, r1, h1, rfl⟩ := readAll_cons h0
  obtain ⟨v2, l2, r2, h2, rfl⟩ := readAll_cons h1
  obtain ⟨v3, l3, r3, h3, rfl⟩ := readAll_cons h2
  have hnil := readAll_nil h3
  subst hnil
  have b0 : 1 ≤ v0.f0 ∧ v0.f0 ≤ 8 := read_in r0 (by decide) (by decide) (by decide) (by decide)
  have b1 : 0 ≤ v1.f0 ∧ v1.f0 ≤ 65535 := read_in r1 (by decide) (by decide) (by decide) (by decide)
  have b2 : v2.f0 = 0 ∨ v2.f0 = 1 := (read_view r2).imp And.left And.left
  have b3 := read_84 r3
  have e : eventP [102, 111, 114, 103, 101] [v0, v1, v2, v3] = ⟨10, v0.f0, v1.f0, v2.f0, 0, z52, v3.f1⟩ := by simp [eventP, wd, z52]
  rw [e]
  refine ⟨?_, ?_⟩
  · simp [refOk, deedOk]
    try omega
  · simp [refRest]
theorem good_at {F : List UInt8} {ps : List ByteArray} {ws : List S93} (hf : formOf F ≠ []) (hl : ps.length = (formOf F).length) (h : readAll (kindsOf F) ps = .ok ws) : RefGood (eventP F ws) := by
  by_cases h_join : F = [106, 111, 105, 110]
  · subst h_join
    obtain ⟨a, b, rfl⟩ := len2 hl
    exact good_join h
  by_cases h_role : F = [114, 111, 108, 101]
  · subst h_role
    obtain ⟨a, b, rfl⟩ := len2 hl
    exact good_role h
  by_cases h_leave : F = [108, 101, 97, 118, 101]
  · subst h_leave
    obtain ⟨a, rfl⟩ := len1 hl
    exact good_leave h
  by_cases h_ask : F = [97, 115, 107]
  · subst h_ask
    obtain ⟨a, rfl⟩ := len1 hl
    exact good_ask h
  by_cases h_free : F = [102, 114, 101, 101]
  · subst h_free
    obtain ⟨a, rfl⟩ := len1 hl
    exact good_free h
  by_cases h_out : F = [111, 117, 116]
  · subst h_out
    obtain ⟨a, rfl⟩ := len1 hl
    exact good_out h
  by_cases h_keys : F = [107, 101, 121, 115]
  · subst h_keys
    obtain ⟨a, b, rfl⟩ := len2 hl
    exact good_keys h
  by_cases h_size : F = [115, 105, 122, 101]
  · subst h_size
    obtain ⟨a, b, c, rfl⟩ := len3 hl
    exact good_size h
  by_cases h_tick : F = [116, 105, 99, 107]
  · subst h_tick
    obtain ⟨a, rfl⟩ := len1 hl
    exact good_tick h
  by_cases h_deliver : F = [100, 101, 108, 105, 118, 101, 114]
  · subst h_deliver
    obtain ⟨a, rfl⟩ := len1 hl
    exact good_deliver h
  by_cases h_spoil : F = [115, 112, 111, 105, 108]
  · subst h_spoil
    obtain ⟨a, b, rfl⟩ := len2 hl
    exact good_spoil h
  by_cases h_move : F = [109, 111, 118, 101]
  · subst h_move
    obtain ⟨a, b, rfl⟩ := len2 hl
    exact good_move h
  by_cases h_forge : F = [102, 111, 114, 103, 101]
  · subst h_forge
    obtain ⟨a, b, c, d, rfl⟩ := len4 hl
    exact good_forge h
  exact absurd (by unfold formOf; rw [if_neg h_join, if_neg h_role, if_neg h_leave, if_neg h_ask, if_neg h_free, if_neg h_out, if_neg h_keys, if_neg h_size, if_neg h_tick, if_neg h_deliver, if_neg h_spoil, if_neg h_move, if_neg h_forge]) hf
theorem parse_good {s : ByteArray} {x : S54} (h : parseP s = .ok x) : RefGood x := by
  unfold parseP at h
  rcases hc : cutAt s 32 with ⟨F, R, m⟩
  rw [hc] at h
  dsimp only at h
  split at h
  · cases h
  · rename_i hf
    split at h
    · cases h
    · split at h
      · cases h
      · rename_i hlen
        split at h
        · cases h
        · rename_i ws hws
          injection h with h
          subst h
          have hpos : 1 ≤ (formOf F.toList).length := by
            cases hl : formOf F.toList with
            | nil => exact absurd hl hf
            | cons a l => simp
          have hle := parts_len R (formOf F.toList).length hpos
          exact good_at hf (by omega) hws
theorem readw_watch : readP ⟨#[119, 97, 116, 99, 104]⟩ 82 = .ok ⟨0, []⟩ := by kernel_rfl
theorem readw_write : readP ⟨#[119, 114, 105, 116, 101]⟩ 82 = .ok ⟨1, []⟩ := by kernel_rfl
theorem readw_hub : readP ⟨#[104, 117, 98]⟩ 83 = .ok ⟨0, []⟩ := by kernel_rfl
theorem readw_view : readP ⟨#[118, 105, 101, 119]⟩ 83 = .ok ⟨1, []⟩ := by kernel_rfl
theorem lnr_join_watch {n : Int} (h1 : 1 ≤ n) (h2 : n ≤ 8) : parseP (wordsP ⟨1, n, 0, 0, 1, z52, []⟩) = .ok ⟨1, n, 0, 0, 1, z52, []⟩ := by
  have e : wordsP ⟨1, n, 0, 0, 1, z52, []⟩ = (⟨#[106, 111, 105, 110]⟩ : ByteArray) ++ ⟨#[32]⟩ ++ joinP [numB n, ⟨#[119, 97, 116, 99, 104]⟩] := by
    apply ba_eq
    simp [wordsP, joinP, roleB]
  rw [e, parse_mk (by decide) (by kernel_rfl) (by simp) (by intro p hp; simp only [List.dropLast, List.mem_cons, List.not_mem_nil, or_false] at hp; obtain rfl := hp <;> first | exact numB_no32 _ | decide)]
  have hk : kindsOf (⟨#[106, 111, 105, 110]⟩ : ByteArray).toList = [73, 82] := by kernel_rfl
  have hF : (⟨#[106, 111, 105, 110]⟩ : ByteArray).toList = [106, 111, 105, 110] := by kernel_rfl
  have hr : readAll [73, 82] [numB n, ⟨#[119, 97, 116, 99, 104]⟩] = .ok [⟨n, []⟩, ⟨0, []⟩] := by
    simp only [readAll, read_numB (n := n) (kd := 73) (by decide) (by decide) (by decide) (by decide), if_pos (show inB 73 n = true by simp [inB, boundsP]; omega), readw_watch]
  rw [hk, hF, formF_ok hr]
  simp [eventP, wd, z52]
theorem lnr_join_write {n : Int} (h1 : 1 ≤ n) (h2 : n ≤ 8) : parseP (wordsP ⟨1, n, 0, 0, 2, z52, []⟩) = .ok ⟨1, n, 0, 0, 2, z52, []⟩ := by
  have e : wordsP ⟨1, n, 0, 0, 2, z52, []⟩ = (⟨#[106, 111, 105, 110]⟩ : ByteArray) ++ ⟨#[32]⟩ ++ joinP [numB n, ⟨#[119, 114, 105, 116, 101]⟩] := by
    apply ba_eq
    simp [wordsP, joinP, roleB]
  rw [e, parse_mk (by decide) (by kernel_rfl) (by simp) (by intro p hp; simp only [List.dropLast, List.mem_cons, List.not_mem_nil, or_false] at hp; obtain rfl := hp <;> first | exact numB_no32 _ | decide)]
  have hk : kindsOf (⟨#[106, 111, 105, 110]⟩ : ByteArray).toList = [73, 82] := by kernel_rfl
  have hF : (⟨#[106, 111, 105, 110]⟩ : ByteArray).toList = [106, 111, 105, 110] := by kernel_rfl
  have hr : readAll [73, 82] [numB n, ⟨#[119, 114, 105, 116, 101]⟩] = .ok [⟨n, []⟩, ⟨1, []⟩] := by
    simp only [readAll, read_numB (n := n) (kd := 73) (by decide) (by decide) (by decide) (by decide), if_pos (show inB 73 n = true by simp [inB, boundsP]; omega), readw_write]
  rw [hk, hF, formF_ok hr]
  simp [eventP, wd, z52]
theorem lnr_role_watch {n : Int} (h1 : 1 ≤ n) (h2 : n ≤ 8) : parseP (wordsP ⟨3, n, 0, 0, 1, z52, []⟩) = .ok ⟨3, n, 0, 0, 1, z52, []⟩ := by
  have e : wordsP ⟨3, n, 0, 0, 1, z52, []⟩ = (⟨#[114, 111, 108, 101]⟩ : ByteArray) ++ ⟨#[32]⟩ ++ joinP [numB n, ⟨#[119, 97, 116, 99, 104]⟩] := by
    apply ba_eq
    simp [wordsP, joinP, roleB]
  rw [e, parse_mk (by decide) (by kernel_rfl) (by simp) (by intro p hp; simp only [List.dropLast, List.mem_cons, List.not_mem_nil, or_false] at hp; obtain rfl := hp <;> first | exact numB_no32 _ | decide)]
  have hk : kindsOf (⟨#[114, 111, 108, 101]⟩ : ByteArray).toList = [73, 82] := by kernel_rfl
  have hF : (⟨#[114, 111, 108, 101]⟩ : ByteArray).toList = [114, 111, 108, 101] := by kernel_rfl
  have hr : readAll [73, 82] [numB n, ⟨#[119, 97, 116, 99, 104]⟩] = .ok [⟨n, []⟩, ⟨0, []⟩] := by
    simp only [readAll, read_numB (n := n) (kd := 73) (by decide) (by decide) (by decide) (by decide), if_pos (show inB 73 n = true by simp [inB, boundsP]; omega), readw_watch]
  rw [hk, hF, formF_ok hr]
  simp [eventP, wd, z52]
theorem lnr_role_write {n : Int} (h1 : 1 ≤ n) (h2 : n ≤ 8) : parseP (wordsP ⟨3, n, 0, 0, 2, z52, []⟩) = .ok ⟨3, n, 0, 0, 2, z52, []⟩ := by
  have e : wordsP ⟨3, n, 0, 0, 2, z52, []⟩ = (⟨#[114, 111, 108, 101]⟩ : ByteArray) ++ ⟨#[32]⟩ ++ joinP [numB n, ⟨#[119, 114, 105, 116, 101]⟩] := by
    apply ba_eq
    simp [wordsP, joinP, roleB]
  rw [e, parse_mk (by decide) (by kernel_rfl) (by simp) (by intro p hp; simp only [List.dropLast, List.mem_cons, List.not_mem_nil, or_false] at hp; obtain rfl := hp <;> first | exact numB_no32 _ | decide)]
  have hk : kindsOf (⟨#[114, 111, 108, 101]⟩ : ByteArray).toList = [73, 82] := by kernel_rfl
  have hF : (⟨#[114, 111, 108, 101]⟩ : ByteArray).toList = [114, 111, 108, 101] := by kernel_rfl
  have hr : readAll [73, 82] [numB n, ⟨#[119, 114, 105, 116, 101]⟩] = .ok [⟨n, []⟩, ⟨1, []⟩] := by
    simp only [readAll, read_numB (n := n) (kd := 73) (by decide) (by decide) (by decide) (by decide), if_pos (show inB 73 n = true by simp [inB, boundsP]; omega), readw_write]
  rw [hk, hF, formF_ok hr]
  simp [eventP, wd, z52]
theorem lnr_leave {n : Int} (h1 : 1 ≤ n) (h2 : n ≤ 8) : parseP (wordsP ⟨2, n, 0, 0, 0, z52, []⟩) = .ok ⟨2, n, 0, 0, 0, z52, []⟩ := by
  have e : wordsP ⟨2, n, 0, 0, 0, z52, []⟩ = (⟨#[108, 101, 97, 118, 101]⟩ : ByteArray) ++ ⟨#[32]⟩ ++ joinP [numB n] := by
    apply ba_eq
    simp [wordsP, joinP, roleB]
  rw [e, parse_mk (by decide) (by kernel_rfl) (by simp) (by intro p hp; exact absurd hp (by simp))]
  have hk : kindsOf (⟨#[108, 101, 97, 118, 101]⟩ : ByteArray).toList = [73] := by kernel_rfl
  have hF : (⟨#[108, 101, 97, 118, 101]⟩ : ByteArray).toList = [108, 101, 97, 118, 101] := by kernel_rfl
  have hr : readAll [73] [numB n] = .ok [⟨n, []⟩] := by
    simp only [readAll, read_numB (n := n) (kd := 73) (by decide) (by decide) (by decide) (by decide), if_pos (show inB 73 n = true by simp [inB, boundsP]; omega)]
  rw [hk, hF, formF_ok hr]
  simp [eventP, wd, z52]
theorem lnr_ask {n : Int} (h1 : 1 ≤ n) (h2 : n ≤ 8) : parseP (wordsP ⟨5, n, 0, 0, 0, ⟨3, [], 0, 0⟩, []⟩) = .ok ⟨5, n, 0, 0, 0, ⟨3, [], 0, 0⟩, []⟩ := by
  have e : wordsP ⟨5, n, 0, 0, 0, ⟨3, [], 0, 0⟩, []⟩ = (⟨#[97, 115, 107]⟩ : ByteArray) ++ ⟨#[32]⟩ ++ joinP [numB n] := by
    apply ba_eq
    simp [wordsP, joinP, roleB]
  rw [e, parse_mk (by decide) (by kernel_rfl) (by simp) (by intro p hp; exact absurd hp (by simp))]
  have hk : kindsOf (⟨#[97, 115, 107]⟩ : ByteArray).toList = [73] := by kernel_rfl
  have hF : (⟨#[97, 115, 107]⟩ : ByteArray).toList = [97, 115, 107] := by kernel_rfl
  have hr : readAll [73] [numB n] = .ok [⟨n, []⟩] := by
    simp only [readAll, read_numB (n := n) (kd := 73) (by decide) (by decide) (by decide) (by decide), if_pos (show inB 73 n = true by simp [inB, boundsP]; omega)]
  rw [hk, hF, formF_ok hr]
  simp [eventP, wd, z52]
theorem lnr_free {n : Int} (h1 : 1 ≤ n) (h2 : n ≤ 8) : parseP (wordsP ⟨5, n, 0, 0, 0, ⟨4, [], 0, 0⟩, []⟩) = .ok ⟨5, n, 0, 0, 0, ⟨4, [], 0, 0⟩, []⟩ := by
  have e : wordsP ⟨5, n, 0, 0, 0, ⟨4, [], 0, 0⟩, []⟩ = (⟨#[102, 114, 101, 101]⟩ : ByteArray) ++ ⟨#[32]⟩ ++ joinP [numB n] := by
    apply ba_eq
    simp [wordsP, joinP, roleB]
  rw [e, parse_mk (by decide) (by kernel_rfl) (by simp) (by intro p hp; exact absurd hp (by simp))]
  have hk : kindsOf (⟨#[102, 114, 101, 101]⟩ : ByteArray).toList = [73] := by kernel_rfl
  have hF : (⟨#[102, 114, 101, 101]⟩ : ByteArray).toList = [102, 114, 101, 101] := by kernel_rfl
  have hr : readAll [73] [numB n] = .ok [⟨n, []⟩] := by
    simp only [readAll, read_numB (n := n) (kd := 73) (by decide) (by decide) (by decide) (by decide), if_pos (show inB 73 n = true by simp [inB, boundsP]; omega)]
  rw [hk, hF, formF_ok hr]
  simp [eventP, wd, z52]
theorem lnr_out {l : List Int} (hb : Bytes l) (hl : l.length ≤ 1000) : parseP (wordsP ⟨4, 0, 0, 0, 0, z52, l⟩) = .ok ⟨4, 0, 0, 0, 0, z52, l⟩ := by
  have e : wordsP ⟨4, 0, 0, 0, 0, z52, l⟩ = (⟨#[111, 117, 116]⟩ : ByteArray) ++ ⟨#[32]⟩ ++ joinP [quoteB l] := by
    apply ba_eq
    simp [wordsP, joinP, roleB]
  rw [e, parse_mk (by decide) (by kernel_rfl) (by simp) (by intro p hp; exact absurd hp (by simp))]
  have hk : kindsOf (⟨#[111, 117, 116]⟩ : ByteArray).toList = [84] := by kernel_rfl
  have hF : (⟨#[111, 117, 116]⟩ : ByteArray).toList = [111, 117, 116] := by kernel_rfl
  have hr : readAll [84] [quoteB l] = .ok [⟨0, l⟩] := by
    simp only [readAll, read_quote84 hb hl]
  rw [hk, hF, formF_ok hr]
  simp [eventP, wd, z52]
theorem lnr_keys {n : Int} {l : List Int} (h1 : 1 ≤ n) (h2 : n ≤ 8) (hb : Bytes l) (hl : l.length ≤ 16) (hp : l ≠ []) : parseP (wordsP ⟨5, n, 0, 0, 0, ⟨1, l, 0, 0⟩, []⟩) = .ok ⟨5, n, 0, 0, 0, ⟨1, l, 0, 0⟩, []⟩ := by
  have e : wordsP ⟨5, n, 0, 0, 0, ⟨1, l, 0, 0⟩, []⟩ = (⟨#[107, 101, 121, 115]⟩ : ByteArray) ++ ⟨#[32]⟩ ++ joinP [numB n, quoteB l] := by
    apply ba_eq
    simp [wordsP, joinP, roleB]
  rw [e, parse_mk (by decide) (by kernel_rfl) (by simp) (by intro p hp; simp only [List.dropLast, List.mem_cons, List.not_mem_nil, or_false] at hp; obtain rfl := hp <;> first | exact numB_no32 _ | decide)]
  have hk : kindsOf (⟨#[107, 101, 121, 115]⟩ : ByteArray).toList = [73, 75] := by kernel_rfl
  have hF : (⟨#[107, 101, 121, 115]⟩ : ByteArray).toList = [107, 101, 121, 115] := by kernel_rfl
  have hr : readAll [73, 75] [numB n, quoteB l] = .ok [⟨n, []⟩, ⟨0, l⟩] := by
    simp only [readAll, read_numB (n := n) (kd := 73) (by decide) (by decide) (by decide) (by decide), if_pos (show inB 73 n = true by simp [inB, boundsP]; omega), read_quote75 hb hl, if_neg hp]
  rw [hk, hF, formF_ok hr]
  simp [eventP, wd, z52]
theorem lnr_size {n a b : Int} (h1 : 1 ≤ n) (h2 : n ≤ 8) (a1 : 1 ≤ a) (a2 : a ≤ 1000) (b1 : 1 ≤ b) (b2 : b ≤ 1000) : parseP (wordsP ⟨5, n, 0, 0, 0, ⟨2, [], a, b⟩, []⟩) = .ok ⟨5, n, 0, 0, 0, ⟨2, [], a, b⟩, []⟩ := by
  have e : wordsP ⟨5, n, 0, 0, 0, ⟨2, [], a, b⟩, []⟩ = (⟨#[115, 105, 122, 101]⟩ : ByteArray) ++ ⟨#[32]⟩ ++ joinP [numB n, numB a, numB b] := by
    apply ba_eq
    simp [wordsP, joinP, roleB]
  rw [e, parse_mk (by decide) (by kernel_rfl) (by simp) (by intro p hp; simp only [List.dropLast, List.mem_cons, List.not_mem_nil, or_false] at hp; obtain rfl | rfl := hp <;> first | exact numB_no32 _ | decide)]
  have hk : kindsOf (⟨#[115, 105, 122, 101]⟩ : ByteArray).toList = [73, 87, 87] := by kernel_rfl
  have hF : (⟨#[115, 105, 122, 101]⟩ : ByteArray).toList = [115, 105, 122, 101] := by kernel_rfl
  have hr : readAll [73, 87, 87] [numB n, numB a, numB b] = .ok [⟨n, []⟩, ⟨a, []⟩, ⟨b, []⟩] := by
    simp only [readAll, read_numB (n := n) (kd := 73) (by decide) (by decide) (by decide) (by decide), if_pos (show inB 73 n = true by simp [inB, boundsP]; omega), read_numB (n := a) (kd := 87) (by decide) (by decide) (by decide) (by decide), if_pos (show inB 87 a = true by simp [inB, boundsP]; omega), read_numB (n := b) (kd := 87) (by decide) (by decide) (by decide) (by decide), if_pos (show inB 87 b = true by simp [inB, boundsP]; omega)]
  rw [hk, hF, formF_ok hr]
  simp [eventP, wd, z52]
theorem lnr_tick {n : Int} (h1 : 1 ≤ n) (h2 : n ≤ 10000) : parseP (wordsP ⟨6, 0, n, 0, 0, z52, []⟩) = .ok ⟨6, 0, n, 0, 0, z52, []⟩ := by
  have e : wordsP ⟨6, 0, n, 0, 0, z52, []⟩ = (⟨#[116, 105, 99, 107]⟩ : ByteArray) ++ ⟨#[32]⟩ ++ joinP [numB n] := by
    apply ba_eq
    simp [wordsP, joinP, roleB]
  rw [e, parse_mk (by decide) (by kernel_rfl) (by simp) (by intro p hp; exact absurd hp (by simp))]
  have hk : kindsOf (⟨#[116, 105, 99, 107]⟩ : ByteArray).toList = [78] := by kernel_rfl
  have hF : (⟨#[116, 105, 99, 107]⟩ : ByteArray).toList = [116, 105, 99, 107] := by kernel_rfl
  have hr : readAll [78] [numB n] = .ok [⟨n, []⟩] := by
    simp only [readAll, read_numB (n := n) (kd := 78) (by decide) (by decide) (by decide) (by decide), if_pos (show inB 78 n = true by simp [inB, boundsP]; omega)]
  rw [hk, hF, formF_ok hr]
  simp [eventP, wd, z52]
theorem lnr_deliver {n : Int} (h1 : 0 ≤ n) (h2 : n ≤ 1073741824) : parseP (wordsP ⟨7, 0, n, 0, 0, z52, []⟩) = .ok ⟨7, 0, n, 0, 0, z52, []⟩ := by
  have e : wordsP ⟨7, 0, n, 0, 0, z52, []⟩ = (⟨#[100, 101, 108, 105, 118, 101, 114]⟩ : ByteArray) ++ ⟨#[32]⟩ ++ joinP [numB n] := by
    apply ba_eq
    simp [wordsP, joinP, roleB]
  rw [e, parse_mk (by decide) (by kernel_rfl) (by simp) (by intro p hp; exact absurd hp (by simp))]
  have hk : kindsOf (⟨#[100, 101, 108, 105, 118, 101, 114]⟩ : ByteArray).toList = [80] := by kernel_rfl
  have hF : (⟨#[100, 101, 108, 105, 118, 101, 114]⟩ : ByteArray).toList = [100, 101, 108, 105, 118, 101, 114] := by kernel_rfl
  have hr : readAll [80] [numB n] = .ok [⟨n, []⟩] := by
    simp only [readAll, read_numB (n := n) (kd := 80) (by decide) (by decide) (by decide) (by decide), if_pos (show inB 80 n = true by simp [inB, boundsP]; omega)]
  rw [hk, hF, formF_ok hr]
  simp [eventP, wd, z52]
theorem lnr_spoil {n m : Int} (h1 : 0 ≤ n) (h2 : n ≤ 1073741824) (m1 : 1 ≤ m) (m2 : m ≤ 255) : parseP (wordsP ⟨8, 0, n, m, 0, z52, []⟩) = .ok ⟨8, 0, n, m, 0, z52, []⟩ := by
  have e : wordsP ⟨8, 0, n, m, 0, z52, []⟩ = (⟨#[115, 112, 111, 105, 108]⟩ : ByteArray) ++ ⟨#[32]⟩ ++ joinP [numB n, numB m] := by
    apply ba_eq
    simp [wordsP, joinP, roleB]
  rw [e, parse_mk (by decide) (by kernel_rfl) (by simp) (by intro p hp; simp only [List.dropLast, List.mem_cons, List.not_mem_nil, or_false] at hp; obtain rfl := hp <;> first | exact numB_no32 _ | decide)]
  have hk : kindsOf (⟨#[115, 112, 111, 105, 108]⟩ : ByteArray).toList = [80, 88] := by kernel_rfl
  have hF : (⟨#[115, 112, 111, 105, 108]⟩ : ByteArray).toList = [115, 112, 111, 105, 108] := by kernel_rfl
  have hr : readAll [80, 88] [numB n, numB m] = .ok [⟨n, []⟩, ⟨m, []⟩] := by
    simp only [readAll, read_numB (n := n) (kd := 80) (by decide) (by decide) (by decide) (by decide), if_pos (show inB 80 n = true by simp [inB, boundsP]; omega), read_numB (n := m) (kd := 88) (by decide) (by decide) (by decide) (by decide), if_pos (show inB 88 m = true by simp [inB, boundsP]; omega)]
  rw [hk, hF, formF_ok hr]
  simp [eventP, wd, z52]
theorem lnr_move {n m : Int} (h1 : 1 ≤ n) (h2 : n ≤ 8) (m1 : 0 ≤ m) (m2 : m ≤ 65535) : parseP (wordsP ⟨9, n, m, 0, 0, z52, []⟩) = .ok ⟨9, n, m, 0, 0, z52, []⟩ := by
  have e : wordsP ⟨9, n, m, 0, 0, z52, []⟩ = (⟨#[109, 111, 118, 101]⟩ : ByteArray) ++ ⟨#[32]⟩ ++ joinP [numB n, numB m] := by
    apply ba_eq
    simp [wordsP, joinP, roleB]
  rw [e, parse_mk (by decide) (by kernel_rfl) (by simp) (by intro p hp; simp only [List.dropLast, List.mem_cons, List.not_mem_nil, or_false] at hp; obtain rfl := hp <;> first | exact numB_no32 _ | decide)]
  have hk : kindsOf (⟨#[109, 111, 118, 101]⟩ : ByteArray).toList = [73, 65] := by kernel_rfl
  have hF : (⟨#[109, 111, 118, 101]⟩ : ByteArray).toList = [109, 111, 118, 101] := by kernel_rfl
  have hr : readAll [73, 65] [numB n, numB m] = .ok [⟨n, []⟩, ⟨m, []⟩] := by
    simp only [readAll, read_numB (n := n) (kd := 73) (by decide) (by decide) (by decide) (by decide), if_pos (show inB 73 n = true by simp [inB, boundsP]; omega), read_numB (n := m) (kd := 65) (by decide) (by decide) (by decide) (by decide), if_pos (show inB 65 m = true by simp [inB, boundsP]; omega)]
  rw [hk, hF, formF_ok hr]
  simp [eventP, wd, z52]
theorem lnr_forge_hub {n m : Int} {l : List Int} (h1 : 1 ≤ n) (h2 : n ≤ 8) (m1 : 0 ≤ m) (m2 : m ≤ 65535) (hb : Bytes l) (hl : l.length ≤ 1000) : parseP (wordsP ⟨10, n, m, 0, 0, z52, l⟩) = .ok ⟨10, n, m, 0, 0, z52, l⟩ := by
  have e : wordsP ⟨10, n, m, 0, 0, z52, l⟩ = (⟨#[102, 111, 114, 103, 101]⟩ : ByteArray) ++ ⟨#[32]⟩ ++ joinP [numB n, numB m, ⟨#[104, 117, 98]⟩, quoteB l] := by
    apply ba_eq
    simp [wordsP, joinP, roleB]
  rw [e, parse_mk (by decide) (by kernel_rfl) (by simp) (by intro p hp; simp only [List.dropLast, List.mem_cons, List.not_mem_nil, or_false] at hp; obtain rfl | rfl | rfl := hp <;> first | exact numB_no32 _ | decide)]
  have hk : kindsOf (⟨#[102, 111, 114, 103, 101]⟩ : ByteArray).toList = [73, 65, 83, 84] := by kernel_rfl
  have hF : (⟨#[102, 111, 114, 103, 101]⟩ : ByteArray).toList = [102, 111, 114, 103, 101] := by kernel_rfl
  have hr : readAll [73, 65, 83, 84] [numB n, numB m, ⟨#[104, 117, 98]⟩, quoteB l] = .ok [⟨n, []⟩, ⟨m, []⟩, ⟨0, []⟩, ⟨0, l⟩] := by
    simp only [readAll, read_numB (n := n) (kd := 73) (by decide) (by decide) (by decide) (by decide), if_pos (show inB 73 n = true by simp [inB, boundsP]; omega), read_numB (n := m) (kd := 65) (by decide) (by decide) (by decide) (by decide), if_pos (show inB 65 m = true by simp [inB, boundsP]; omega), readw_hub, read_quote84 hb hl]
  rw [hk, hF, formF_ok hr]
  simp [eventP, wd, z52]
theorem lnr_forge_view {n m : Int} {l : List Int} (h1 : 1 ≤ n) (h2 : n ≤ 8) (m1 : 0 ≤ m) (m2 : m ≤ 65535) (hb : Bytes l) (hl : l.length ≤ 1000) : parseP (wordsP ⟨10, n, m, 1, 0, z52, l⟩) = .ok ⟨10, n, m, 1, 0, z52, l⟩ := by
  have e : wordsP ⟨10, n, m, 1, 0, z52, l⟩ = (⟨#[102, 111, 114, 103, 101]⟩ : ByteArray) ++ ⟨#[32]⟩ ++ joinP [numB n, numB m, ⟨#[118, 105, 101, 119]⟩, quoteB l] := by
    apply ba_eq
    simp [wordsP, joinP, roleB]
  rw [e, parse_mk (by decide) (by kernel_rfl) (by simp) (by intro p hp; simp only [List.dropLast, List.mem_cons, List.not_mem_nil, or_false] at hp; obtain rfl | rfl | rfl := hp <;> first | exact numB_no32 _ | decide)]
  have hk : kindsOf (⟨#[102, 111, 114, 103, 101]⟩ : ByteArray).toList = [73, 65, 83, 84] := by kernel_rfl
  have hF : (⟨#[102, 111, 114, 103, 101]⟩ : ByteArray).toList = [102, 111, 114, 103, 101] := by kernel_rfl
  have hr : readAll [73, 65, 83, 84] [numB n, numB m, ⟨#[118, 105, 101, 119]⟩, quoteB l] = .ok [⟨n, []⟩, ⟨m, []⟩, ⟨1, []⟩, ⟨0, l⟩] := by
    simp only [readAll, read_numB (n := n) (kd := 73) (by decide) (by decide) (by decide) (by decide), if_pos (show inB 73 n = true by simp [inB, boundsP]; omega), read_numB (n := m) (kd := 65) (by decide) (by decide) (by decide) (by decide), if_pos (show inB 65 m = true by simp [inB, boundsP]; omega), readw_view, read_quote84 hb hl]
  rw [hk, hF, formF_ok hr]
  simp [eventP, wd, z52]
theorem good_line {x : S54} (hb6 : Bytes x.f6) (hb5 : Bytes x.f5.f1) (h : refOk x = true) (hr : x = refRest x) : parseP (wordsP x) = .ok x ∧ x.f6.length ≤ 1000 ∧ x.f5.f1.length ≤ 16 := by
  obtain ⟨k, a, b, c, d, e, l⟩ := x
  unfold refOk at h
  unfold refRest at hr
  dsimp only at h hr hb6 hb5
  by_cases k1 : k = 1
  · subst k1
    simp at h hr
    obtain ⟨rfl, rfl, rfl, rfl⟩ := hr
    obtain ⟨h1, h2, rfl | rfl⟩ := h
    · exact ⟨lnr_join_watch h1 h2, by simp, by simp [z52]⟩
    · exact ⟨lnr_join_write h1 h2, by simp, by simp [z52]⟩
  by_cases k3 : k = 3
  · subst k3
    simp at h hr
    obtain ⟨rfl, rfl, rfl, rfl⟩ := hr
    obtain ⟨h1, h2, rfl | rfl⟩ := h
    · exact ⟨lnr_role_watch h1 h2, by simp, by simp [z52]⟩
    · exact ⟨lnr_role_write h1 h2, by simp, by simp [z52]⟩
  by_cases k2 : k = 2
  · subst k2
    simp at h hr
    obtain ⟨rfl, rfl, rfl, rfl, rfl⟩ := hr
    obtain ⟨h1, h2⟩ := h
    exact ⟨lnr_leave h1 h2, by simp, by simp [z52]⟩
  by_cases k4 : k = 4
  · subst k4
    simp at h hr
    obtain ⟨rfl, rfl, rfl, rfl, rfl⟩ := hr
    have h1 := h
    exact ⟨lnr_out hb6 h1, h1, by simp [z52]⟩
  by_cases k5 : k = 5
  · subst k5
    obtain ⟨m, t, i, j⟩ := e
    simp at h hr
    obtain ⟨rfl, rfl, rfl, rfl⟩ := hr
    obtain ⟨⟨h1, h2⟩, h⟩ := h
    unfold deedOk at h
    dsimp only at h hb5
    by_cases m2 : m = 2
    · subst m2
      simp at h
      obtain ⟨a1, a2, b1, b2, rfl⟩ := h
      exact ⟨lnr_size h1 h2 a1 a2 b1 b2, by simp, by simp⟩
    rw [if_neg m2] at h
    by_cases hij : i ≠ 0 ∨ j ≠ 0
    · rw [if_pos hij] at h
      cases h
    rw [if_neg hij] at h
    have hi : i = 0 := by omega
    have hj : j = 0 := by omega
    subst hi
    subst hj
    by_cases m1 : m = 1
    · subst m1
      simp at h
      exact ⟨lnr_keys h1 h2 hb5 h.2 (by intro h0; subst h0; simp at h), by simp, h.2⟩
    rw [if_neg m1] at h
    simp at h
    obtain ⟨rfl | rfl, rfl⟩ := h
    · exact ⟨lnr_ask h1 h2, by simp, by simp⟩
    · exact ⟨lnr_free h1 h2, by simp, by simp⟩
  by_cases k6 : k = 6
  · subst k6
    simp at h hr
    obtain ⟨rfl, rfl, rfl, rfl, rfl⟩ := hr
    obtain ⟨h1, h2⟩ := h
    exact ⟨lnr_tick h1 h2, by simp, by simp [z52]⟩
  by_cases k7 : k = 7
  · subst k7
    simp at h hr
    obtain ⟨rfl, rfl, rfl, rfl, rfl⟩ := hr
    obtain ⟨h1, h2⟩ := h
    exact ⟨lnr_deliver h1 h2, by simp, by simp [z52]⟩
  by_cases k8 : k = 8
  · subst k8
    simp at h hr
    obtain ⟨rfl, rfl, rfl, rfl⟩ := hr
    obtain ⟨h1, h2, m1, m2⟩ := h
    exact ⟨lnr_spoil h1 h2 m1 m2, by simp, by simp [z52]⟩
  by_cases k9 : k = 9
  · subst k9
    simp at h hr
    obtain ⟨rfl, rfl, rfl, rfl⟩ := hr
    obtain ⟨h1, h2, m1, m2⟩ := h
    exact ⟨lnr_move h1 h2 m1 m2, by simp, by simp [z52]⟩
  by_cases k10 : k = 10
  · subst k10
    simp at h hr
    obtain ⟨rfl, rfl⟩ := hr
    obtain ⟨h1, h2, m1, m2, rfl | rfl, hl⟩ := h
    · exact ⟨lnr_forge_hub h1 h2 m1 m2 hb6 hl, hl, by simp [z52]⟩
    · exact ⟨lnr_forge_view h1 h2 m1 m2 hb6 hl, hl, by simp [z52]⟩
  simp [k1, k2, k3, k4, k5, k6, k7, k8, k9, k10] at h
end Go.Proofs.YtjpkphmihkbfeaaDoor.S34
