/- ScriptParses walked. -/
import Derived.Test.YtjpkphmihkbfeaaDoorRt
import Derived.Test.YtjpkphmihkbfeaaDoorG3
namespace Go.Proofs.YtjpkphmihkbfeaaDoor.S34
open Go.RowKit Go.Proofs.YtjpkphmihkbfeaaDoorW.PrintWords Go.Proofs.YtjpkphmihkbfeaaDoorW.PrintLast Go.Proofs.YtjpkphmihkbfeaaDoorW.PrintMore Go.Proofs.YtjpkphmihkbfeaaDoor.Q
set_option maxRecDepth 100000
set_option linter.unusedSimpArgs false
set_option maxHeartbeats 4000000 in
theorem parses_law (g : Er → Addr) (s : ByteArray) (w : World) (hg : Glob g w) : Calls Tryd.prog 3 #[.string s] w fun r w' => r = .returned (.bool true) ∧ Below w.heap.size w w' := by
  have HG := Aside0.mk hg
  clear hg
  by_cases hbig : 8000 < s.size
  · have d0 : decide ((8000 : Int) < (s.size : Int)) = true := decide_eq_true (by omega)
    clear hbig
    go_enter Tryd.func3, Tryd.ntmps3
    go_wp2_with fail
    refine (known_any g w HG.out).mono ?_
    rintro e w1 ⟨rfl, hB⟩
    have HB := Aside0.mk hB
    clear hB
    go_wp2_with fail
    go_ret
    exact ⟨rfl, HB.out⟩
  have d0 : decide ((8000 : Int) < (s.size : Int)) = false := decide_eq_false (by omega)
  have HSZ := Aside0.mk (show s.size ≤ 8000 by omega)
  obtain ⟨r, hr⟩ : ∃ r, r = parseAll s := ⟨_, rfl⟩
  have HR := Aside0.mk hr.symm
  clear hbig hr
  go_enter Tryd.func3, Tryd.ntmps3
  go_wp2_with fail
  refine (known_any g w HG.out).mono ?_
  rintro e w1 ⟨rfl, hB⟩
  have HB1 := Aside0.mk hB
  have HG1 := Aside0.mk (HG.out.below hB)
  clear hB HG
  go_wp2_with fail
  have HPC := Aside0.mk (Parse_any g s w1 HG1.out (by have := HSZ.out; omega))
  rw [HR.out] at HPC
  refine HPC.out.mono ?_
  clear HPC
  cases r with
  | ok l =>
    rintro e w2 ⟨v, rfl, hR, hB⟩
    obtain ⟨A, c, rfl, hc, hC⟩ := Kd.R_reads hR
    have HB2 := Aside0.mk (below_seq HB1.out hB)
    have HC2 := Aside0.mk hC
    have HPC := Aside0.mk (rparse_any s w2 (by have := HSZ.out; omega))
    rw [HR.out] at HPC
    clear hR hB hc hC
    go_wp2_with fail
    refine HPC.out.mono ?_
    clear HPC
    rintro e w3 ⟨v, rfl, hR, hB⟩
    obtain ⟨A3, c3, rfl, hc, hC⟩ := Kd.R_reads hR
    have HB3 := Aside0.mk (below_seq HB2.out hB)
    have HGD := Aside0.mk (parseAll_good HR.out)
    have HAC := Aside0.mk (alike_any l l A A3 c c3 w3 (Kd.C_below HC2.out hB) hC HGD.out HGD.out (by have := parseAll_len HR.out; have := HSZ.out; omega))
    rw [show alikeP l l = true from decide_eq_true rfl] at HAC
    clear hR hB hc hC HGD
    go_wp2_with fail
    refine HAC.out.mono ?_
    clear HAC
    rintro e w4 ⟨rfl, hB⟩
    have HB4 := Aside0.mk (below_seq HB3.out hB)
    clear hB
    go_wp2
    go_ret
    exact ⟨rfl, HB4.out⟩
  | error z =>
    obtain ⟨n, x⟩ := z
    have hn := err_line HR.out
    have HN := Aside0.mk (show 1 ≤ n ∧ n ≤ 9223372036854775807 from ⟨hn.1, by have := HSZ.out; omega⟩)
    rintro e w2 ⟨b2, rfl, hF, _, hB⟩
    have HB2 := Aside0.mk (below_seq HB1.out hB)
    have HG2 := Aside0.mk (HG1.out.below hB)
    have HF2 := Aside0.mk hF
    have HPC := Aside0.mk (rparse_any s w2 (by have := HSZ.out; omega))
    rw [HR.out] at HPC
    clear hF hB hn
    go_wp2_with fail
    refine HPC.out.mono ?_
    clear HPC
    rintro e w3 ⟨rfl, hB⟩
    have HB3 := Aside0.mk (below_seq HB2.out hB)
    have HG3 := Aside0.mk (HG2.out.below hB)
    have HF3 := Aside0.mk (show FaultAt g x n b2 w3 from blk_below HF2.out hB)
    have HFC := Aside0.mk (fault_any g x n b2 w3 HG3.out HF3.out)
    obtain ⟨cd, hcd⟩ : ∃ cd, cd = x.code := ⟨_, rfl⟩
    rw [← hcd]
    have hc0 : (cd == 0) = false := beq_eq_false_iff_ne.2 (by rw [hcd]; exact code_ne x)
    have HCD := Aside0.mk hcd
    clear hB hcd
    go_wp2_with fail
    refine HFC.out.mono ?_
    clear HFC
    rintro e w4 ⟨rfl, hB⟩
    have HB4 := Aside0.mk (below_seq HB3.out hB)
    have HG4 := Aside0.mk (HG3.out.below hB)
    have HF4 := Aside0.mk (show FaultAt g x n b2 w4 from blk_below HF3.out hB)
    have HTC := Aside0.mk (told_any g x n b2 w4 HG4.out HF4.out HN.out.1 HN.out.2)
    clear hB
    simp only [Option.elim, Option.map, codeE]
    rw [← HCD.out]
    go_wp2_with fail
    refine HTC.out.mono ?_
    clear HTC
    rintro e w5 ⟨rfl, hB⟩
    have HB5 := Aside0.mk (below_seq HB4.out hB)
    clear hB
    go_wp2
    go_ret
    exact ⟨rfl, HB5.out⟩
end Go.Proofs.YtjpkphmihkbfeaaDoor.S34
