/- The reference's Print by a contract: what it prints is script.Line's. -/
import Derived.Test.YtjpkphmihkbfeaaDoorOa
import Derived.Test.YtjpkphmihkbfeaaDoorOb
import Derived.Test.YtjpkphmihkbfeaaDoorOc
import Derived.Test.YtjpkphmihkbfeaaDoorOd
import Derived.Test.YtjpkphmihkbfeaaDoorOe
import Derived.Test.YtjpkphmihkbfeaaDoorOf
import Derived.Test.YtjpkphmihkbfeaaDoorOg
import Derived.Test.YtjpkphmihkbfeaaDoorOh
import Derived.Test.YtjpkphmihkbfeaaDoorZe
namespace Go.Proofs.YtjpkphmihkbfeaaDoor.S34
open Go.RowKit Go.Proofs.YtjpkphmihkbfeaaDoorW.PrintWords Go.Proofs.YtjpkphmihkbfeaaDoorW.PrintLast Go.Proofs.YtjpkphmihkbfeaaDoorW.PrintMore Go.Proofs.YtjpkphmihkbfeaaDoor.Q
set_option maxRecDepth 100000
set_option linter.unusedSimpArgs false
set_option linter.unusedVariables false
theorem lineP_ref (x : S54) (hb6 : Bytes x.f6) (hb5 : Bytes x.f5.f1) : lineP x = refPrint x := by
  unfold lineP refPrint
  by_cases h : refOk x = true ∧ x = refRest x
  · have hg := good_line hb6 hb5 h.1 h.2
    rw [if_pos h, hg.1, if_neg (by omega), if_neg (by omega)]
    simp
  · rw [if_neg h]
    split
    · rfl
    · split
      · rfl
      · cases hp : parseP (wordsP x) with
        | error => rfl
        | ok y =>
          dsimp only
          by_cases hy : y = x
          · subst hy
            exact absurd (parse_good hp) h
          · rw [if_neg hy]

theorem rprint_any (x : S54) (A6 A9 : Option Addr) (c6 c9 : Nat) (w : World) (hx : EvIn x A6 A9 c6 c9 w) (hn6 : x.f5.f1.length ≤ 1200000) (hn9 : x.f6.length ≤ 1200000) :
    Calls Tryd.prog 23 #[evArg x A6 A9 c6 c9] w (PrRes (lineP x) w) := by
  rw [lineP_ref x hx.b9 hx.b6]
  by_cases k1 : x.f0 = 1
  · exact print_join x A6 A9 c6 c9 w hx hn6 hn9 k1
  by_cases k2 : x.f0 = 2
  · exact print_leave x A6 A9 c6 c9 w hx hn6 hn9 k2
  by_cases k3 : x.f0 = 3
  · exact print_role x A6 A9 c6 c9 w hx hn6 hn9 k3
  by_cases k4 : x.f0 = 4
  · exact print_out x A6 A9 c6 c9 w hx hn6 hn9 k4
  by_cases k5 : x.f0 = 5
  · exact print_do x A6 A9 c6 c9 w hx hn6 hn9 k5
  by_cases k6 : x.f0 = 6
  · exact print_tick x A6 A9 c6 c9 w hx hn6 hn9 k6
  by_cases k7 : x.f0 = 7
  · exact print_deliver x A6 A9 c6 c9 w hx hn6 hn9 k7
  by_cases k8 : x.f0 = 8
  · exact print_spoil x A6 A9 c6 c9 w hx hn6 hn9 k8
  by_cases k9 : x.f0 = 9
  · exact print_move x A6 A9 c6 c9 w hx hn6 hn9 k9
  by_cases k10 : x.f0 = 10
  · exact print_forge x A6 A9 c6 c9 w hx hn6 hn9 k10
  exact print_other x A6 A9 c6 c9 w hx hn6 hn9 ⟨k1, k2, k3, k4, k5, k6, k7, k8, k9, k10⟩
end Go.Proofs.YtjpkphmihkbfeaaDoor.S34
