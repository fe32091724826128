import Derived.Test.YtlkknhojfhbopaaXAscii
import Derived.Test.YtlkknhojfhbopaaX3
set_option linter.unusedVariables false
set_option linter.unusedSimpArgs false
namespace Go.Proofs.Ytlkknhojfhbopaa.M
open Go.RowKit Go.Proofs.YtlkknhojfhbopaaW.PrintWords Go.Proofs.Ytlkknhojfhbopaa.X
theorem fit_f : Ev (fun k => crossroadlaw01_fit.f k) true := Ev.of (fun k => crossroadlaw01_fit.mono k) (k := 12) (by decide +kernel)
/-- A law's head: fit, and light. -/
theorem head1 {f : Nat → Option Bool} {g : Nat → Option Bool} {l : List UInt8}
    (hf : ∀ k, f k = (crossroadlaw01_fit.f k).bind fun t => if t = true then (crossroadlaw01_light.f (toBA l)).bind (fun u => if u = true then g k else some true) else some false)
    (h : l.length ≤ 1000 → Ev g true) : ∃ k, f k = some true := by
  refine Ev.rounds (Ev.congr hf ?_)
  refine Ev.bind fit_f ?_
  simp only [if_true, crossroadlaw01_light.f, Option.bind_some, toBA_size]
  by_cases hl : (l.length : Int) ≤ 1000
  · simp only [decide_eq_true hl, if_true]
    exact h (by omega)
  · simp only [decide_eq_false hl]
    exact Ev.now true
end Go.Proofs.Ytlkknhojfhbopaa.M
