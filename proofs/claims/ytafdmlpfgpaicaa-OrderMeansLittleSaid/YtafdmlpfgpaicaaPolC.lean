/- Two lists of rules behind one another. No condition. -/
import Derived.Test.YtafdmlpfgpaicaaFacts
import Derived.Test.YtafdmlpfgpaicaaPolB
namespace Go.Proofs.Ytafdmlpfgpaicaa
open Go.Kw
set_option linter.unusedVariables false
set_option linter.unusedSimpArgs false
set_option maxRecDepth 100000
theorem concatR2_ok (x y : List RuleD) (a1 a2 a : Option Addr) (n1 n2 c1 c2 c : Nat) (w : World) (hb : Row w a [.slice a1 n1 c1, .slice a2 n2 c2]) (h1 : Row w a1 (x.flatMap RuleD.v)) (h2 : Row w a2 (y.flatMap RuleD.v)) (l1 : x.length = n1) (l2 : y.length = n2) (hn : n1 + n2 ≤ 1000) :
    Ret Try.prog 20 [.slice a 2 c] w (fun v w' => ∃ a' c', v = .slice a' (n1 + n2) c' ∧ St w [] w' [.row (.slice a' (n1 + n2) c') 37 8 (n1 + n2) ((x ++ y).flatMap RuleD.v)]) := by
  subst l1; subst l2
  have e : totalR [⟨a1, c1, x⟩, ⟨a2, c2, y⟩] = x.length + y.length := by simp [totalR]
  have e2 : joinedR [⟨a1, c1, x⟩, ⟨a2, c2, y⟩] = x ++ y := by simp [joinedR]
  have h := concatR_ok [⟨a1, c1, x⟩, ⟨a2, c2, y⟩] a c w hb (by intro q hq; simp only [List.mem_cons, List.not_mem_nil, or_false] at hq; rcases hq with rfl | rfl <;> first | exact h1 | exact h2) (by simp) (by rw [e]; exact hn)
  rw [e, e2] at h
  exact h

end Go.Proofs.Ytafdmlpfgpaicaa
