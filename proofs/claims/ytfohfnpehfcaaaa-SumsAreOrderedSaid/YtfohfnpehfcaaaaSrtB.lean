/- For the law on sums in order. No condition. -/
import Derived.Test.YtfohfnpehfcaaaaFacts
import Derived.Test.YtfohfnpehfcaaaaSrtA
import Derived.Test.YtfohfnpehfcaaaaDigA
import Derived.Test.YtfohfnpehfcaaaaKeys
import Derived.Test.YtfohfnpehfcaaaaHeadB
namespace Go.Proofs.Ytfohfnpehfcaaaa
open Go.Kw
set_option linter.unusedVariables false
set_option linter.unusedSimpArgs false
set_option maxRecDepth 100000
theorem hex_n (l : List UInt8) (a : Option Addr) (n c : Nat) (w : World) (hb : Row w a (l.map b8)) (hl : l.length = n) (hn : n ≤ 1048576) : Ret Try.prog 86 [.slice a n c] w (fun v w' => v = .string ⟨(hexL l).toArray⟩ ∧ St w [] w' []) := by
  subst hl
  exact hex_ok l a c w hb (by omega)
theorem parseBack (l : List UInt8) (w : World) (hl : l.length = 32) : Ret Try.prog 87 [.string ⟨(hexL l).toArray⟩, vi 32] w (fun v w' => ∃ a' c', v = .tuple #[.slice a' 32 c', vi 0] ∧ 32 ≤ c' ∧ St w [] w' [.row (.slice a' 32 c') 5 1 32 (l.map b8)]) := by
  refine (parseHex_ok (hexL l) 32 w (by simp; omega) (by decide) (by decide)).mono fun v w' h => ?_
  have hz : (32 : Int).toNat = 32 := rfl
  rw [hz] at h
  rcases h with ⟨h, _⟩ | ⟨⟨_, h⟩, _⟩ | ⟨_, h⟩
  · omega
  · exact absurd ⟨by simp; omega, hexC_hex l⟩ h
  · rw [show unhexTo (hexL l) 32 = l by rw [← hl, unhex_hex l _ (Nat.le_refl _), List.take_length]] at h
    exact h
theorem isHex_f (t : List UInt8) (m : Nat) (w : World) (ht : t.length ≤ 9223372036854775807) (hm : m ≤ 1048576) (hno : ¬ (t.length = 2 * m ∧ t.all hexC = true)) : Ret Try.prog 89 [.string ⟨t.toArray⟩, vi m] w (fun v w' => v = .bool false ∧ St w [] w' []) :=
  (isHex_ok t m w ht hm).mono fun v w' h => by
    have e : (decide (t.length = 2 * m) && t.all hexC) = false := by
      rw [Bool.eq_false_iff]
      intro hh
      rw [Bool.and_eq_true] at hh
      exact hno ⟨of_decide_eq_true hh.1, hh.2⟩
    rwa [e] at h
theorem sumKeys : SumKeys Try.prog 49 := ⟨Go.WideMaps.ArrKey.law ⟨Try.underlying49, (by kernel_rfl), (by kernel_rfl), (by kernel_rfl)⟩, sum_key Try.underlying49 Try.underlying5 (by kernel_rfl) (by kernel_rfl) (by kernel_rfl) ⟨254, by kernel_rfl⟩⟩
theorem hex_back {t : List UInt8} {n : Nat} (h : t.length = 2 * n) (ha : t.all hexC = true) : hexL (unhexTo t n) = t := by
  have := hex_unhexTo (t := t) n (by omega) (by rw [← h, List.take_length]; exact ha)
  rwa [← h, List.take_length] at this

end Go.Proofs.Ytfohfnpehfcaaaa
