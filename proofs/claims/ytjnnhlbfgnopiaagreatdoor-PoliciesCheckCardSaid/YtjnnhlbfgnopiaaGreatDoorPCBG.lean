/- What the law's proof leans on. No condition. -/
import Derived.Test.YtjnnhlbfgnopiaaGreatDoorPCAG
import Derived.Test.YtjnnhlbfgnopiaaGreatDoorPCBF
namespace Go.Proofs.YtjnnhlbfgnopiaaGreatDoor
open Go Go.Proofs Go.Kw
set_option linter.unusedVariables false

theorem bad_low (n : Nat) (h : n < 128) : isBad n = !nameB (UInt8.ofNat n) := by
  have : ∀ m : Fin 128, isBad m.val = !nameB (UInt8.ofNat m.val) := by decide +kernel
  exact this ⟨n, h⟩
theorem bad_high (n : Nat) (h : 128 ≤ n) : isBad n = true := by
  have : ¬ ((n : Int) < 128) := by omega
  simp [isBad, runeIn, this]
theorem decode_high (s : ByteArray) (i : Nat) (h : 128 ≤ (s.get! (i + 0)).toNat) : 128 ≤ (Utf8.decode s i).1 := by
  unfold Utf8.decode Utf8.runeError
  simp only
  repeat' split
  all_goals (try simp only [Bool.and_eq_true, decide_eq_true_eq] at *)
  all_goals omega
theorem idx_law (l : List UInt8) : ∀ (f pos : Nat), l.length ≤ pos + f → decide (0 ≤ Lib.idxFuncFrom isBad true ⟨l.toArray⟩ f pos) = !((l.drop pos).all nameB)
  | 0, pos, h => by
    rw [List.drop_eq_nil_of_le (by omega)]
    simp [Lib.idxFuncFrom]
  | f + 1, pos, h => by
    have hsz : (⟨l.toArray⟩ : ByteArray).size = l.length := rfl
    unfold Lib.idxFuncFrom
    by_cases hp : pos < l.length
    · rw [hsz, if_pos hp]
      have hd : l.drop pos = l[pos] :: l.drop (pos + 1) := List.drop_eq_getElem_cons hp
      have hg : (⟨l.toArray⟩ : ByteArray).get! (pos + 0) = l[pos] := by
        show (l.toArray)[pos]! = _
        simp [hp]
      by_cases hb : (l[pos]).toNat < 128
      · have hdec : Utf8.decode ⟨l.toArray⟩ pos = ((l[pos]).toNat, 1) := decode_ascii _ pos (by rw [hsz]; exact hp) hb
        rw [hdec]
        simp only
        rw [bad_low _ hb, hd]
        have hb2 : UInt8.ofNat (l[pos]).toNat = l[pos] := by simp
        rw [hb2]
        cases hn : nameB l[pos]
        · simp only [List.all_cons, hn, Bool.not_false, if_true, Bool.false_and]
          exact decide_eq_true (by omega)
        · have := idx_law l f (pos + 1) (by omega)
          simp only [Bool.not_true, Bool.false_eq_true, if_false, List.all_cons, hn, Bool.true_and]
          exact this
      · have h1 := decode_high ⟨l.toArray⟩ pos (by rw [hg]; omega)
        rw [bad_high _ h1, if_pos rfl, hd]
        have hn : nameB l[pos] = false := nameB_f (by omega)
        simp only [List.all_cons, hn, Bool.false_and, Bool.not_false]
        exact decide_eq_true (by omega)
    · rw [hsz, if_neg hp, List.drop_eq_nil_of_le (by omega)]
      rfl
theorem badIn (l : List UInt8) : decide (0 ≤ Lib.idxFunc isBad true ⟨l.toArray⟩) = !(l.all nameB) := by
  have := idx_law l l.length 0 (by omega)
  rw [List.drop_zero] at this
  exact this
end Go.Proofs.YtjnnhlbfgnopiaaGreatDoor
