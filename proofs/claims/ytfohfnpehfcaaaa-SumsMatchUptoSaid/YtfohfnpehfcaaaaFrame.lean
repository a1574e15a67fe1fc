/- Texts that are framed: each behind its length. No condition. -/
import Derived.Test.YtfohfnpehfcaaaaNum
import Derived.Test.YtfohfnpehfcaaaaTree
namespace Go.Kw
set_option linter.unusedVariables false
set_option linter.unusedSimpArgs false
def frame1 (q : Piece) : List UInt8 := octs (UInt32.ofNat q.xs.length) ++ q.xs
/-- Texts, each behind its length. -/
def framedL (ps : List Piece) : List UInt8 := ps.flatMap frame1
theorem frame1_len (q : Piece) : (frame1 q).length = 4 + q.xs.length := by simp [frame1]
theorem framed_len : ∀ (ps : List Piece), (framedL ps).length = total ps + 4 * ps.length
  | [] => rfl
  | q :: ps => by
    have ih := framed_len ps
    simp only [framedL, List.flatMap_cons, List.length_append, frame1_len, List.length_cons] at *
    have : total (q :: ps) = q.xs.length + total ps := by simp [total]
    omega
theorem framed_zero (ps : List Piece) : framedL (ps.take 0) = [] := by simp [framedL]
theorem framed_take (ps : List Piece) (k : Nat) (h : k < ps.length) : framedL (ps.take (k + 1)) = framedL (ps.take k) ++ (octs (UInt32.ofNat (gt ps k).xs.length) ++ (gt ps k).xs) := by
  rw [take_gt ps k h, framedL, List.flatMap_append]
  simp [framedL, frame1]
theorem framed_le (ps : List Piece) (k : Nat) (h : k ≤ ps.length) : (framedL (ps.take k)).length ≤ (framedL ps).length := by
  rw [framed_len, framed_len, List.length_take]
  have := total_le ps k
  omega
theorem gt_total (ps : List Piece) (k : Nat) (h : k < ps.length) : (gt ps k).xs.length ≤ total ps := by
  have h1 := total_take ps k h
  have h2 := total_le ps (k + 1)
  omega
end Go.Kw
