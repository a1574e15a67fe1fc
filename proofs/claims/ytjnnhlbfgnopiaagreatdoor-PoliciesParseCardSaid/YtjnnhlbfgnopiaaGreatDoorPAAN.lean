/- What the law's proof leans on. No condition. -/
import Derived.Test.YtjnnhlbfgnopiaaGreatDoorPAAE
import Derived.Test.YtjnnhlbfgnopiaaGreatDoorPAAM
import Derived.ProofKit
import Derived.OpenShut
import Derived.SizedLaws
namespace Go.Kw
open Go.WideShapes
set_option linter.unusedVariables false
set_option linter.unusedSimpArgs false

/-- Whatever reads as data of type t in w is f of something of which R holds. -/
def Opens (P : Program) (w : World) (t : TypeId) {α : Type} (f : α → List Value) (R : α → Prop) : Prop :=
  ∀ (H : Type) (enc : TypeId × Value → H) (fuel : Nat) (cs : List Value) (x : DataW H × List MemPlace), DataW.trod enc P w 0 (fun _ => true) true fuel t cs = some x → (∀ n ∈ x.1.weights P t, n ≤ reachBytes) → ∃ y, cs = f y ∧ R y
section
variable {P : Program} {w : World} {t e : TypeId}

theorem Opens.to {α β : Type} {f : α → List Value} {R : α → Prop} {f' : β → List Value} {R' : β → Prop} (h : Opens P w t f R) (g : α → β) (hf : ∀ y, f y = f' (g y)) (hR : ∀ y, R y → R' (g y)) : Opens P w t f' R' := by
  intro H enc fuel cs x hx hw
  obtain ⟨y, h1, h2⟩ := h H enc fuel cs x hx hw
  exact ⟨g y, h1.trans (hf y), hR y h2⟩

theorem flatM_get {α : Type} {f : α → List Value} {sz : Nat} (hf : ∀ x, (f x).length = sz) : ∀ (l : List α) (i j : Nat) (y : α), l[i]? = some y → j < sz → (l.flatMap f)[i * sz + j]? = (f y)[j]?
  | [], i, j, y, h, _ => by simp at h
  | a :: l, 0, j, y, h, hj => by
    simp only [List.getElem?_cons_zero, Option.some.injEq] at h
    subst h
    rw [List.flatMap_cons, Nat.zero_mul, Nat.zero_add, List.getElem?_append_left (by rw [hf]; exact hj)]
  | a :: l, i + 1, j, y, h, hj => by
    simp only [List.getElem?_cons_succ] at h
    rw [List.flatMap_cons, List.getElem?_append_right (by rw [hf, Nat.succ_mul]; omega), hf, Nat.succ_mul]
    rw [show i * sz + sz + j - sz = i * sz + j by omega]
    exact flatM_get hf l i j y h hj
theorem flatM_len {α : Type} {f : α → List Value} {sz : Nat} (hf : ∀ x, (f x).length = sz) (l : List α) : (l.flatMap f).length = l.length * sz := by
  induction l with
  | nil => simp
  | cons a l ih => rw [List.flatMap_cons, List.length_append, ih, hf, List.length_cons, Nat.succ_mul]; omega

variable {H : Type} {enc : TypeId × Value → H} {b0 : Nat} {r : Reach} {v : Value} {d : DataW H} {p : List MemPlace}
end
end Go.Kw
