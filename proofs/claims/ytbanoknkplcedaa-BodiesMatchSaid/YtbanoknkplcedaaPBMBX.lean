/- What the law's proof leans on. No condition. -/
import Derived.Test.YtbanoknkplcedaaPBMBV
import Derived.Test.YtbanoknkplcedaaPBMAL
namespace Go.Kw
open Go.Lib
set_option linter.unusedVariables false
set_option linter.unusedSimpArgs false
abbrev I16 := { l : List UInt8 // l.length = 16 }
section
variable {P : Program} {w : World} {t : TypeId}
theorem opens_i16 {e : TypeId} (ht : P.underlying t = some (.array 16 e)) (he : P.underlying e = some (.int .u8)) (hc : P.cellsOf e = 1) (hct : P.cellsOf t = 16) : Opens P w t (fun x : I16 => x.1.map b8) (fun _ => True) := by
  intro H enc fuel cs x hx hw
  obtain ⟨y, e1, e2⟩ := opens_bytesA (w := w) ht he hc hct H enc fuel cs x hx hw
  exact ⟨⟨y, e2⟩, e1, trivial⟩
abbrev BodyT := List UInt8 × List UInt8 × Sl (List UInt8) × List UInt8 × List UInt8 × Int × Int × Int × Int × Int × Int × Sl I16 × Unit
def BodyT.d (y : BodyT) : BodyD := ⟨y.1, y.2.1, y.2.2.1.a, y.2.2.1.xs, y.2.2.1.c, y.2.2.2.1, y.2.2.2.2.1, y.2.2.2.2.2.1, y.2.2.2.2.2.2.1, y.2.2.2.2.2.2.2.1, y.2.2.2.2.2.2.2.2.1, y.2.2.2.2.2.2.2.2.2.1, y.2.2.2.2.2.2.2.2.2.2.1, y.2.2.2.2.2.2.2.2.2.2.2.1.a, y.2.2.2.2.2.2.2.2.2.2.2.1.xs.map (·.1), y.2.2.2.2.2.2.2.2.2.2.2.1.c⟩
theorem flat_i16 (l : List I16) : (l.flatMap fun x : I16 => x.1.map b8) = (l.map (·.1)).flatten.map b8 := by
  induction l with
  | nil => rfl
  | cons x l ih => simp [ih]
theorem opens_body {B : Int → Prop} (h : Opens P w t (fun y : BodyT => [Value.string ⟨y.1.toArray⟩] ++ (y.2.1.map b8 ++ ([y.2.2.1.v] ++ ([Value.string ⟨y.2.2.2.1.toArray⟩] ++ (y.2.2.2.2.1.map b8 ++ ([Value.int .i64 y.2.2.2.2.2.1] ++ ([Value.int .i64 y.2.2.2.2.2.2.1] ++ ([Value.int .i64 y.2.2.2.2.2.2.2.1] ++ ([Value.int .i64 y.2.2.2.2.2.2.2.2.1] ++ ([Value.int .i64 y.2.2.2.2.2.2.2.2.2.1] ++ ([Value.int .i64 y.2.2.2.2.2.2.2.2.2.2.1] ++ ([y.2.2.2.2.2.2.2.2.2.2.2.1.v] ++ []))))))))))))
      (fun y => y.1.length ≤ 140737488351232 ∧ y.2.1.length = 16 ∧ (Row w y.2.2.1.a (y.2.2.1.xs.map fun s => Value.string ⟨s.toArray⟩) ∧ y.2.2.1.xs.length ≤ y.2.2.1.c ∧ y.2.2.1.c * 16 ≤ 140737488351232 ∧ ∀ x ∈ y.2.2.1.xs, x.length ≤ 140737488351232) ∧ y.2.2.2.1.length ≤ 140737488351232 ∧ y.2.2.2.2.1.length = 32 ∧ B y.2.2.2.2.2.1 ∧ B y.2.2.2.2.2.2.1 ∧ B y.2.2.2.2.2.2.2.1 ∧ B y.2.2.2.2.2.2.2.2.1 ∧ B y.2.2.2.2.2.2.2.2.2.1 ∧ B y.2.2.2.2.2.2.2.2.2.2.1 ∧
        (Row w y.2.2.2.2.2.2.2.2.2.2.2.1.a (y.2.2.2.2.2.2.2.2.2.2.2.1.xs.flatMap fun x : I16 => x.1.map b8) ∧ y.2.2.2.2.2.2.2.2.2.2.2.1.xs.length ≤ y.2.2.2.2.2.2.2.2.2.2.2.1.c ∧ y.2.2.2.2.2.2.2.2.2.2.2.1.c * 16 ≤ 140737488351232 ∧ ∀ x ∈ y.2.2.2.2.2.2.2.2.2.2.2.1.xs, True) ∧ True)) :
    Opens P w t (fun x : BodyD => x.v) (fun x => BodyOk x ∧ Row w x.ra (x.ro.map sv) ∧ Row w x.ha (x.ho.flatten.map b8)) :=
  h.to BodyT.d (fun y => by simp [BodyD.v, BodyD.mid, BodyD.tl, BodyT.d, Sl.v, sv, iv]) (fun y ⟨h1, h2, ⟨h3, h4, h5, h6⟩, h7, h8, _, _, _, _, _, _, ⟨h9, h10, h11, _⟩, _⟩ =>
    ⟨⟨h2, h8, (by intro s hs; obtain ⟨z, _, rfl⟩ := List.mem_map.1 hs; exact z.2), h4, (by show y.2.2.1.xs.length ≤ _; omega), (fun s hs => by have := h6 s hs; omega), (by show (y.2.2.2.2.2.2.2.2.2.2.2.1.xs.map _).length ≤ _; rw [List.length_map]; exact h10), (by show (y.2.2.2.2.2.2.2.2.2.2.2.1.xs.map _).length ≤ _; rw [List.length_map]; omega), (by show y.1.length ≤ _; omega), (by show y.2.2.2.1.length ≤ _; omega)⟩,
      h3, by rw [flat_i16] at h9; exact h9⟩)
end
end Go.Kw
