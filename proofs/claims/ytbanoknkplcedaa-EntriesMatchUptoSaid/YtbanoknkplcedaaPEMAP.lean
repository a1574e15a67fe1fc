/- What the law's proof leans on. No condition. -/
import Derived.Test.YtbanoknkplcedaaPEMAN
import Derived.Laws.Externs
import Derived.Lib.Bytealg
import Derived.Shelf.GgSortFunc.InsertionK
import Derived.Shelf.SlSortCmp.Insertion
namespace Go.Kw
open Go.Lib Go.Sort Go.Proofs
set_option linter.unusedVariables false
theorem run_loadBytes {P : Program} {w : World} {b : Nat} : ∀ (l : List UInt8) (o : Nat) (acc : ByteArray), At w b o (l.map b8) → (Extern.Bytes.loadBytes ⟨b, o, none⟩ l.length acc).run P w = .ok ⟨acc.data ++ l.toArray⟩ w
  | [], o, acc, _ => by simp [Extern.Bytes.loadBytes]
  | x :: l, o, acc, h => by
    have h0 : w.cell? ⟨b, o, none⟩ = some (b8 x) := by simpa using h 0 (b8 x) (by simp)
    have ht : At w b (o + 1) (l.map b8) := h.part 1 (ds := l.map b8) (by intro i v hv; rw [List.map_cons, Nat.add_comm, List.getElem?_cons_succ]; exact hv)
    have ih := run_loadBytes (P := P) l (o + 1) (acc.push x) ht
    have e : (⟨b, o, none⟩ : Addr).add 1 = ⟨b, o + 1, none⟩ := add_lit b o 1
    have hx : ((x.toNat : Int)).toNat.toUInt8 = x := by simp
    simp only [List.length_cons, Extern.Bytes.loadBytes, Sem.run_bind, run_load, h0, Result.andThen, b8, e, hx]
    rw [ih]
    simp [ByteArray.push]
theorem run_cmpBytes {P : Program} {w : World} {b1 b2 o1 o2 c1 c2 : Nat} {x y : List UInt8} (h1 : At w b1 o1 (x.map b8)) (h2 : At w b2 o2 (y.map b8)) :
    (Extern.BytealgCompare.compare #[.slice (some ⟨b1, o1, none⟩) x.length c1, .slice (some ⟨b2, o2, none⟩) y.length c2]).run P w = .ok (.int .i64 (compareBytes x y)) w := by
  change Sem.run P (do pure (goInt (Extern.BytealgCompare.cmp (← Extern.Bytes.bytesOf (.slice (some ⟨b1, o1, none⟩) x.length c1)) (← Extern.Bytes.bytesOf (.slice (some ⟨b2, o2, none⟩) y.length c2))))) w = _
  simp only [Extern.Bytes.bytesOf, Sem.run_bind, Sem.run_pure, run_loadBytes x o1 .empty h1, run_loadBytes y o2 .empty h2, Result.andThen]
  rw [cmp_eq]
  simp [ByteArray.empty, ByteArray.emptyWithCapacity, goInt]
  rfl
/-! ### The order of octets -/
theorem cmp_swap : ∀ x y, compareBytes y x = - compareBytes x y
  | [], [] => by simp [compareBytes]
  | [], _ :: _ => by simp [compareBytes]
  | _ :: _, [] => by simp [compareBytes]
  | a :: x, b :: y => by
    unfold compareBytes
    by_cases h1 : a < b
    · have : ¬ b < a := fun h => UInt8.lt_irrefl a (UInt8.lt_trans h1 h)
      simp [h1, this]
    · by_cases h2 : b < a
      · simp [h1, h2]
      · simp [h1, h2, cmp_swap x y]
/-! ### Rows of sums, sorted -/
abbrev Sum32 := { l : List UInt8 // l.length = 32 }
instance : Inhabited Sum32 := ⟨⟨List.replicate 32 0, by simp⟩⟩
theorem S32.of (ds : List Sum32) : S32 (ds.map (·.1)) := by
  intro s hs
  obtain ⟨x, _, rfl⟩ := List.mem_map.1 hs
  exact x.2
end Go.Kw
