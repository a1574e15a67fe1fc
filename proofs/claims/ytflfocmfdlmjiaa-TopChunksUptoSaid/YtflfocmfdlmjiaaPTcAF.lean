/- What the law's proof leans on. No condition. -/
import Derived.Test.YtflfocmfdlmjiaaPTcAE
import Derived.ProofKit
import Derived.OpenShut
import Derived.SizedLaws
namespace Go.Kw
open Go.WideShapes
set_option linter.unusedVariables false
set_option linter.unusedSimpArgs false
section
variable {H : Type} {enc : TypeId × Value → H} {P : Program} {w : World} {base b0 : Nat} {spare : Nat → Bool} {held : Bool} {t e : TypeId} {v : Value} {d : DataW H} {p : List MemPlace} {r : Reach}

theorem byte_of_wf {n : Int} (h : (Lit.int .u8 n).wf = true) : ∃ b : UInt8, Value.int .u8 n = b8 b := by
  simp [Lit.wf, IntKind.min, IntKind.max, IntKind.signed, IntKind.bits] at h
  refine ⟨UInt8.ofNat n.toNat, ?_⟩
  simp only [b8, UInt8.toNat_ofNat', Value.int.injEq, true_and]
  omega
theorem i64_of_wf {n : Int} (h : (Lit.int .i64 n).wf = true) : -9223372036854775808 ≤ n ∧ n ≤ 9223372036854775807 := by
  simp [Lit.wf, IntKind.min, IntKind.max, IntKind.signed, IntKind.bits] at h
  omega

/-- A slice of octets. -/
theorem open_bytesS {ts : List TypeId} {ds : List (DataW H)} {j : Nat} (hu : P.underlying t = some (.slice e)) (he : P.underlying e = some (.int .u8)) (hc : P.cellsOf e = 1) (hby : P.bytesOf e = 1)
    (hok : Value.okWide P w r b0 t v) (h : DataW.Trod enc P w base (fun _ => true) held t v d p) (hsz : (DataW.weightsEach P ts ds).all (· ≤ reachBytes) = true) (ht : ts[j]? = some t) (hd : ds[j]? = some d) :
    ∃ (a : Option Addr) (bs : List UInt8) (c : Nat), v = .slice a bs.length c ∧ Row w a (bs.map b8) ∧ bs.length ≤ c ∧ c ≤ 140737488351232 := by
  obtain ⟨a, len, cap, rfl⟩ := okWide_slice hu hok
  obtain ⟨fuel, hf⟩ := h
  rcases DataW.trod_slice hu hf with ⟨hcs, _⟩ | ⟨a', len', cap', elems, rest, n, _, hcs, hx, hb, hl, hm, hel, hget, hrest, _⟩
  · simp [Value.cells] at hcs
    obtain ⟨rfl, rfl, rfl⟩ := hcs
    exact ⟨none, [], 0, rfl, Row.nil, Nat.le_refl _, by omega⟩
  · simp [Value.cells] at hcs
    obtain ⟨rfl, rfl, rfl⟩ := hcs
    simp only [Prod.mk.injEq] at hx
    have hs := sized_slice hsz ht (by rw [hd, hx.1]) hu
    have hr := (hrest rfl).1
    simp only [List.length_map, hel, hr, hby, reachBytes] at hs
    have hcell : ∀ i, i < len → ∃ x : UInt8, w.cell? (a'.add i) = some (b8 x) := by
      intro i hi
      have h1 := hget i hi
      rw [List.getElem?_eq_getElem (by omega), hc, Nat.mul_one] at h1
      obtain ⟨cs, h2, h3⟩ := Option.bind_eq_some_iff.1 h1
      obtain ⟨k, h4, _, h5⟩ := DataW.trod_int he h3
      subst h4
      unfold World.cells? at h2
      split at h2
      · simp only [List.range_one, List.mapM_cons, List.mapM_nil, bind, Option.bind, pure] at h2
        cases hcl : w.cell? ((a'.add i).add 0) with
        | none => simp [hcl] at h2
        | some u =>
          simp [hcl] at h2
          subst h2
          obtain ⟨x, hx⟩ := byte_of_wf h5
          refine ⟨x, ?_⟩
          rw [← hx]
          simpa [Addr.add] using hcl
      · cases h2
    obtain ⟨b, off, spot⟩ := a'
    by_cases h0 : len = 0
    · subst h0
      exact ⟨_, [], cap, rfl, Row.nil, Nat.zero_le _, by omega⟩
    · have hspot : spot = none := by
        obtain ⟨x, hx⟩ := hcell 0 (by omega)
        simpa [Addr.add] using World.cell?_spot hx
      subst hspot
      let bs : List UInt8 := (List.range len).map fun i => if h : i < len then (hcell i h).choose else 0
      have hbl : bs.length = len := by simp [bs]
      refine ⟨_, bs, cap, by rw [hbl], Row.of_at (b := b) (off := off) ?_, by omega, by omega⟩
      intro i v hv
      have hi : i < len := by
        have := (List.getElem?_eq_some_iff.1 hv).1
        simpa [bs] using this
      have h1 := (hcell i hi).choose_spec
      rw [← add_lit b off i, h1]
      have : (bs.map b8)[i]? = some (b8 (hcell i hi).choose) := by simp [bs, hi]
      rw [this] at hv
      exact hv
end
end Go.Kw
