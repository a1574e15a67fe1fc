/- What the law's proof leans on. No condition. -/
import Derived.Test.YtbanoknkplcedaaPBMAJ
import Derived.Test.YtbanoknkplcedaaPBMAF
import Derived.Lib.AppendStr
import Derived.ChangeMaps5
import Derived.Laws.IdiomStrings
namespace Go.Kw
open Go.Lib
set_option linter.unusedVariables false
set_option linter.unusedSimpArgs false
theorem strCells_b8 (l : List UInt8) : strCells ⟨l.toArray⟩ = l.map b8 := by
  simp [strCells, b8]
theorem Row.of_frz {w : World} {b n : Nat} {E : TypeId} {C xs : List Value} {fr : Nat × Nat} (h : w.heap[b]? = some (.cells C.toArray E fr)) (hC : C.take n = xs) : Row w (some ⟨b, 0, none⟩) xs := by
  refine .inr ⟨b, 0, rfl, fun i v hv => ?_⟩
  have hi : C[i]? = some v := by
    rw [← hC] at hv
    by_cases hin : i < n
    · rwa [List.getElem?_take_of_lt hin] at hv
    · rw [List.getElem?_eq_none (by rw [List.length_take]; omega)] at hv; cases hv
  simp [World.cell?, h, hi]
section
variable {P : Program} {ρ : Operand → Value} {w w0 : World} {M : List Nat} {L l1 l2 : List Item} {dst : Option Tmp} {ty : TypeId} {pos : String} {aft : Array Edge} {g : Option (Nat × Bool)} {x y z : Operand} {T T2 E I : TypeId} {v : Value} {k : IntKind}
  {d dE : TypeDesc} {sz bts b o : Nat} {zv : Value} {a : Option Addr} {cs C : List Value}
theorem x_appendStr (l1 : List Item) {l2 : List Item} {n : Nat} {s : List UInt8} {xs : List Value} (hS : St w0 M w (l1 ++ .row v E 1 n xs :: l2)) (hT : P.underlying T = some (.slice E)) (hU : P.underlying T2 = some .string) (hE : TI P E dE 1 1 (.int .u8 0))
    (hx : ρ x = v) (hy : ρ y = .string ⟨s.toArray⟩) (hb : n + s.length ≤ 140737488355328) (args : Array Operand) (ha : args = #[x, y]) :
    ∃ u w', (execOp ρ ⟨dst, .call { callee := .builtin .append, args := args, argTypes := #[T, T2] }, ty, pos, aft, g⟩).run P w = .ok (.value u) w' ∧
      ∃ a' c', u = .slice a' (n + s.length) c' ∧ n + s.length ≤ c' ∧ St w0 M w' (l1 ++ .row (.slice a' (n + s.length) c') E 1 (n + s.length) (xs ++ s.map b8) :: l2) := by
  subst ha
  obtain ⟨i, hi, hs1, hs2, hs3⟩ := hE.info
  have hit := hS.has (.row v E 1 n xs) (by simp)
  have hown := hit.1
  have hss : (⟨s.toArray⟩ : ByteArray).size = s.length := rfl
  have hlen : (xs ++ s.map b8).length = (n + s.length) * 1 := by rw [List.length_append, hown.1, List.length_map]; omega
  have fin : ∀ u w', (Builtin.append_ #[T, T2] ty #[v, .string ⟨s.toArray⟩]).run P w = .ok u w' → (execOp ρ ⟨dst, .call { callee := .builtin .append, args := #[x, y], argTypes := #[T, T2] }, ty, pos, aft, g⟩).run P w = .ok (.value u) w' := by
    intro u w' h
    simp [execOp, resolve, invoke, builtin, hx, hy, h]
  have hfresh : ∀ old, old < n + s.length → ∃ a' c', Value.slice (some ⟨w.heap.size, 0, none⟩) (n + s.length) (grownCap w (n + s.length) old E) = .slice a' (n + s.length) c' ∧ n + s.length ≤ c' ∧
      St w0 M (w.drew.alloc (.cells (xs.toArray ++ (s.map b8).toArray ++ Builtin.zeroCells (Value.int .u8 0).cells (grownCap w (n + s.length) old E - (n + s.length))) E)) (l1 ++ .row (.slice a' (n + s.length) c') E 1 (n + s.length) (xs ++ s.map b8) :: l2) := by
    intro old ho
    have hge := grownCap_ge w (n + s.length) old E
    refine ⟨_, _, rfl, hge, ?_⟩
    refine hS.turnAt rfl rfl rfl (by simp) (fun k hk _ => heap_alloc_old w.drew _ k hk) ?_ (fun k hk => .inr ?_)
    · refine ⟨⟨hlen, .inr ⟨w.heap.size, _, _, rfl, Nat.zero_le _, heap_alloc_new w.drew _, hge, grownCap_le_maxLen w (n + s.length) old E (by simp only [maxLen]; omega), ?_, ?_⟩⟩, ?_⟩
      · simp only [Array.size_append, List.size_toArray, size_zeroCells, hown.1, List.length_map]
        have : (Value.int IntKind.u8 0).cells.size = 1 := rfl
        rw [this]; omega
      · simp only [Array.toList_append, List.append_assoc]
        rw [← List.append_assoc, ← hlen]
        exact List.take_left
      · intro g hg
        simp only [Value.ownBlock, Option.some.injEq] at hg
        subst hg
        exact .inl hS.size
    · simp only [Item.id, Value.ownBlock, Option.some.injEq] at hk
      omega
  rcases hown.2 with ⟨hv, hn⟩ | ⟨gq, cap, cur, hv, _, hg, hnc, hcm, hcs, htake⟩
  · subst hv; subst hn
    have hx0 : xs = [] := List.eq_nil_of_length_eq_zero (by simpa using hown.1)
    subst hx0
    rcases Nat.eq_zero_or_pos s.length with h0 | h0
    · have hs0 : s = [] := List.eq_nil_of_length_eq_zero h0
      subst hs0
      refine ⟨_, w, fin _ _ ?_, none, 0, rfl, Nat.le_refl _, by simpa using hS⟩
      simp [Builtin.append_, run_underlying hT, run_underlying hU, sizeOf, typeInfo, hi, Builtin.lenOf, Builtin.firstCells, ByteArray.size]
    · have hrun := run_append_nil_string (P := P) w T T2 ty E i _ hT hU hi hs3 ⟨s.toArray⟩ h0 (by rw [hss]; omega) (by rw [hss, hs2]; omega)
      obtain ⟨a', c', h1', h2', h3'⟩ := hfresh 0 (by omega)
      simp only [Nat.zero_add, Array.empty_append] at h1' h3' ⊢
      refine ⟨_, _, fin _ _ hrun, a', c', h1', by omega, ?_⟩
      have e : Array.map (fun b : UInt8 => Value.int IntKind.u8 (b.toNat : Int)) s.toArray = (s.map b8).toArray := by simp [b8]
      simp only [e, hss]
      simpa using h3'
  · subst hv
    by_cases hroom : n + s.length ≤ cap
    · have hrun := run_append_room_string (P := P) w T T2 ty E i hT hU hi hs1 gq n cap cur hg ⟨s.toArray⟩ hroom (by rw [hss, hcs]; omega)
      rw [strCells_b8] at hrun
      refine ⟨_, _, fin _ _ hrun, _, _, rfl, hroom, ?_⟩
      refine hS.turnAt rfl rfl rfl (by simp) (fun k hk hne => setRow_other w gq k _ (fun e => hne (by simp [Item.id, Value.ownBlock, e]))) ?_ (fun k hk => .inl (by simpa [Item.id, Value.ownBlock] using hk))
      refine ⟨⟨hlen, .inr ⟨gq, cap, _, rfl, Nat.zero_le _, setRow_heap w gq cur _ E _ hg, hroom, hcm, ?_, ?_⟩⟩, ?_⟩
      · simp only [List.size_toArray, List.length_append, List.length_take, List.length_drop, Array.length_toList, List.length_map, hss]
        omega
      · have ht : cur.toList.take n = xs := by rw [← htake, Nat.mul_one]
        rw [ht, ← hlen]
        exact List.take_left
      · intro g' hg'
        exact hit.2 g' (by simpa [Value.ownBlock] using hg')
    · have holds : ∀ j u, xs[j]? = some u → w.cell? ((⟨gq, 0, none⟩ : Addr).add j) = some u := hown.cells (g := gq) rfl
      have hrun := run_append_grow_string (P := P) w T T2 ty E i _ hT hU hi hs3 ⟨gq, 0, none⟩ n cap xs (by rw [hs1]; exact hown.1) holds ⟨s.toArray⟩ (by rw [hss]; omega) (by rw [hss]; omega) (by rw [hss, hs2]; exact growslice_fits (by omega) (by omega))
      rw [strCells_b8] at hrun
      obtain ⟨a', c', h1', h2', h3'⟩ := hfresh cap (by omega)
      exact ⟨_, _, fin _ _ hrun, a', c', h1', h2', h3'⟩
end
theorem nameE_len {l : List UInt8} (h : nameE l = true) : l.length ≤ 32 := by
  simp only [nameE, Bool.and_eq_true, decide_eq_true_eq] at h
  exact h.2
section
variable {H : Type} {enc : TypeId × Value → H} {P : Program} {w : World} {r : Reach} {b0 base : Nat} {spare : Nat → Bool} {held : Bool} {t : TypeId} {v : Value} {d : DataW H} {p : List MemPlace}
end
end Go.Kw
