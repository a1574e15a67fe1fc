/- Comparing with nil; slices grown from nil; an owned row cut short. No condition. -/
import Derived.Test.YtfohfnpehfcaaaaMem3
import Derived.Laws.Cover3
import Derived.Laws.Pointers
import Derived.Laws.Small
namespace Go.Kw
set_option linter.unusedVariables false
set_option linter.unusedSimpArgs false
section
variable {P : Program} {ρ : Operand → Value} {w w0 : World} {M : List Nat} {L l1 l2 : List Item} {dst : Option Tmp} {ty : TypeId} {pos : String} {aft : Array Edge} {g : Option (Nat × Bool)} {x y z : Operand} {T T2 E I : TypeId} {v : Value} {k : IntKind}
  {d dE : TypeDesc} {sz bts b o : Nat} {zv : Value} {a : Option Addr} {cs C : List Value}

theorem none_dec (a : Option Addr) : a.isNone = decide (a = none) := by cases a <;> rfl
theorem run_eqlSn (t e : TypeId) (a : Option Addr) (l c : Nat) (h : P.underlying t = some (.slice e)) : (binOp .eql t (.slice a l c) (.slice none 0 0)).run P w = .ok (.bool a.isNone) w := by
  simp only [binOp]
  simp [run_equal_slice_nil w t e a l c h]
/-- s == nil. -/
theorem r_eqlSn {n c : Nat} (hT : P.underlying T = some (.slice E)) (hx : ρ x = .slice a n c) (hy : ρ y = .slice none 0 0) : (execOp ρ ⟨dst, .binOp .eql T x y T2, ty, pos, aft, g⟩).run P w = .ok (.value (.bool (decide (a = none)))) w := by
  have he : (eqGuard .eql T x y (.slice a n c) (.slice none 0 0)).run P w = .ok () w := by unfold eqGuard; simp
  simp only [execOp, hx, hy, Sem.run_bind, he, Result.andThen_ok, run_eqlSn T E a n c hT, Sem.run_pure, none_dec]
theorem r_neqSn {n c : Nat} (hT : P.underlying T = some (.slice E)) (hx : ρ x = .slice a n c) (hy : ρ y = .slice none 0 0) : (execOp ρ ⟨dst, .binOp .neq T x y T2, ty, pos, aft, g⟩).run P w = .ok (.value (.bool (decide (¬ a = none)))) w := by
  have he : (eqGuard .neq T x y (.slice a n c) (.slice none 0 0)).run P w = .ok () w := by unfold eqGuard; simp
  simp only [execOp, hx, hy, Sem.run_bind, he, Result.andThen_ok, run_neq_slice_nil w T E a n c hT, Sem.run_pure, none_dec, decide_not]
/-- p == nil. -/
theorem pointee_of (hT : P.underlying T = some (.pointer E)) : P.underlying T = some (.pointer (P.pointee T)) := by simp [Program.pointee, hT]
theorem r_eqlPn (hT : P.underlying T = some (.pointer E)) (hx : ρ x = .pointer a) (hy : ρ y = .pointer none) : (execOp ρ ⟨dst, .binOp .eql T x y T2, ty, pos, aft, g⟩).run P w = .ok (.value (.bool (decide (a = none)))) w := by
  have he : (eqGuard .eql T x y (.pointer a) (.pointer none)).run P w = .ok () w := by unfold eqGuard; simp
  simp only [execOp, hx, hy, Sem.run_bind, he, Result.andThen_ok, run_eql_pointer_nil w T a (pointee_of hT), Sem.run_pure, none_dec]
theorem r_neqPn (hT : P.underlying T = some (.pointer E)) (hx : ρ x = .pointer a) (hy : ρ y = .pointer none) : (execOp ρ ⟨dst, .binOp .neq T x y T2, ty, pos, aft, g⟩).run P w = .ok (.value (.bool (decide (¬ a = none)))) w := by
  have he : (eqGuard .neq T x y (.pointer a) (.pointer none)).run P w = .ok () w := by unfold eqGuard; simp
  simp only [execOp, hx, hy, Sem.run_bind, he, Result.andThen_ok, run_neq_pointer_nil w T a (pointee_of hT), Sem.run_pure, none_dec, decide_not]
theorem r_eqlBool {p q : Bool} (hT : P.underlying T = some .bool) (hx : ρ x = .bool p) (hy : ρ y = .bool q) : (execOp ρ ⟨dst, .binOp .eql T x y T2, ty, pos, aft, g⟩).run P w = .ok (.value (.bool (decide (p = q)))) w := by
  have he : (eqGuard .eql T x y (.bool p) (.bool q)).run P w = .ok () w := by unfold eqGuard; simp
  simp only [execOp, hx, hy, Sem.run_bind, he, Result.andThen_ok, run_eql_bool w T p q hT, Sem.run_pure]
  cases p <;> cases q <;> rfl
theorem r_neqBool {p q : Bool} (hT : P.underlying T = some .bool) (hx : ρ x = .bool p) (hy : ρ y = .bool q) : (execOp ρ ⟨dst, .binOp .neq T x y T2, ty, pos, aft, g⟩).run P w = .ok (.value (.bool (decide (¬ p = q)))) w := by
  have he : (eqGuard .neq T x y (.bool p) (.bool q)).run P w = .ok () w := by unfold eqGuard; simp
  simp only [execOp, hx, hy, Sem.run_bind, he, Result.andThen_ok, run_neq_bool w T p q hT, Sem.run_pure]
  cases p <;> cases q <;> rfl

/-- An owned row, cut short. -/
theorem St.rowCut {n c h : Nat} {xs : List Value} (hS : St w0 M w (l1 ++ .row (.slice a n c) E sz n xs :: l2)) (hn : h ≤ n) : St w0 M w (l1 ++ .row (.slice a h c) E sz h (xs.take (h * sz)) :: l2) := by
  have hx := hS.has (.row (.slice a n c) E sz n xs) (by simp)
  obtain ⟨hl, hw⟩ := hx.1
  have hle : h * sz ≤ n * sz := Nat.mul_le_mul_right _ hn
  refine hS.turnAt rfl rfl rfl (Nat.le_refl _) (fun _ _ _ => rfl) ?_ (fun k hk => .inl ?_)
  · refine ⟨⟨by simp; omega, ?_⟩, ?_⟩
    · rcases hw with ⟨hv, h0⟩ | ⟨gq, cap, cur, hv, h1, h2, h3, h4, h5, h6⟩
      · simp only [Value.slice.injEq] at hv
        left
        simp only [hv.1, hv.2.2]
        have : h = 0 := by omega
        simp [this]
      · simp only [Value.slice.injEq] at hv
        right
        refine ⟨gq, cap, cur, by rw [hv.1, hv.2.2], h1, h2, by omega, h4, h5, ?_⟩
        rw [← h6, List.take_take, Nat.min_eq_left hle]
    · intro g' hg'
      refine hx.2 g' ?_
      cases a with
      | none => simp [Value.ownBlock] at hg'
      | some q => simpa [Value.ownBlock] using hg'
  · cases a with
    | none => simp [Item.id, Value.ownBlock] at hk
    | some q => simpa [Item.id, Value.ownBlock] using hk

theorem r_nilCheckR (hx : ρ x = .pointer a) (hr : Row w a cs) (hn : 0 < cs.length) : (execOp ρ ⟨dst, .nilCheck x, ty, pos, aft, g⟩).run P w = .ok (.value (.pointer a)) w := by
  obtain ⟨b, off, rfl, _⟩ := hr.some_of hn
  exact r_nilCheck hx
/-- T{} of an array. -/
theorem r_build0 {len : Nat} {cs : List Value} (hT : P.underlying T = some (.array len E)) (hZ : TI P T d sz bts (.agg cs.toArray)) (hE : TI P E dE o b zv) :
    (execOp ρ ⟨dst, .build T #[], ty, pos, aft, g⟩).run P w = .ok (.value (.agg cs.toArray)) w := by
  obtain ⟨i, hi, _, _, h3⟩ := hZ.info
  have hz : (zeroValue T).run P w = .ok (.agg cs.toArray) w := by simp [zeroValue, typeInfo, program, Sem.run, hi, h3]
  simp [execOp, Instr.build, hz, run_underlying hT, run_sizeOf hE, Instr.fill, Value.cells]

/-- append(nil, make([]T, n)...), n > 0: a new row. -/
theorem x_growNil {n : Nat} (hS : St w0 M w L) (hT : P.underlying T = some (.slice E)) (hE : TI P E dE sz bts zv) (hI : P.underlying I = some (.int .i64)) (hz : zv.cells.size = sz) (hsz : 0 < sz)
    (hx : ρ x = .slice none 0 0) (hy : ρ y = vi n) (h0 : 0 < n) (hb : n * bts ≤ 140737488355328) (h63 : n ≤ 9223372036854775807) (args : Array Operand) (ha : args = #[x, y]) :
    ∃ u w', (execOp ρ ⟨dst, .call { callee := .builtin .append, args := args, argTypes := #[T, I] }, ty, pos, aft, g⟩).run P w = .ok (.value u) w' ∧
      ∃ a' c' xs, u = .slice a' n c' ∧ n ≤ c' ∧ St w0 M w' (.row (.slice a' n c') E sz n xs :: L) := by
  subst ha
  obtain ⟨i, hi, hs1, hs2, hs3⟩ := hE.info
  subst hs1; subst hs2
  have hn : n ≠ 0 := by omega
  have hsz' : ¬ i.size = 0 := by omega
  have hnn : ¬ ((n : Int) < 0) := by omega
  have hw : IntKind.i64.wrap (n : Int) = n := by unfold IntKind.wrap; simp [IntKind.bits, IntKind.signed]; omega
  have hby : ¬ (281474976710656 < (n : Int) * (i.bytes : Int)) := by rw [← Int.natCast_mul]; omega
  have hai : ∀ W, (asIntOf (vi n)).run P W = .ok (.i64, (n : Int)) W := fun _ => rfl
  have h63' : ¬ (9223372036854775807 < (n : Int)) := by omega
  have h48' : ¬ (281474976710656 < Builtin.nextslicecap n 0 * i.bytes) := by rw [nextslicecap_zero h0]; omega
  have hge := grownCap_ge w n 0 E
  refine ⟨.slice (some ⟨w.heap.size, 0, none⟩) n (grownCap w n 0 E), w.drew.alloc (.cells (Builtin.zeroCells zv.cells n ++ Builtin.zeroCells zv.cells (grownCap w n 0 E - n)) E), ?_, _, _, (Builtin.zeroCells zv.cells n ++ Builtin.zeroCells zv.cells (grownCap w n 0 E - n)).toList.take (n * i.size), rfl, hge, ?_⟩
  · simp [execOp, resolve, invoke, builtin, hx, hy, Builtin.append_, run_underlying hT, run_underlying hI, sizeOf, typeInfo, zeroValue, hi, hs3, hn, hsz', hw, hnn, hby, h63', h48', Question.forced, run_firstCells_none, newRow, grownCap, asInt, hai]
    intro h; exact absurd h (Nat.ne_of_gt (Nat.mul_pos h0 hsz))
  · have hA : St w0 M (w.drew.alloc (.cells (Builtin.zeroCells zv.cells n ++ Builtin.zeroCells zv.cells (grownCap w n 0 E - n)) E)) ([] ++ .blk w.heap.size (cl (Builtin.zeroCells zv.cells n ++ Builtin.zeroCells zv.cells (grownCap w n 0 E - n)).toList E) :: L) := (hS.drew).alloc _
    have := St.toRow (sz := i.size) (n := n) (cap := grownCap w n 0 E) hA hge (by have := grownCap_le_maxLen w n 0 E (by simpa [maxLen] using h63); simpa [maxLen] using this) (by simp only [Array.toList_append, List.length_append, Array.length_toList, size_zeroCells, hz, ← Nat.add_mul]; congr 1; omega)
    exact this
end
theorem made_one {v : Value} (hv : v.oneCell' = true) (n : Nat) : madeCells v.cells n = (List.replicate n v).toArray := by
  have e : v.cells = #[v] := by cases v <;> simp_all [Value.cells, Value.oneCell']
  rw [e]
  apply Array.ext'
  apply List.ext_getElem
  · simp [madeCells]
  · intro i h1 h2
    simp [madeCells, Nat.mod_one]
theorem made_b8 (n : Nat) : madeCells (Value.int .u8 0).cells n = ((List.replicate n (0 : UInt8)).map b8).toArray := by
  rw [made_one rfl, List.map_replicate]; rfl
/-! Cuts behind two statements, and behind three. -/
section
variable {P : Program} {Q : Exit → Act → World → Prop} {n : Nat} {e0 : Env} {w : World} {x y u z : Code}
theorem c_cut2 (S : List Nat) (J : Env → World → Prop)
    (h : x.wp P (Exit.then (fun a w => y.wp P (Exit.then (fun a' w' => ∃ e', a' = act n e' ∧ J e' w' ∧ Keep e0 e' S) Q) a w) Q) (act n e0) w) (hz : ∀ e w, J e w → Keep e0 e S → z.wp P Q (act n (again' e0 e S)) w) : (Code.seq x (Code.seq y z)).wp P Q (act n e0) w := by
  refine c_cut _ h fun a w hK => c_cut _ hK ?_
  rintro a w ⟨e, rfl, hJ, hk⟩
  rw [← act_congr n _ _ (look_again' e0 e S hk)]
  exact hz e w hJ hk
theorem c_cut3 (S : List Nat) (J : Env → World → Prop)
    (h : x.wp P (Exit.then (fun a w => y.wp P (Exit.then (fun a w => u.wp P (Exit.then (fun a' w' => ∃ e', a' = act n e' ∧ J e' w' ∧ Keep e0 e' S) Q) a w) Q) a w) Q) (act n e0) w) (hz : ∀ e w, J e w → Keep e0 e S → z.wp P Q (act n (again' e0 e S)) w) : (Code.seq x (Code.seq y (Code.seq u z))).wp P Q (act n e0) w := by
  refine c_cut _ h fun a w hK => c_cut _ hK fun a w hL => c_cut _ hL ?_
  rintro a w ⟨e, rfl, hJ, hk⟩
  rw [← act_congr n _ _ (look_again' e0 e S hk)]
  exact hz e w hJ hk
end
end Go.Kw
