/- Sets of sums in maps; what is sorted, each once. No condition. -/
import Derived.Test.YtfohfnpehfcaaaaComp
import Derived.Test.YtfohfnpehfcaaaaSet
import Derived.WideKeyArr
namespace Go.Kw
open Go.WideMaps Go.Lib
set_option linter.unusedVariables false
set_option linter.unusedSimpArgs false
abbrev suv (x : Sum32) : Value := .agg (x.1.map b8).toArray
theorem b8_inj : ∀ {a b : List UInt8}, a.map b8 = b.map b8 → a = b
  | [], [], _ => rfl
  | [], _ :: _, h => by simp at h
  | _ :: _, [], h => by simp at h
  | x :: a, y :: b, h => by
    simp only [List.map_cons, List.cons.injEq, b8, Value.int.injEq, true_and] at h
    have h1 : x = y := UInt8.toNat_inj.1 (by exact_mod_cast h.1)
    rw [h1, b8_inj h.2]
theorem suv_inj {a b : Sum32} (h : suv a = suv b) : a = b := by
  simp only [suv, Value.agg.injEq] at h
  exact Subtype.ext (b8_inj (by simpa using congrArg Array.toList h))
theorem mapM_some {α β : Type} {f : α → Option β} : ∀ (l : List α), (∀ x ∈ l, ∃ y, f x = some y) → ∃ ys, l.mapM f = some ys
  | [], _ => ⟨[], rfl⟩
  | x :: l, h => by
    obtain ⟨y, hy⟩ := h x (by simp)
    obtain ⟨ys, hys⟩ := mapM_some l (fun z hz => h z (by simp [hz]))
    exact ⟨y :: ys, by simp [List.mapM_cons, hy, hys]⟩
theorem sum_key {P : Program} {K e : TypeId} (hu : P.underlying K = some (.array 32 e)) (he : P.underlying e = some (.int .u8)) (hc : P.cellsOf e = 1) (hk : P.cellsOf K = 32) (hkt : P.keyType K = true) (hsz : ∃ m, P.types.size = m + 1) (x : Sum32) : ∃ l, keyOf P K (suv x) = some l := by
  obtain ⟨m, hm⟩ := hsz
  have hx := x.2
  have hf : (suv x).formed P K = true := by simp [Value.formed, hu, hk, hx]
  have hl : ∃ ls, P.keyLits (P.types.size + 1) K (suv x).cells.toList = some ls := by
    rw [hm]
    unfold Program.keyLits
    rw [hu]
    have hcs : (suv x).cells.toList = x.1.map b8 := by simp [suv, Value.cells]
    rw [hcs]
    simp only
    rw [if_pos (by rw [List.length_map, hx, hk])]
    obtain ⟨ys, hys⟩ := mapM_some (f := fun i => P.keyLits (m + 1) e (((x.1.map b8).drop (i * P.cellsOf e)).take (P.cellsOf e))) (List.range 32) (fun i hi => by
      have hi' : i < x.1.length := by rw [hx]; simpa using hi
      have e1 : ((x.1.map b8).drop (i * P.cellsOf e)).take (P.cellsOf e) = [b8 (gt x.1 i)] := by
        rw [hc, Nat.mul_one, List.drop_eq_getElem_cons (by simpa using hi')]
        simp [gt_eq x.1 i hi']
      refine ⟨[.int .u8 ((gt x.1 i).toNat : Int)], ?_⟩
      show P.keyLits (m + 1) e (((x.1.map b8).drop (i * P.cellsOf e)).take (P.cellsOf e)) = _
      rw [e1]
      unfold Program.keyLits
      rw [he]
      have hlt := (gt x.1 i).toNat_lt
      simp only [b8]
      rw [if_pos (by refine ⟨by trivial, ?_⟩; simp [Lit.wf, IntKind.min, IntKind.max, IntKind.signed, IntKind.bits]; omega)])
    exact ⟨_, by rw [hys]; rfl⟩
  obtain ⟨ls, hls⟩ := hl
  refine ⟨.string (keyBytes ls), ?_⟩
  unfold keyOf
  rw [hu]
  simp only [hkt, hf, Bool.and_self, if_true, hls, Option.map_some]
/-- .. put into a set, if it is not there. -/
def putL {α : Type} [BEq α] (ks : List α) (x : α) : List α := if ks.contains x then ks else ks ++ [x]
theorem entsAt_len {α : Type} (f : α → Value) : ∀ (i : Nat) (ks : List α), (entsAt f i ks).length = ks.length
  | _, [] => rfl
  | i, k :: ks => by simp [entsAt, entsAt_len f (i + 1) ks]
/-- What is known of keys that are arrays. -/
structure SumKeys (P : Program) (K : TypeId) : Prop where
  law : KeyLaw P K
  some : ∀ x : Sum32, ∃ l, keyOf P K (suv x) = some l
section
variable {P : Program} {ρ : Operand → Value} {w w0 : World} {M : List Nat} {L l1 l2 : List Item} {dst : Option Tmp} {ty : TypeId} {pos : String} {aft : Array Edge} {g : Option (Nat × Bool)} {x y z : Operand} {T T2 E I K : TypeId} {v : Value} {k : IntKind}
  {d dE : TypeDesc} {sz bts b o : Nat} {zv : Value} {a : Option Addr} {cs C : List Value}
theorem x_mapPut {ks : List Sum32} {q : Sum32} (l1 : List Item) {l2 : List Item} (hS : St w0 M w (l1 ++ .blk b (ents suv ks) :: l2)) (hK : SumKeys P K) (hT : P.underlying T = some (.map K E)) (hx : ρ x = .map (some b)) (hy : ρ y = suv q) (hz : ρ z = .bool true) :
    ∃ w', (execOp ρ ⟨none, .mapUpdate T x y z, ty, pos, aft, g⟩).run P w = .ok .skip w' ∧ St w0 M w' (l1 ++ .blk b (ents suv (putL ks q)) :: l2) := by
  have hb : w.heap[b]? = some (ents suv ks) := hS.heap (by simp)
  have hg := MapKept.run_getObj_map (P := P) hb
  obtain ⟨lq, hlq⟩ := hK.some q
  have hc := hK.law.check w false hlq
  rcases hK.law.find w hlq (entsAt suv 0 ks) (fun e he => by obtain ⟨⟨k', _, h⟩, _⟩ := entsAt_mem suv 0 ks e he; rw [h]; exact hK.some k') with ⟨hf, hno⟩ | ⟨j, e, hf, hj, hkey⟩
  · have hn : ¬ q ∈ ks := fun hm => by
      obtain ⟨e, he, hek⟩ := mem_entsAt suv 0 ks q hm
      exact hno e he hek
    have hp : putL ks q = ks ++ [q] := by rw [putL, if_neg (by simpa using hn)]
    rw [hp]
    have hs := MapKept.run_setObj_map (P := P) (w := w) (ents suv (ks ++ [q])) hb
    have hset := MapKept.heap_set (o' := ents suv (ks ++ [q])) hb
    have he : ents suv (ks ++ [q]) = .map (entsAt suv 0 ks ++ [({ key := suv q, val := .bool true, born := ks.length } : MapEntry)]).toArray (ks.length + 1) := by
      simp [ents, entsAt_app]
    rw [he] at hs
    refine ⟨{ w with heap := w.heap.setIfInBounds b (ents suv (ks ++ [q])) }, by rw [he]; simp [execOp, hx, hy, hz, Instr.mapUpdate, run_underlying hT, hg, hc, hf, hs], ?_⟩
    have hit := hS.has (.blk b (ents suv ks)) (by simp)
    exact hS.turnAt rfl rfl rfl (by simp) (fun k' hk' hne => hset.2 k' (fun e => hne (by rw [e]; rfl))) ⟨hset.1, hit.2⟩ (fun k' hk' => .inl hk')
  · obtain ⟨⟨k', hk', hkk⟩, hval⟩ := entsAt_mem suv 0 ks e (List.mem_of_getElem? hj)
    have hqk : k' = q := suv_inj (hkk.symm.trans hkey)
    subst hqk
    have hp : putL ks k' = ks := by rw [putL, if_pos (by simpa using hk')]
    rw [hp]
    have hst := hK.law.stays w hlq
    have hmod : (entsAt suv 0 ks).toArray.modify j (fun e => { e with key := suv k', val := .bool true }) = (entsAt suv 0 ks).toArray := by
      apply Array.ext'
      apply List.ext_getElem?
      intro i
      rw [Array.toList_modify, List.getElem?_modify]
      by_cases hij : j = i
      · subst hij
        simp only [hj, Option.map_some, if_true]
        obtain ⟨ek, ev, eb⟩ := e
        simp only at hkey hval
        rw [hkey, hval]
        rfl
      · simp [hij]
    have hget : (((entsAt suv 0 ks).toArray[j]?).map (·.key)).getD (suv k') = suv k' := by
      simp [hj, hkey]
    have hs := MapKept.run_setObj_map (P := P) (w := w) (ents suv ks) hb
    have hset := MapKept.heap_set (o' := ents suv ks) hb
    refine ⟨{ w with heap := w.heap.setIfInBounds b (ents suv ks) }, ?_, ?_⟩
    · have hget' := hget
      simp only [List.getElem?_toArray] at hget'
      have hr : (Instr.mapUpdate T (.map (some b)) (suv k') (.bool true)).run P w = .ok () { w with heap := w.heap.setIfInBounds b (ents suv ks) } := by
        unfold Instr.mapUpdate
        simp only [Sem.run_bind, run_underlying hT, Result.andThen_ok, hg, ents, hc]
        rw [hf]
        simp only [Result.andThen_ok, Sem.run_bind]
        rw [hget, hst]
        simp only [Result.andThen_ok]
        rw [hmod]
        exact hs
      simp only [execOp, hx, hy, hz]
      rw [Sem.run_bind, hr]
      rfl
    · have hit := hS.has (.blk b (ents suv ks)) (by simp)
      exact hS.turnAt rfl rfl rfl (by simp) (fun k' hk' hne => hset.2 k' (fun e => hne (by rw [e]; rfl))) ⟨hset.1, hit.2⟩ (fun k' hk' => .inl hk')
theorem r_lenMap {α : Type} {f : α → Value} {ks : List α} {tys : Array TypeId} (ht : tys = #[T]) (hT : P.underlying T = some (.map K E)) (hx : ρ x = .map (some b)) (hb : w.heap[b]? = some (ents f ks)) (args : Array Operand) (ha : args = #[x]) :
    (execOp ρ ⟨dst, .call { callee := .builtin .len, args := args, argTypes := tys }, ty, pos, aft, g⟩).run P w = .ok (.value (vi ks.length)) w := by
  subst ha; subst ht
  have hm : P.underlying T = some (.map (P.mapKeyOf T) (P.mapElemOf T)) := by unfold Program.mapKeyOf Program.mapElemOf; rw [hT]
  have h := run_len_map (P := P) w T ty b (entsAt f 0 ks).toArray ks.length hm hb
  simp [execOp, resolve, invoke, builtin, hx, h, entsAt_len, goInt]
theorem r_lookupK {ks : List Sum32} {q : Sum32} (hK : SumKeys P K) (hT : P.underlying T = some (.map K E)) (hE : TI P E dE sz bts (.bool false)) (hx : ρ x = .map (some b)) (hy : ρ y = suv q) (hb : w.heap[b]? = some (ents suv ks)) :
    (execOp ρ ⟨dst, .lookup T x y false, ty, pos, aft, g⟩).run P w = .ok (.value (.bool (decide (q ∈ ks)))) w := by
  have hg := MapKept.run_getObj_map (P := P) hb
  obtain ⟨lq, hlq⟩ := hK.some q
  have hc := fun em => hK.law.check w em hlq
  rcases hK.law.find w hlq (entsAt suv 0 ks) (fun e he => by obtain ⟨⟨k', _, h⟩, _⟩ := entsAt_mem suv 0 ks e he; rw [h]; exact hK.some k') with ⟨hf, hno⟩ | ⟨j, e, hf, hj, hkey⟩
  · have hn : ¬ q ∈ ks := fun hm => by
      obtain ⟨e, he, hek⟩ := mem_entsAt suv 0 ks q hm
      exact hno e he hek
    rw [decide_eq_false hn]
    simp [execOp, hx, hy, Instr.lookup, run_underlying hT, hg, hc, hf, run_zeroV hE]
  · obtain ⟨⟨k', hk', hkk⟩, hval⟩ := entsAt_mem suv 0 ks e (List.mem_of_getElem? hj)
    have hqk : k' = q := suv_inj (hkk.symm.trans hkey)
    subst hqk
    rw [decide_eq_true hk']
    simp [execOp, hx, hy, Instr.lookup, run_underlying hT, hg, hc, hf, hval]
end
theorem putL_mem {ks : List Sum32} {x y : Sum32} : y ∈ putL ks x ↔ y ∈ ks ∨ y = x := by
  unfold putL
  split
  · rename_i h
    refine ⟨.inl, fun h' => h'.elim id fun e => ?_⟩
    rw [e]; simpa using h
  · simp
theorem putL_nodup {ks : List Sum32} {x : Sum32} (h : ks.Nodup) : (putL ks x).Nodup := by
  unfold putL
  split
  · exact h
  · rename_i hn
    refine List.nodup_append.2 ⟨h, by simp, fun a ha b hb e => ?_⟩
    rw [List.mem_singleton.1 hb] at e
    subst e
    exact hn (by simpa using ha)
/-- Two lists without repeats and with the same members are as long. -/
theorem nodup_len {α : Type} [BEq α] [LawfulBEq α] : ∀ {a b : List α}, a.Nodup → (∀ x, x ∈ a → x ∈ b) → a.length ≤ b.length
  | [], b, _, _ => Nat.zero_le _
  | x :: a, b, hn, h => by
    have hx := h x (by simp)
    have ih := nodup_len (a := a) (b := b.erase x) (List.nodup_cons.1 hn).2 (fun y hy => by
      have hne : y ≠ x := fun e => (List.nodup_cons.1 hn).1 (e ▸ hy)
      exact (List.mem_erase_of_ne hne).2 (h y (by simp [hy])))
    rw [List.length_erase_of_mem hx] at ih
    have := List.length_pos_of_mem hx
    rw [List.length_cons]; omega
abbrev LtB (x y : List UInt8) : Prop := compareBytes x y < 0
theorem comp_sorted {l : List (List UInt8)} (h : l.Pairwise fun x y => ¬ LtB y x) : ∀ k, k ≤ l.length → (compTo l k).Pairwise LtB
  | 0, _ => List.Pairwise.nil
  | k + 1, hk => by
    have ih := comp_sorted h k (by omega)
    by_cases hc : k ≠ 0 ∧ gt l k = gt l (k - 1)
    · rw [compTo_eq hc.1 hc.2]; exact ih
    · rw [compTo, if_neg hc]
      refine List.pairwise_append.2 ⟨ih, List.pairwise_singleton .., fun a ha b hb => ?_⟩
      rw [List.mem_singleton.1 hb]
      have ha' := (compTo_mem k (by omega)).1 ha
      obtain ⟨i, hi, hia⟩ := List.mem_iff_getElem.1 ha'
      have hi' : i < k := by rw [List.length_take] at hi; omega
      rw [List.getElem_take] at hia
      have hp : ∀ i j, i < j → j < l.length → ¬ LtB (gt l j) (gt l i) := fun i j hij hj => by
        rw [gt_eq l i (by omega), gt_eq l j hj]
        exact List.pairwise_iff_getElem.1 h i j (by omega) hj hij
      have hga : gt l i = a := by rw [gt_eq l i (by omega)]; exact hia
      have h1 := hp i k hi' (by omega)
      rw [hga] at h1
      have s1 := cmp_swap a (gt l k)
      rcases cmp_range a (gt l k) with e | e | e
      · show compareBytes a (gt l k) < 0; omega
      · exfalso
        have hak := cmp_eq0 e
        refine hc ⟨by omega, ?_⟩
        have h2 := hp (k - 1) k (by omega) (by omega)
        by_cases hik : i = k - 1
        · rw [← hik, hga, hak]
        · have h3 := hp i (k - 1) (by omega) (by omega)
          rw [hga, hak] at h3
          have s2 := cmp_swap (gt l k) (gt l (k - 1))
          simp only [LtB] at h2 h3
          exact cmp_eq0 (by omega)
      · exact absurd (show compareBytes (gt l k) a < 0 by omega) h1
theorem sortL_sorted (l : List (List UInt8)) : (sortL l).Pairwise fun x y => ¬ LtB y x := by
  have h := List.pairwise_mergeSort (le := fun x y => !decide (compareBytes y x < 0))
    (fun a b c h1 h2 => by
      simp only [Bool.not_eq_true', decide_eq_false_iff_not] at *
      intro h3
      have s1 := cmp_swap a b
      rcases cmp_range a b with e | e | e
      · exact h2 (by
          rcases cmp_range b c with e2 | e2 | e2
          · exact absurd (cmp_lt_trans (show compareBytes a b < 0 by omega) (show compareBytes b c < 0 by omega)) (by have := cmp_swap a c; omega)
          · have := cmp_eq0 e2; subst this; exact absurd h3 h1
          · have := cmp_swap b c; omega)
      · have := cmp_eq0 e; subst this; exact h2 h3
      · omega)
    (fun a b => by
      have := cmp_swap a b
      simp only [Bool.or_eq_true, Bool.not_eq_true', decide_eq_false_iff_not]
      omega) l
  refine h.imp ?_
  intro a b hab
  simpa using hab
theorem out_lt {l : List (List UInt8)} {i : Nat} (h : i + 1 < (compL (sortL l)).length) : compareBytes (gt (compL (sortL l)) i) (gt (compL (sortL l)) (i + 1)) < 0 := by
  rw [gt_eq _ i (by omega), gt_eq _ (i + 1) h]
  have h' : (compL (sortL l)).Pairwise LtB := comp_sorted (sortL_sorted l) _ (Nat.le_refl _)
  exact List.pairwise_iff_getElem.1 h' i (i + 1) (by omega) h (by omega)
theorem out_mem {l : List (List UInt8)} {x : List UInt8} : x ∈ compL (sortL l) ↔ x ∈ l := by
  have := compTo_mem (l := sortL l) (x := x) (sortL l).length (Nat.le_refl _)
  rw [List.take_length] at this
  rw [compL, this]
  exact (List.mergeSort_perm l _).mem_iff
theorem out_len {l : List (List UInt8)} (h32 : S32 l) {ks : List Sum32} (hn : ks.Nodup) (hm : ∀ x : Sum32, x ∈ ks ↔ x.1 ∈ l) : (compL (sortL l)).length = ks.length := by
  have hnd : (compL (sortL l)).Nodup := (comp_sorted (sortL_sorted l) _ (Nat.le_refl _)).imp fun {a b} h e => by
    subst e
    have : compareBytes a a < 0 := h
    rw [cmp_self] at this
    omega
  have hk : (ks.map (·.1)).Nodup := by
    refine List.Pairwise.map _ (fun a b h e => h (Subtype.ext e)) hn
  have h1 := nodup_len hnd (b := ks.map (·.1)) (fun x hx => List.mem_map.2 ⟨⟨x, h32 x (out_mem.1 hx)⟩, (hm _).2 (out_mem.1 hx), rfl⟩)
  have h2 := nodup_len hk (b := compL (sortL l)) (fun x hx => by
    obtain ⟨y, hy, rfl⟩ := List.mem_map.1 hx
    exact out_mem.2 ((hm y).1 hy))
  rw [List.length_map] at h1 h2
  omega
theorem Row.at32 {w : World} {a : Option Addr} {l : List (List UInt8)} {m : Nat} (h : Row w a (l.flatten.map b8)) (h32 : S32 l) (hm : m < l.length) : Row w (a.map (·.add (m * 32))) ((gt l m).map b8) := by
  obtain ⟨b, o, rfl, hA⟩ := h.some_of (by rw [flat32_lenV h32]; omega)
  have hp : At w b (o + m * 32) ((gt l m).map b8) := hA.part (m * 32) (by
    intro i v hv
    rw [← flat32_getV h32 hm] at hv
    have hi : i < 32 := by
      have := (List.getElem?_eq_some_iff.1 hv).1
      rw [List.length_take] at this; omega
    rw [List.getElem?_take_of_lt hi, List.getElem?_drop] at hv
    exact hv)
  simp only [Option.map_some, add_lit]
  exact Row.of_at hp
theorem out_le (l : List (List UInt8)) : (compL (sortL l)).length ≤ l.length := by
  have := compTo_len (sortL l) (sortL l).length
  rw [sortL_len] at this
  rw [compL, sortL_len]
  exact this
theorem r_saP {P : Program} {ρ : Operand → Value} {w : World} {dst : Option Tmp} {ty : TypeId} {pos : String} {aft : Array Edge} {g : Option (Nat × Bool)} {x : Operand} {T E : TypeId} {dE : TypeDesc} {bts k : Nat} {zv : Value} {a : Option Addr} (hT : P.underlying T = some (.array 32 E)) (hE : TI P E dE 1 bts zv) (hs : ∃ b o, a = some ⟨b, o, none⟩) (hx : ρ x = .pointer (a.map (·.add k))) :
    (execOp ρ ⟨dst, .slice T x none none none, ty, pos, aft, g⟩).run P w = .ok (.value (.slice (a.map (·.add k)) 32 32)) w := by
  obtain ⟨b, o, rfl⟩ := hs
  have e : (some (⟨b, o, none⟩ : Addr)).map (·.add k) = some ⟨b, o + k, none⟩ := by simp [add_lit]
  rw [e] at hx ⊢
  exact r_sa1_0 hT hE hx
end Go.Kw
