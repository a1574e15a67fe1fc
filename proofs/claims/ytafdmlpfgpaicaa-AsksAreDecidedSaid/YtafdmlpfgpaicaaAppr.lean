/- Approvals: their members in a map, what is wrong with them. No condition. -/
import Derived.Test.YtafdmlpfgpaicaaPol
import Derived.Test.YtafdmlpfgpaicaaHead
import Derived.Laws.StructEq
import Derived.WideKeyArr
namespace Go.Kw
open Go.WideMaps
set_option linter.unusedVariables false
set_option linter.unusedSimpArgs false
abbrev ID16 := { l : List UInt8 // l.length = 16 }
instance : Inhabited ID16 := ⟨⟨List.replicate 16 0, by simp⟩⟩
abbrev idv (x : ID16) : Value := .agg (x.1.map b8).toArray
theorem b8_inj : ∀ {a b : List UInt8}, a.map b8 = b.map b8 → a = b
  | [], [], _ => rfl
  | [], _ :: _, h => by simp at h
  | _ :: _, [], h => by simp at h
  | x :: a, y :: b, h => by
    simp only [List.map_cons, List.cons.injEq, b8, Value.int.injEq, true_and] at h
    have h1 : x = y := UInt8.toNat_inj.1 (by exact_mod_cast h.1)
    rw [h1, b8_inj h.2]
theorem idv_inj {a b : ID16} (h : idv a = idv b) : a = b := by
  simp only [idv, Value.agg.injEq] at h
  exact Subtype.ext (b8_inj (by simpa using congrArg Array.toList h))
theorem mapM_some {α β : Type} {f : α → Option β} : ∀ (l : List α), (∀ x ∈ l, ∃ y, f x = some y) → ∃ ys, l.mapM f = some ys
  | [], _ => ⟨[], rfl⟩
  | x :: l, h => by
    obtain ⟨y, hy⟩ := h x (by simp)
    obtain ⟨ys, hys⟩ := mapM_some l (fun z hz => h z (by simp [hz]))
    exact ⟨y :: ys, by simp [List.mapM_cons, hy, hys]⟩
theorem id_key {P : Program} {K e : TypeId} (hu : P.underlying K = some (.array 16 e)) (he : P.underlying e = some (.int .u8)) (hc : P.cellsOf e = 1) (hk : P.cellsOf K = 16) (hkt : P.keyType K = true) (hsz : ∃ m, P.types.size = m + 1) (x : ID16) : ∃ l, keyOf P K (idv x) = some l := by
  obtain ⟨m, hm⟩ := hsz
  have hx := x.2
  have hf : (idv x).formed P K = true := by simp [Value.formed, hu, hk, hx]
  have hl : ∃ ls, P.keyLits (P.types.size + 1) K (idv x).cells.toList = some ls := by
    rw [hm]
    unfold Program.keyLits
    rw [hu]
    have hcs : (idv x).cells.toList = x.1.map b8 := by simp [idv, Value.cells]
    rw [hcs]
    simp only
    rw [if_pos (by rw [List.length_map, hx, hk])]
    obtain ⟨ys, hys⟩ := mapM_some (f := fun i => P.keyLits (m + 1) e (((x.1.map b8).drop (i * P.cellsOf e)).take (P.cellsOf e))) (List.range 16) (fun i hi => by
      have hi' : i < x.1.length := by rw [hx]; simpa using hi
      have e1 : ((x.1.map b8).drop (i * P.cellsOf e)).take (P.cellsOf e) = [b8 (gt x.1 i)] := by
        rw [hc, Nat.mul_one, List.drop_eq_getElem_cons (by simpa using hi')]
        simp [gt_eq x.1 i hi']
      refine ⟨[.int .u8 ((gt x.1 i).toNat : Int)], ?_⟩
      show P.keyLits (m + 1) e (((x.1.map b8).drop (i * P.cellsOf e)).take (P.cellsOf e)) = _
      rw [e1]
      unfold Program.keyLits
      rw [he]
      have hlt := (gt x.1 i).toNat_lt
      simp only [b8]
      rw [if_pos (by refine ⟨by trivial, ?_⟩; simp [Lit.wf, IntKind.min, IntKind.max, IntKind.signed, IntKind.bits]; omega)])
    exact ⟨_, by rw [hys]; rfl⟩
  obtain ⟨ls, hls⟩ := hl
  refine ⟨.string (keyBytes ls), ?_⟩
  unfold keyOf
  rw [hu]
  simp only [hkt, hf, Bool.and_self, if_true, hls, Option.map_some]
/-- .. put into a set, if it is not there. -/
def putL {α : Type} [BEq α] (ks : List α) (x : α) : List α := if ks.contains x then ks else ks ++ [x]
theorem entsAt_len {α : Type} (f : α → Value) : ∀ (i : Nat) (ks : List α), (entsAt f i ks).length = ks.length
  | _, [] => rfl
  | i, k :: ks => by simp [entsAt, entsAt_len f (i + 1) ks]
/-- What is known of keys that are arrays. -/
structure IdKeys (P : Program) (K : TypeId) : Prop where
  law : KeyLaw P K
  some : ∀ x : ID16, ∃ l, keyOf P K (idv x) = some l
section
variable {P : Program} {ρ : Operand → Value} {w w0 : World} {M : List Nat} {L l1 l2 : List Item} {dst : Option Tmp} {ty : TypeId} {pos : String} {aft : Array Edge} {g : Option (Nat × Bool)} {x y z : Operand} {T T2 E I K : TypeId} {v : Value} {k : IntKind}
  {d dE : TypeDesc} {sz bts b o : Nat} {zv : Value} {a : Option Addr} {cs C : List Value}
theorem x_mapPut {ks : List ID16} {q : ID16} (l1 : List Item) {l2 : List Item} (hS : St w0 M w (l1 ++ .blk b (ents idv ks) :: l2)) (hK : IdKeys P K) (hT : P.underlying T = some (.map K E)) (hx : ρ x = .map (some b)) (hy : ρ y = idv q) (hz : ρ z = .bool true) :
    ∃ w', (execOp ρ ⟨none, .mapUpdate T x y z, ty, pos, aft, g⟩).run P w = .ok .skip w' ∧ St w0 M w' (l1 ++ .blk b (ents idv (putL ks q)) :: l2) := by
  have hb : w.heap[b]? = some (ents idv ks) := hS.heap (by simp)
  have hg := MapKept.run_getObj_map (P := P) hb
  obtain ⟨lq, hlq⟩ := hK.some q
  have hc := hK.law.check w false hlq
  rcases hK.law.find w hlq (entsAt idv 0 ks) (fun e he => by obtain ⟨⟨k', _, h⟩, _⟩ := entsAt_mem idv 0 ks e he; rw [h]; exact hK.some k') with ⟨hf, hno⟩ | ⟨j, e, hf, hj, hkey⟩
  · have hn : ¬ q ∈ ks := fun hm => by
      obtain ⟨e, he, hek⟩ := mem_entsAt idv 0 ks q hm
      exact hno e he hek
    have hp : putL ks q = ks ++ [q] := by rw [putL, if_neg (by simpa using hn)]
    rw [hp]
    have hs := MapKept.run_setObj_map (P := P) (w := w) (ents idv (ks ++ [q])) hb
    have hset := MapKept.heap_set (o' := ents idv (ks ++ [q])) hb
    have he : ents idv (ks ++ [q]) = .map (entsAt idv 0 ks ++ [({ key := idv q, val := .bool true, born := ks.length } : MapEntry)]).toArray (ks.length + 1) := by
      simp [ents, entsAt_app]
    rw [he] at hs
    refine ⟨{ w with heap := w.heap.setIfInBounds b (ents idv (ks ++ [q])) }, by rw [he]; simp [execOp, hx, hy, hz, Instr.mapUpdate, run_underlying hT, hg, hc, hf, hs], ?_⟩
    have hit := hS.has (.blk b (ents idv ks)) (by simp)
    exact hS.turnAt rfl rfl rfl (by simp) (fun k' hk' hne => hset.2 k' (fun e => hne (by rw [e]; rfl))) ⟨hset.1, hit.2⟩ (fun k' hk' => .inl hk')
  · obtain ⟨⟨k', hk', hkk⟩, hval⟩ := entsAt_mem idv 0 ks e (List.mem_of_getElem? hj)
    have hqk : k' = q := idv_inj (hkk.symm.trans hkey)
    subst hqk
    have hp : putL ks k' = ks := by rw [putL, if_pos (by simpa using hk')]
    rw [hp]
    have hst := hK.law.stays w hlq
    have hmod : (entsAt idv 0 ks).toArray.modify j (fun e => { e with key := idv k', val := .bool true }) = (entsAt idv 0 ks).toArray := by
      apply Array.ext'
      apply List.ext_getElem?
      intro i
      rw [Array.toList_modify, List.getElem?_modify]
      by_cases hij : j = i
      · subst hij
        simp only [hj, Option.map_some, if_true]
        obtain ⟨ek, ev, eb⟩ := e
        simp only at hkey hval
        rw [hkey, hval]
        rfl
      · simp [hij]
    have hget : (((entsAt idv 0 ks).toArray[j]?).map (·.key)).getD (idv k') = idv k' := by
      simp [hj, hkey]
    have hs := MapKept.run_setObj_map (P := P) (w := w) (ents idv ks) hb
    have hset := MapKept.heap_set (o' := ents idv ks) hb
    refine ⟨{ w with heap := w.heap.setIfInBounds b (ents idv ks) }, ?_, ?_⟩
    · have hget' := hget
      simp only [List.getElem?_toArray] at hget'
      have hr : (Instr.mapUpdate T (.map (some b)) (idv k') (.bool true)).run P w = .ok () { w with heap := w.heap.setIfInBounds b (ents idv ks) } := by
        unfold Instr.mapUpdate
        simp only [Sem.run_bind, run_underlying hT, Result.andThen_ok, hg, ents, hc]
        rw [hf]
        simp only [Result.andThen_ok, Sem.run_bind]
        rw [hget, hst]
        simp only [Result.andThen_ok]
        rw [hmod]
        exact hs
      simp only [execOp, hx, hy, hz]
      rw [Sem.run_bind, hr]
      rfl
    · have hit := hS.has (.blk b (ents idv ks)) (by simp)
      exact hS.turnAt rfl rfl rfl (by simp) (fun k' hk' hne => hset.2 k' (fun e => hne (by rw [e]; rfl))) ⟨hset.1, hit.2⟩ (fun k' hk' => .inl hk')
theorem r_lenMap {α : Type} {f : α → Value} {ks : List α} {tys : Array TypeId} (ht : tys = #[T]) (hT : P.underlying T = some (.map K E)) (hx : ρ x = .map (some b)) (hb : w.heap[b]? = some (ents f ks)) (args : Array Operand) (ha : args = #[x]) :
    (execOp ρ ⟨dst, .call { callee := .builtin .len, args := args, argTypes := tys }, ty, pos, aft, g⟩).run P w = .ok (.value (vi ks.length)) w := by
  subst ha; subst ht
  have hm : P.underlying T = some (.map (P.mapKeyOf T) (P.mapElemOf T)) := by unfold Program.mapKeyOf Program.mapElemOf; rw [hT]
  have h := run_len_map (P := P) w T ty b (entsAt f 0 ks).toArray ks.length hm hb
  simp [execOp, resolve, invoke, builtin, hx, h, entsAt_len, goInt]
theorem eqAt_bool {n : Nat} {u v : Bool} (h : P.underlying T = some .bool) : EqAtN P (n + 1) T (.bool u) (.bool v) (u = v) := fun d w => by
  rw [show d + (n + 1) = (d + n) + 1 from rfl, run_equalIn_bool' w (d + n) T u v h]
  cases u <;> cases v <;> rfl
theorem eqAt_str {n : Nat} {u v : List UInt8} (h : P.underlying T = some .string) : EqAtN P (n + 1) T (sv u) (sv v) (u = v) := fun d w => by
  rw [show d + (n + 1) = (d + n) + 1 from rfl, run_equalIn_string w (d + n) T _ _ h, toList_b, toList_b]
  congr 1
  cases h : (u == v) with
  | false => exact (decide_eq_false (by simpa using h)).symm
  | true => exact (decide_eq_true (by simpa using h)).symm
end
/-- An approval. -/
structure ApprD where
  me : ID16
  ra : Option Addr
  ro : List (List UInt8)
  rc : Nat
instance : Inhabited ApprD := ⟨⟨default, none, [], 0⟩⟩
def ApprD.v (a : ApprD) : List Value := a.me.1.map b8 ++ [.slice a.ra a.ro.length a.rc]
theorem appr_v17 (a : ApprD) : a.v.length = 17 := by simp [ApprD.v, a.me.2]
theorem appr_ro {a : ApprD} : a.v[16]? = some (.slice a.ra a.ro.length a.rc) := by
  rw [ApprD.v, List.getElem?_append_right (by rw [List.length_map, a.me.2]; exact Nat.le_refl _), List.length_map, a.me.2]; rfl
theorem appr_me {a : ApprD} : (a.v.drop 0).take 16 = a.me.1.map b8 := by
  rw [List.drop_zero, ApprD.v, List.take_append_of_le_length (by rw [List.length_map, a.me.2]; exact Nat.le_refl _), List.take_of_length_le (by rw [List.length_map, a.me.2]; exact Nat.le_refl _)]
theorem one_appr (a : ApprD) : One a.v := one_app (one_b8 _) (one_cons rfl one_nil)
structure ApprAt (w : World) (a : ApprD) : Prop where
  rn : a.ro.length ≤ 140737488351232
  rl : ∀ s ∈ a.ro, s.length ≤ 9223372036854775807
  h1 : Row w a.ra (a.ro.map sv)
theorem ApprAt.st {w0 w : World} {L : List Item} {a : ApprD} (h : ApprAt w0 a) (hS : St w0 [] w L) : ApprAt w a := ⟨h.rn, h.rl, h.h1.st hS⟩
theorem appr_at0 {w : World} {b : Nat} {E : TypeId} {fr : Nat × Nat} {a : ApprD} (h : w.heap[b]? = some (.cells a.v.toArray E fr)) : At w b 0 (a.me.1.map b8) := by
  have := at_part (off := 0) (n := 16) h
  rwa [appr_me] at this
theorem dec_al_t {al : Bool} {ru nd : Int} {fr : List UInt8} (h : al = true) : (decV al ru nd fr)[0]? = some (.bool true) := by rw [h]; rfl
theorem dec_al_f {al : Bool} {ru nd : Int} {fr : List UInt8} (h : al = false) : (decV al ru nd fr)[0]? = some (.bool false) := by rw [h]; rfl
def okPos (ro : List (List UInt8)) (i : Nat) : Prop := nameE (gt ro i) = true ∧ (0 < i → Op.bytesLess (gt ro (i - 1)) (gt ro i) = true)
def okAll (ro : List (List UInt8)) (k : Nat) : Prop := ∀ i, i < k → okPos ro i
def okTo (l : List ApprD) (k : Nat) : Prop := ∀ j, j < k → okAll (gt l j).ro (gt l j).ro.length
def ErrAt (l : List ApprD) (k i : Nat) (c : Int) : Prop :=
  k < l.length ∧ i < (gt l k).ro.length ∧ okTo l k ∧ okAll (gt l k).ro i ∧ ((nameE (gt (gt l k).ro i) = false ∧ c = 6) ∨ (nameE (gt (gt l k).ro i) = true ∧ 0 < i ∧ ¬ Op.bytesLess (gt (gt l k).ro (i - 1)) (gt (gt l k).ro i) = true ∧ c = 9))
theorem err_bad {l : List ApprD} {k i : Nat} {c : Int} (h : ErrAt l k i c) : ¬ okPos (gt l k).ro i := by
  rcases h.2.2.2.2 with ⟨h1, _⟩ | ⟨_, h1, h2, _⟩
  · intro hp; have := hp.1; rw [h1] at this; cases this
  · intro hp; exact h2 (hp.2 h1)
theorem err_uniq {l : List ApprD} {k i k' i' : Nat} {c c' : Int} (h : ErrAt l k i c) (h' : ErrAt l k' i' c') : c = c' := by
  have hb := err_bad h
  have hb' := err_bad h'
  have e1 : k = k' := by
    rcases Nat.lt_trichotomy k k' with hk | hk | hk
    · exact absurd (h'.2.2.1 k hk i h.2.1) hb
    · exact hk
    · exact absurd (h.2.2.1 k' hk i' h'.2.1) hb'
  subst e1
  have e2 : i = i' := by
    rcases Nat.lt_trichotomy i i' with hi | hi | hi
    · exact absurd (h'.2.2.2.1 i hi) hb
    · exact hi
    · exact absurd (h.2.2.2.1 i' hi) hb'
  subst e2
  rcases h.2.2.2.2 with ⟨h1, rfl⟩ | ⟨h1, _, _, rfl⟩
  · rcases h'.2.2.2.2 with ⟨_, rfl⟩ | ⟨h2, _⟩
    · rfl
    · rw [h1] at h2; cases h2
  · rcases h'.2.2.2.2 with ⟨h2, _⟩ | ⟨_, _, _, rfl⟩
    · rw [h1] at h2; cases h2
    · rfl
theorem err_no {l : List ApprD} {k i : Nat} {c : Int} (h : ErrAt l k i c) (ho : okTo l l.length) : False := err_bad h (ho k h.1 i h.2.1)
theorem okAll_step {ro : List (List UInt8)} {i : Nat} (h : okAll ro i) (hp : okPos ro i) : okAll ro (i + 1) := fun j hj => by
  by_cases e : j = i
  · rw [e]; exact hp
  · exact h j (by omega)
theorem okTo_step {l : List ApprD} {k : Nat} (h : okTo l k) (hp : okAll (gt l k).ro (gt l k).ro.length) : okTo l (k + 1) := fun j hj => by
  by_cases e : j = k
  · rw [e]; exact hp
  · exact h j (by omega)
/-- The members that have a role, each once. -/
def membersTo (l : List ApprD) (fr : List UInt8) : Nat → List ID16
  | 0 => []
  | k + 1 => if (gt l k).ro.contains fr then putL (membersTo l fr k) (gt l k).me else membersTo l fr k
theorem members_y {l : List ApprD} {fr : List UInt8} {k : Nat} (h : fr ∈ (gt l k).ro) : membersTo l fr (k + 1) = putL (membersTo l fr k) (gt l k).me := by rw [membersTo, if_pos (by simpa using h)]
theorem members_n {l : List ApprD} {fr : List UInt8} {k : Nat} (h : ¬ fr ∈ (gt l k).ro) : membersTo l fr (k + 1) = membersTo l fr k := by rw [membersTo, if_neg (by simpa using h)]
/-- A decision hangs on its rules alone. -/
theorem dec_uniq {rs : List RuleD} {q : AskD} {al al' : Bool} {ru ru' nd nd' : Int} {fr fr' : List UInt8} (h : DecR rs q al ru nd fr) (h' : DecR rs q al' ru' nd' fr') : al = al' ∧ ru = ru' ∧ nd = nd' ∧ fr = fr' := by
  rcases h with ⟨i, hi, hm, hd, hb, rfl, rfl, rfl, rfl⟩ | ⟨b, hb, hc⟩
  · rcases h' with ⟨j, hj, hm', hd', hb', rfl, rfl, rfl, rfl⟩ | ⟨b', hb', _⟩
    · refine ⟨rfl, ?_, rfl, rfl⟩
      rcases Nat.lt_trichotomy i j with e | e | e
      · have := hb' i e hm; rw [hd] at this; cases this
      · rw [e]
      · have := hb j e hm'; rw [hd'] at this; cases this
    · have := hb'.1 i hi hm; rw [hd] at this; cases this
  · rcases h' with ⟨j, hj, hm', hd', _⟩ | ⟨b', hb', hc'⟩
    · have := hb.1 j hj hm'; rw [hd'] at this; cases this
    · have e : b = b' := by
        rcases hb.2 with ⟨h1, h2⟩ | ⟨j, h1, h2, h3, h4, h5⟩
        · rcases hb'.2 with ⟨h1', _⟩ | ⟨j', _, h2', h3', _⟩
          · omega
          · have := h2 j' h2'; rw [h3'] at this; cases this
        · rcases hb'.2 with ⟨_, h2'⟩ | ⟨j', h1', h2', h3', h4', h5'⟩
          · have := h2' j h2; rw [h3] at this; cases this
          · rcases Nat.lt_trichotomy j j' with e | e | e
            · have x1 := h5' j e h3; have x2 := h4 j' h2' h3'; omega
            · omega
            · have x1 := h5 j' e h3'; have x2 := h4' j h2 h3; omega
      subst e
      rcases hc with ⟨h1, rfl, rfl, rfl, rfl⟩ | ⟨j, h1, rfl, rfl, rfl, rfl⟩
      · rcases hc' with ⟨_, rfl, rfl, rfl, rfl⟩ | ⟨j', h1', _⟩
        · exact ⟨rfl, rfl, rfl, rfl⟩
        · omega
      · rcases hc' with ⟨h1', _⟩ | ⟨j', h1', rfl, rfl, rfl, rfl⟩
        · omega
        · obtain rfl : j = j' := by omega
          exact ⟨rfl, rfl, rfl, rfl⟩
/-- What the reference keeps of the best rule. -/
def DecC (rs : List RuleD) (b : Int) (al : Bool) (nd : Int) (fr : List UInt8) : Prop := (b = -1 ∧ al = false ∧ nd = 0 ∧ fr = []) ∨ ∃ j : Nat, b = (j : Int) ∧ al = true ∧ nd = (gt rs j).nd ∧ fr = (gt rs j).ofr
theorem upd_new {rs : List RuleD} {q : AskD} {k : Nat} {b nd : Int} {al : Bool} {fr : List UInt8} (h : BestR rs q k b) (hc : DecC rs b al nd fr) (hm : meetE (gt rs k) q = true) (hd : (gt rs k).dn = false) (hn : b < 0 ∨ (gt rs k).nd < nd) : BestR rs q (k + 1) (k : Int) := by
  rcases hc with ⟨rfl, _⟩ | ⟨j, rfl, _, rfl, _⟩
  · exact best_first h hm hd
  · rcases hn with hn | hn
    · omega
    · exact best_new h hm hd hn
theorem upd_keep {rs : List RuleD} {q : AskD} {k : Nat} {b nd : Int} {al : Bool} {fr : List UInt8} (h : BestR rs q k b) (hc : DecC rs b al nd fr) (hd : (gt rs k).dn = false) (h0 : ¬ b < 0) (hn : ¬ (gt rs k).nd < nd) : BestR rs q (k + 1) b := by
  rcases hc with ⟨rfl, _⟩ | ⟨j, rfl, _, rfl, _⟩
  · omega
  · exact best_keep h hd hn
theorem dec_of {rs : List RuleD} {q : AskD} {b nd : Int} {al : Bool} {fr : List UInt8} (h : BestR rs q rs.length b) (hc : DecC rs b al nd fr) : DecR rs q al b nd fr := by
  refine .inr ⟨b, h, ?_⟩
  rcases hc with ⟨h1, h2, h3, h4⟩ | ⟨j, h1, h2, h3, h4⟩
  · exact .inl ⟨h1, h2, h1, h3, h4⟩
  · exact .inr ⟨j, h1, h2, h1, h3, h4⟩
section
variable {P : Program} {w : World} {t : TypeId}
theorem opens_id {e : TypeId} (ht : P.underlying t = some (.array 16 e)) (he : P.underlying e = some (.int .u8)) (hc : P.cellsOf e = 1) (hct : P.cellsOf t = 16) : Opens P w t (fun x : ID16 => x.1.map b8) (fun _ => True) := by
  intro H enc fuel cs x hx hw
  obtain ⟨y, e1, e2⟩ := opens_bytesA (w := w) ht he hc hct H enc fuel cs x hx hw
  exact ⟨⟨y, e2⟩, e1, trivial⟩
theorem opens_appr (h : Opens P w t (fun y : ID16 × Sl (List UInt8) × Unit => y.1.1.map b8 ++ ([y.2.1.v] ++ [])) (fun y => True ∧ (Row w y.2.1.a (y.2.1.xs.map fun s => Value.string ⟨s.toArray⟩) ∧ y.2.1.xs.length ≤ y.2.1.c ∧ y.2.1.c * 16 ≤ 140737488351232 ∧ ∀ x ∈ y.2.1.xs, x.length ≤ 140737488351232) ∧ True)) :
    Opens P w t (fun a : ApprD => a.v) (fun a => ApprAt w a) :=
  h.to (fun y => ⟨y.1, y.2.1.a, y.2.1.xs, y.2.1.c⟩) (fun y => by simp [ApprD.v, Sl.v]) (fun y ⟨_, ⟨h1, h2, h3, h4⟩, _⟩ => ⟨by show y.2.1.xs.length ≤ _; omega, fun s hs => by have := h4 s hs; omega, h1⟩)
end
end Go.Kw
