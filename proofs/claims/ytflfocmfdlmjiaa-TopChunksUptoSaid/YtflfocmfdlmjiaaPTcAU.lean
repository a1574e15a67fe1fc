/- What the law's proof leans on. No condition. -/
import Derived.Test.YtflfocmfdlmjiaaPTcAT
import Derived.Test.YtflfocmfdlmjiaaPTcAR
import Derived.MapKept
import Derived.WideMake
import Derived.Laws.Cover1
section
namespace Go.Kw
open Go.RowKit
set_option linter.unusedVariables false
set_option linter.unusedSimpArgs false
/-- A chunk. -/
def chL (b : List UInt8) (i : Nat) : List UInt8 := (b.drop (1024 * i)).take 1024
def chN (n : Nat) : Nat := (n + 1023) / 1024
theorem chL_len (b : List UInt8) (i : Nat) : (chL b i).length = min 1024 (b.length - 1024 * i) := by simp [chL]
theorem chL_le (b : List UInt8) (i : Nat) : (chL b i).length ≤ 1024 := by rw [chL_len]; omega
theorem chL_join (b : List UInt8) (i : Nat) : b.take (1024 * i) ++ chL b i = b.take (1024 * (i + 1)) := by
  rw [show 1024 * (i + 1) = 1024 * i + 1024 by omega, List.take_add]; rfl
theorem chN_lt {n k : Nat} : k < chN n ↔ 1024 * k < n := by unfold chN; omega
theorem chN_all {b : List UInt8} : b.take (1024 * chN b.length) = b := List.take_of_length_le (by unfold chN; omega)
/-- A chunk as a part of the slice. -/
def chP (a : Option Addr) (c : Nat) (b : List UInt8) (i : Nat) : Piece := ⟨Kw.sub a c (1024 * i) 1, (chL b i).length, chL b i⟩
def chS (a : Option Addr) (c : Nat) (b : List UInt8) : List Piece := (List.range (chN b.length)).map (chP a c b)
theorem chS_len (a : Option Addr) (c : Nat) (b : List UInt8) : (chS a c b).length = chN b.length := by simp [chS]
theorem chS_gt {a : Option Addr} {c : Nat} {b : List UInt8} {i : Nat} (h : i < chN b.length) : gt (chS a c b) i = chP a c b i := by
  rw [gt_eq _ _ (by rw [chS_len]; exact h)]; simp [chS]
theorem chGet {a : Option Addr} {c : Nat} {b : List UInt8} {i : Nat} (h : i < chN b.length) : ((chS a c b).map Piece.v)[i * 1]? = some (chP a c b i).v := by
  rw [Nat.mul_one, ← chS_gt h]
  exact map_gt _ _ _ (by rw [chS_len]; exact h)
theorem chS_mem {a : Option Addr} {c : Nat} {b : List UInt8} {q : Piece} (h : q ∈ chS a c b) : ∃ i, i < chN b.length ∧ q = chP a c b i := by
  obtain ⟨i, hi, rfl⟩ := List.mem_map.1 h
  exact ⟨i, List.mem_range.1 hi, rfl⟩
theorem chP_row {w : World} {a : Option Addr} {c : Nat} {b : List UInt8} (h : Row w a (b.map b8)) (hc : b.length ≤ c) (i : Nat) : Row w (chP a c b i).a ((chP a c b i).xs.map b8) := h.mid hc _ _
theorem chS_ok {w : World} {a : Option Addr} {c : Nat} {b : List UInt8} (h : Row w a (b.map b8)) (hc : b.length ≤ c) : ∀ q ∈ chS a c b, Row w q.a (q.xs.map b8) ∧ q.xs.length ≤ q.c ∧ q.xs.length ≤ 1048576 := by
  intro q hq
  obtain ⟨i, _, rfl⟩ := chS_mem hq
  exact ⟨chP_row h hc i, Nat.le_refl _, Nat.le_trans (chL_le b i) (by decide)⟩
/-- The leaves of all chunks. -/
def chLv (b : List UInt8) : List (List UInt8) := (List.range (chN b.length)).map fun i => leafL (chL b i)
theorem chLv_eq (a : Option Addr) (c : Nat) (b : List UInt8) : ((chS a c b).map fun q => leafL q.xs) = chLv b := by simp [chS, chLv, chP, Function.comp_def]
theorem chLv_len (b : List UInt8) : (chLv b).length = chN b.length := by simp [chLv]
theorem chLv_32 (b : List UInt8) : S32 (chLv b) := by
  intro s hs
  obtain ⟨i, _, rfl⟩ := List.mem_map.1 hs
  exact leafL_len _
theorem chLv_gt {b : List UInt8} {i : Nat} (h : i < chN b.length) : gt (chLv b) i = leafL (chL b i) := by
  rw [gt_eq _ _ (by rw [chLv_len]; exact h)]; simp [chLv]
abbrev iz (z : Int) : Value := .int .i64 z
/-- The numbers of an order, and then each one. -/
def ordL (xs : List Int) (n : Nat) : List Int := xs ++ (List.range n).map fun k : Nat => (k : Int)
/-- A proof as data. -/
structure PfD where
  ix : Int
  sz : Int
  a : Option Addr
  n : Nat
  c : Nat
instance : Inhabited PfD := ⟨⟨0, 0, none, 0, 0⟩⟩
def PfD.v (p : PfD) : List Value := [.int .i64 p.ix, .int .i64 p.sz, .slice p.a p.n p.c]
theorem PfD.len (p : PfD) : p.v.length = 3 := rfl
/-- An entry of a map from numbers. -/
structure IE where
  born : Nat
  k : Nat
  p : Piece
def IE.e (x : IE) : MapEntry := { key := vi x.k, val := x.p.v, born := x.born }
def iobj (E : List IE) (clock : Nat) : Obj := .map (E.map IE.e).toArray clock
theorem vi_inj {a b : Nat} (h : vi a = vi b) : a = b := by
  have : (a : Int) = b := by simpa [vi] using h
  omega
theorem isKeyI (k : Nat) : MapKept.IsKey (.int .i64) (vi k) := rfl
section
variable {P : Program} {ρ : Operand → Value} {w w0 : World} {M : List Nat} {L l1 l2 : List Item} {dst : Option Tmp} {ty : TypeId} {pos : String} {aft : Array Edge} {g : Option (Nat × Bool)} {x y z u : Operand} {T T2 E' I K : TypeId} {k : IntKind}
  {d dE : TypeDesc} {sz bts b o clock q : Nat} {zv : Value} {E : List IE}
theorem run_zeroI (h : TI P T d sz bts zv) : (zeroValue T).run P w = .ok zv w := by
  obtain ⟨i, hi, _, _, hz⟩ := h.info
  simp [zeroValue, typeInfo, program, Sem.run, hi, hz]
theorem findI (hK : P.underlying K = some (.int .i64)) (w : World) (E : List IE) (q : Nat) :
    ((Instr.findKey K (vi q) (E.map IE.e)).run P w = .ok none w ∧ ∀ x ∈ E, ¬ x.k = q) ∨ ∃ j x, (Instr.findKey K (vi q) (E.map IE.e)).run P w = .ok (some (j, x.p.v)) w ∧ E[j]? = some x ∧ x.k = q := by
  rcases MapKept.findNow_spec (isKeyI q) (E.map IE.e) 0 (fun e he => by obtain ⟨x, _, rfl⟩ := List.mem_map.1 he; exact isKeyI x.k) with ⟨h1, h2⟩ | ⟨j, e, h1, h2, h3⟩
  · exact .inl ⟨MapKept.run_findKey hK h1, fun x hx hq => h2 x.e (List.mem_map.2 ⟨x, hx, rfl⟩) (by rw [← hq]; rfl)⟩
  · rw [List.getElem?_map, Option.map_eq_some_iff] at h2
    obtain ⟨x, hx, rfl⟩ := h2
    refine .inr ⟨j, x, ?_, hx, vi_inj h3⟩
    have := MapKept.run_findKey (P := P) (w := w) hK h1
    simpa [IE.e] using this
theorem x_makeI (hS : St w0 M w L) : ∃ v w', (execOp ρ ⟨dst, .makeMap T none, ty, pos, aft, g⟩).run P w = .ok (.value v) w' ∧ ∃ b, v = .map (some b) ∧ St w0 M w' (.blk b (iobj [] 0) :: L) := by
  have h := run_makeMap_plain (P := P) w T
  exact ⟨.map (some w.heap.size), w.alloc (iobj [] 0), by simp [execOp, h]; rfl, _, rfl, hS.alloc _⟩
theorem r_lookI (hT : P.underlying T = some (.map K E')) (hK : P.underlying K = some (.int .i64)) (hE : TI P E' dE sz bts (.slice none 0 0)) (hx : ρ x = .map (some b)) (hy : ρ y = vi q) (hb : w.heap[b]? = some (iobj E clock)) :
    ∃ v w', (execOp ρ ⟨dst, .lookup T x y true, ty, pos, aft, g⟩).run P w = .ok (.value v) w' ∧ w' = w ∧ ((v = .tuple #[.slice none 0 0, .bool false] ∧ ∀ x ∈ E, ¬ x.k = q) ∨ ∃ s, s ∈ E ∧ s.k = q ∧ v = .tuple #[s.p.v, .bool true]) := by
  have hg := MapKept.run_getObj_map (P := P) hb
  have hc := fun e => MapKept.run_checkKey (P := P) (w := w) hK (isKeyI q) e 9999
  rcases findI hK w E q with ⟨hf, hn⟩ | ⟨j, s, hf, hj, hk⟩
  · exact ⟨_, _, by simp [execOp, hx, hy, Instr.lookup, run_underlying hT, hg, hc, hf, run_zeroI hE], rfl, .inl ⟨rfl, hn⟩⟩
  · exact ⟨_, _, by simp [execOp, hx, hy, Instr.lookup, run_underlying hT, hg, hc, hf], rfl, .inr ⟨s, List.mem_of_getElem? hj, hk, rfl⟩⟩
theorem r_lookI1 (hT : P.underlying T = some (.map K E')) (hK : P.underlying K = some (.int .i64)) (hx : ρ x = .map (some b)) (hy : ρ y = vi q) (hb : w.heap[b]? = some (iobj E clock)) (hq : ∃ s ∈ E, s.k = q) :
    ∃ v w', (execOp ρ ⟨dst, .lookup T x y false, ty, pos, aft, g⟩).run P w = .ok (.value v) w' ∧ w' = w ∧ ∃ s, s ∈ E ∧ s.k = q ∧ v = s.p.v := by
  have hg := MapKept.run_getObj_map (P := P) hb
  have hc := fun e => MapKept.run_checkKey (P := P) (w := w) hK (isKeyI q) e 9999
  rcases findI hK w E q with ⟨hf, hn⟩ | ⟨j, s, hf, hj, hk⟩
  · obtain ⟨s, hs, hk⟩ := hq
    exact absurd hk (hn s hs)
  · exact ⟨_, _, by simp [execOp, hx, hy, Instr.lookup, run_underlying hT, hg, hc, hf], rfl, s, List.mem_of_getElem? hj, hk, rfl⟩
/-- What a map holds behind a store: what was there, or the new one. -/
def PutI (E : List IE) (q : Nat) (p : Piece) (E2 : List IE) : Prop := (∀ x ∈ E2, x ∈ E ∨ x.k = q ∧ x.p = p) ∧ (∃ x ∈ E2, x.k = q) ∧ ∀ x ∈ E, ∃ y ∈ E2, y.k = x.k
theorem x_putI {p : Piece} (l1 : List Item) {l2 : List Item} (hS : St w0 M w (l1 ++ .blk b (iobj E clock) :: l2)) (hT : P.underlying T = some (.map K E')) (hK : P.underlying K = some (.int .i64)) (hx : ρ x = .map (some b)) (hy : ρ y = vi q) (hz : ρ z = p.v) :
    ∃ w', (execOp ρ ⟨none, .mapUpdate T x y z, ty, pos, aft, g⟩).run P w = .ok .skip w' ∧ ∃ E2 c2, PutI E q p E2 ∧ St w0 M w' (l1 ++ .blk b (iobj E2 c2) :: l2) := by
  have hb : w.heap[b]? = some (iobj E clock) := hS.heap (by simp)
  have hgo := MapKept.run_getObj_map (P := P) hb
  have hc := MapKept.run_checkKey (P := P) (w := w) hK (isKeyI q) false 9999
  have hit := hS.has (.blk b (iobj E clock)) (by simp)
  rcases findI hK w E q with ⟨hf, hno⟩ | ⟨j, e, hf, hj, hk⟩
  · have hs := MapKept.run_setObj_map (P := P) (w := w) (iobj (E ++ [⟨clock, q, p⟩]) (clock + 1)) hb
    have hset := MapKept.heap_set (o' := iobj (E ++ [⟨clock, q, p⟩]) (clock + 1)) hb
    have he : iobj (E ++ [⟨clock, q, p⟩]) (clock + 1) = .map ((E.map IE.e).toArray.push { key := vi q, val := p.v, born := clock }) (clock + 1) := by
      simp [iobj, IE.e]
    rw [he] at hs
    refine ⟨{ w with heap := w.heap.setIfInBounds b (iobj (E ++ [⟨clock, q, p⟩]) (clock + 1)) }, ?_, E ++ [⟨clock, q, p⟩], clock + 1, ⟨?_, ?_, ?_⟩, ?_⟩
    · rw [he]
      have hr : (Instr.mapUpdate T (.map (some b)) (vi q) p.v).run P w = .ok () { w with heap := w.heap.setIfInBounds b (.map ((E.map IE.e).toArray.push { key := vi q, val := p.v, born := clock }) (clock + 1)) } := by
        unfold Instr.mapUpdate
        simp only [Sem.run_bind, run_underlying hT, Result.andThen_ok, hgo, iobj, hc]
        rw [hf]
        simp only [Result.andThen_ok]
        exact hs
      simp only [execOp, hx, hy, hz]
      rw [Sem.run_bind, hr]
      rfl
    · intro x hx
      rcases List.mem_append.1 hx with h | h
      · exact .inl h
      · simp only [List.mem_singleton] at h; subst h; exact .inr ⟨rfl, rfl⟩
    · exact ⟨⟨clock, q, p⟩, by simp, rfl⟩
    · exact fun x hx => ⟨x, by simp [hx], rfl⟩
    · exact hS.turnAt rfl rfl rfl (by simp) (fun k' hk' hne => hset.2 k' (fun e => hne (by rw [e]; rfl))) ⟨hset.1, hit.2⟩ (fun k' hk' => .inl hk')
  · obtain ⟨E2, hE2⟩ : ∃ E2, E2 = E.modify j (fun y => ⟨y.born, y.k, p⟩) := ⟨_, rfl⟩
    have hs := MapKept.run_setObj_map (P := P) (w := w) (iobj E2 clock) hb
    have hset := MapKept.heap_set (o' := iobj E2 clock) hb
    have hst := MapKept.run_keyThatStays (P := P) (w := w) (isKeyI q)
    have hget : (((E.map IE.e).toArray[j]?).map (·.key)).getD (vi q) = vi q := by
      simp [hj, IE.e, hk]
    obtain ⟨hjl, hje⟩ := List.getElem?_eq_some_iff.1 hj
    have hmod : (E.map IE.e).toArray.modify j (fun e => { e with key := vi q, val := p.v }) = (E2.map IE.e).toArray := by
      rw [hE2]
      apply Array.ext'
      rw [Array.toList_modify]
      apply List.ext_getElem
      · simp
      · intro i h1 h2
        simp only [List.getElem_map, List.getElem_modify]
        by_cases hij : j = i
        · subst hij
          simp [IE.e, hje, hk]
        · simp [hij]
    have hat : ∀ i (h : i < E2.length), ∃ h2 : i < E.length, E2[i] = if j = i then ⟨E[i].born, E[i].k, p⟩ else E[i] := by
      intro i h
      subst hE2
      refine ⟨by simpa using h, ?_⟩
      simp only [List.getElem_modify]
    have hl2 : E2.length = E.length := by rw [hE2]; simp
    refine ⟨{ w with heap := w.heap.setIfInBounds b (iobj E2 clock) }, ?_, E2, clock, ⟨?_, ?_, ?_⟩, ?_⟩
    · have hr : (Instr.mapUpdate T (.map (some b)) (vi q) p.v).run P w = .ok () { w with heap := w.heap.setIfInBounds b (iobj E2 clock) } := by
        unfold Instr.mapUpdate
        simp only [Sem.run_bind, run_underlying hT, Result.andThen_ok, hgo, iobj, hc]
        rw [hf]
        simp only [Result.andThen_ok, Sem.run_bind]
        rw [hget, hst]
        simp only [Result.andThen_ok]
        rw [hmod]
        exact hs
      simp only [execOp, hx, hy, hz]
      rw [Sem.run_bind, hr]
      rfl
    · intro x hx
      obtain ⟨i, hi, rfl⟩ := List.mem_iff_getElem.1 hx
      obtain ⟨h2, he⟩ := hat i hi
      rw [he]
      by_cases hij : j = i
      · subst hij
        rw [if_pos rfl]
        exact .inr ⟨by rw [hje]; exact hk, rfl⟩
      · rw [if_neg hij]; exact .inl (List.getElem_mem h2)
    · obtain ⟨_, he⟩ := hat j (by omega)
      exact ⟨E2[j]'(by omega), List.getElem_mem _, by rw [he, if_pos rfl, hje]; exact hk⟩
    · intro x hx
      obtain ⟨i, hi, rfl⟩ := List.mem_iff_getElem.1 hx
      obtain ⟨_, he⟩ := hat i (by omega)
      refine ⟨E2[i]'(by omega), List.getElem_mem _, ?_⟩
      rw [he]
      by_cases hij : j = i
      · rw [if_pos hij]
      · rw [if_neg hij]
    · exact hS.turnAt rfl rfl rfl (by simp) (fun k' hk' hne => hset.2 k' (fun e => hne (by rw [e]; rfl))) ⟨hset.1, hit.2⟩ (fun k' hk' => .inl hk')
theorem r_lenI {tys : Array TypeId} (ht : tys = #[T]) (hT : P.underlying T = some (.map K E')) (hx : ρ x = .map (some b)) (hb : w.heap[b]? = some (iobj E clock)) (args : Array Operand) (ha : args = #[x]) :
    (execOp ρ ⟨dst, .call { callee := .builtin .len, args := args, argTypes := tys }, ty, pos, aft, g⟩).run P w = .ok (.value (vi E.length)) w := by
  subst ha; subst ht
  have hm : P.underlying T = some (.map (P.mapKeyOf T) (P.mapElemOf T)) := by unfold Program.mapKeyOf Program.mapElemOf; rw [hT]
  have h := run_len_map (P := P) w T ty b (E.map IE.e).toArray clock hm hb
  simp [execOp, resolve, invoke, builtin, hx, h, goInt]
/-- A chunk cut out. -/
theorem r_chunk {a : Option Addr} {len cap i : Nat} {bs : List UInt8} (hT : P.underlying T = some (.slice E')) (hE : TI P E' dE 1 bts zv) (hx : ρ x = .slice a len cap) (hy : ρ y = vi (1024 * i)) (hz : ρ z = vi (1024 * i + min 1024 (len - 1024 * i))) (hu : ρ u = vi (1024 * i + min 1024 (len - 1024 * i)))
    (hl : bs.length = len) (hi : 1024 * i < len) (hc : len ≤ cap) :
    (execOp ρ ⟨dst, .slice T x (some y) (some z) (some u), ty, pos, aft, g⟩).run P w = .ok (.value (chP a cap bs i).v) w := by
  rw [r_sl_lhm hT hE hx hy hz hu (by omega) (by omega) (by omega)]
  have e : 1024 * i + min 1024 (len - 1024 * i) - 1024 * i = (chL bs i).length := by rw [chL_len, hl]; omega
  rw [e]
  have e2 : Kw.sub a (1024 * i + min 1024 (len - 1024 * i)) (1024 * i) 1 = Kw.sub a cap (1024 * i) 1 := by
    unfold Kw.sub
    rw [if_neg (by omega), if_neg (by omega)]
  rw [e2]
  rfl
end
theorem all_keys {E : List IE} {n : Nat} (h : ∀ i, i < n → ∃ s ∈ E, s.k = i) : n ≤ E.length := by
  have h2 : ∀ (n : Nat) (ks : List Nat), (∀ i, i < n → i ∈ ks) → n ≤ ks.length := by
    intro n
    induction n with
    | zero => intro ks _; omega
    | succ n ih =>
      intro ks hk
      have hm := hk n (by omega)
      have := ih (ks.erase n) (fun i hi => (List.mem_erase_of_ne (by omega)).2 (hk i (by omega)))
      rw [List.length_erase_of_mem hm] at this
      have := List.length_pos_of_mem hm
      omega
  have := h2 n (E.map (·.k)) (fun i hi => by obtain ⟨s, hs, hk⟩ := h i hi; exact List.mem_map.2 ⟨s, hs, hk⟩)
  simpa using this
/-- A piece that is the chunk k. -/
structure GoodP (w : World) (b : List UInt8) (k : Nat) (p : Piece) : Prop where
  xs : p.xs = chL b k
  cap : p.xs.length ≤ p.c
  row : Row w p.a (p.xs.map b8)
def GoodE (w : World) (b : List UInt8) (N : Nat) (E : List IE) : Prop := ∀ x ∈ E, x.k < N ∧ GoodP w b x.k x.p
/-- A proof that is the one of chunk k of N. -/
structure GoodQ (w : World) (b : List UInt8) (N k : Nat) (q : PfD) : Prop where
  ix : q.ix = k
  sz : q.sz = N
  n : q.n = stepsL k N
  cap : q.n ≤ q.c
  row : Row w q.a ((pathL (chLv b) k).flatten.map b8)
theorem GoodE.nil {w : World} {b : List UInt8} {N : Nat} : GoodE w b N [] := fun x h => by cases h
theorem GoodE.put {w : World} {b : List UInt8} {N q : Nat} {E E2 : List IE} {p : Piece} (h : GoodE w b N E) (hp : PutI E q p E2) (hq : q < N) (hg : GoodP w b q p) : GoodE w b N E2 := by
  intro x hx
  rcases hp.1 x hx with h1 | ⟨rfl, rfl⟩
  · exact h x h1
  · exact ⟨hq, hg⟩
theorem PutI.keys {E E2 : List IE} {q j : Nat} {p : Piece} {ix : Nat → Nat} (h : PutI E q p E2) (hk : ∀ i, i < j → ∃ x ∈ E, x.k = ix i) (hq : ix j = q) : ∀ i, i < j + 1 → ∃ x ∈ E2, x.k = ix i := by
  intro i hi
  by_cases hij : i = j
  · subst hij; rw [hq]; exact h.2.1
  · obtain ⟨x, hx, he⟩ := hk i (by omega)
    obtain ⟨y, hy, hyk⟩ := h.2.2 x hx
    exact ⟨y, hy, hyk.trans he⟩
theorem chL_full {b : List UInt8} {k : Nat} (h : k + 1 < chN b.length) : (chL b k).length = 1024 := by
  rw [chL_len]; unfold chN at h; omega
theorem chL_pos {b : List UInt8} {k : Nat} (h : k < chN b.length) : 0 < (chL b k).length := by
  rw [chL_len]; unfold chN at h; omega
/-- A chunk's own proof holds. -/
theorem good_proved {w : World} {b : List UInt8} {N k : Nat} {p : Piece} {q : PfD} (hp : GoodP w b k p) (hq : GoodQ w b N k q) (hN : N = chN b.length) (hk : k < N) (hn : N ≤ 65536) : provedE (rootL (chLv b)) (leafL p.xs) q.ix q.sz (pathL (chLv b) k) = 0 := by
  rw [hp.xs, hq.ix, hq.sz, ← chLv_gt (by omega)]
  exact made_proved (by rw [chLv_len, hN]) hk hn
end Go.Kw
end
section
namespace Go.Kw
open Go.RowKit
set_option linter.unusedVariables false
set_option linter.unusedSimpArgs false
def uN (z : Int) : Nat := (z % 18446744073709551616).toNat
def gx (ol : List Int) (N j : Nat) : Nat := uN (gt ol j) % N
theorem gx_lt {ol : List Int} {N j : Nat} (h : 0 < N) : gx ol N j < N := Nat.mod_lt _ h
theorem uN_nat {i : Nat} (h : i < 1048576) : uN (i : Int) = i := by unfold uN; omega
theorem ordL_len (xs : List Int) (N : Nat) : (ordL xs N).length = xs.length + N := by simp [ordL]
theorem ord_back {xs : List Int} {N i : Nat} (h : i < N) (hN : N ≤ 20) : gx (ordL xs N) N (xs.length + i) = i := by
  have e : gt (ordL xs N) (xs.length + i) = (i : Int) := by
    rw [gt_eq _ _ (by rw [ordL_len]; omega)]
    simp [ordL]
  unfold gx
  rw [e, uN_nat (by omega), Nat.mod_eq_of_lt h]
theorem ord_all {xs : List Int} {N : Nat} (hN : N ≤ 20) : ∀ i, i < N → ∃ j, j < xs.length + N ∧ gx (ordL xs N) N j = i := fun i hi => ⟨xs.length + i, by omega, ord_back hi hN⟩
section
variable {P : Program} {ρ : Operand → Value} {w : World} {dst : Option Tmp} {ty : TypeId} {pos : String} {aft : Array Edge} {g : Option (Nat × Bool)} {x y : Operand} {T T2 : TypeId}
abbrev u64 (n : Nat) : Value := .int .u64 (n : Int)
theorem r_toU {z : Int} (hT : P.underlying T = some (.int .u64)) (hS : ∃ d, P.underlying T2 = some d) (hx : ρ x = .int .i64 z) : (execOp ρ ⟨dst, .convert T2 T x, ty, pos, aft, g⟩).run P w = .ok (.value (u64 (uN z))) w :=
  r_conv hT hS hx (by rw [wrap_u64]; unfold uN; omega)
theorem r_toUn {n : Nat} (hT : P.underlying T = some (.int .u64)) (hS : ∃ d, P.underlying T2 = some d) (hx : ρ x = vi n) (h : n < 1048576) : (execOp ρ ⟨dst, .convert T2 T x, ty, pos, aft, g⟩).run P w = .ok (.value (u64 n)) w :=
  r_conv hT hS hx (by rw [wrap_u64]; omega)
theorem r_fromU {n : Nat} (hT : P.underlying T = some (.int .i64)) (hS : ∃ d, P.underlying T2 = some d) (hx : ρ x = u64 n) (h : n < 1048576) : (execOp ρ ⟨dst, .convert T2 T x, ty, pos, aft, g⟩).run P w = .ok (.value (vi n)) w :=
  r_conv hT hS hx (by rw [wi (by omega) (by omega)])
theorem r_remU {a b : Nat} (hx : ρ x = u64 a) (hy : ρ y = u64 b) (h : 0 < b) : (execOp ρ ⟨dst, .binOp .rem T x y T2, ty, pos, aft, g⟩).run P w = .ok (.value (u64 (a % b))) w :=
  r_bin hx hy (by
    have h0 : ¬ (b : Int) = 0 := by omega
    have h3 : (a : Int).tmod b = ((a % b : Nat) : Int) := by rw [Int.tmod_eq_emod_of_nonneg (by omega)]; exact (Int.natCast_emod a b).symm
    simp only [binOp, Op.intDiv, h0, if_false, h3, Sem.run_pure, ne_eq, not_true_eq_false])
end
/-- What is known of the items behind: they hold the chunks and proofs so far. -/
def Tail (w : World) (b : List UInt8) (N : Nat) (LT : List Item) (ps : List Piece) (qs : List PfD) (g : Nat → Nat) (k : Nat) : Prop :=
  ∀ W A, St w [] W (A ++ LT) → ∀ j, j < k → GoodP W b (g j) (gt ps j) ∧ GoodQ W b N (g j) (gt qs j)
theorem Tail.zero {w : World} {b : List UInt8} {N : Nat} {LT : List Item} {ps : List Piece} {qs : List PfD} {g : Nat → Nat} : Tail w b N LT ps qs g 0 := fun W A h j hj => absurd hj (Nat.not_lt_zero _)
theorem gt_snoc {α : Type} [Inhabited α] {l : List α} {x : α} {k j : Nat} (hl : l.length = k) : gt (l ++ [x]) j = if j < k then gt l j else if j = k then x else gt (l ++ [x]) j := by
  by_cases h : j < k
  · rw [if_pos h, gt_eq _ _ (by simp; omega), gt_eq _ _ (by omega), List.getElem_append_left (by omega)]
  · rw [if_neg h]
    by_cases h2 : j = k
    · subst h2; rw [if_pos rfl, gt_eq _ _ (by simp; omega)]; subst hl; simp
    · rw [if_neg h2]
theorem Tail.step {w : World} {b : List UInt8} {N : Nat} {LT : List Item} {ps : List Piece} {qs : List PfD} {g : Nat → Nat} {k : Nat} {p : Piece} {q : PfD} {r1 r2 : Item} (h : Tail w b N LT ps qs g k) (lp : ps.length = k) (lq : qs.length = k)
    (hn : ∀ W, St w [] W [r1, r2] → GoodP W b (g k) p ∧ GoodQ W b N (g k) q) : Tail w b N (r1 :: r2 :: LT) (ps ++ [p]) (qs ++ [q]) g (k + 1) := by
  intro W A hS j hj
  by_cases hjk : j < k
  · rw [gt_snoc lp, gt_snoc lq, if_pos hjk, if_pos hjk]
    exact h W (A ++ [r1, r2]) (by simpa using hS) j hjk
  · obtain rfl : j = k := by omega
    rw [gt_snoc lp, gt_snoc lq, if_neg hjk, if_neg hjk, if_pos rfl, if_pos rfl]
    refine hn W (hS.sub ?_)
    exact (List.Sublist.cons_cons _ (List.Sublist.cons_cons _ (List.nil_sublist _))).trans (List.sublist_append_right _ _)
theorem provedE_zero {root leaf : List UInt8} {i n : Int} {p : List (List UInt8)} (h : provedE root leaf i n p = 0) : rootByE i n p.length = 0 ∧ rootByL leaf i n p = root := by
  unfold provedE at h
  split at h
  · cases h
  · rename_i hh
    refine ⟨h, ?_⟩
    by_cases hr : rootByL leaf i n p = root
    · exact hr
    · exact absurd ⟨h, hr⟩ hh
end Go.Kw
end
