/- What the law's proof leans on. No condition. -/
import Derived.Test.YtjnnhlbfgnopiaaGreatDoorPCAA
import Derived.Laws.AppendOwn
import Derived.Laws.AppendOwnNone
import Derived.Laws.MakeOwn
import Derived.Laws.CopyRow
import Derived.Laws.CopyOwn
import Derived.Laws.Rows
namespace Go.Kw
open Go.RowKit (Below)
set_option linter.unusedVariables false
set_option linter.unusedSimpArgs false

/-- What is known of a type. -/
structure TI (P : Program) (t : TypeId) (d : TypeDesc) (sz bts : Nat) (z : Value) : Prop where
  und : P.underlying t = some d
  info : ∃ i, P.info? t = some i ∧ i.size = sz ∧ i.bytes = bts ∧ i.zero = some z

def aggD : TypeDesc → Bool
  | .struct _ | .array _ _ => true
  | _ => false

abbrev pt (b o : Nat) : Value := .pointer (some ⟨b, o, none⟩)
abbrev cl (C : List Value) (E : TypeId) : Obj := .cells C.toArray E (0, 0)

inductive Item where
  | blk (b : Nat) (o : Obj)
  | row (v : Value) (E : TypeId) (sz n : Nat) (xs : List Value)

def Item.id : Item → Option Nat
  | .blk b _ => some b
  | .row v .. => v.ownBlock

def Item.sat (B : Nat) (M : List Nat) (w : World) : Item → Prop
  | .blk b o => w.heap[b]? = some o ∧ (B ≤ b ∨ b ∈ M)
  | .row v E sz n xs => w.ownsRow 0 E sz v n xs ∧ ∀ g, v.ownBlock = some g → B ≤ g ∨ g ∈ M

/-- From w0 on: only the blocks of M, and new ones, may have turned; and the items of L are as they say, each a block of its own. -/
structure St (w0 : World) (M : List Nat) (w : World) (L : List Item) : Prop where
  os : w.os = w0.os
  tape : w.tape = w0.tape
  output : w.output = w0.output
  size : w0.heap.size ≤ w.heap.size
  old : ∀ k, k < w0.heap.size → k ∉ M → w.heap[k]? = w0.heap[k]?
  has : ∀ x ∈ L, x.sat w0.heap.size M w
  apart : (L.filterMap Item.id).Nodup

theorem St.refl (w : World) (M : List Nat) : St w M w [] := ⟨rfl, rfl, rfl, Nat.le_refl _, fun _ _ _ => rfl, by simp, by simp⟩

theorem St.below {w0 w : World} {L : List Item} (h : St w0 [] w L) : Below w0.heap.size w0 w := ⟨h.os, h.tape, h.output, h.size, fun k hk => h.old k hk (by simp)⟩

theorem Item.sat.lt {B : Nat} {M : List Nat} {w : World} {x : Item} (h : x.sat B M w) : ∀ k, x.id = some k → k < w.heap.size := by
  intro k hk
  cases x with
  | blk b o =>
    simp only [Item.id, Option.some.injEq] at hk
    subst hk
    exact (Array.getElem?_eq_some_iff.1 h.1).1
  | row v E sz n xs => exact (h.1.lt k hk).2

/-- What stays of an item when nothing but other blocks turn. -/
theorem Item.sat.keep {B : Nat} {M : List Nat} {w w' : World} {x : Item} (h : x.sat B M w) (hk : ∀ k, x.id = some k → w'.heap[k]? = w.heap[k]?) : x.sat B M w' := by
  cases x with
  | blk b o => exact ⟨(hk b rfl).trans h.1, h.2⟩
  | row v E sz n xs =>
    refine ⟨⟨h.1.1, ?_⟩, h.2⟩
    rcases h.1.2 with h2 | ⟨g, cap, cur, hv, hg, hh, r⟩
    · exact .inl h2
    · exact .inr ⟨g, cap, cur, hv, hg, by rw [hk g (by subst hv; rfl)]; exact hh, r⟩

section
variable {P : Program} {w0 w w' : World} {M : List Nat} {L l1 l2 : List Item}

theorem St.sub (h : St w0 M w L) {L' : List Item} (hs : List.Sublist L' L) : St w0 M w L' :=
  ⟨h.os, h.tape, h.output, h.size, h.old, fun x hx => h.has x (hs.subset hx), h.apart.sublist (hs.filterMap _)⟩

theorem St.drop1 {x : Item} (h : St w0 M w (x :: L)) : St w0 M w L := h.sub (List.sublist_cons_self _ _)

theorem St.perm {L' : List Item} (h : St w0 M w L) (hp : List.Perm L' L) : St w0 M w L' :=
  ⟨h.os, h.tape, h.output, h.size, h.old, fun x hx => h.has x (hp.subset hx), (hp.filterMap _).nodup_iff.2 h.apart⟩

theorem St.drew (h : St w0 M w L) : St w0 M w.drew L :=
  ⟨h.os, h.tape, h.output, h.size, h.old, fun x hx => (h.has x hx).keep fun _ _ => rfl, h.apart⟩
/-- A new block. -/
theorem St.alloc (h : St w0 M w L) (o : Obj) : St w0 M (w.alloc o) (.blk w.heap.size o :: L) := by
  have hold : ∀ k, k < w.heap.size → (w.alloc o).heap[k]? = w.heap[k]? := fun k hk => heap_alloc_old w o k hk
  refine ⟨h.os, h.tape, h.output, Nat.le_trans h.size (by simp), fun k hk hM => (hold k (Nat.lt_of_lt_of_le hk h.size)).trans (h.old k hk hM), ?_, ?_⟩
  · intro x hx
    rcases List.mem_cons.1 hx with rfl | hx
    · exact ⟨heap_alloc_new w o, .inl h.size⟩
    · exact (h.has x hx).keep fun k hk => hold k ((h.has x hx).lt k hk)
  · simp only [List.filterMap_cons, Item.id, List.nodup_cons]
    refine ⟨fun hm => ?_, h.apart⟩
    obtain ⟨x, hx, hid⟩ := List.mem_filterMap.1 hm
    exact absurd ((h.has x hx).lt _ hid) (Nat.lt_irrefl _)

/-- One item turns: only its own block has turned. -/
theorem St.turnAt {x y : Item} (h : St w0 M w (l1 ++ x :: l2)) (hos : w'.os = w.os) (ht : w'.tape = w.tape) (hout : w'.output = w.output) (hsz : w.heap.size ≤ w'.heap.size)
    (hk : ∀ k, k < w.heap.size → x.id ≠ some k → w'.heap[k]? = w.heap[k]?) (hy : y.sat w0.heap.size M w') (hid : ∀ k, y.id = some k → x.id = some k ∨ w.heap.size ≤ k) : St w0 M w' (l1 ++ y :: l2) := by
  have hx := h.has x (by simp)
  have hnd := h.apart
  simp only [List.filterMap_append, List.filterMap_cons] at hnd
  have hne : ∀ z, z ∈ l1 ∨ z ∈ l2 → ∀ k, z.id = some k → x.id ≠ some k := by
    intro z hz k hzk hxk
    simp only [hxk] at hnd
    rcases hz with hz | hz
    · have := (List.nodup_append.1 hnd).2.2 k (List.mem_filterMap.2 ⟨z, hz, hzk⟩) k (by simp)
      exact this rfl
    · have := (List.nodup_cons.1 (List.nodup_append.1 hnd).2.1).1
      exact this (List.mem_filterMap.2 ⟨z, hz, hzk⟩)
  refine ⟨hos.trans h.os, ht.trans h.tape, hout.trans h.output, Nat.le_trans h.size hsz, ?_, ?_, ?_⟩
  · intro k hk' hM
    rw [hk k (Nat.lt_of_lt_of_le hk' h.size) ?_]
    · exact h.old k hk' hM
    · intro hid'
      cases x with
      | blk b o =>
        simp only [Item.id, Option.some.injEq] at hid'
        subst hid'
        rcases hx.2 with h1 | h1
        · omega
        · exact hM h1
      | row v E sz n xs =>
        rcases hx.2 k hid' with h1 | h1
        · omega
        · exact hM h1
  · intro z hz
    rcases List.mem_append.1 hz with hz | hz
    · exact (h.has z (by simp [hz])).keep fun k hzk => hk k ((h.has z (by simp [hz])).lt k hzk) (hne z (.inl hz) k hzk)
    · rcases List.mem_cons.1 hz with rfl | hz
      · exact hy
      · exact (h.has z (by simp [hz])).keep fun k hzk => hk k ((h.has z (by simp [hz])).lt k hzk) (hne z (.inr hz) k hzk)
  · simp only [List.filterMap_append, List.filterMap_cons]
    cases hyi : y.id with
    | none =>
      refine h.apart.sublist ?_
      simp only [List.filterMap_append]
      exact List.Sublist.append (List.Sublist.refl _) ((List.sublist_cons_self _ _).filterMap _)
    | some k =>
      have hkn : ∀ z, z ∈ l1 ∨ z ∈ l2 → z.id ≠ some k := by
        intro z hz hzk
        have hzL : z ∈ l1 ++ x :: l2 := by rcases hz with hz | hz <;> simp [hz]
        rcases hid k hyi with h1 | h1
        · exact hne z hz k hzk h1
        · exact absurd ((h.has z hzL).lt k hzk) (by omega)
      have hnd2 : (l1.filterMap Item.id ++ l2.filterMap Item.id).Nodup := by
        refine h.apart.sublist ?_
        simp only [List.filterMap_append]
        exact List.Sublist.append (List.Sublist.refl _) ((List.sublist_cons_self _ _).filterMap _)
      refine (List.perm_middle.nodup_iff).2 (List.nodup_cons.2 ⟨?_, hnd2⟩)
      intro hm
      rcases List.mem_append.1 hm with hm | hm
      · obtain ⟨z, hz, hzk⟩ := List.mem_filterMap.1 hm; exact hkn z (.inl hz) hzk
      · obtain ⟨z, hz, hzk⟩ := List.mem_filterMap.1 hm; exact hkn z (.inr hz) hzk

/-- Behind a call that has turned nothing that was there: its items are new ones. -/
theorem St.call {L' : List Item} (h : St w0 M w L) (h' : St w [] w' L') : St w0 M w' (L' ++ L) := by
  have hk : ∀ k, k < w.heap.size → w'.heap[k]? = w.heap[k]? := fun k hk => h'.old k hk (by simp)
  have hge : ∀ x ∈ L', ∀ k, x.id = some k → w.heap.size ≤ k := by
    intro x hx k hxk
    have hs := h'.has x hx
    cases x with
    | blk b o =>
      simp only [Item.id, Option.some.injEq] at hxk
      subst hxk
      rcases hs.2 with h1 | h1
      · exact h1
      · cases h1
    | row v E sz n xs =>
      rcases hs.2 k hxk with h1 | h1
      · exact h1
      · cases h1
  refine ⟨h'.os.trans h.os, h'.tape.trans h.tape, h'.output.trans h.output, Nat.le_trans h.size h'.size, fun k hk' hM => (hk k (Nat.lt_of_lt_of_le hk' h.size)).trans (h.old k hk' hM), ?_, ?_⟩
  · intro x hx
    rcases List.mem_append.1 hx with hx | hx
    · have hs := h'.has x hx
      cases x with
      | blk b o => exact ⟨hs.1, .inl (Nat.le_trans h.size (hge _ hx b rfl))⟩
      | row v E sz n xs => exact ⟨hs.1, fun g hg => .inl (Nat.le_trans h.size (hge _ hx g hg))⟩
    · exact (h.has x hx).keep fun k hxk => hk k ((h.has x hx).lt k hxk)
  · rw [List.filterMap_append, List.nodup_append]
    refine ⟨h'.apart, h.apart, fun a ha b hb hab => ?_⟩
    obtain ⟨x, hx, hxa⟩ := List.mem_filterMap.1 ha
    obtain ⟨y, hy, hyb⟩ := List.mem_filterMap.1 hb
    subst hab
    have := hge x hx a hxa
    have := (h.has y hy).lt a hyb
    omega

/-- Nothing that was there has turned. -/
theorem St.ext (h : St w0 M w L) (h' : St w [] w' []) : St w0 M w' L := h.call h'

/-- Behind a call that may turn the items X, and has made them Y. -/
theorem St.callM {X Y : List Item} {Mc : List Nat} (h : St w0 M w (X ++ L)) (h' : St w Mc w' Y) (hM : ∀ k ∈ Mc, ∃ x ∈ X, x.id = some k) : St w0 M w' (Y ++ L) := by
  have hnd := h.apart
  rw [List.filterMap_append, List.nodup_append] at hnd
  have hbM : ∀ x ∈ X ++ L, ∀ b, x.id = some b → w0.heap.size ≤ b ∨ b ∈ M := by
    intro x hx b hxb
    have hxs := h.has x hx
    cases x with
    | blk c o => simp only [Item.id, Option.some.injEq] at hxb; subst hxb; exact hxs.2
    | row v E sz n xs => exact hxs.2 b hxb
  have hY : ∀ y ∈ Y, ∀ k, y.id = some k → k ∈ Mc ∨ w.heap.size ≤ k := by
    intro y hy k hyk
    have hs := h'.has y hy
    cases y with
    | blk c o => simp only [Item.id, Option.some.injEq] at hyk; subst hyk; exact hs.2.symm
    | row v E sz n xs => exact (hs.2 k hyk).symm
  have hY0 : ∀ y ∈ Y, ∀ k, y.id = some k → w0.heap.size ≤ k ∨ k ∈ M := by
    intro y hy k hyk
    rcases hY y hy k hyk with h1 | h1
    · obtain ⟨x, hx, hxk⟩ := hM k h1
      exact hbM x (by simp [hx]) k hxk
    · exact .inl (Nat.le_trans h.size h1)
  have hL : ∀ z ∈ L, ∀ k, z.id = some k → k ∉ Mc := by
    intro z hz k hzk hkm
    obtain ⟨x, hx, hxk⟩ := hM k hkm
    exact hnd.2.2 k (List.mem_filterMap.2 ⟨x, hx, hxk⟩) k (List.mem_filterMap.2 ⟨z, hz, hzk⟩) rfl
  refine ⟨h'.os.trans h.os, h'.tape.trans h.tape, h'.output.trans h.output, Nat.le_trans h.size h'.size, ?_, ?_, ?_⟩
  · intro k hk hkM
    rw [h'.old k (Nat.lt_of_lt_of_le hk h.size) ?_]
    · exact h.old k hk hkM
    · intro hkm
      obtain ⟨x, hx, hxk⟩ := hM k hkm
      rcases hbM x (by simp [hx]) k hxk with h1 | h1
      · omega
      · exact hkM h1
  · intro x hx
    rcases List.mem_append.1 hx with hx | hx
    · have hs := h'.has x hx
      have h0 := hY0 x hx
      cases x with
      | blk b o => exact ⟨hs.1, h0 b rfl⟩
      | row v E sz n xs => exact ⟨hs.1, fun g hg => h0 g hg⟩
    · have hxs := h.has x (by simp [hx])
      exact hxs.keep fun k hxk => h'.old k (hxs.lt k hxk) (hL x hx k hxk)
  · rw [List.filterMap_append, List.nodup_append]
    refine ⟨h'.apart, hnd.2.1, fun a ha b hb hab => ?_⟩
    obtain ⟨x, hx, hxa⟩ := List.mem_filterMap.1 ha
    obtain ⟨y, hy, hyb⟩ := List.mem_filterMap.1 hb
    subst hab
    rcases hY x hx a hxa with h1 | h1
    · exact hL y hy a hyb h1
    · have := (h.has y (by simp [hy])).lt a hyb
      omega

/-- What a call may take as given of a block that it is handed. -/
theorem St.own {b : Nat} {o : Obj} (h : w.heap[b]? = some o) : St w [b] w [.blk b o] :=
  ⟨rfl, rfl, rfl, Nat.le_refl _, fun _ _ _ => rfl, fun x hx => by
    simp only [List.mem_singleton] at hx
    subst hx
    exact ⟨h, .inr (by simp)⟩, by simp [Item.id]⟩

theorem St.heap {b : Nat} {o : Obj} (h : St w0 M w L) (hx : Item.blk b o ∈ L) : w.heap[b]? = some o := (h.has _ hx).1

/-! ### Reading -/

/-- The cells from a place on. -/
def At (w : World) (b off : Nat) (cs : List Value) : Prop := ∀ i v, cs[i]? = some v → w.cell? ⟨b, off + i, none⟩ = some v
/-- .. of a slice's place, which may be nil. -/
def Row (w : World) (a : Option Addr) (cs : List Value) : Prop := cs = [] ∨ ∃ b off, a = some ⟨b, off, none⟩ ∧ At w b off cs

theorem at_of_heap {b off : Nat} {C cs : List Value} {E : TypeId} {fr : Nat × Nat} (h : w.heap[b]? = some (.cells C.toArray E fr)) (hc : ∀ i v, cs[i]? = some v → C[off + i]? = some v) : At w b off cs := by
  intro i v hv
  rw [cell_of_row w b (off + i) C.toArray E fr h]
  simpa using hc i v hv

theorem at_all {b : Nat} {C : List Value} {E : TypeId} {fr : Nat × Nat} (h : w.heap[b]? = some (.cells C.toArray E fr)) : At w b 0 C :=
  at_of_heap h fun i v hv => by simpa using hv

theorem at_part {b off n : Nat} {C : List Value} {E : TypeId} {fr : Nat × Nat} (h : w.heap[b]? = some (.cells C.toArray E fr)) : At w b off ((C.drop off).take n) :=
  at_of_heap h fun i v hv => by
    rw [List.getElem?_take] at hv
    split at hv
    · simpa using hv
    · cases hv

theorem At.lt {b off : Nat} {cs : List Value} (h : At w b off cs) (hn : 0 < cs.length) : b < w.heap.size := by
  have := h 0 cs[0] (List.getElem?_eq_getElem hn)
  exact World.block_lt_of_cell? w _ this

theorem At.move {b off : Nat} {cs : List Value} (h : At w b off cs) (hb : 0 < cs.length → w'.heap[b]? = w.heap[b]?) : At w' b off cs := by
  intro i v hv
  have hn : 0 < cs.length := by have := (List.getElem?_eq_some_iff.1 hv).1; omega
  rw [World.cell?_of_block (w := w) (hb hn)]
  exact h i v hv

theorem At.st {b off : Nat} {cs : List Value} (h : At w0 b off cs) (hS : St w0 [] w L) : At w b off cs := h.move fun hn => hS.old b (h.lt hn) (by simp)
theorem Row.st {a : Option Addr} {cs : List Value} (h : Row w0 a cs) (hS : St w0 [] w L) : Row w a cs := by
  rcases h with h | ⟨b, off, ha, h⟩
  · exact .inl h
  · exact .inr ⟨b, off, ha, h.st hS⟩
theorem At.stM {b off : Nat} {cs : List Value} (h : At w0 b off cs) (hS : St w0 M w L) (hb : b ∉ M) : At w b off cs := h.move fun hn => hS.old b (h.lt hn) hb

theorem At.part {b off : Nat} {cs ds : List Value} (k : Nat) (h : At w b off cs) (hd : ∀ i v, ds[i]? = some v → cs[k + i]? = some v) : At w b (off + k) ds := by
  intro i v hv
  rw [Nat.add_assoc]
  exact h (k + i) v (hd i v hv)
theorem At.take {b off n : Nat} {cs : List Value} (h : At w b off cs) : At w b off (cs.take n) := fun i v hv => by
  rw [List.getElem?_take] at hv
  split at hv
  · exact h i v hv
  · cases hv
theorem Row.take {a : Option Addr} {n : Nat} {cs : List Value} (h : Row w a cs) : Row w a (cs.take n) := by
  rcases h with h | ⟨b, off, ha, h⟩
  · exact .inl (by simp [h])
  · exact .inr ⟨b, off, ha, h.take⟩
theorem Row.of_at {b off : Nat} {cs : List Value} (h : At w b off cs) : Row w (some ⟨b, off, none⟩) cs := .inr ⟨b, off, rfl, h⟩
theorem Row.nil {a : Option Addr} : Row w a [] := .inl rfl
theorem At.row {b off : Nat} {cs : List Value} (h : Row w (some ⟨b, off, none⟩) cs) : At w b off cs := by
  rcases h with h | ⟨b', off', ha, h⟩
  · subst h; intro i v hv; simp at hv
  · simp only [Option.some.injEq, Addr.mk.injEq, and_true] at ha
    obtain ⟨rfl, rfl⟩ := ha
    exact h

/-- Where a part of a slice begins. -/
def sub (a : Option Addr) (cap l sz : Nat) : Option Addr := if cap = l then a else a.map (·.add (l * sz))

theorem add_lit (b off n : Nat) : (⟨b, off, none⟩ : Addr).add n = ⟨b, off + n, none⟩ := by unfold Addr.add; split <;> simp_all

theorem Row.sub {a : Option Addr} {cs : List Value} {cap l sz : Nat} (h : Row w a cs) (hc : cs.length ≤ cap * sz) : Row w (Kw.sub a cap l sz) (cs.drop (l * sz)) := by
  unfold Kw.sub
  rcases h with h | ⟨b, off, ha, h⟩
  · exact .inl (by simp [h])
  · split
    · rename_i he
      subst he
      exact .inl (List.drop_eq_nil_of_le hc)
    · subst ha
      refine .inr ⟨b, off + l * sz, by simp [add_lit], ?_⟩
      exact h.part (l * sz) fun i v hv => by simpa using hv

/-- What an owned row holds can be read. -/
theorem row_at {v : Value} {E : TypeId} {sz n B : Nat} {xs : List Value} (h : w.ownsRow B E sz v n xs) : ∃ a c, v = .slice a n c ∧ Row w a xs ∧ n ≤ c ∧ xs.length = n * sz := by
  rcases h.2 with ⟨rfl, rfl⟩ | ⟨g, cap, cur, hv, hg, hh, hn, hc, hs, ht⟩
  · have : xs = [] := List.eq_nil_of_length_eq_zero (by simpa using h.1)
    exact ⟨none, 0, rfl, .inl this, Nat.le_refl _, h.1⟩
  · refine ⟨_, cap, hv, .inr ⟨g, 0, rfl, ?_⟩, hn, h.1⟩
    rw [← ht]
    have := at_all (w := w) (b := g) (C := cur.toList) (E := E) (fr := (0, 0)) (by simpa using hh)
    exact this.take

/-! ### Cells of one value each -/
def One (cs : List Value) : Prop := ∀ c ∈ cs, c.oneCell' = true
theorem one_nil : One [] := by intro c hc; cases hc
theorem one_map {α : Type} {f : α → Value} (l : List α) (h : ∀ x, (f x).oneCell' = true) : One (l.map f) := by
  intro c hc
  obtain ⟨x, _, rfl⟩ := List.mem_map.1 hc
  exact h x
theorem one_b8 (l : List UInt8) : One (l.map b8) := one_map l fun _ => rfl
theorem one_v32 (l : List UInt32) : One (l.map v32) := one_map l fun _ => rfl
theorem one_app {a b : List Value} (ha : One a) (hb : One b) : One (a ++ b) := by
  intro c hc
  rcases List.mem_append.1 hc with h | h
  · exact ha c h
  · exact hb c h
theorem one_cons {c : Value} {cs : List Value} (hc : c.oneCell' = true) (h : One cs) : One (c :: cs) := by
  intro d hd
  rcases List.mem_cons.1 hd with rfl | hd
  · exact hc
  · exact h d hd
theorem one_sub {cs ds : List Value} (h : One cs) (hs : ∀ c ∈ ds, c ∈ cs) : One ds := fun c hc => h c (hs c hc)
theorem one_take {cs : List Value} {n : Nat} (h : One cs) : One (cs.take n) := one_sub h fun c hc => List.mem_of_mem_take hc

end
end Go.Kw
