/- What the law's proof leans on. No condition. -/
import Derived.Test.YtjnnhlbfgnopiaaGreatDoorPCAI
import Derived.Test.YtjnnhlbfgnopiaaGreatDoorPCBL
import Derived.Test.YtjnnhlbfgnopiaaGreatDoorPCBM
namespace Go.Proofs.YtjnnhlbfgnopiaaGreatDoor
open Go.Kw
set_option linter.unusedVariables false
set_option linter.unusedSimpArgs false
set_option maxRecDepth 100000
theorem extraJoin : Builder.Extra Tryz.prog Tryz.laysJoin_ren where
  sizeBuilder := by kernel_rfl
  liesBuilder := by kernel_rfl
  t5 := Tryz.underlying5
  a5 := Tryz.isAgg5
  z5 := Tryz.sizeOf5
  v5 := Tryz.zeroValue5
  infoByte := by kernel_rfl
  cellsByte := by kernel_rfl
  sizeByte := by kernel_rfl
  neB5 := by decide
theorem extraBS : Builder.Extra Tryz.prog Tryz.laysBString_ren where
  sizeBuilder := by kernel_rfl
  liesBuilder := by kernel_rfl
  t5 := Tryz.underlying5
  a5 := Tryz.isAgg5
  z5 := Tryz.sizeOf5
  v5 := Tryz.zeroValue5
  infoByte := by kernel_rfl
  cellsByte := by kernel_rfl
  sizeByte := by kernel_rfl
  neB5 := by decide
theorem join_ok (ws : Ws) (a : Option Addr) (n c : Nat) (w : World) (hb : Row w a (ws.map sv)) (hl : ws.length = n) (hne : 0 < n) (hcap : n ≤ c) (hn : n ≤ 140737488355328) (hlen : (Lib.join ws [32]).length ≤ 140737488355328) :
    Ret Tryz.prog 65 [.slice a n c, .string ⟨#[32]⟩] w (fun v w' => v = .string ⟨(Lib.join ws [32]).toArray⟩ ∧ St w [] w' []) := by
  subst hl
  rcases hb with hb | ⟨b, o, rfl, hat⟩
  · rw [List.map_eq_nil_iff] at hb; subst hb; simp at hne
  have hcl : ∀ (j : Nat) x, (ws.map fun s => (⟨s.toArray⟩ : ByteArray))[j]? = some x → w.cell? ⟨b, o + j, none⟩ = some (.string x) := fun j x hx => by
    apply hat j
    rw [List.getElem?_map] at hx ⊢
    cases hs : ws[j]? with
    | none => rw [hs] at hx; cases hx
    | some s => rw [hs] at hx; cases hx; rfl
  have hbk : b < w.heap.size := by
    apply Classical.byContradiction
    intro hge
    have h0 := hat 0 (sv (ws[0]'hne)) (by rw [List.getElem?_map, List.getElem?_eq_getElem hne]; rfl)
    simp [World.cell?, Array.getElem?_eq_none (Nat.le_of_not_lt hge)] at h0
  have em : (ws.map fun s => (⟨s.toArray⟩ : ByteArray)).map (·.data.toList) = ws := by rw [List.map_map]; exact List.map_id _
  have h := Any.strings_Join Tryz.laysJoin extraJoin b o c (ws.map fun s => ⟨s.toArray⟩) ⟨#[32]⟩ w hcl hbk (by rw [List.length_map]; exact hn) (by rw [List.length_map]; exact hcap) (by rw [em]; exact hlen)
  rw [em, List.length_map] at h
  refine Calls.mono h ?_
  rintro e w' ⟨rfl, hb⟩
  exact ⟨_, rfl, rfl, St.of_below hb⟩
def renWB : Go.Shelf.Ren := { Tryz.laysJoin_ren with f := fun k => if k = 167 then 61 else Tryz.laysJoin_ren.f k }
theorem laysWB : Lays.n167 Tryz.prog renWB := { Tryz.laysJoin with f167 := by kernel_rfl, t5 := Tryz.underlying5, a5 := Tryz.isAgg5, z5 := Tryz.sizeOf5, v5 := Tryz.zeroValue5 }
theorem extraWB : Builder.Extra Tryz.prog renWB := { extraJoin with }
theorem bld_in {w0 w : World} {b : Nat} {p v : Value} {l : List UInt8} (hS : St w0 [] w [.blk b (cl [p, v] 92), .row v 5 1 l.length (l.map b8)]) : Lib.BuilderAt 92 5 w0.heap.size b p (l.map b8) w := by
  have h1 := hS.has _ (.head _)
  have h2 := hS.has _ (.tail _ (.head _))
  refine ⟨h1.2.resolve_right (by simp), v, h1.1, ?_, ?_⟩
  · rw [List.length_map]
    obtain ⟨hh1, hh2⟩ := h2.1
    refine ⟨hh1, ?_⟩
    rcases hh2 with hh2 | ⟨g, cap, cur, hv, _, r⟩
    · exact .inl hh2
    · exact .inr ⟨g, cap, cur, hv, (h2.2 g (by rw [hv]; rfl)).resolve_right (by simp), r⟩
  · intro hv
    have := hS.apart
    simp [List.filterMap, Item.id, hv] at this
theorem bld_out {w0 w w' : World} {L : List Kw.Item} {b : Nat} {p : Value} {l : List UInt8} (hS : St w0 [] w L) (hb : Go.RowKit.Below w0.heap.size w w') (h : Lib.BuilderAt 92 5 w0.heap.size b p (l.map b8) w') : ∃ v, St w0 [] w' [.blk b (cl [p, v] 92), .row v 5 1 l.length (l.map b8)] := by
  have hB : St w0 [] w' [] := St.of_below (hS.below.trans hb)
  obtain ⟨h1, v, h2, h3, h4⟩ := h
  rw [List.length_map] at h3
  refine ⟨v, hB.os, hB.tape, hB.output, hB.size, hB.old, ?_, ?_⟩
  · intro x hx
    rcases List.mem_cons.1 hx with rfl | hx
    · exact ⟨h2, .inl h1⟩
    · obtain rfl := List.mem_singleton.1 hx
      obtain ⟨k1, k2⟩ := h3
      refine ⟨⟨k1, ?_⟩, fun g hg => ?_⟩
      · rcases k2 with k2 | ⟨g, cap, cur, hv, _, r⟩
        · exact .inl k2
        · exact .inr ⟨g, cap, cur, hv, Nat.zero_le _, r⟩
      · rcases k2 with k2 | ⟨g', cap, cur, hv, hg', r⟩
        · rw [k2.1] at hg; cases hg
        · rw [hv] at hg
          simp only [Value.ownBlock, Option.some.injEq] at hg
          subst hg; exact .inl hg'
  · cases hv : v.ownBlock with
    | none => simp [List.filterMap, Item.id, hv]
    | some g =>
      have : ¬ b = g := fun e => h4 (by rw [hv, e])
      simp [List.filterMap, Item.id, hv, this]
theorem bws_ok (w0 : World) (b : Nat) (p v : Value) (l s : List UInt8) (w : World) (hS : St w0 [] w [.blk b (cl [p, v] 92), .row v 5 1 l.length (l.map b8)]) (hp : p = .pointer none ∨ p = pt b 0) (hlen : l.length + s.length ≤ 140737488355328) :
    Ret Tryz.prog 59 [pt b 0, .string ⟨s.toArray⟩] w (fun _ w' => ∃ v', St w0 [] w' [.blk b (cl [pt b 0, v'] 92), .row v' 5 1 (l ++ s).length ((l ++ s).map b8)]) := by
  have hI : Lib.IsBuilder 92 5 w0.heap.size b (l.map b8) w := by
    rcases hp with rfl | rfl
    · exact .inl (bld_in hS)
    · exact .inr (bld_in hS)
  refine Calls.mono (Any.Builder_WriteString { Tryz.laysJoin with } extraJoin w0.heap.size b (l.map b8) ⟨s.toArray⟩ w hI (by rw [List.length_map]; exact hlen) hS.size) ?_
  rintro e w' ⟨rfl, hb, hbel⟩
  exact ⟨_, rfl, bld_out (l := l ++ s) hS hbel (by rw [List.map_append]; exact hb)⟩
theorem bwb_ok (w0 : World) (b : Nat) (v : Value) (l : List UInt8) (w : World) (hS : St w0 [] w [.blk b (cl [pt b 0, v] 92), .row v 5 1 l.length (l.map b8)]) (hlen : l.length + 1 ≤ 140737488355328) :
    Ret Tryz.prog 61 [pt b 0, .int .u8 10] w (fun _ w' => ∃ v', St w0 [] w' [.blk b (cl [pt b 0, v'] 92), .row v' 5 1 (l ++ [10]).length ((l ++ [10]).map b8)]) := by
  refine Calls.mono (Any.Builder_WriteByte laysWB extraWB w0.heap.size b (l.map b8) 10 w (.inr (bld_in hS)) (by rw [List.length_map]; exact hlen) hS.size) ?_
  rintro e w' ⟨rfl, hb, hbel⟩
  exact ⟨_, rfl, bld_out (l := l ++ [10]) hS hbel (by rw [List.map_append]; exact hb)⟩
theorem bstr_ok (w0 : World) (b : Nat) (p v : Value) (l : List UInt8) (w : World) (hS : St w0 [] w [.blk b (cl [p, v] 92), .row v 5 1 l.length (l.map b8)]) (hp : p = .pointer none ∨ p = pt b 0) :
    Ret Tryz.prog 62 [pt b 0] w (fun v w' => v = .string ⟨l.toArray⟩ ∧ St w0 [] w' []) := by
  have hI : Lib.IsBuilder 92 5 w0.heap.size b (l.map b8) w := by
    rcases hp with rfl | rfl
    · exact .inl (bld_in hS)
    · exact .inr (bld_in hS)
  refine Calls.mono (Any.Builder_String_any Tryz.laysBString extraBS w0.heap.size b l w hI hS.size) ?_
  rintro e w' ⟨rfl, hbel⟩
  exact ⟨_, rfl, rfl, St.of_below (hS.below.trans hbel)⟩

end Go.Proofs.YtjnnhlbfgnopiaaGreatDoor
