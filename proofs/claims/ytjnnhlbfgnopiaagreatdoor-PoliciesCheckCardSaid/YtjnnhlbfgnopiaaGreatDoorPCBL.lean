/- What the law's proof leans on. No condition. -/
import Derived.Test.YtjnnhlbfgnopiaaGreatDoorPCAI
import Derived.Test.YtjnnhlbfgnopiaaGreatDoorPCAJ
import Derived.Test.YtjnnhlbfgnopiaaGreatDoorPCBD
import Derived.Test.YtjnnhlbfgnopiaaGreatDoorPCBK
namespace Go.Proofs.YtjnnhlbfgnopiaaGreatDoor
open Go.Kw
set_option linter.unusedVariables false
set_option linter.unusedSimpArgs false
set_option maxRecDepth 100000
/-- What is known of the library's variables. -/
structure VF (w : World) : Prop where
  tab : Lib.TabIs Tryz.prog w "internal/strconv.uint64pow10" .u64 Lib.pow10Tab
  asc : Lib.TabIs Tryz.prog w "strings.asciiSpace" .u8 Lib.asciiSpaceTab
  mx : ∃ m, w.cell? ⟨0, 0, none⟩ = some (.int .i64 m)
  syn : ∃ te pe, w.cell? ⟨5, 0, none⟩ = some (.iface te pe)
  rng : ∃ te pe, w.cell? ⟨6, 0, none⟩ = some (.iface te pe)
theorem cell_st {w0 w : World} {L : List Kw.Item} {a : Addr} {v : Value} (h : w0.cell? a = some v) (hS : St w0 [] w L) : w.cell? a = some v := by
  have hb := hS.below
  by_cases hlt : a.block < w0.heap.size
  · exact (hb.cell hlt).trans h
  · exfalso
    obtain ⟨b, o, f⟩ := a
    simp only at hlt
    simp [World.cell?, Array.getElem?_eq_none (Nat.le_of_not_lt hlt)] at h
theorem tab_st {w0 w : World} {L : List Kw.Item} {nm : String} {k : IntKind} {zs : List Int} {g : Nat} (hg : Tryz.prog.globalNamed nm = some g) (h1 : Lib.TabIs Tryz.prog w0 nm k zs) (hS : St w0 [] w L) : Lib.TabIs Tryz.prog w nm k zs := by
  unfold Lib.TabIs World.var? at h1 ⊢
  rw [hg] at h1 ⊢
  simp only [Option.bind_some] at h1 ⊢
  have hlt : g < w0.heap.size := by
    rcases Nat.lt_or_ge g w0.heap.size with h' | h'
    · exact h'
    · simp [Array.getElem?_eq_none h'] at h1
  rw [hS.old g hlt (by simp)]
  exact h1
theorem VF.st {w0 w : World} {L : List Kw.Item} (h : VF w0) (hS : St w0 [] w L) : VF w := by
  obtain ⟨h1, h1', ⟨m, h2⟩, ⟨t1, p1, h3⟩, ⟨t2, p2, h4⟩⟩ := h
  exact ⟨tab_st (g := 7) (by kernel_rfl) h1 hS, tab_st (g := 3) (by kernel_rfl) h1' hS, ⟨m, cell_st h2 hS⟩, ⟨t1, p1, cell_st h3 hS⟩, ⟨t2, p2, cell_st h4 hS⟩⟩
theorem st_grow {w : World} {q : Nat} {os : Array Obj} : St w [] (Sort.grow (w.drewN q) os) [] :=
  ⟨rfl, rfl, rfl, by simp, fun k hk _ => by rw [Sort.heap_grow_old _ _ (by simpa using hk)]; rfl, by simp, by simp⟩
theorem st_drewN {w : World} {q : Nat} : St w [] (w.drewN q) [] := ⟨rfl, rfl, rfl, Nat.le_refl _, fun _ _ _ => rfl, by simp, by simp⟩
theorem itoa_ok (n : Int) (w : World) (h0 : -9223372036854775808 ≤ n) (h1 : n ≤ 9223372036854775807) (hv : VF w) : Ret Tryz.prog 64 [.int .i64 n] w (fun v w' => v = .string ⟨(Lib.itoa n).toArray⟩ ∧ St w [] w' []) :=
  Calls.mono (Any.strconv_Itoa Tryz.laysItoa n h0 h1 w hv.tab) fun e w' ⟨he, k, os, hw⟩ => ⟨_, he, rfl, by rw [hw]; exact st_grow⟩
theorem cut_ok (l s : List UInt8) (w : World) (hl : l.length < 4294967281) (hv : VF w) : Ret Tryz.prog 17 [.string ⟨l.toArray⟩, .string ⟨s.toArray⟩] w (fun v w' => v = .tuple #[.string ⟨(Lib.cut l s).1.toArray⟩, .string ⟨(Lib.cut l s).2.1.toArray⟩, .bool (Lib.cut l s).2.2] ∧ St w [] w' []) := by
  obtain ⟨m, hm⟩ := hv.mx
  refine Calls.mono (Any.strings_Cut { Tryz.laysCut with } ⟨l.toArray⟩ ⟨s.toArray⟩ m w (show l.length < 4294967281 from hl) hm) ?_
  rintro e w' ⟨rfl, k, rfl⟩
  exact ⟨_, rfl, rfl, st_drewN⟩
theorem atoi_ok (l : List UInt8) (w : World) (hl : l.length ≤ 1048576) (hv : VF w) : Ret Tryz.prog 88 [.string ⟨l.toArray⟩] w (fun v w' => ((atoiE l).2 = true ∧ v = .tuple #[.int .i64 (atoiE l).1, .nilIface] ∧ St w [] w' []) ∨ ((atoiE l).2 = false ∧ ∃ te pe, v = .tuple #[.int .i64 (atoiE l).1, .iface te pe] ∧ St w [] w' [])) := by
  have hs : (⟨l.toArray⟩ : ByteArray).size = l.length := by rfl
  cases h : Lib.atoiAll l with
  | ok n =>
    refine Calls.mono (Any.strconv_Atoi_ok Tryz.laysAtoi ⟨l.toArray⟩ (by rw [hs]; omega) n h w) ?_
    rintro e w' ⟨rfl, hw⟩
    have e1 : atoiE l = (n, true) := by unfold atoiE; rw [h]
    refine ⟨_, rfl, .inl ⟨by rw [e1], by rw [e1], ?_⟩⟩
    rcases hw with rfl | ⟨t, rfl⟩
    · exact St.refl _ _
    · exact St.of_below (Lib.bytesWorld_below _ _ _)
  | range =>
    obtain ⟨te, pe, hc⟩ := hv.rng
    refine Calls.mono (Any.strconv_Atoi_range Tryz.laysAtoi ⟨l.toArray⟩ (by rw [hs]; omega) h _ w hc (.inr ⟨te, pe, rfl⟩)) ?_
    rintro e w' ⟨N, rfl, _, _, hb⟩
    have e1 : atoiE l = (Lib.atoiSat l, false) := by unfold atoiE; rw [h]
    exact ⟨_, rfl, .inr ⟨by rw [e1], _, _, by rw [e1], St.of_below hb⟩⟩
  | _ =>
    obtain ⟨te, pe, hc⟩ := hv.syn
    refine Calls.mono (Any.strconv_Atoi_syntax Tryz.laysAtoi ⟨l.toArray⟩ (by rw [hs]; omega) h _ w hc (.inr ⟨te, pe, rfl⟩)) ?_
    rintro e w' ⟨N, rfl, _, _, hb⟩
    have e1 : atoiE l = (0, false) := by unfold atoiE; rw [h]
    exact ⟨_, rfl, .inr ⟨by rw [e1], _, _, by rw [e1], St.of_below hb⟩⟩
theorem split_ok (c : UInt8) (l : List UInt8) (w : World) (hl : l.length < 4294967281) (hv : VF w) : Ret Tryz.prog 16 [.string ⟨l.toArray⟩, .string ⟨#[c]⟩] w (fun v w' => ∃ b, v = .slice (some ⟨b, 0, none⟩) (splitC c l).length (splitC c l).length ∧ St w [] w' [.blk b (cl ((splitC c l).map sv) 9)]) := by
  obtain ⟨m, hm⟩ := hv.mx
  refine Calls.mono (Any.strings_Split Tryz.laysSplit (by kernel_rfl) ⟨l.toArray⟩ ⟨#[c]⟩ m w (show l.length < 4294967281 from hl) hm (Nat.le_refl 1)) ?_
  rintro e w' ⟨rfl, rfl⟩
  refine ⟨_, rfl, w.heap.size, by rw [splitC_len], ?_⟩
  rw [splitB_one]
  exact (St.refl w []).alloc _
theorem extraRepl : Builder.Extra Tryz.prog Tryz.laysRepl_ren where
  sizeBuilder := by kernel_rfl
  liesBuilder := by kernel_rfl
  t5 := Tryz.laysRepl.t5
  a5 := Tryz.laysRepl.a5
  z5 := Tryz.laysRepl.z5
  v5 := Tryz.laysRepl.v5
  infoByte := by kernel_rfl
  cellsByte := by kernel_rfl
  sizeByte := by kernel_rfl
  neB5 := by decide
theorem untab_ok (l : List UInt8) (w : World) (hl : l.length < 65537) (hv : VF w) : Ret Tryz.prog 19 [.string ⟨l.toArray⟩, .string ⟨#[9]⟩, .string ⟨#[32]⟩] w (fun v w' => v = .string ⟨(untab l).toArray⟩ ∧ St w [] w' []) := by
  obtain ⟨m, hm⟩ := hv.mx
  have hsz : (⟨l.toArray⟩ : ByteArray).size = l.length := by rfl
  have hc : Lib.countB ⟨l.toArray⟩ ⟨#[9]⟩ ≤ l.length := by have := splitC_len 9 l; have := (splitC_le 9 l).1; omega
  refine Calls.mono (Any.strings_ReplaceAll Tryz.laysRepl extraRepl ⟨l.toArray⟩ ⟨#[9]⟩ ⟨#[32]⟩ m w (by rw [hsz]; omega) hm (Nat.le_refl 1) (by rw [hsz]; show l.length + _ * 1 ≤ _; omega)) ?_
  rintro e w' ⟨rfl, hb⟩
  refine ⟨_, rfl, ?_, St.of_below hb⟩
  show Value.string ⟨(Lib.replaceAll l [9] [32]).toArray⟩ = _
  rw [replaceAll_tab]

end Go.Proofs.YtjnnhlbfgnopiaaGreatDoor
