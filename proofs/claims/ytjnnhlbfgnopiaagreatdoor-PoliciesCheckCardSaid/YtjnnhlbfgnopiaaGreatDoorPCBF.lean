/- What the law's proof leans on. No condition. -/
import Derived.Test.YtjnnhlbfgnopiaaGreatDoorPCBE
import Derived.Test.YtjnnhlbfgnopiaaGreatDoorProg
import Derived.Shelf.Strings.FuncGrows
import Derived.KernelRfl
namespace Go.Proofs.YtjnnhlbfgnopiaaGreatDoor
open Go Go.Proofs Go.Shelf Go.RowKit Go.Lib
set_option maxRecDepth 100000
def lay151_ren : Ren := ⟨fun | 119 => 136 | 137 => 135 | 151 => 91 | 152 => 116 | 217 => 106 | 224 => 108 | 225 => 107 | 266 => 125 | n => n, fun | 0 => 0 | 3 => 3 | 4 => 4 | 5 => 5 | 9 => 9 | 21 => 21 | 46 => 66 | n => n, fun  n => n⟩
theorem lay151 : Lays.n151 Tryz.prog lay151_ren where
  mixed := by kernel_rfl
  f119 := Tryz.func136.trans (congrArg some (by kernel_rfl))
  f137 := Tryz.func135.trans (congrArg some (by kernel_rfl))
  f151 := Tryz.func91.trans (congrArg some (by kernel_rfl))
  f152 := Tryz.func116.trans (congrArg some (by kernel_rfl))
  f217 := Tryz.func106.trans (congrArg some (by kernel_rfl))
  f224 := Tryz.func108.trans (congrArg some (by kernel_rfl))
  f225 := Tryz.func107.trans (congrArg some (by kernel_rfl))
  f266 := Tryz.func125.trans (congrArg some (by kernel_rfl))
  t0 := Tryz.underlying0
  a0 := Tryz.isAgg0
  z0 := Tryz.sizeOf0
  v0 := Tryz.zeroValue0
  t3 := Tryz.underlying3
  a3 := Tryz.isAgg3
  z3 := Tryz.sizeOf3
  v3 := Tryz.zeroValue3
  t4 := Tryz.underlying4
  a4 := Tryz.isAgg4
  z4 := Tryz.sizeOf4
  v4 := Tryz.zeroValue4
  t5 := Tryz.underlying5
  a5 := Tryz.isAgg5
  z5 := Tryz.sizeOf5
  v5 := Tryz.zeroValue5
  t9 := Tryz.underlying9
  a9 := Tryz.isAgg9
  z9 := Tryz.sizeOf9
  v9 := Tryz.zeroValue9
  t21 := Tryz.underlying21
  a21 := Tryz.isAgg21
  z21 := Tryz.sizeOf21
  v21 := Tryz.zeroValue21
  t46 := Tryz.underlying66
  a46 := Tryz.isAgg66
  z46 := Tryz.sizeOf66
  v46 := Tryz.zeroValue66
def lay17_ren : Ren := ⟨fun | 15 => 115 | 17 => 89 | 20 => 134 | n => n, fun | 0 => 0 | 3 => 3 | 4 => 4 | 5 => 5 | 9 => 9 | 21 => 21 | 23 => 55 | 46 => 66 | n => n, fun  n => n⟩
theorem lay17 : LaysGw.n17 Tryz.prog lay17_ren where
  mixed := by kernel_rfl
  f15 := Tryz.func115.trans (congrArg some (by kernel_rfl))
  f17 := Tryz.func89.trans (congrArg some (by kernel_rfl))
  f20 := Tryz.func134.trans (congrArg some (by kernel_rfl))
  t0 := Tryz.underlying0
  a0 := Tryz.isAgg0
  z0 := Tryz.sizeOf0
  v0 := Tryz.zeroValue0
  i0 := by kernel_rfl
  t3 := Tryz.underlying3
  a3 := Tryz.isAgg3
  z3 := Tryz.sizeOf3
  v3 := Tryz.zeroValue3
  i3 := by kernel_rfl
  t4 := Tryz.underlying4
  a4 := Tryz.isAgg4
  z4 := Tryz.sizeOf4
  v4 := Tryz.zeroValue4
  i4 := by kernel_rfl
  t9 := Tryz.underlying9
  a9 := Tryz.isAgg9
  z9 := Tryz.sizeOf9
  v9 := Tryz.zeroValue9
  i9 := by kernel_rfl
  t21 := Tryz.underlying21
  a21 := Tryz.isAgg21
  z21 := Tryz.sizeOf21
  v21 := Tryz.zeroValue21
  i21 := by kernel_rfl
  t23 := Tryz.underlying55
  a23 := Tryz.isAgg55
  z23 := Tryz.sizeOf55
  v23 := Tryz.zeroValue55
  i23 := by kernel_rfl

/-- The alphabet of names. -/
def alpha : ByteArray := ⟨#[97, 98, 99, 100, 101, 102, 103, 104, 105, 106, 107, 108, 109, 110, 111, 112, 113, 114, 115, 116, 117, 118, 119, 120, 121, 122, 48, 49, 50, 51, 52, 53, 54, 55, 56, 57, 45, 46, 95]⟩
theorem alpha_ok : ∀ b ∈ alpha.data.toList, b.toNat < 128 := by decide
theorem contains_alpha (r : Int) (w : World) (h0 : 0 ≤ r) : Calls Tryz.prog 91 #[.string alpha, .int .i32 r] w fun e w' => e = .returned (.bool (runeIn alpha r)) ∧ Below w.heap.size w w' :=
  containsRune_any lay151 alpha r w (by decide) (by decide) h0 alpha_ok
set_option maxHeartbeats 1000000 in
theorem notName (r : Int) (w : World) (h0 : 0 ≤ r) : Calls Tryz.prog 90 #[.int .i32 r] w fun e w' => e = .returned (.bool (!runeIn alpha r)) ∧ Below w.heap.size w w' := by
  have cI := contains_alpha r w h0
  obtain ⟨R, hR⟩ : ∃ R, runeIn alpha r = R := ⟨_, rfl⟩
  rw [hR] at cI ⊢
  go_enter Tryz.func90, Tryz.ntmps90
  go_wp2_with (go_at_call 91; refine cI.mono ?_; rintro e w' ⟨rfl, hb⟩)
  go_ret
  exact ⟨rfl, hb⟩
def isBad (x : Nat) : Bool := !runeIn alpha x
theorem contains_func (s : ByteArray) (w : World) : Calls Tryz.prog 89 #[.string s, .func (.func 90) #[] #[]] w fun e w' => e = .returned (.bool (decide (0 ≤ Lib.idxFunc isBad true s))) ∧ Below w.heap.size w w' :=
  Any.strings_ContainsFunc_grows lay17 90 #[] (enters_of Tryz.func90 (by kernel_rfl) rfl) isBad s w (fun W x hx hb => notName x W (by omega))

end Go.Proofs.YtjnnhlbfgnopiaaGreatDoor
