/- What the law's proof leans on. No condition. -/
import Derived.Test.YtmonnmndphlkaaaGreatPWnAV
import Derived.Test.YtmonnmndphlkaaaGreatProg
import Derived.Shelf.Strings.FuncGrows
import Derived.KernelRfl
namespace Go.Proofs.YtmonnmndphlkaaaGreat
open Go Go.Proofs Go.Shelf Go.RowKit Go.Lib
set_option maxRecDepth 100000
def lay151_ren : Ren := ⟨fun | 119 => 131 | 137 => 130 | 151 => 64 | 152 => 86 | 217 => 149 | 224 => 132 | 225 => 133 | 266 => 154 | n => n, fun | 0 => 0 | 3 => 3 | 4 => 4 | 5 => 5 | 9 => 9 | 21 => 21 | 46 => 95 | n => n, fun  n => n⟩
theorem lay151 : Lays.n151 Tryz.prog lay151_ren where
  mixed := by kernel_rfl
  f119 := Tryz.func131.trans (congrArg some (by kernel_rfl))
  f137 := Tryz.func130.trans (congrArg some (by kernel_rfl))
  f151 := Tryz.func64.trans (congrArg some (by kernel_rfl))
  f152 := Tryz.func86.trans (congrArg some (by kernel_rfl))
  f217 := Tryz.func149.trans (congrArg some (by kernel_rfl))
  f224 := Tryz.func132.trans (congrArg some (by kernel_rfl))
  f225 := Tryz.func133.trans (congrArg some (by kernel_rfl))
  f266 := Tryz.func154.trans (congrArg some (by kernel_rfl))
  t0 := Tryz.underlying0
  a0 := Tryz.isAgg0
  z0 := Tryz.sizeOf0
  v0 := Tryz.zeroValue0
  t3 := Tryz.underlying3
  a3 := Tryz.isAgg3
  z3 := Tryz.sizeOf3
  v3 := Tryz.zeroValue3
  t4 := Tryz.underlying4
  a4 := Tryz.isAgg4
  z4 := Tryz.sizeOf4
  v4 := Tryz.zeroValue4
  t5 := Tryz.underlying5
  a5 := Tryz.isAgg5
  z5 := Tryz.sizeOf5
  v5 := Tryz.zeroValue5
  t9 := Tryz.underlying9
  a9 := Tryz.isAgg9
  z9 := Tryz.sizeOf9
  v9 := Tryz.zeroValue9
  t21 := Tryz.underlying21
  a21 := Tryz.isAgg21
  z21 := Tryz.sizeOf21
  v21 := Tryz.zeroValue21
  t46 := Tryz.underlying95
  a46 := Tryz.isAgg95
  z46 := Tryz.sizeOf95
  v46 := Tryz.zeroValue95
def lay17_ren : Ren := ⟨fun | 15 => 85 | 17 => 62 | 20 => 129 | n => n, fun | 0 => 0 | 3 => 3 | 4 => 4 | 5 => 5 | 9 => 9 | 21 => 21 | 23 => 102 | 46 => 95 | n => n, fun  n => n⟩
theorem lay17 : LaysGw.n17 Tryz.prog lay17_ren where
  mixed := by kernel_rfl
  f15 := Tryz.func85.trans (congrArg some (by kernel_rfl))
  f17 := Tryz.func62.trans (congrArg some (by kernel_rfl))
  f20 := Tryz.func129.trans (congrArg some (by kernel_rfl))
  t0 := Tryz.underlying0
  a0 := Tryz.isAgg0
  z0 := Tryz.sizeOf0
  v0 := Tryz.zeroValue0
  i0 := by kernel_rfl
  t3 := Tryz.underlying3
  a3 := Tryz.isAgg3
  z3 := Tryz.sizeOf3
  v3 := Tryz.zeroValue3
  i3 := by kernel_rfl
  t4 := Tryz.underlying4
  a4 := Tryz.isAgg4
  z4 := Tryz.sizeOf4
  v4 := Tryz.zeroValue4
  i4 := by kernel_rfl
  t9 := Tryz.underlying9
  a9 := Tryz.isAgg9
  z9 := Tryz.sizeOf9
  v9 := Tryz.zeroValue9
  i9 := by kernel_rfl
  t21 := Tryz.underlying21
  a21 := Tryz.isAgg21
  z21 := Tryz.sizeOf21
  v21 := Tryz.zeroValue21
  i21 := by kernel_rfl
  t23 := Tryz.underlying102
  a23 := Tryz.isAgg102
  z23 := Tryz.sizeOf102
  v23 := Tryz.zeroValue102
  i23 := by kernel_rfl

/-- The alphabet of names. -/
def alpha : ByteArray := ⟨#[97, 98, 99, 100, 101, 102, 103, 104, 105, 106, 107, 108, 109, 110, 111, 112, 113, 114, 115, 116, 117, 118, 119, 120, 121, 122, 48, 49, 50, 51, 52, 53, 54, 55, 56, 57, 45, 46, 95]⟩
theorem alpha_ok : ∀ b ∈ alpha.data.toList, b.toNat < 128 := by decide
theorem contains_alpha (r : Int) (w : World) (h0 : 0 ≤ r) : Calls Tryz.prog 64 #[.string alpha, .int .i32 r] w fun e w' => e = .returned (.bool (runeIn alpha r)) ∧ Below w.heap.size w w' :=
  containsRune_any lay151 alpha r w (by decide) (by decide) h0 alpha_ok
set_option maxHeartbeats 1000000 in
theorem notName (r : Int) (w : World) (h0 : 0 ≤ r) : Calls Tryz.prog 63 #[.int .i32 r] w fun e w' => e = .returned (.bool (!runeIn alpha r)) ∧ Below w.heap.size w w' := by
  have cI := contains_alpha r w h0
  obtain ⟨R, hR⟩ : ∃ R, runeIn alpha r = R := ⟨_, rfl⟩
  rw [hR] at cI ⊢
  go_enter Tryz.func63, Tryz.ntmps63
  go_wp2_with (go_at_call 64; refine cI.mono ?_; rintro e w' ⟨rfl, hb⟩)
  go_ret
  exact ⟨rfl, hb⟩
def isBad (x : Nat) : Bool := !runeIn alpha x
theorem contains_func (s : ByteArray) (w : World) : Calls Tryz.prog 62 #[.string s, .func (.func 63) #[] #[]] w fun e w' => e = .returned (.bool (decide (0 ≤ Lib.idxFunc isBad true s))) ∧ Below w.heap.size w w' :=
  Any.strings_ContainsFunc_grows lay17 63 #[] (enters_of Tryz.func63 (by kernel_rfl) rfl) isBad s w (fun W x hx hb => notName x W (by omega))

end Go.Proofs.YtmonnmndphlkaaaGreat
