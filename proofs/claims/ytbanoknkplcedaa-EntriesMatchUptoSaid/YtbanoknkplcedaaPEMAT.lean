/- What the law's proof leans on. No condition. -/
import Derived.Test.YtbanoknkplcedaaPEMAS
import Derived.Test.YtbanoknkplcedaaProg
import Derived.Shelf.Strings.FuncGrows
import Derived.KernelRfl
namespace Go.Proofs.Ytbanoknkplcedaa
open Go Go.Proofs Go.Shelf Go.RowKit Go.Lib
set_option maxRecDepth 100000
def lay151_ren : Ren := ⟨fun | 119 => 101 | 137 => 100 | 151 => 81 | 152 => 91 | 217 => 95 | 224 => 97 | 225 => 96 | 266 => 103 | n => n, fun | 0 => 0 | 3 => 3 | 4 => 4 | 5 => 5 | 9 => 9 | 21 => 21 | 46 => 91 | n => n, fun  n => n⟩
theorem lay151 : Lays.n151 Try.prog lay151_ren where
  mixed := by kernel_rfl
  f119 := Try.func101.trans (congrArg some (by kernel_rfl))
  f137 := Try.func100.trans (congrArg some (by kernel_rfl))
  f151 := Try.func81.trans (congrArg some (by kernel_rfl))
  f152 := Try.func91.trans (congrArg some (by kernel_rfl))
  f217 := Try.func95.trans (congrArg some (by kernel_rfl))
  f224 := Try.func97.trans (congrArg some (by kernel_rfl))
  f225 := Try.func96.trans (congrArg some (by kernel_rfl))
  f266 := Try.func103.trans (congrArg some (by kernel_rfl))
  t0 := Try.underlying0
  a0 := Try.isAgg0
  z0 := Try.sizeOf0
  v0 := Try.zeroValue0
  t3 := Try.underlying3
  a3 := Try.isAgg3
  z3 := Try.sizeOf3
  v3 := Try.zeroValue3
  t4 := Try.underlying4
  a4 := Try.isAgg4
  z4 := Try.sizeOf4
  v4 := Try.zeroValue4
  t5 := Try.underlying5
  a5 := Try.isAgg5
  z5 := Try.sizeOf5
  v5 := Try.zeroValue5
  t9 := Try.underlying9
  a9 := Try.isAgg9
  z9 := Try.sizeOf9
  v9 := Try.zeroValue9
  t21 := Try.underlying21
  a21 := Try.isAgg21
  z21 := Try.sizeOf21
  v21 := Try.zeroValue21
  t46 := Try.underlying91
  a46 := Try.isAgg91
  z46 := Try.sizeOf91
  v46 := Try.zeroValue91
def lay17_ren : Ren := ⟨fun | 15 => 90 | 17 => 79 | 20 => 99 | n => n, fun | 0 => 0 | 3 => 3 | 4 => 4 | 5 => 5 | 9 => 9 | 21 => 21 | 23 => 120 | 46 => 91 | n => n, fun  n => n⟩
theorem lay17 : LaysGw.n17 Try.prog lay17_ren where
  mixed := by kernel_rfl
  f15 := Try.func90.trans (congrArg some (by kernel_rfl))
  f17 := Try.func79.trans (congrArg some (by kernel_rfl))
  f20 := Try.func99.trans (congrArg some (by kernel_rfl))
  t0 := Try.underlying0
  a0 := Try.isAgg0
  z0 := Try.sizeOf0
  v0 := Try.zeroValue0
  i0 := by kernel_rfl
  t3 := Try.underlying3
  a3 := Try.isAgg3
  z3 := Try.sizeOf3
  v3 := Try.zeroValue3
  i3 := by kernel_rfl
  t4 := Try.underlying4
  a4 := Try.isAgg4
  z4 := Try.sizeOf4
  v4 := Try.zeroValue4
  i4 := by kernel_rfl
  t9 := Try.underlying9
  a9 := Try.isAgg9
  z9 := Try.sizeOf9
  v9 := Try.zeroValue9
  i9 := by kernel_rfl
  t21 := Try.underlying21
  a21 := Try.isAgg21
  z21 := Try.sizeOf21
  v21 := Try.zeroValue21
  i21 := by kernel_rfl
  t23 := Try.underlying120
  a23 := Try.isAgg120
  z23 := Try.sizeOf120
  v23 := Try.zeroValue120
  i23 := by kernel_rfl

/-- The alphabet of names. -/
def alpha : ByteArray := ⟨#[97, 98, 99, 100, 101, 102, 103, 104, 105, 106, 107, 108, 109, 110, 111, 112, 113, 114, 115, 116, 117, 118, 119, 120, 121, 122, 48, 49, 50, 51, 52, 53, 54, 55, 56, 57, 45, 46, 95]⟩
theorem alpha_ok : ∀ b ∈ alpha.data.toList, b.toNat < 128 := by decide
theorem contains_alpha (r : Int) (w : World) (h0 : 0 ≤ r) : Calls Try.prog 81 #[.string alpha, .int .i32 r] w fun e w' => e = .returned (.bool (runeIn alpha r)) ∧ Below w.heap.size w w' :=
  containsRune_any lay151 alpha r w (by decide) (by decide) h0 alpha_ok
set_option maxHeartbeats 1000000 in
theorem notName (r : Int) (w : World) (h0 : 0 ≤ r) : Calls Try.prog 80 #[.int .i32 r] w fun e w' => e = .returned (.bool (!runeIn alpha r)) ∧ Below w.heap.size w w' := by
  have cI := contains_alpha r w h0
  obtain ⟨R, hR⟩ : ∃ R, runeIn alpha r = R := ⟨_, rfl⟩
  rw [hR] at cI ⊢
  go_enter Try.func80, Try.ntmps80
  go_wp2_with (go_at_call 81; refine cI.mono ?_; rintro e w' ⟨rfl, hb⟩)
  go_ret
  exact ⟨rfl, hb⟩
def isBad (x : Nat) : Bool := !runeIn alpha x
theorem contains_func (s : ByteArray) (w : World) : Calls Try.prog 79 #[.string s, .func (.func 80) #[] #[]] w fun e w' => e = .returned (.bool (decide (0 ≤ Lib.idxFunc isBad true s))) ∧ Below w.heap.size w w' :=
  Any.strings_ContainsFunc_grows lay17 80 #[] (enters_of Try.func80 (by kernel_rfl) rfl) isBad s w (fun W x hx hb => notName x W (by omega))

end Go.Proofs.Ytbanoknkplcedaa
