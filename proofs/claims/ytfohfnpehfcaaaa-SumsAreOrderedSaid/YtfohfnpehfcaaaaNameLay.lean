/- The library's functions over a string's runes, at this program. No condition. -/
import Derived.Test.YtfohfnpehfcaaaaRune
import Derived.Test.YtfohfnpehfcaaaaProg
import Derived.Shelf.Strings.FuncGrows
import Derived.KernelRfl
namespace Go.Proofs.Ytfohfnpehfcaaaa
open Go Go.Proofs Go.Shelf Go.RowKit Go.Lib
set_option maxRecDepth 100000
def lay151_ren : Ren := ⟨fun | 119 => 202 | 137 => 201 | 151 => 182 | 152 => 194 | 217 => 206 | 224 => 203 | 225 => 204 | 266 => 207 | n => n, fun | 0 => 0 | 3 => 3 | 4 => 4 | 5 => 5 | 9 => 9 | 21 => 21 | 46 => 110 | n => n, fun n => n⟩
theorem lay151 : Lays.n151 Try.prog lay151_ren where
  mixed := by kernel_rfl
  f119 := Try.func202.trans (congrArg some (by kernel_rfl))
  f137 := Try.func201.trans (congrArg some (by kernel_rfl))
  f151 := Try.func182.trans (congrArg some (by kernel_rfl))
  f152 := Try.func194.trans (congrArg some (by kernel_rfl))
  f217 := Try.func206.trans (congrArg some (by kernel_rfl))
  f224 := Try.func203.trans (congrArg some (by kernel_rfl))
  f225 := Try.func204.trans (congrArg some (by kernel_rfl))
  f266 := Try.func207.trans (congrArg some (by kernel_rfl))
  t0 := Try.underlying0
  a0 := Try.isAgg0
  z0 := Try.sizeOf0
  v0 := Try.zeroValue0
  t3 := Try.underlying3
  a3 := Try.isAgg3
  z3 := Try.sizeOf3
  v3 := Try.zeroValue3
  t4 := Try.underlying4
  a4 := Try.isAgg4
  z4 := Try.sizeOf4
  v4 := Try.zeroValue4
  t5 := Try.underlying5
  a5 := Try.isAgg5
  z5 := Try.sizeOf5
  v5 := Try.zeroValue5
  t9 := Try.underlying9
  a9 := Try.isAgg9
  z9 := Try.sizeOf9
  v9 := Try.zeroValue9
  t21 := Try.underlying21
  a21 := Try.isAgg21
  z21 := Try.sizeOf21
  v21 := Try.zeroValue21
  t46 := Try.underlying110
  a46 := Try.isAgg110
  z46 := Try.sizeOf110
  v46 := Try.zeroValue110
def lay17_ren : Ren := ⟨fun | 15 => 193 | 17 => 180 | 20 => 200 | n => n, fun | 0 => 0 | 3 => 3 | 4 => 4 | 5 => 5 | 9 => 9 | 21 => 21 | 23 => 215 | 46 => 110 | n => n, fun n => n⟩
theorem lay17 : LaysGw.n17 Try.prog lay17_ren where
  mixed := by kernel_rfl
  f15 := Try.func193.trans (congrArg some (by kernel_rfl))
  f17 := Try.func180.trans (congrArg some (by kernel_rfl))
  f20 := Try.func200.trans (congrArg some (by kernel_rfl))
  t0 := Try.underlying0
  a0 := Try.isAgg0
  z0 := Try.sizeOf0
  v0 := Try.zeroValue0
  i0 := by kernel_rfl
  t3 := Try.underlying3
  a3 := Try.isAgg3
  z3 := Try.sizeOf3
  v3 := Try.zeroValue3
  i3 := by kernel_rfl
  t4 := Try.underlying4
  a4 := Try.isAgg4
  z4 := Try.sizeOf4
  v4 := Try.zeroValue4
  i4 := by kernel_rfl
  t9 := Try.underlying9
  a9 := Try.isAgg9
  z9 := Try.sizeOf9
  v9 := Try.zeroValue9
  i9 := by kernel_rfl
  t21 := Try.underlying21
  a21 := Try.isAgg21
  z21 := Try.sizeOf21
  v21 := Try.zeroValue21
  i21 := by kernel_rfl
  t23 := Try.underlying215
  a23 := Try.isAgg215
  z23 := Try.sizeOf215
  v23 := Try.zeroValue215
  i23 := by kernel_rfl

/-- The alphabet of names. -/
def alpha : ByteArray := ⟨#[97, 98, 99, 100, 101, 102, 103, 104, 105, 106, 107, 108, 109, 110, 111, 112, 113, 114, 115, 116, 117, 118, 119, 120, 121, 122, 48, 49, 50, 51, 52, 53, 54, 55, 56, 57, 45, 46, 95]⟩
theorem alpha_ok : ∀ b ∈ alpha.data.toList, b.toNat < 128 := by decide
theorem contains_alpha (r : Int) (w : World) (h0 : 0 ≤ r) : Calls Try.prog 182 #[.string alpha, .int .i32 r] w fun e w' => e = .returned (.bool (runeIn alpha r)) ∧ Below w.heap.size w w' :=
  containsRune_any lay151 alpha r w (by decide) (by decide) h0 alpha_ok
set_option maxHeartbeats 1000000 in
theorem notName (r : Int) (w : World) (h0 : 0 ≤ r) : Calls Try.prog 181 #[.int .i32 r] w fun e w' => e = .returned (.bool (!runeIn alpha r)) ∧ Below w.heap.size w w' := by
  have cI := contains_alpha r w h0
  obtain ⟨R, hR⟩ : ∃ R, runeIn alpha r = R := ⟨_, rfl⟩
  rw [hR] at cI ⊢
  go_enter Try.func181, Try.ntmps181
  go_wp2_with (go_at_call 182; refine cI.mono ?_; rintro e w' ⟨rfl, hb⟩)
  go_ret
  exact ⟨rfl, hb⟩
def isBad (x : Nat) : Bool := !runeIn alpha x
theorem contains_func (s : ByteArray) (w : World) : Calls Try.prog 180 #[.string s, .func (.func 181) #[] #[]] w fun e w' => e = .returned (.bool (decide (0 ≤ Lib.idxFunc isBad true s))) ∧ Below w.heap.size w w' :=
  Any.strings_ContainsFunc_grows lay17 181 #[] (enters_of Try.func181 (by kernel_rfl) rfl) isBad s w (fun W x hx hb => notName x W (by omega))

end Go.Proofs.Ytfohfnpehfcaaaa
