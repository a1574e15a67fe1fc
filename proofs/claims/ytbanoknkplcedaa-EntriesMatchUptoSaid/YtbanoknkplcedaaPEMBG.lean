/- What the law's proof leans on. No condition. -/
import Derived.Test.YtbanoknkplcedaaPEMAI
import Derived.Test.YtbanoknkplcedaaProg
import Derived.Shelf.Strings.Search3
import Derived.KernelRfl
namespace Go.Proofs.Ytbanoknkplcedaa
open Go Go.Proofs Go.Shelf Go.RowKit Go.Lib Go.Kw
set_option maxRecDepth 100000
def lay144_ren : Ren := ⟨fun | 143 => 78 | 144 => 62 | 217 => 95 | 219 => 89 | 224 => 97 | 225 => 96 | 266 => 103 | 267 => 98 | 314 => 104 | n => n, fun | 0 => 0 | 3 => 3 | 4 => 4 | 5 => 5 | 9 => 9 | 21 => 21 | 46 => 91 | 51 => 62 | 146 => 139 | n => n, fun | 1 => 0 | n => n⟩
theorem lay144 : Lays.n144 Try.prog lay144_ren where
  mixed := by kernel_rfl
  f143 := Try.func78.trans (congrArg some (by kernel_rfl))
  f144 := Try.func62.trans (congrArg some (by kernel_rfl))
  f217 := Try.func95.trans (congrArg some (by kernel_rfl))
  f219 := Try.func89.trans (congrArg some (by kernel_rfl))
  f224 := Try.func97.trans (congrArg some (by kernel_rfl))
  f225 := Try.func96.trans (congrArg some (by kernel_rfl))
  f266 := Try.func103.trans (congrArg some (by kernel_rfl))
  f267 := Try.func98.trans (congrArg some (by kernel_rfl))
  f314 := Try.func104.trans (congrArg some (by kernel_rfl))
  t3 := Try.underlying3
  a3 := Try.isAgg3
  z3 := Try.sizeOf3
  v3 := Try.zeroValue3
  t4 := Try.underlying4
  a4 := Try.isAgg4
  z4 := Try.sizeOf4
  v4 := Try.zeroValue4
  t5 := Try.underlying5
  a5 := Try.isAgg5
  z5 := Try.sizeOf5
  v5 := Try.zeroValue5
  t9 := Try.underlying9
  a9 := Try.isAgg9
  z9 := Try.sizeOf9
  v9 := Try.zeroValue9
  t46 := Try.underlying91
  a46 := Try.isAgg91
  z46 := Try.sizeOf91
  v46 := Try.zeroValue91
  t51 := Try.underlying62
  a51 := Try.isAgg62
  z51 := Try.sizeOf62
  v51 := Try.zeroValue62
  t146 := Try.underlying139
  a146 := Try.isAgg139
  z146 := Try.sizeOf139
  v146 := Try.zeroValue139
  g1 := by kernel_rfl
theorem index_mem (l : List UInt8) (c : UInt8) : decide (0 ≤ Lib.indexByte l c) = l.contains c := by
  induction l with
  | nil => rfl
  | cons b l ih =>
    have hg := Lib.indexByte_ge l c
    rw [Lib.indexByte, List.contains_cons]
    by_cases h : b = c
    · subst h; simp
    · have h1 : (b == c) = false := by simpa using h
      have h2 : (c == b) = false := by simpa using fun e => h e.symm
      rw [h1, h2, Bool.false_or, ← ih]
      simp only [Bool.false_eq_true, if_false]
      by_cases h3 : Lib.indexByte l c = -1
      · rw [h3]; rfl
      · have : (Lib.indexByte l c == -1) = false := by simpa using h3
        rw [this]
        simp only [Bool.false_eq_true, if_false]
        exact decide_eq_decide.2 (by omega)
theorem containsB_ok (l : List UInt8) (c : UInt8) (w : World) : Ret Try.prog 62 [.string ⟨l.toArray⟩, .string ⟨[c].toArray⟩] w (fun v w' => v = .bool (l.contains c) ∧ St w [] w' []) :=
  Calls.mono (Any.strings_Contains_one lay144 ⟨l.toArray⟩ c w) fun e w' ⟨he, hw⟩ => ⟨_, he, by rw [← index_mem], by rw [hw]; exact St.refl _ _⟩
end Go.Proofs.Ytbanoknkplcedaa
