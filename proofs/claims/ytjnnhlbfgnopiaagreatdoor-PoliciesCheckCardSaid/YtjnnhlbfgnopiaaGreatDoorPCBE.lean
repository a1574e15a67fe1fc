/- What the law's proof leans on. No condition. -/
import Derived.Shelf.Strings.Runes
import Derived.Lib.IndexAny
import Derived.Lib.IndexBytes
import Derived.Lib.OthersKept
import Derived.Laws.Runes
import Derived.Laws.RangeString
import Derived.Laws.Strings3
import Derived.Deep.LoopGhost
import Derived.Below
import Derived.WalkMore
import Derived.Shelf.RegionOpenPlain
namespace Go.Proofs.YtjnnhlbfgnopiaaGreatDoor
open Go Go.Proofs Go.Shelf Go.RowKit Go.Lib
variable {P : Program} {ρ : Ren}
set_option linter.unusedVariables false

set_option maxHeartbeats 4000000 in
set_option maxRecDepth 1000000 in
theorem valid_ok (L : Lays.n152 P ρ) (r : Int) (w : World) :
    Calls P (ρ.f 119) #[.int .i32 r] w fun e w' => e = .returned (.bool (Utf8.valid r)) ∧ w' = w := by
  have t4 := L.t4; have a4 := L.a4; have z4 := L.z4; have v4 := L.v4
  have t21 := L.t21; have a21 := L.a21; have z21 := L.z21; have v21 := L.v21
  go_enter L.f119, Body.n119_ntmps ρ
  go_wp2
  all_goals (go_ret; refine ⟨?_, rfl⟩; simp only [Utf8.valid]; simp_all <;> omega)

set_option maxHeartbeats 4000000 in
set_option maxRecDepth 1000000 in
theorem indexRune_bad (L : Lays.n152 P ρ) (s : ByteArray) (r : Int) (w : World) (h1 : 128 ≤ r) (h3 : r ≠ 65533) (hv : Utf8.valid r = false) :
    Calls P (ρ.f 152) #[.string s, .int .i32 r] w fun e w' => e = .returned (.int .i64 (-1)) ∧ w' = w := by
  have t3 := L.t3; have a3 := L.a3; have z3 := L.z3; have v3 := L.v3
  have t4 := L.t4; have a4 := L.a4; have z4 := L.z4; have v4 := L.v4
  have t5 := L.t5; have a5 := L.a5; have z5 := L.z5; have v5 := L.v5
  have t9 := L.t9; have a9 := L.a9; have z9 := L.z9; have v9 := L.v9
  have t21 := L.t21; have a21 := L.a21; have z21 := L.z21; have v21 := L.v21
  have e119 : ∀ args w, (callFunc (ρ.f 119) args).run P w = .ok (.enter (ρ.f 119) args) w := enters_of L.f119 (by kernel_rfl) rfl
  go_enter L.f152, Body.n152_ntmps ρ
  go_wp2_with (go_at_fn (ρ.f 119); refine (valid_ok { L with } _ _).mono ?_; rintro e w' ⟨rfl, hw⟩; rw [hw, hv])
  go_ret
  exact ⟨rfl, rfl⟩

set_option maxHeartbeats 4000000 in
set_option maxRecDepth 1000000 in
theorem indexRune_error (L : Lays.n152 P ρ) (s : ByteArray) (w : World) (hascii : ∀ (j : Nat) b, s.data.toList[j]? = some b → b.toNat < 128) :
    Calls P (ρ.f 152) #[.string s, .int .i32 65533] w fun e w' => e = .returned (.int .i64 (-1)) ∧ Below w.heap.size w w' := by
  have HA : Aside (∀ (j : Nat) b, s.data.toList[j]? = some b → b.toNat < 128) := hascii
  clear hascii
  have t3 := L.t3; have a3 := L.a3; have z3 := L.z3; have v3 := L.v3
  have t4 := L.t4; have a4 := L.a4; have z4 := L.z4; have v4 := L.v4
  have t5 := L.t5; have a5 := L.a5; have z5 := L.z5; have v5 := L.v5
  have t9 := L.t9; have a9 := L.a9; have z9 := L.z9; have v9 := L.v9
  have t21 := L.t21; have a21 := L.a21; have z21 := L.z21; have v21 := L.v21
  have t0 := L.t0; have a0 := L.a0; have z0 := L.z0; have v0 := L.v0
  go_enter L.f152, Body.n152_ntmps ρ
  go_wp2
  go_loopg [5, 6] s.size (fun g _ _ wx => ∃ i : Nat, i + g = s.size ∧ wx = w.iter s i)
  case atStart => exact ⟨0, by omega, rfl⟩
  case round =>
    obtain ⟨i, hig, rfl⟩ := hrel
    cases gk with
    | zero =>
      obtain rfl : i = s.size := by omega
      have hnx := run_next_end (P := P) w s s.size
      go_wp2
      go_ret
      exact ⟨rfl, (Below.refl _ w).alloc (Nat.le_refl _) _⟩
    | succ g =>
      have hi : i < s.size := by omega
      obtain ⟨x, hx⟩ : ∃ x : UInt8, s[i]'hi = x := ⟨_, rfl⟩
      have hxl : s.data.toList[i]? = some x := by rw [← hx]; exact Lib.data_getElem? s i hi
      have hx128 : x.toNat < 128 := HA.out i x hxl
      have hnx := fun ty => run_next_ascii (P := P) w s i ty hi (by rw [hx]; exact hx128)
      rw [hx] at hnx
      have hne : ((x.toNat : Int) == 65533) = false := beq_eq_false_iff_ne.2 (by omega)
      go_wp2
      go_roundg g
      case measure => omega
      case rel => exact ⟨i + 1, by omega, rfl⟩

set_option maxHeartbeats 8000000 in
set_option maxRecDepth 1000000 in
theorem indexRune_valid (L : Lays.n152 P ρ) (s : ByteArray) (r : Int) (w : World) (hs4 : 4 ≤ s.size) (hs5 : s.size < 1073741824) (h1 : 128 ≤ r) (h3 : r ≠ 65533) (hv : Utf8.valid r = true) (hascii : ∀ b ∈ s.data.toList, b.toNat < 128) :
    Calls P (ρ.f 152) #[.string s, .int .i32 r] w fun e w' => e = .returned (.int .i64 (-1)) ∧ Below w.heap.size w w' := by
  have HA : Aside (∀ b ∈ s.data.toList, b.toNat < 128) := hascii
  clear hascii
  have t3 := L.t3; have a3 := L.a3; have z3 := L.z3; have v3 := L.v3
  have t4 := L.t4; have a4 := L.a4; have z4 := L.z4; have v4 := L.v4
  have t5 := L.t5; have a5 := L.a5; have z5 := L.z5; have v5 := L.v5
  have t9 := L.t9; have a9 := L.a9; have z9 := L.z9; have v9 := L.v9
  have t21 := L.t21; have a21 := L.a21; have z21 := L.z21; have v21 := L.v21
  have t0 := L.t0; have a0 := L.a0; have z0 := L.z0; have v0 := L.v0
  have e119 : ∀ args w, (callFunc (ρ.f 119) args).run P w = .ok (.enter (ρ.f 119) args) w := enters_of L.f119 (by kernel_rfl) rfl
  have e137 : ∀ args w, (callFunc (ρ.f 137) args).run P w = .ok (.enter (ρ.f 137) args) w := enters_of L.f137 (by kernel_rfl) rfl
  have e217 : ∀ args w, (callFunc (ρ.f 217) args).run P w = .ok (.enter (ρ.f 217) args) w := enters_of L.f217 (by kernel_rfl) rfl
  have hef := encode_facts r hv h1
  obtain ⟨E, hE⟩ : ∃ E, Utf8.encode r = E := ⟨_, rfl⟩
  rw [hE] at hef
  obtain ⟨q2, q4, hlast⟩ := hef
  have hlast' := hlast (by omega)
  clear hlast
  go_enter L.f152, Body.n152_ntmps ρ
  go_wp2_with (go_at_fn (ρ.f 119); refine (valid_ok { L with } _ _).mono ?_; rintro e w' ⟨rfl, hw⟩; rw [hw, hv])
  subst hw
  refine wp_scope_straight ?_
  go_wp2_with (go_at_fn (ρ.f 137); refine (Any.strings_IndexByte { L with } _ _ _).mono ?_; rintro e w' ⟨rfl, hw⟩; rw [hw])
  obtain ⟨m, hm⟩ : ∃ m, E.size = m + 1 := ⟨E.size - 1, by omega⟩
  have hm1 : (E.size : Int) - 1 = (m : Int) := by omega
  have hm2 : E.size - 1 = m := by omega
  have hmE : m < E.size := by omega
  have hms : m < s.size := by omega
  have hlE : 128 ≤ (E[m]'hmE).toNat := by simpa only [hm2] using hlast'
  have hlow : (s[m]'hms).toNat < 128 := HA.out _ (Array.getElem_mem_toList (xs := s.data) hms)
  have hne : (((s[m]'hms).toNat : Int) != ((E[m]'hmE).toNat : Int)) = true := by rw [bne_iff_ne]; omega
  rw [hm1]
  clear hm2 hlast' hm1
  have mixed := L.mixed
  have u3 := run_underlying L.t3; have u9 := run_underlying L.t9; have u5 := run_underlying L.t5
  have hlt : (m : Int) < (s.size : Int) := by omega
  have hltE : (m : Int) < (E.size : Int) := by omega
  have hb0 : (0 : Int) ≤ (m : Int) := by omega
  have hq4 : (m : Int) + 1 ≤ (s.size : Int) := by omega
  have hq5 : (0 : Int) ≤ (m : Int) + 1 := by omega
  have hsl : ∀ w, (Instr.slice (ρ.t 9) (.string s) (some (.int .i64 ((m : Int) + 1))) none none).run P w = .ok (.string (s.extract (m + 1) s.size)) w := fun w => by
    have := run_slice_string_l (P := P) (w := w) (t := ρ.t 9) (s := s) L.t9 .i64 ((m : Int) + 1) hq5 hq4
    rw [this]; congr 3
  have hwr : IntKind.i64.wrap ((m : Int) + 1) = (m : Int) + 1 := Go.wrap_small _ hq5 (by omega)
  have hix : indexByte (List.take (s.size - (m + 1)) (List.drop (m + 1) s.data.toList)) (E[m]'hmE) = -1 := by
    have h := Lib.contains_iff_indexByte (List.take (s.size - (m + 1)) (List.drop (m + 1) s.data.toList)) (E[m]'hmE)
    have hc : (List.take (s.size - (m + 1)) (List.drop (m + 1) s.data.toList)).contains (E[m]'hmE) = false := by
      rw [Bool.eq_false_iff]
      intro hc
      have := HA.out _ (List.mem_of_mem_drop (List.mem_of_mem_take (List.contains_iff_mem.1 hc)))
      omega
    rw [hc] at h
    have h2 := of_decide_eq_false h.symm
    have h3 := Lib.indexByte_ge (List.take (s.size - (m + 1)) (List.drop (m + 1) s.data.toList)) (E[m]'hmE)
    omega
  clear hm q2 q4
  go_loopg [9] 0 (fun g v9 wx => v9 = .int .i64 (m : Int) ∧ wx = w')
  case atStart => exact ⟨rfl, rfl⟩
  case round =>
    obtain ⟨rfl, rfl⟩ := hrel
    go_wp2
    refine wp_scope_straight ?_
    go_wp2
    go_region_o
    go_wp2
    go_region_with_o (go_at_fn (ρ.f 137); refine (Any.strings_IndexByte { L with } _ _ _).mono ?_; rintro e w' ⟨rfl, hw⟩; rw [hw])
    go_wp2
    simp only [Exit.noGoto_ret, Exit.inBlock, Exit.then]
    go_ret
    exact ⟨rfl, ((Below.refl _ wr).drew).drew⟩

/-- Is the rune among the string's bytes: where they are all ASCII. -/
def runeIn (s : ByteArray) (r : Int) : Bool := decide (r < 128) && s.data.toList.contains r.toNat.toUInt8

theorem indexRune_any (L : Lays.n152 P ρ) (s : ByteArray) (r : Int) (w : World) (hs4 : 4 ≤ s.size) (hs5 : s.size < 1073741824) (h0 : 0 ≤ r) (hascii : ∀ b ∈ s.data.toList, b.toNat < 128) :
    Calls P (ρ.f 152) #[.string s, .int .i32 r] w fun e w' => (∃ i : Int, e = .returned (.int .i64 i) ∧ decide (0 ≤ i) = runeIn s r) ∧ Below w.heap.size w w' := by
  by_cases h1 : r < 128
  · refine (Any.strings_IndexRune_ascii L s r w h0 h1).mono ?_
    rintro e w' ⟨rfl, rfl⟩
    exact ⟨⟨_, rfl, by rw [← Lib.contains_iff_indexByte]; simp [runeIn, h1]⟩, Below.refl _ _⟩
  · have hr : decide ((0 : Int) ≤ -1) = runeIn s r := by simp [runeIn, h1]
    by_cases h3 : r = 65533
    · subst h3
      refine (indexRune_error L s w (fun j b h => hascii b (List.mem_of_getElem? h))).mono ?_
      rintro e w' ⟨rfl, hb⟩
      exact ⟨⟨_, rfl, hr⟩, hb⟩
    · cases hv : Utf8.valid r
      · refine (indexRune_bad L s r w (by omega) h3 hv).mono ?_
        rintro e w' ⟨rfl, rfl⟩
        exact ⟨⟨_, rfl, hr⟩, Below.refl _ _⟩
      · refine (indexRune_valid L s r w hs4 hs5 (by omega) h3 hv hascii).mono ?_
        rintro e w' ⟨rfl, hb⟩
        exact ⟨⟨_, rfl, hr⟩, hb⟩

set_option maxHeartbeats 2000000 in
set_option maxRecDepth 1000000 in
theorem containsRune_any (L : Lays.n151 P ρ) (s : ByteArray) (r : Int) (w : World) (hs4 : 4 ≤ s.size) (hs5 : s.size < 1073741824) (h0 : 0 ≤ r) (hascii : ∀ b ∈ s.data.toList, b.toNat < 128) :
    Calls P (ρ.f 151) #[.string s, .int .i32 r] w fun e w' => e = .returned (.bool (runeIn s r)) ∧ Below w.heap.size w w' := by
  have HA : Aside (∀ b ∈ s.data.toList, b.toNat < 128) := hascii
  have cI := indexRune_any (P := P) (ρ := ρ) { L with } s r w hs4 hs5 h0 hascii
  clear hascii
  have t3 := L.t3; have a3 := L.a3; have z3 := L.z3; have v3 := L.v3
  have t4 := L.t4; have a4 := L.a4; have z4 := L.z4; have v4 := L.v4
  have t9 := L.t9; have a9 := L.a9; have z9 := L.z9; have v9 := L.v9
  have t21 := L.t21; have a21 := L.a21; have z21 := L.z21; have v21 := L.v21
  have e152 : ∀ args w, (callFunc (ρ.f 152) args).run P w = .ok (.enter (ρ.f 152) args) w := enters_of L.f152 (by kernel_rfl) rfl
  obtain ⟨R, hR⟩ : ∃ R, runeIn s r = R := ⟨_, rfl⟩
  rw [hR] at cI ⊢
  go_enter L.f151, Body.n151_ntmps ρ
  go_wp2_with (go_at_fn (ρ.f 152); refine cI.mono ?_; rintro e w' ⟨⟨i, rfl, hi⟩, hb⟩)
  go_ret
  exact ⟨by rw [← hi]; rfl, hb⟩
#print axioms containsRune_any
end Go.Proofs.YtjnnhlbfgnopiaaGreatDoor
