/- slices.SortFunc over sums, by the shelf's contract at this program. No condition. -/
import Derived.Test.YtfohfnpehfcaaaaSrt
import Derived.Test.YtfohfnpehfcaaaaFacts
import Derived.Shelf.SlSortCmp.QuietGrown
import Derived.Shelf.SlSortCmp.NoneTotal
import Derived.Ground.SlsfProg
import Derived.KernelRfl
namespace Go.Proofs.Ytfohfnpehfcaaaa
open Go Go.Proofs Go.Shelf Go.RowKit Go.Lib Go.Sort Go.Kw
set_option maxRecDepth 100000
set_option linter.unusedVariables false
set_option maxHeartbeats 2000000 in
theorem bcmp84 {b1 b2 o1 o2 c1 c2 : Nat} {x y : List UInt8} (w : World) (h1 : At w b1 o1 (x.map b8)) (h2 : At w b2 o2 (y.map b8)) :
    Calls Try.prog 84 #[.slice (some ⟨b1, o1, none⟩) x.length c1, .slice (some ⟨b2, o2, none⟩) y.length c2] w fun e w' => e = .returned (.int .i64 (compareBytes x y)) ∧ w' = w := by
  have hcmp := run_cmpBytes (P := Try.prog) (c1 := c1) (c2 := c2) h1 h2
  clear h1 h2
  go_enter Try.func84, Try.ntmps84
  go_wp2
  rw [run_callFunc_extern Try.func152 (by kernel_rfl) (by kernel_rfl) (by kernel_rfl) (e := Extern.BytealgCompare.compare) (by kernel_rfl), hcmp]
  simp only [Result.andThen]
  rw [Oper.upon_value]
  go_wp2
  go_ret
  exact ⟨rfl, rfl⟩
theorem e84 : ∀ args w, (callFunc 84 args).run Try.prog w = .ok (.enter 84 args) w := enters_of Try.func84 (by kernel_rfl) rfl
theorem at_grown {w : World} {b n : Nat} {os : Array Obj} {C : List Value} {E : TypeId} (h : w.heap[b]? = some (cl C E)) : At (grow (w.drewN n) os) b 0 C := by
  refine at_all (E := E) (fr := (0, 0)) ?_
  have hb : b < w.heap.size := (Array.getElem?_eq_some_iff.1 h).1
  rw [heap_grow_old _ _ (by simpa using hb)]
  exact h
theorem alloc2 {w : World} {o1 o2 : Obj} : ((w.alloc o1).alloc o2).heap[w.heap.size]? = some o1 ∧ ((w.alloc o1).alloc o2).heap[w.heap.size + 1]? = some o2 := by
  have hS := ((St.refl w []).alloc o1).alloc o2
  refine ⟨hS.heap (by simp), ?_⟩
  have := hS.heap (b := (w.alloc o1).heap.size) (o := o2) (by simp)
  rwa [World.size_alloc] at this
set_option maxHeartbeats 4000000 in
theorem cmp83 (x y : List UInt8) (hx : x.length = 32) (hy : y.length = 32) (w : World) :
    Calls Try.prog 83 #[.agg (x.map b8).toArray, .agg (y.map b8).toArray] w fun e w' => e = .returned (.int .i64 (compareBytes x y)) ∧ ∃ q os', w' = grow (w.drewN q) os' := by
  have mixed : Try.prog.follows .mixedOrders = true := by kernel_rfl
  have h2 := alloc2 (w := w) (o1 := cl (x.map b8) 31) (o2 := cl (y.map b8) 31)
  obtain ⟨r, hr⟩ : ∃ r, compareBytes x y = r := ⟨_, rfl⟩
  rw [hr]
  go_enter Try.func83, Try.ntmps83
  go_wp2
  have eW : ((w.alloc (cl (x.map b8) 31)).alloc (cl (y.map b8) 31)) = grow w #[cl (x.map b8) 31, cl (y.map b8) 31] := by rw [alloc_eq_grow, alloc_eq_grow, grow_grow]; rfl
  obtain ⟨W, hW⟩ : ∃ W, ((w.alloc (cl (x.map b8) 31)).alloc (cl (y.map b8) 31)) = W := ⟨_, rfl⟩
  have hcon : ∀ n os, Calls Try.prog 84 #[.slice (some ⟨w.heap.size, 0, none⟩) 32 32, .slice (some ⟨w.heap.size + 1, 0, none⟩) 32 32] (grow (W.drewN n) os) fun e w' => e = .returned (.int .i64 r) ∧ ∃ q os', w' = grow ((grow (W.drewN n) os).drewN q) os' := by
    intro n os
    rw [hW] at h2
    have := bcmp84 (c1 := 32) (c2 := 32) (grow (W.drewN n) os) (at_grown h2.1) (at_grown h2.2)
    rw [hx, hy, hr] at this
    exact this.mono fun e w' h => ⟨h.1, 0, #[], by rw [h.2, grow_empty]; rfl⟩
  rw [hW] at eW ⊢
  clear h2 hx hy hr
  have eA : Aside (W = grow w #[cl (x.map b8) 31, cl (y.map b8) 31]) := eW
  clear eW hW
  go_quiet_grown (first | (go_at_call 84; refine Calls.grown_of (hcon _ _)))
  go_wp2
  go_ret
  refine ⟨rfl, nq, #[cl (x.map b8) 31, cl (y.map b8) 31] ++ osq, ?_⟩
  rw [Aside.out eA, ← grow_grow]; rfl
theorem r_box {P : Program} {ρ : Operand → Value} {w : World} {dst : Option Tmp} {ty : TypeId} {pos : String} {aft : Array Edge} {g : Option (Nat × Bool)} {x : Operand} {T : TypeId} {v : Value} {C : List Value} (hx : ρ x = v) (hz : v.cells = C.toArray) :
    (execOp ρ ⟨dst, .box T x, ty, pos, aft, g⟩).run P w = .ok (.value (pt w.heap.size 0)) (w.alloc (cl C T)) := by
  simp [execOp, Instr.box, hx, newVar, newRow, hz]
theorem cmp83_ret (a b : List UInt8) (w : World) (ha : a.length = 32) (hb : b.length = 32) : Ret Try.prog 83 [.agg (a.map b8).toArray, .agg (b.map b8).toArray] w (fun v w' => v = .int .i64 (compareBytes a b) ∧ ∃ q os', w' = grow (w.drewN q) os') :=
  (cmp83 a b ha hb w).mono fun e w' h => ⟨_, h.1, rfl, h.2⟩
theorem cmp153_ret (a b : List UInt8) (w : World) (ha : a.length = 32) (hb : b.length = 32) :
    Ret Try.prog 153 [.agg (a.map b8).toArray, .agg (b.map b8).toArray] w (fun v w' => v = .int .i64 (compareBytes a b) ∧ ∃ q os', w' = grow (w.drewN q) os') := by
  refine enter Try.func153 rfl Try.ntmps153 rfl ?_
  have h2 := alloc2 (w := w) (o1 := cl (a.map b8) 49) (o2 := cl (b.map b8) 49)
  refine c_seq ?_; refine c_region ?_; refine wl_val (r_box (v := .agg _) rfl rfl) rfl ?_; refine wl_val (r_box (v := .agg _) rfl rfl) rfl ?_
  rw [World.size_alloc]
  obtain ⟨W, hW⟩ : ∃ W, (w.alloc (cl (a.map b8) 49)).alloc (cl (b.map b8) 49) = W := ⟨_, rfl⟩
  have eW : W = grow w #[cl (a.map b8) 49, cl (b.map b8) 49] := by rw [← hW, alloc_eq_grow, alloc_eq_grow, grow_grow]; rfl
  rw [hW] at h2
  change WL Try.prog _ _ _ _ ((w.alloc (cl (a.map b8) 49)).alloc (cl (b.map b8) 49))
  rw [hW]
  refine wl_val (r_assign (v := .int .i64 0) rfl) rfl ?_; refine wl_nil ?_; refine c_then ?_; refine c_seq ?_; refine c_region ?_
  refine wl_val (r_loadB ti49 rfl rfl h2.1 (by first | (simp [*]; done) | (simp [*] <;> omega) | omega)) rfl ?_; refine wl_val (r_loadB ti49 rfl rfl h2.2 (by first | (simp [*]; done) | (simp [*] <;> omega) | omega)) rfl ?_
  refine wl_call (r_call fn83 rfl rfl) rfl (cmp83_ret _ _ _ ha hb) ?_; rintro _ w5 ⟨rfl, q, os', hq⟩
  refine wl_val (r_assign (v := .int .i64 _) rfl) rfl ?_; refine wl_nil ?_; refine c_then ?_; refine wp_ret ?_; refine ret1 Try.results153 ?_
  refine ⟨rfl, q, #[cl (a.map b8) 49, cl (b.map b8) 49] ++ os', ?_⟩
  rw [hq, eW, ← grow_grow]; rfl
theorem e153 : ∀ args w, (callFunc 153 args).run Try.prog w = .ok (.enter 153 args) w := enters_of Try.func153 (by kernel_rfl) rfl
theorem cmpLays (blk off size : Nat) (w : World) : CmpLays Try.prog 153 #[] enc32 32 cmp32 blk off size w :=
  fun m os dk _ x y => Calls.mono (cmp153_ret x.1 y.1 _ x.2 y.2) fun e w' ⟨v, he, hv, hw⟩ => ⟨by rw [he, hv]; rfl, hw⟩
def sortSum_ren : Go.Shelf.Ren := ⟨fun | 6 => 96 | 15 => 162 | 14 => 161 | 28 => 191 | 29 => 192 | 20 => 183 | 21 => 184 | 22 => 185 | 23 => 186 | 24 => 187 | 25 => 188 | 26 => 189 | 27 => 190 | 46 => 195 | 47 => 196 | 48 => 197 | 49 => 198 | 50 => 199 | 57 => 205 | n => n, fun | 22 => 53 | 24 => 49 | 25 => 134 | 3 => 3 | 39 => 110 | 0 => 0 | 53 => 155 | 55 => 187 | 4 => 4 | 46 => 218 | 45 => 217 | 50 => 222 | 5 => 5 | 9 => 9 | 66 => 228 | 70 => 232 | 76 => 237 | 77 => 179 | n => n, fun | n => n⟩
theorem sortSum : Go.Proofs.SlLaysF0.n6 Try.prog sortSum_ren := {
  mixed := by kernel_rfl
  f6 := ⟨Try.f96.name, by decide, Try.func96.trans (congrArg some (by kernel_rfl))⟩
  f14 := ⟨Try.f161.name, by decide, Try.func161.trans (congrArg some (by kernel_rfl))⟩
  f15 := Try.func162.trans (congrArg some (by kernel_rfl))
  f20 := ⟨Try.f183.name, by decide, Try.func183.trans (congrArg some (by kernel_rfl))⟩
  f21 := ⟨Try.f184.name, by decide, Try.func184.trans (congrArg some (by kernel_rfl))⟩
  f22 := ⟨Try.f185.name, by decide, Try.func185.trans (congrArg some (by kernel_rfl))⟩
  f23 := ⟨Try.f186.name, by decide, Try.func186.trans (congrArg some (by kernel_rfl))⟩
  f24 := ⟨Try.f187.name, by decide, Try.func187.trans (congrArg some (by kernel_rfl))⟩
  f25 := ⟨Try.f188.name, by decide, Try.func188.trans (congrArg some (by kernel_rfl))⟩
  f26 := ⟨Try.f189.name, by decide, Try.func189.trans (congrArg some (by kernel_rfl))⟩
  f27 := ⟨Try.f190.name, by decide, Try.func190.trans (congrArg some (by kernel_rfl))⟩
  f28 := Try.func191.trans (congrArg some (by kernel_rfl))
  f29 := Try.func192.trans (congrArg some (by kernel_rfl))
  f46 := ⟨Try.f195.name, by decide, Try.func195.trans (congrArg some (by kernel_rfl))⟩
  f47 := Try.func196.trans (congrArg some (by kernel_rfl))
  f48 := Try.func197.trans (congrArg some (by kernel_rfl))
  f49 := ⟨Try.f198.name, by decide, Try.func198.trans (congrArg some (by kernel_rfl))⟩
  f50 := ⟨Try.f199.name, by decide, Try.func199.trans (congrArg some (by kernel_rfl))⟩
  f57 := ⟨Try.f205.name, by decide, Try.func205.trans (congrArg some (by kernel_rfl))⟩
  t0 := Try.underlying0
  a0 := Try.isAgg0
  z0 := Try.sizeOf0
  v0 := Try.zeroValue0
  t3 := Try.underlying3
  a3 := Try.isAgg3
  z3 := Try.sizeOf3
  v3 := Try.zeroValue3
  t4 := Try.underlying4
  a4 := Try.isAgg4
  z4 := Try.sizeOf4
  v4 := Try.zeroValue4
  t5 := Try.underlying5
  a5 := Try.isAgg5
  z5 := Try.sizeOf5
  v5 := Try.zeroValue5
  t9 := Try.underlying9
  a9 := Try.isAgg9
  z9 := Try.sizeOf9
  v9 := Try.zeroValue9
  t22 := Try.underlying53
  a22 := Try.isAgg53
  z22 := Try.sizeOf53
  v22 := Try.zeroValue53
  t25 := Try.underlying134
  a25 := Try.isAgg134
  z25 := Try.sizeOf134
  v25 := Try.zeroValue134
  t39 := Try.underlying110
  a39 := Try.isAgg110
  z39 := Try.sizeOf110
  v39 := Try.zeroValue110
  t45 := Try.underlying217
  a45 := Try.isAgg217
  z45 := Try.sizeOf217
  v45 := Try.zeroValue217
  t46 := Try.underlying218
  a46 := Try.isAgg218
  z46 := Try.sizeOf218
  v46 := Try.zeroValue218
  t50 := Try.underlying222
  a50 := Try.isAgg222
  z50 := Try.sizeOf222
  v50 := Try.zeroValue222
  t53 := Try.underlying155
  a53 := Try.isAgg155
  z53 := Try.sizeOf155
  v53 := Try.zeroValue155
  t55 := Try.underlying187
  a55 := Try.isAgg187
  z55 := Try.sizeOf187
  v55 := Try.zeroValue187
  t66 := Try.underlying228
  a66 := Try.isAgg228
  z66 := Try.sizeOf228
  v66 := Try.zeroValue228
  t70 := Try.underlying232
  a70 := Try.isAgg232
  z70 := Try.sizeOf232
  v70 := Try.zeroValue232
  t76 := Try.underlying237
  a76 := Try.isAgg237
  z76 := Try.sizeOf237
  v76 := Try.zeroValue237
  t77 := Try.underlying179
  a77 := Try.isAgg179
  z77 := Try.sizeOf179
  v77 := Try.zeroValue179 }
theorem sortF_ok (l : List (List UInt8)) (a : Option Addr) (n c : Nat) (w : World) (hS : w.ownsRow 0 49 32 (.slice a n c) n (l.flatten.map b8)) (h32 : S32 l) (hl : l.length = n) (hn : n ≤ 4398046511104) :
    Ret Try.prog 96 [.slice a n c, .func (.func 153) #[] #[]] w (fun v w' => v = .tuple #[] ∧ St w (Value.slice a n c).ownBlock.toList w' [.row (.slice a n c) 49 32 n ((sortL l).flatten.map b8)]) := by
  by_cases h0 : n = 0
  · subst h0
    obtain rfl : l = [] := List.eq_nil_of_length_eq_zero hl
    refine Calls.mono (AnyF.slices_SortFunc_none (P := Try.prog) (ρ := sortSum_ren) sortSum a c (.func (.func 153) #[] #[]) w) ?_
    rintro e w' ⟨rfl, rfl⟩
    refine ⟨_, rfl, rfl, rfl, rfl, rfl, Nat.le_refl _, fun _ _ _ => rfl, ?_, by cases a <;> first | exact List.nodup_nil | simp [Item.id, Value.ownBlock]⟩
    intro x hx
    obtain rfl := List.mem_singleton.1 hx
    refine ⟨?_, fun k hk => .inr (by rw [hk]; simp)⟩
    have e : sortL [] = [] := by simp [sortL]
    rw [e]
    exact hS
  · obtain ⟨hlen, ⟨_, h⟩ | ⟨g, cap, cur, hv, hbase, hb, h1, h2, h3, h4⟩⟩ := id hS
    · exact absurd h h0
    · simp only [Value.slice.injEq] at hv
      obtain ⟨rfl, _, rfl⟩ := hv
      have hds := sums32_map h32
      obtain ⟨ds, hds'⟩ : ∃ ds, sums32 l h32 = ds := ⟨_, rfl⟩
      have hdl := sums32_len h32
      rw [hds'] at hds hdl
      have hF := flatK_eq ds
      rw [hds] at hF
      have hH : HoldsK enc32 32 w g 0 ds.toArray := by
        unfold HoldsK
        rw [hF]
        refine holdsV hb ?_
        rw [List.size_toArray, hlen]
        exact h4
      have hcon := AnyQ.slices_SortFunc_total (P := Try.prog) (ρ := sortSum_ren) sortSum 32 Try.isAgg49 Try.sizeOf49 enc32 enc32_len (fun x v hv => one_b8 _ v hv) cmp32 swo32 153 #[] g 0 c ds.toArray w e153 (cmpLays g 0 _ w) hH (Array.getElem?_eq_some_iff.1 hb).1 (by rw [List.size_toArray, hdl, hl]; omega) tot32
      rw [List.size_toArray, hdl, hl] at hcon
      refine Calls.mono hcon ?_
      rintro e w' ⟨rfl, m, os, rfl⟩
      refine ⟨_, rfl, rfl, ?_⟩
      exact St.sorted hS (by rw [sort32, hds]) (by rw [sortL_len, hl])
theorem St.grown {w : World} {q : Nat} {os : Array Obj} : St w [] (grow (w.drewN q) os) [] :=
  ⟨rfl, rfl, rfl, by simp, fun k hk _ => by rw [heap_grow_old _ _ (by simpa using hk)]; rfl, by simp, by simp⟩
theorem bcmp_ok (x y : List UInt8) (a1 a2 : Option Addr) (n1 n2 c1 c2 : Nat) (w : World) (h1 : Row w a1 (x.map b8)) (h2 : Row w a2 (y.map b8)) (l1 : x.length = n1) (l2 : y.length = n2) (p1 : 0 < n1) (p2 : 0 < n2) :
    Ret Try.prog 84 [.slice a1 n1 c1, .slice a2 n2 c2] w (fun v w' => v = .int .i64 (compareBytes x y) ∧ St w [] w' []) := by
  subst l1; subst l2
  obtain ⟨b1, o1, rfl, g1⟩ := h1.some_of (by rw [List.length_map]; exact p1)
  obtain ⟨b2, o2, rfl, g2⟩ := h2.some_of (by rw [List.length_map]; exact p2)
  refine Calls.mono (bcmp84 w g1 g2) ?_
  rintro e w' ⟨rfl, rfl⟩
  exact ⟨_, rfl, rfl, St.refl _ _⟩
theorem cmp_ok (x y : List UInt8) (w : World) (hx : x.length = 32) (hy : y.length = 32) : Ret Try.prog 83 [.agg (x.map b8).toArray, .agg (y.map b8).toArray] w (fun v w' => v = .int .i64 (compareBytes x y) ∧ St w [] w' []) :=
  Calls.mono (cmp83 x y hx hy w) fun e w' ⟨he, q, os, hw⟩ => ⟨_, he, rfl, by rw [hw]; exact St.grown⟩
end Go.Proofs.Ytfohfnpehfcaaaa
