/- What the law's proof leans on. No condition. -/
import Derived.Test.YtmonnmndphlkaaaGreatPWnBM
import Derived.Test.YtmonnmndphlkaaaGreatPWnBU
section
namespace Go.Kw
set_option linter.unusedVariables false
set_option linter.unusedSimpArgs false
abbrev BQ := List (List UInt8) × Int × List UInt8 × Int
instance : Inhabited BQ := ⟨([], 0, [], 0)⟩
def bq (b : BQ) : WA := ⟨none, b.1, 0, b.2.1, b.2.2.1, b.2.2.2⟩
abbrev DB := Bool × Int × List UInt8
/-- What is decided: allowed, how many, of which role. -/
noncomputable def decB (rs : List RuleD) (b : BQ) : DB := Classical.epsilon fun d => ∃ ru, DecR rs (bq b).q d.1 ru d.2.1 d.2.2
theorem decR_b {rs : List RuleD} {x : WA} {al : Bool} {ru nd : Int} {fr : List UInt8} (h : DecR rs x.q al ru nd fr) : DecR rs (bq x.b).q al ru nd fr := h
theorem decB_of {rs : List RuleD} {x : WA} {al : Bool} {ru nd : Int} {fr : List UInt8} (h : DecR rs x.q al ru nd fr) : decB rs x.b = (al, nd, fr) := by
  have h1 : ∃ d : DB, ∃ ru, DecR rs (bq x.b).q d.1 ru d.2.1 d.2.2 := ⟨(al, nd, fr), ru, decR_b h⟩
  obtain ⟨ru2, h2⟩ := Classical.epsilon_spec h1
  obtain ⟨e1, _, e3, e4⟩ := dec_uniq h2 (decR_b h)
  exact Prod.ext e1 (Prod.ext e3 e4)
/-- An ask of a world is right. -/
structure WOk (x : WA) : Prop where
  ok : AskOk x.q
  t0 : 0 ≤ x.tm
  t1 : x.tm ≤ 1099511627776
theorem usort_sub {α : Type} [Inhabited α] [DecidableEq α] {le : α → α → Bool} {l : List α} {p : α → Prop} (h : ∀ x ∈ l, p x) : ∀ x ∈ usort le l, p x := fun x hx => h x (usort_mem.1 hx)
theorem roles_sz {w : World} {rs : List RuleD} (h : ∀ r ∈ rs, RuleAt w r) : ∀ s ∈ wR rs, s.length ≤ 9223372036854775807 := by
  refine usort_sub fun s hs => ?_
  unfold rolesIn at hs
  obtain ⟨r, hr, hm⟩ := List.mem_flatMap.1 hs
  unfold rolesR at hm
  rcases List.mem_append.1 hm with hm | hm
  · exact (h r hr).ok.rl s hm
  · split at hm
    · cases hm
    · rw [List.mem_singleton.1 hm]; exact (h r hr).ok.ol
theorem labs_sz {rs : List RuleD} (hok : ∀ r ∈ rs, ruleE r = 0) : ∀ s ∈ wL rs, s.length ≤ 33 := by
  refine usort_sub fun s hs => ?_
  unfold labsR at hs
  rcases List.mem_append.1 hs with hs | hs
  · simp only [List.mem_cons, List.not_mem_nil, or_false] at hs
    rcases hs with rfl | rfl <;> simp
  · obtain ⟨r, hr, hm⟩ := List.mem_flatMap.1 hs
    obtain ⟨x, hx, hm⟩ := List.mem_flatMap.1 hm
    have hp := headS_p (rule_las (hok r hr) x hx)
    unfold labsX at hm
    split at hm
    · have hm := (List.mem_filter.1 hm).1
      simp only [List.mem_cons, List.not_mem_nil, or_false] at hm
      rcases hm with rfl | rfl
      · omega
      · simp only [List.length_append, List.length_cons, List.length_nil]; omega
    · rename_i hsf
      rw [List.mem_singleton.1 hm]
      rw [headS_f (by simpa using hsf)] at hp
      omega
theorem setsL_in {R : List (List UInt8)} {x : List (List UInt8)} (h : x ∈ setsL R) : ∀ s ∈ x, s ∈ R := by
  have hp : ∀ i j, i < R.length → ∀ y ∈ pairsAt R i j, ∀ s ∈ y, s ∈ R := fun i j hi y hy s hs => by
    unfold pairsAt at hy
    obtain ⟨t, ht, rfl⟩ := List.mem_map.1 hy
    simp only [List.mem_cons, List.not_mem_nil, or_false] at hs
    rcases hs with rfl | rfl
    · exact gt_mem R i hi
    · exact List.mem_of_mem_drop (List.mem_of_mem_take ht)
  intro s hs
  unfold setsL setsB setsA at h
  rcases List.mem_append.1 h with h | h
  · rcases List.mem_append.1 h with h | h
    · rcases List.mem_append.1 h with h | h
      · rcases List.mem_append.1 h with h | h
        · rw [List.mem_singleton.1 h] at hs; cases hs
        · obtain ⟨t, ht, rfl⟩ := List.mem_map.1 h
          rw [List.mem_singleton.1 hs]; exact List.mem_of_mem_take ht
      · unfold pairsTo at h
        obtain ⟨i, hi, h⟩ := List.mem_flatMap.1 h
        exact hp i _ (List.mem_range.1 hi) x h s hs
    · unfold pairsAt at h
      rw [List.take_zero] at h; cases h
  · split at h
    · rw [List.mem_singleton.1 h] at hs; exact hs
    · cases h
theorem wok_of {w : World} {rs : List RuleD} {qs : List WA} (h : ∀ r ∈ rs, RuleAt w r) (hok : ∀ r ∈ rs, ruleE r = 0) (h100 : rs.length ≤ 100) (hb : qs.map WA.b = worldB (wL rs) (wH rs) (setsL (wR rs))) (hrc : ∀ q ∈ qs, q.ro.length ≤ q.rc) : ∀ q ∈ qs, WOk q := fun q hq => by
  have hm : q.b ∈ worldB (wL rs) (wH rs) (setsL (wR rs)) := by rw [← hb]; exact List.mem_map.2 ⟨q, hq, rfl⟩
  unfold worldB at hm
  obtain ⟨x, hx, hm⟩ := List.mem_flatMap.1 hm
  obtain ⟨k, hk, hm⟩ := List.mem_flatMap.1 hm
  obtain ⟨l, hl, hm⟩ := List.mem_flatMap.1 hm
  obtain ⟨z, hz, hz2⟩ := List.mem_map.1 hm
  have e1 : q.ro = x := (congrArg Prod.fst hz2).symm
  have e2 : q.act = ((k + 1 : Nat) : Int) := (congrArg (fun b : BQ => b.2.1) hz2).symm
  have e3 : q.lab = l := (congrArg (fun b : BQ => b.2.2.1) hz2).symm
  have e4 : q.tm = 3600 * z := (congrArg (fun b : BQ => b.2.2.2) hz2).symm
  have hk := List.mem_range.1 hk
  have hzr := wH_rng hok z hz
  have hls := labs_sz hok l hl
  have hro := asks_ro hb q hq
  have hR := wR_len hok h100
  refine ⟨⟨rfl, rfl, rfl, hrc q hq, ?_, ?_, ?_, ?_, ?_, ?_, ?_⟩, ?_, ?_⟩
  · show q.ro.length ≤ _; omega
  · show ∀ s ∈ q.ro, _
    rw [e1]
    exact fun s hs => roles_sz h s (setsL_in hx s hs)
  · show q.lab.length ≤ _; rw [e3]; omega
  · show _ ≤ q.act; rw [e2]; omega
  · show q.act ≤ _; rw [e2]; omega
  · show _ ≤ q.tm; rw [e4]; omega
  · show q.tm ≤ _; rw [e4]; omega
  · rw [e4]; omega
  · rw [e4]; omega
def worldBs (rs : List RuleD) : List BQ := worldB (wL rs) (wH rs) (setsL (wR rs))
theorem all_step {α : Type} [Inhabited α] {f : α → Bool} {l : List α} {i : Nat} (h : i < l.length) (h1 : (l.take i).all f = true) (h2 : f (gt l i) = true) : (l.take (i + 1)).all f = true := by
  rw [take_gt l i h, List.all_append, h1]; simp [h2]
theorem all_not {α : Type} [Inhabited α] {f : α → Bool} {l : List α} {i : Nat} (h : i < l.length) (h2 : f (gt l i) = false) : l.all f = false := by
  cases ha : l.all f with
  | false => rfl
  | true => rw [List.all_eq_true.1 ha _ (gt_mem l i h)] at h2; cases h2
theorem b_at {qs : List WA} {B : List BQ} (h : qs.map WA.b = B) {i : Nat} (hi : i < qs.length) : (gt qs i).b = gt B i := by
  subst h
  rw [gt_eq qs i hi, gt_eq _ i (by simpa using hi)]; simp
theorem b_len {qs : List WA} {B : List BQ} (h : qs.map WA.b = B) : B.length = qs.length := by rw [← h, List.length_map]
section
variable {P : Program} {ρ : Operand → Value} {w : World} {dst : Option Tmp} {ty : TypeId} {pos : String} {aft : Array Edge} {g : Option (Nat × Bool)} {x y : Operand} {T E : TypeId} {d dE : TypeDesc} {sz bts b2 : Nat} {zv z u v : Value} {k : IntKind} {cs : List Value}
end
end Go.Kw
end
section
namespace Go.Kw
set_option linter.unusedVariables false
set_option linter.unusedSimpArgs false
/-- The best of the first k numbers that M takes; none of them is denied. -/
def BestA (M D : Nat → Bool) (N : Nat → Int) (k : Nat) (b : Int) : Prop :=
  (∀ i, i < k → M i = true → D i = false) ∧
  ((b = -1 ∧ ∀ i, i < k → M i = false) ∨
   ∃ j : Nat, b = (j : Int) ∧ j < k ∧ M j = true ∧ (∀ i, i < k → M i = true → N j ≤ N i) ∧ ∀ i, i < j → M i = true → N j < N i)
def DecA (n : Nat) (M D : Nat → Bool) (N : Nat → Int) (F : Nat → List UInt8) (al : Bool) (ru nd : Int) (fr : List UInt8) : Prop :=
  (∃ i : Nat, i < n ∧ M i = true ∧ D i = true ∧ (∀ j, j < i → M j = true → D j = false) ∧ al = false ∧ ru = (i : Int) ∧ nd = 0 ∧ fr = []) ∨
  (∃ b : Int, BestA M D N n b ∧ ((b = -1 ∧ al = false ∧ ru = -1 ∧ nd = 0 ∧ fr = []) ∨ ∃ j : Nat, b = (j : Int) ∧ al = true ∧ ru = (j : Int) ∧ nd = N j ∧ fr = F j))
theorem besta_zero (M D : Nat → Bool) (N : Nat → Int) : BestA M D N 0 (-1) := ⟨fun i hi => by omega, .inl ⟨rfl, fun i hi => by omega⟩⟩
section
variable {M D : Nat → Bool} {N : Nat → Int} {k j n m : Nat} {b : Int}
theorem besta_skip (h : BestA M D N k b) (hm : M k = false) : BestA M D N (k + 1) b := by
  have key : ∀ i, i < k + 1 → M i = true → i < k := fun i hi hm' => by
    by_cases e : i = k
    · subst e; rw [hm] at hm'; cases hm'
    · omega
  refine ⟨fun i hi hm' => h.1 i (key i hi hm') hm', ?_⟩
  rcases h.2 with ⟨h1, h2⟩ | ⟨j, h1, h2, h3, h4, h5⟩
  · refine .inl ⟨h1, fun i hi => ?_⟩
    by_cases e : i = k
    · rw [e]; exact hm
    · exact h2 i (by omega)
  · exact .inr ⟨j, h1, by omega, h3, fun i hi hm' => h4 i (key i hi hm') hm', h5⟩
theorem besta_first (h : BestA M D N k (-1)) (hm : M k = true) (hd : D k = false) : BestA M D N (k + 1) (k : Int) := by
  have hno : ∀ i, i < k → M i = false := by
    rcases h.2 with ⟨_, h2⟩ | ⟨j, h1, _⟩
    · exact h2
    · omega
  refine ⟨fun i hi hm' => ?_, .inr ⟨k, rfl, by omega, hm, fun i hi hm' => ?_, fun i hi hm' => by rw [hno i hi] at hm'; cases hm'⟩⟩
  · by_cases e : i = k
    · rw [e]; exact hd
    · rw [hno i (by omega)] at hm'; cases hm'
  · by_cases e : i = k
    · rw [e]; exact Int.le_refl _
    · rw [hno i (by omega)] at hm'; cases hm'
theorem besta_keep (h : BestA M D N k (j : Int)) (hd : D k = false) (hn : ¬ N k < N j) : BestA M D N (k + 1) (j : Int) := by
  refine ⟨fun i hi hm' => ?_, ?_⟩
  · by_cases e : i = k
    · rw [e]; exact hd
    · exact h.1 i (by omega) hm'
  · rcases h.2 with ⟨h1, _⟩ | ⟨j', h1, h2, h3, h4, h5⟩
    · omega
    · obtain rfl : j = j' := by omega
      refine .inr ⟨j, rfl, by omega, h3, fun i hi hm' => ?_, h5⟩
      by_cases e : i = k
      · rw [e]; omega
      · exact h4 i (by omega) hm'
theorem besta_new (h : BestA M D N k (j : Int)) (hm : M k = true) (hd : D k = false) (hn : N k < N j) : BestA M D N (k + 1) (k : Int) := by
  rcases h.2 with ⟨h1, _⟩ | ⟨j', h1, h2, h3, h4, h5⟩
  · omega
  · obtain rfl : j = j' := by omega
    refine ⟨fun i hi hm' => ?_, .inr ⟨k, rfl, by omega, hm, fun i hi hm' => ?_, fun i hi hm' => ?_⟩⟩
    · by_cases e : i = k
      · rw [e]; exact hd
      · exact h.1 i (by omega) hm'
    · by_cases e : i = k
      · rw [e]; exact Int.le_refl _
      · have := h4 i (by omega) hm'; omega
    · have := h4 i hi hm'; omega
theorem besta_or (h : BestA M D N k b) : b = -1 ∨ ∃ j : Nat, b = (j : Int) ∧ j < k := by
  rcases h.2 with ⟨h1, _⟩ | ⟨j, h1, h2, _⟩
  · exact .inl h1
  · exact .inr ⟨j, h1, h2⟩
def psi (m j : Nat) : Nat := if j < m then j else j + 1
def phi (m i : Nat) : Nat := if i < m then i else i - 1
theorem psi_phi {i : Nat} (h : i ≠ m) : psi m (phi m i) = i := by
  unfold psi phi
  by_cases h1 : i < m
  · rw [if_pos h1, if_pos h1]
  · rw [if_neg h1, if_neg (by omega)]; omega
theorem phi_lt {i : Nat} (h : i ≠ m) (hm : m < n) (hi : i < n) : phi m i < n - 1 := by
  unfold phi
  split <;> omega
theorem psi_lt {i : Nat} (hm : m < n) (hi : i < n - 1) : psi m i < n := by
  unfold psi
  split <;> omega
theorem psi_mono {i k : Nat} (hk : k ≠ m) (hi : i < phi m k) : psi m i < k := by
  unfold psi; unfold phi at hi
  split at hi <;> split <;> omega
/-- One number that M does not take may be left out. -/
theorem deca_erase {F : Nat → List UInt8} {al : Bool} {ru nd : Int} {fr : List UInt8} (hm : m < n) (hM : M m = false) (h : DecA n M D N F al ru nd fr) :
    ∃ ru', DecA (n - 1) (fun j => M (psi m j)) (fun j => D (psi m j)) (fun j => N (psi m j)) (fun j => F (psi m j)) al ru' nd fr := by
  have ne : ∀ i, M i = true → i ≠ m := fun i hi e => by rw [e, hM] at hi; cases hi
  rcases h with ⟨i, hi, h1, h2, h3, rfl, rfl, rfl, rfl⟩ | ⟨b, ⟨hb1, hb2⟩, hc⟩
  · have hp := psi_phi (ne i h1)
    exact ⟨_, .inl ⟨phi m i, phi_lt (ne i h1) hm hi, by show M (psi m (phi m i)) = true; rw [hp]; exact h1, by show D (psi m (phi m i)) = true; rw [hp]; exact h2, fun j hj hj2 => h3 _ (psi_mono (ne i h1) hj) hj2, rfl, rfl, rfl, rfl⟩⟩
  · rcases hb2 with ⟨rfl, hno⟩ | ⟨j, rfl, hj, hmj, hle, hlt⟩
    · rcases hc with ⟨_, rfl, rfl, rfl, rfl⟩ | ⟨j, h1, _⟩
      · exact ⟨-1, .inr ⟨-1, ⟨fun i hi hm' => hb1 _ (psi_lt hm hi) hm', .inl ⟨rfl, fun i hi => hno _ (psi_lt hm hi)⟩⟩, .inl ⟨rfl, rfl, rfl, rfl, rfl⟩⟩⟩
      · omega
    · rcases hc with ⟨h1, _⟩ | ⟨j', h1, rfl, rfl, rfl, rfl⟩
      · omega
      · obtain rfl : j = j' := by omega
        have hp := psi_phi (ne j hmj)
        refine ⟨(phi m j : Nat), .inr ⟨(phi m j : Nat), ⟨fun i hi hm' => hb1 _ (psi_lt hm hi) hm', .inr ⟨phi m j, rfl, phi_lt (ne j hmj) hm hj, by show M (psi m (phi m j)) = true; rw [hp]; exact hmj, fun i hi hm' => ?_, fun i hi hm' => ?_⟩⟩, .inr ⟨phi m j, rfl, rfl, rfl, by show N j = N (psi m (phi m j)); rw [hp], by show F j = F (psi m (phi m j)); rw [hp]⟩⟩⟩
        · show N (psi m (phi m j)) ≤ N (psi m i); rw [hp]; exact hle _ (psi_lt hm hi) hm'
        · show N (psi m (phi m j)) < N (psi m i); rw [hp]; exact hlt _ (psi_mono (ne j hmj) hi) hm'
theorem deca_ex (n : Nat) (M D : Nat → Bool) (N : Nat → Int) (F : Nat → List UInt8) : ∃ al ru nd fr, DecA n M D N F al ru nd fr := by
  have key : ∀ k, (∃ i, i < k ∧ M i = true ∧ D i = true ∧ ∀ j, j < i → M j = true → D j = false) ∨ ∃ b, BestA M D N k b := by
    intro k
    induction k with
    | zero => exact .inr ⟨-1, besta_zero M D N⟩
    | succ k ih =>
      rcases ih with ⟨i, h1, h2, h3, h4⟩ | ⟨b, hb⟩
      · exact .inl ⟨i, by omega, h2, h3, h4⟩
      · cases hm : M k with
        | false => exact .inr ⟨b, besta_skip hb hm⟩
        | true =>
          cases hd : D k with
          | true => exact .inl ⟨k, by omega, hm, hd, hb.1⟩
          | false =>
            rcases besta_or hb with rfl | ⟨j, rfl, hj⟩
            · exact .inr ⟨_, besta_first hb hm hd⟩
            · by_cases hn : N k < N j
              · exact .inr ⟨_, besta_new hb hm hd hn⟩
              · exact .inr ⟨_, besta_keep hb hd hn⟩
  rcases key n with ⟨i, h1, h2, h3, h4⟩ | ⟨b, hb⟩
  · exact ⟨false, (i : Int), 0, [], .inl ⟨i, h1, h2, h3, h4, rfl, rfl, rfl, rfl⟩⟩
  · rcases besta_or hb with rfl | ⟨j, rfl, hj⟩
    · exact ⟨false, -1, 0, [], .inr ⟨-1, hb, .inl ⟨rfl, rfl, rfl, rfl, rfl⟩⟩⟩
    · exact ⟨true, (j : Int), N j, F j, .inr ⟨_, hb, .inr ⟨j, rfl, rfl, rfl, rfl, rfl⟩⟩⟩
end
/-- The rule m is asked for nothing. -/
def mM (rs : List RuleD) (m : Nat) (q : AskD) (i : Nat) : Bool := !decide (i = m) && meetE (gt rs i) q
abbrev BestM (rs : List RuleD) (m : Nat) (q : AskD) (k : Nat) (b : Int) : Prop := BestA (mM rs m q) (fun i => (gt rs i).dn) (fun i => (gt rs i).nd) k b
abbrev DecM (rs : List RuleD) (m : Nat) (q : AskD) (al : Bool) (ru nd : Int) (fr : List UInt8) : Prop := DecA rs.length (mM rs m q) (fun i => (gt rs i).dn) (fun i => (gt rs i).nd) (fun i => (gt rs i).ofr) al ru nd fr
theorem mm_m {rs : List RuleD} {m k : Nat} {q : AskD} (h : k = m) : mM rs m q k = false := by unfold mM; rw [decide_eq_true h]; rfl
theorem mm_n {rs : List RuleD} {m k : Nat} {q : AskD} (h : meetE (gt rs k) q = false) : mM rs m q k = false := by unfold mM; rw [h, Bool.and_false]
theorem mm_y {rs : List RuleD} {m k : Nat} {q : AskD} (h : ¬ k = m) (h2 : meetE (gt rs k) q = true) : mM rs m q k = true := by unfold mM; rw [decide_eq_false h, h2]; rfl
theorem gt_erase {α : Type} [Inhabited α] (l : List α) (m j : Nat) : gt (l.eraseIdx m) j = gt l (psi m j) := by
  unfold gt psi
  rw [List.getD_eq_getElem?_getD, List.getElem?_eraseIdx, List.getD_eq_getElem?_getD]
  split <;> rfl
theorem psi_ne {m j : Nat} : psi m j ≠ m := by unfold psi; split <;> omega
theorem decM_erase {rs : List RuleD} {m : Nat} {q : AskD} {al : Bool} {ru nd : Int} {fr : List UInt8} (hm : m < rs.length) (h : DecM rs m q al ru nd fr) : ∃ ru', DecR (rs.eraseIdx m) q al ru' nd fr := by
  obtain ⟨ru', h'⟩ := deca_erase hm (mm_m rfl) h
  refine ⟨ru', ?_⟩
  have e : (fun j => mM rs m q (psi m j)) = fun j => meetE (gt (rs.eraseIdx m) j) q := by
    funext j; rw [gt_erase]; unfold mM; rw [decide_eq_false psi_ne]; rfl
  rw [e] at h'
  simp only [← gt_erase] at h'
  rw [← List.length_eraseIdx_of_lt hm] at h'
  exact h'
theorem decR_not {rs : List RuleD} {m : Nat} {q : AskD} {al : Bool} {ru nd : Int} {fr : List UInt8} (hm : m < rs.length) (hno : meetE (gt rs m) q = false) (h : DecR rs q al ru nd fr) : ∃ ru', DecR (rs.eraseIdx m) q al ru' nd fr := by
  have e : mM rs m q = fun i => meetE (gt rs i) q := by
    funext i; unfold mM
    by_cases hi : i = m
    · rw [hi, hno, Bool.and_false]
    · rw [decide_eq_false hi]; rfl
  exact decM_erase hm (show DecM rs m q al ru nd fr by unfold DecM; rw [e]; exact h)
theorem decR_ex (rs : List RuleD) (q : AskD) : ∃ al ru nd fr, DecR rs q al ru nd fr := deca_ex rs.length (fun i => meetE (gt rs i) q) (fun i => (gt rs i).dn) (fun i => (gt rs i).nd) (fun i => (gt rs i).ofr)
/-- A rule that an ask does not meet says nothing of it. -/
theorem decB_not {rs : List RuleD} {m : Nat} {b : BQ} (hm : m < rs.length) (h : meetE (gt rs m) (bq b).q = false) : decB rs b = decB (rs.eraseIdx m) b := by
  obtain ⟨al, ru, nd, fr, hd⟩ := decR_ex rs (bq b).q
  obtain ⟨ru', hd'⟩ := decR_not hm h hd
  exact (decB_of (x := bq b) hd).trans (decB_of (x := bq b) hd').symm
theorem decB_m {rs : List RuleD} {m : Nat} {x : WA} {al : Bool} {ru nd : Int} {fr : List UInt8} (hm : m < rs.length) (h : DecM rs m x.q al ru nd fr) : decB (rs.eraseIdx m) x.b = (al, nd, fr) := by
  obtain ⟨ru', h'⟩ := decM_erase hm h
  exact decB_of h'
/-- What a rule says, wherever its lists lie. -/
def nrm (r : RuleD) : RuleD := { r with ra := none, rc := 0, aa := none, ak := 0, la := none, lc := 0 }
theorem gt_nrm (rs : List RuleD) (i : Nat) : gt (rs.map nrm) i = nrm (gt rs i) := by
  unfold gt
  rw [List.getD_eq_getElem?_getD, List.getD_eq_getElem?_getD, List.getElem?_map]
  cases rs[i]? <;> rfl
theorem decR_nrm {rs : List RuleD} {q : AskD} {al : Bool} {ru nd : Int} {fr : List UInt8} : DecR (rs.map nrm) q al ru nd fr ↔ DecR rs q al ru nd fr := by
  have e1 : (fun i => meetE (gt (rs.map nrm) i) q) = fun i => meetE (gt rs i) q := by funext i; rw [gt_nrm]; rfl
  have e2 : (fun i => (gt (rs.map nrm) i).dn) = fun i => (gt rs i).dn := by funext i; rw [gt_nrm]; rfl
  have e3 : (fun i => (gt (rs.map nrm) i).nd) = fun i => (gt rs i).nd := by funext i; rw [gt_nrm]; rfl
  have e4 : (fun i => (gt (rs.map nrm) i).ofr) = fun i => (gt rs i).ofr := by funext i; rw [gt_nrm]; rfl
  show DecA (rs.map nrm).length (fun i => meetE (gt (rs.map nrm) i) q) (fun i => (gt (rs.map nrm) i).dn) (fun i => (gt (rs.map nrm) i).nd) (fun i => (gt (rs.map nrm) i).ofr) al ru nd fr ↔ DecA rs.length (fun i => meetE (gt rs i) q) (fun i => (gt rs i).dn) (fun i => (gt rs i).nd) (fun i => (gt rs i).ofr) al ru nd fr
  rw [e1, e2, e3, e4, List.length_map]
theorem erase_map {α β : Type} (f : α → β) : ∀ (l : List α) (i : Nat), (l.map f).eraseIdx i = (l.eraseIdx i).map f
  | [], _ => rfl
  | x :: l, 0 => rfl
  | x :: l, i + 1 => by rw [List.map_cons, List.eraseIdx_cons_succ, List.eraseIdx_cons_succ, List.map_cons, erase_map f l i]
theorem decB_nrm (rs : List RuleD) (b : BQ) : decB (rs.map nrm) b = decB rs b := by
  unfold decB
  congr 1
  funext d
  exact propext ⟨fun ⟨ru, h⟩ => ⟨ru, decR_nrm.1 h⟩, fun ⟨ru, h⟩ => ⟨ru, decR_nrm.2 h⟩⟩
def neverW (rs : List RuleD) (B : List BQ) (i : Nat) : Bool := B.all fun b => !meetE (gt rs i) (bq b).q
noncomputable def deadW (rs : List RuleD) (B : List BQ) (i : Nat) : Bool := B.all fun b => decide (decB rs b = decB (rs.eraseIdx i) b)
def allW (r : RuleD) : Bool := !r.dn && (decide (r.ro.length = 0) && (decide (r.acs.length = 0) && (decide (r.las.length = 0) && decide (r.nd = 0))))
/-- What is said of the rule i. -/
noncomputable def kindW (rs : List RuleD) (B : List BQ) (i : Nat) : Nat := if neverW rs B i = true then 1 else if deadW rs B i = true then 2 else if allW (gt rs i) = true then 3 else 0
theorem kind_nrm (rs : List RuleD) (B : List BQ) (i : Nat) : kindW (rs.map nrm) B i = kindW rs B i := by
  have e1 : neverW (rs.map nrm) B i = neverW rs B i := by unfold neverW; rw [gt_nrm]; rfl
  have e2 : deadW (rs.map nrm) B i = deadW rs B i := by
    unfold deadW
    congr 1
    funext b
    rw [decB_nrm, erase_map, decB_nrm]
  have e3 : allW (gt (rs.map nrm) i) = allW (gt rs i) := by rw [gt_nrm]; rfl
  unfold kindW
  rw [e1, e2, e3]
theorem kind_1 {rs : List RuleD} {B : List BQ} {i : Nat} (h : neverW rs B i = true) : kindW rs B i = 1 := by unfold kindW; rw [if_pos h]
theorem kind_2 {rs : List RuleD} {B : List BQ} {i : Nat} (h : neverW rs B i = false) (h2 : deadW rs B i = true) : kindW rs B i = 2 := by unfold kindW; rw [h, h2]; rfl
theorem kind_3 {rs : List RuleD} {B : List BQ} {i : Nat} (h : neverW rs B i = false) (h2 : deadW rs B i = false) (h3 : allW (gt rs i) = true) : kindW rs B i = 3 := by unfold kindW; rw [h, h2, h3]; rfl
theorem kind_0 {rs : List RuleD} {B : List BQ} {i : Nat} (h : neverW rs B i = false) (h2 : deadW rs B i = false) (h3 : allW (gt rs i) = false) : kindW rs B i = 0 := by unfold kindW; rw [h, h2, h3]; rfl
theorem all_y {r : RuleD} (h1 : r.dn = false) (h2 : r.ro.length = 0) (h3 : r.acs.length = 0) (h4 : r.las.length = 0) (h5 : r.nd = 0) : allW r = true := by
  unfold allW; rw [h1, decide_eq_true h2, decide_eq_true h3, decide_eq_true h4, decide_eq_true h5]; rfl
theorem all_iff {r : RuleD} : allW r = true ↔ r.dn = false ∧ r.ro.length = 0 ∧ r.acs.length = 0 ∧ r.las.length = 0 ∧ r.nd = 0 := by
  unfold allW
  simp only [Bool.and_eq_true, decide_eq_true_eq, Bool.not_eq_true']
theorem all_n {r : RuleD} (h : ¬ (r.dn = false ∧ r.ro.length = 0 ∧ r.acs.length = 0 ∧ r.las.length = 0 ∧ r.nd = 0)) : allW r = false := by
  cases e : allW r with
  | false => rfl
  | true => exact absurd (all_iff.1 e) h
/-- The warnings of the first n rules. -/
noncomputable def lintW (rs : List RuleD) (B : List BQ) (n : Nat) : List (Nat × Nat) := (List.range n).flatMap fun i => if kindW rs B i = 0 then [] else [(i, kindW rs B i)]
def wv (x : Nat × Nat) : List Value := [vi x.1, vi x.2, .int .i64 (-1)]
theorem wv_3 (x : Nat × Nat) : (wv x).length = 3 := rfl
theorem one_wv (x : Nat × Nat) : One (wv x) := one_cons rfl (one_cons rfl (one_cons rfl one_nil))
theorem one_w0 : One [vi 0, vi 0, vi 0] := one_cons rfl (one_cons rfl (one_cons rfl one_nil))
theorem lint_step (rs : List RuleD) (B : List BQ) (n : Nat) : lintW rs B (n + 1) = lintW rs B n ++ (if kindW rs B n = 0 then [] else [(n, kindW rs B n)]) := by
  unfold lintW; rw [List.range_succ, List.flatMap_append]; simp
theorem lint_y {rs : List RuleD} {B : List BQ} {n k : Nat} (h : kindW rs B n = k) (hk : 0 < k) : lintW rs B (n + 1) = lintW rs B n ++ [(n, k)] := by rw [lint_step, h, if_neg (by omega)]
theorem lint_n {rs : List RuleD} {B : List BQ} {n : Nat} (h : kindW rs B n = 0) : lintW rs B (n + 1) = lintW rs B n := by rw [lint_step, h, if_pos rfl, List.append_nil]
theorem lint_len (rs : List RuleD) (B : List BQ) : ∀ n, (lintW rs B n).length ≤ n
  | 0 => Nat.le_refl _
  | n + 1 => by
    rw [lint_step, List.length_append]
    have := lint_len rs B n
    split
    · simp; omega
    · simp only [List.length_cons, List.length_nil]; omega
/-- The rule i may go. -/
def goW (k : Nat) : Prop := k = 1 ∨ k = 2
theorem kind_le (rs : List RuleD) (B : List BQ) (i : Nat) : kindW rs B i ≤ 3 := by
  unfold kindW
  split
  · omega
  · split
    · omega
    · split <;> omega
/-- at is the last of the first n rules that may go (or -1). -/
def LastK (rs : List RuleD) (B : List BQ) (n : Nat) (t : Int) : Prop := (t = -1 ∧ ∀ i, i < n → ¬ goW (kindW rs B i)) ∨ ∃ j : Nat, t = (j : Int) ∧ j < n ∧ goW (kindW rs B j) ∧ ∀ i, j < i → i < n → ¬ goW (kindW rs B i)
theorem last_uniq {rs : List RuleD} {B : List BQ} {n : Nat} {t u : Int} (h : LastK rs B n t) (h' : LastK rs B n u) : t = u := by
  rcases h with ⟨rfl, h⟩ | ⟨j, rfl, hj, h1, h2⟩
  · rcases h' with ⟨rfl, _⟩ | ⟨j, _, hj, h1, _⟩
    · rfl
    · exact absurd h1 (h j hj)
  · rcases h' with ⟨rfl, h⟩ | ⟨j', rfl, hj', h1', h2'⟩
    · exact absurd h1 (h j hj)
    · rcases Nat.lt_trichotomy j j' with e | e | e
      · exact absurd h1' (h2 j' e hj')
      · rw [e]
      · exact absurd h1 (h2' j e hj)
/-- Among the first k warnings, t is the last rule that may go. -/
def LastX (X : List (Nat × Nat)) (k : Nat) (t : Int) : Prop := (t = -1 ∧ ∀ i, i < k → (gt X i).2 = 3) ∨ ∃ j : Nat, t = ((gt X j).1 : Int) ∧ j < k ∧ ¬ (gt X j).2 = 3 ∧ ∀ i, j < i → i < k → (gt X i).2 = 3
theorem lastx_0 (X : List (Nat × Nat)) : LastX X 0 (-1) := .inl ⟨rfl, fun i hi => absurd hi (Nat.not_lt_zero _)⟩
theorem lastx_y {X : List (Nat × Nat)} {k : Nat} {t : Int} (h : LastX X k t) (hk : ¬ (gt X k).2 = 3) : LastX X (k + 1) ((gt X k).1 : Int) := .inr ⟨k, rfl, by omega, hk, fun i h1 h2 => by omega⟩
theorem lastx_n {X : List (Nat × Nat)} {k : Nat} {t : Int} (h : LastX X k t) (hk : (gt X k).2 = 3) : LastX X (k + 1) t := by
  rcases h with ⟨h1, h2⟩ | ⟨j, h1, h2, h3, h4⟩
  · exact .inl ⟨h1, fun i hi => (Nat.lt_succ_iff_lt_or_eq.1 hi).elim (h2 i) fun e => e ▸ hk⟩
  · exact .inr ⟨j, h1, by omega, h3, fun i h5 h6 => (Nat.lt_succ_iff_lt_or_eq.1 h6).elim (h4 i h5) fun e => e ▸ hk⟩
theorem lint_mem {rs : List RuleD} {B : List BQ} {n : Nat} {x : Nat × Nat} : x ∈ lintW rs B n ↔ x.1 < n ∧ x.2 = kindW rs B x.1 ∧ ¬ x.2 = 0 := by
  unfold lintW
  rw [List.mem_flatMap]
  constructor
  · rintro ⟨i, hi, h⟩
    split at h
    · cases h
    · rename_i hk
      rw [List.mem_singleton.1 h]
      exact ⟨List.mem_range.1 hi, rfl, hk⟩
  · rintro ⟨h1, h2, h3⟩
    refine ⟨x.1, List.mem_range.2 h1, ?_⟩
    rw [if_neg (by omega)]
    exact List.mem_singleton.2 (Prod.ext rfl h2)
theorem lint_pw (rs : List RuleD) (B : List BQ) : ∀ n, (lintW rs B n).Pairwise fun x y => x.1 < y.1
  | 0 => List.Pairwise.nil
  | n + 1 => by
    rw [lint_step, List.pairwise_append]
    refine ⟨lint_pw rs B n, ?_, fun x hx y hy => ?_⟩
    · split <;> simp
    · have h1 := (lint_mem.1 hx).1
      split at hy
      · cases hy
      · rw [List.mem_singleton.1 hy]; exact h1
theorem gt_idx {α : Type} [Inhabited α] {l : List α} {x : α} (h : x ∈ l) : ∃ i, i < l.length ∧ gt l i = x := by
  obtain ⟨i, hi, e⟩ := List.mem_iff_getElem.1 h
  exact ⟨i, hi, by rw [gt_eq l i hi, e]⟩
theorem last_of {rs : List RuleD} {B : List BQ} {n : Nat} {t : Int} (h : LastX (lintW rs B n) (lintW rs B n).length t) : LastK rs B n t := by
  have hx : ∀ i, i < n → goW (kindW rs B i) → ∃ k, k < (lintW rs B n).length ∧ gt (lintW rs B n) k = (i, kindW rs B i) := fun i hi hg =>
    gt_idx (lint_mem.2 ⟨hi, rfl, by show ¬ kindW rs B i = 0; rcases hg with h | h <;> omega⟩)
  rcases h with ⟨rfl, h⟩ | ⟨j, rfl, hj, h1, h2⟩
  · refine .inl ⟨rfl, fun i hi hg => ?_⟩
    obtain ⟨k, hk, e⟩ := hx i hi hg
    have := h k hk
    rw [e] at this
    have this : kindW rs B i = 3 := this
    rcases hg with h | h <;> omega
  · obtain ⟨a1, a2, a3⟩ := lint_mem.1 (gt_mem _ j hj)
    have hle := kind_le rs B (gt (lintW rs B n) j).1
    refine .inr ⟨_, rfl, a1, by rw [← a2]; unfold goW; omega, fun i h3 h4 hg => ?_⟩
    obtain ⟨k, hk, e⟩ := hx i h4 hg
    have hjk : j < k := by
      refine Nat.lt_of_not_le fun hc => ?_
      rcases Nat.lt_or_eq_of_le hc with hc | hc
      · have hp := List.pairwise_iff_getElem.1 (lint_pw rs B n) k j hk hj hc
        rw [← gt_eq, ← gt_eq, e] at hp
        have hp : i < _ := hp
        omega
      · subst hc
        rw [e] at h3
        exact absurd h3 (Nat.lt_irrefl _)
    have := h2 k hjk hk
    rw [e] at this
    have this : kindW rs B i = 3 := this
    rcases hg with h | h <;> omega
/-- t is a policy without rules that may go, made of rs by taking them out. -/
inductive TrimR (B : List BQ) : List RuleD → List RuleD → Prop
  | done {rs : List RuleD} : LastK rs B rs.length (-1) → TrimR B rs rs
  | step {rs t : List RuleD} {j : Nat} : LastK rs B rs.length (j : Int) → TrimR B (rs.eraseIdx j) t → TrimR B rs t
theorem last_lt {rs : List RuleD} {B : List BQ} {n j : Nat} (h : LastK rs B n (j : Int)) : j < n := by
  rcases h with ⟨h, _⟩ | ⟨k, h1, h2, _⟩
  · omega
  · omega
theorem last_go {rs : List RuleD} {B : List BQ} {n j : Nat} (h : LastK rs B n (j : Int)) : goW (kindW rs B j) := by
  rcases h with ⟨h, _⟩ | ⟨k, h1, _, h3, _⟩
  · omega
  · obtain rfl : j = k := by omega
    exact h3
theorem trim_uniq {B : List BQ} {rs t u : List RuleD} (h : TrimR B rs t) (h' : TrimR B rs u) : t = u := by
  induction h with
  | done h1 =>
    cases h' with
    | done => rfl
    | step h2 _ => have := last_uniq h1 h2; omega
  | step h1 _ ih =>
    cases h' with
    | done h2 => have := last_uniq h1 h2; omega
    | step h2 h3 =>
      have := last_uniq h1 h2
      obtain rfl := Int.ofNat.inj this
      exact ih h3
theorem last_nrm {rs : List RuleD} {B : List BQ} {n : Nat} {t : Int} : LastK (rs.map nrm) B n t ↔ LastK rs B n t := by
  unfold LastK
  simp only [kind_nrm]
theorem kind_keep {rs : List RuleD} {B : List BQ} {j : Nat} (hj : j < rs.length) (h : goW (kindW rs B j)) : ∀ b ∈ B, decB rs b = decB (rs.eraseIdx j) b := fun b hb => by
  cases h1 : neverW rs B j with
  | true =>
    have := List.all_eq_true.1 h1 b hb
    exact decB_not hj (by simpa using this)
  | false =>
    cases h2 : deadW rs B j with
    | true => exact of_decide_eq_true (List.all_eq_true.1 h2 b hb)
    | false =>
      unfold kindW at h
      rw [h1, h2] at h
      simp only [Bool.false_eq_true, if_false] at h
      split at h <;> rcases h with h | h <;> omega
theorem trim_keep {B : List BQ} {rs t : List RuleD} (h : TrimR B rs t) : (∀ b ∈ B, decB rs b = decB t b) ∧ ∀ r ∈ t, r ∈ rs := by
  induction h with
  | done => exact ⟨fun b _ => rfl, fun r hr => hr⟩
  | step h1 _ ih => exact ⟨fun b hb => (kind_keep (last_lt h1) (last_go h1) b hb).trans (ih.1 b hb), fun r hr => List.mem_of_mem_eraseIdx (ih.2 r hr)⟩
/-- The lists of some rules lie in the items LT. -/
def RulesT (LT : List Item) (rs : List RuleD) : Prop := ∀ W, Hold0 W LT → ∀ r ∈ rs, RuleAt W r
theorem RulesT.nil {LT : List Item} : RulesT LT [] := fun W _ r hr => by cases hr
theorem RulesT.erase {LT : List Item} {rs : List RuleD} {i : Nat} (h : RulesT LT rs) : RulesT LT (rs.eraseIdx i) := fun W hW r hr => h W hW r (List.mem_of_mem_eraseIdx hr)
/-- A rule with lists of its own. -/
def RuleD.at (r : RuleD) (a1 a2 a3 : Option Addr) (c1 c2 c3 : Nat) : RuleD := { r with ra := a1, rc := c1, aa := a2, ak := c2, la := a3, lc := c3 }
theorem nrm_at (r : RuleD) (a1 a2 a3 : Option Addr) (c1 c2 c3 : Nat) : nrm (r.at a1 a2 a3 c1 c2 c3) = nrm r := rfl
theorem RuleOk.at {r : RuleD} (h : RuleOk r) {a1 a2 a3 : Option Addr} {c1 c2 c3 : Nat} (h1 : r.ro.length ≤ c1) (h2 : r.acs.length ≤ c2) (h3 : r.las.length ≤ c3) : RuleOk (r.at a1 a2 a3 c1 c2 c3) := ⟨h1, h.rn, h.rl, h2, h.an, h3, h.ln, h.ll, h.ol⟩
theorem ruleE_nrm (r : RuleD) : ruleE (nrm r) = ruleE r := rfl
theorem nrm_ok {l t : List RuleD} (h : l.map nrm = t) (hok : ∀ r ∈ t, ruleE r = 0) : ∀ r ∈ l, ruleE r = 0 := fun r hr => by
  have := hok (nrm r) (by rw [← h]; exact List.mem_map.2 ⟨r, hr, rfl⟩)
  rwa [ruleE_nrm] at this
abbrev nevF (rs : List RuleD) (i : Nat) (b : BQ) : Bool := !meetE (gt rs i) (bq b).q
noncomputable abbrev deaF (rs : List RuleD) (i : Nat) (b : BQ) : Bool := decide (decB rs b = decB (rs.eraseIdx i) b)
theorem meet_at {r : RuleD} {qs : List WA} {B : List BQ} (h : qs.map WA.b = B) {j : Nat} (hj : j < qs.length) : meetE r (bq (gt B j)).q = meetE r (gt qs j).q := by rw [← b_at h hj]; rfl
theorem nev_n {rs : List RuleD} {i j : Nat} {qs : List WA} {B : List BQ} {nv : Bool} (hb : qs.map WA.b = B) (hj : j < qs.length) (h : nv = (B.take j).all (nevF rs i)) (hm : meetE (gt rs i) (gt qs j).q = false) : nv = (B.take (j + 1)).all (nevF rs i) := by
  have hj' : j < B.length := by rw [b_len hb]; exact hj
  rw [take_gt B j hj', List.all_append, ← h]
  simp [nevF, meet_at hb hj, hm]
theorem nev_y {rs : List RuleD} {i j : Nat} {qs : List WA} {B : List BQ} (hb : qs.map WA.b = B) (hj : j < qs.length) (hm : meetE (gt rs i) (gt qs j).q = true) : false = (B.take (j + 1)).all (nevF rs i) := by
  have hj' : j < B.length := by rw [b_len hb]; exact hj
  rw [take_gt B j hj', List.all_append]
  simp [nevF, meet_at hb hj, hm]
theorem nev_f {rs : List RuleD} {i j : Nat} {qs : List WA} {B : List BQ} (hb : qs.map WA.b = B) (hj : j < qs.length) (hm : meetE (gt rs i) (gt qs j).q = true) : neverW rs B i = false :=
  all_not (by rw [b_len hb]; exact hj) (show nevF rs i (gt B j) = false by simp [nevF, meet_at hb hj, hm])
theorem nev_all {rs : List RuleD} {i : Nat} {qs : List WA} {B : List BQ} {nv : Bool} (hb : qs.map WA.b = B) (h : nv = (B.take qs.length).all (nevF rs i)) : neverW rs B i = nv := by
  rw [h, ← b_len hb, List.take_length]; rfl
theorem dea_n {rs : List RuleD} {i j : Nat} {qs : List WA} {B : List BQ} (hi : i < rs.length) (hb : qs.map WA.b = B) (hj : j < qs.length) (h : (B.take j).all (deaF rs i) = true) (hm : meetE (gt rs i) (gt qs j).q = false) : (B.take (j + 1)).all (deaF rs i) = true :=
  all_step (by rw [b_len hb]; exact hj) h (decide_eq_true (decB_not hi (by rw [meet_at hb hj]; exact hm)))
theorem dea_y {rs : List RuleD} {i j : Nat} {qs : List WA} {B : List BQ} (hb : qs.map WA.b = B) (hj : j < qs.length) (h : (B.take j).all (deaF rs i) = true) (hd : decB rs (gt qs j).b = decB (rs.eraseIdx i) (gt qs j).b) : (B.take (j + 1)).all (deaF rs i) = true :=
  all_step (by rw [b_len hb]; exact hj) h (decide_eq_true (by rw [← b_at hb hj]; exact hd))
theorem dea_f {rs : List RuleD} {i j : Nat} {qs : List WA} {B : List BQ} (hb : qs.map WA.b = B) (hj : j < qs.length) (hd : ¬ decB rs (gt qs j).b = decB (rs.eraseIdx i) (gt qs j).b) : deadW rs B i = false :=
  all_not (by rw [b_len hb]; exact hj) (show deaF rs i (gt B j) = false from decide_eq_false (by rw [← b_at hb hj]; exact hd))
theorem dea_all {rs : List RuleD} {i : Nat} {qs : List WA} {B : List BQ} (hb : qs.map WA.b = B) (h : (B.take qs.length).all (deaF rs i) = true) : deadW rs B i = true := by
  rw [← b_len hb, List.take_length] at h; exact h
end Go.Kw
end
