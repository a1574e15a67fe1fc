/- What the law's proof leans on. No condition. -/
import Derived.Test.YtjnnhlbfgnopiaaGreatDoorPCAL
import Derived.Test.YtjnnhlbfgnopiaaGreatDoorPCAP
import Derived.Test.YtjnnhlbfgnopiaaGreatDoorPCAR
namespace Go.Kw
set_option linter.unusedVariables false
set_option linter.unusedSimpArgs false
open Go.Lib
def kROLE : List UInt8 := [114, 111, 108, 101]
def kACT : List UInt8 := [97, 99, 116]
def kON : List UInt8 := [111, 110]
def kAT : List UInt8 := [97, 116]
def kNEED : List UInt8 := [110, 101, 101, 100]
def kALLOW : List UInt8 := [97, 108, 108, 111, 119]
def kDENY : List UInt8 := [100, 101, 110, 121]
/-- The words of the acts. -/
def actW : List (List UInt8) := [[112, 111, 108, 105, 99, 121], [101, 110, 114, 111, 108, 108], [100, 105, 115, 109, 105, 115, 115], [99, 114, 101, 97, 116, 101], [114, 111, 116, 97, 116, 101], [117, 115, 101], [114, 101, 118, 111, 107, 101], [97, 112, 112, 114, 111, 118, 101], [101, 115, 99, 114, 111, 119], [114, 101, 99, 111, 118, 101, 114], [98, 97, 99, 107, 117, 112], [114, 101, 115, 116, 111, 114, 101]]
def isPart (s : List UInt8) : Bool := decide (s = kROLE ∨ s = kACT ∨ s = kON ∨ s = kAT ∨ s = kNEED)
abbrev Ws := List (List UInt8)
def headIs (k : List UInt8) (ws : Ws) : Bool := decide (ws.head? = some k)
def tkP (ws : Ws) : Ws := ws.takeWhile fun s => !isPart s
def drP (ws : Ws) : Ws := ws.dropWhile fun s => !isPart s
/-- The list of a part, if it is there, and what is left. -/
def secA (k : List UInt8) (ws : Ws) : Ws := if headIs k ws = true then tkP ws.tail else []
def secR (k : List UInt8) (ws : Ws) : Ws := if headIs k ws = true then drP ws.tail else ws
def secOk (k : List UInt8) (ws : Ws) : Bool := !headIs k ws || !decide (secA k ws = [])
theorem tkP_drP (ws : Ws) : tkP ws ++ drP ws = ws := List.takeWhile_append_dropWhile
theorem drP_eq (ws : Ws) : drP ws = ws.drop (tkP ws).length := by
  have := tkP_drP ws
  have h : ws.drop (tkP ws).length = (tkP ws ++ drP ws).drop (tkP ws).length := by rw [this]
  rw [h, List.drop_left]
theorem tkP_eq (ws : Ws) : tkP ws = ws.take (tkP ws).length := by
  have := tkP_drP ws
  have h : ws.take (tkP ws).length = (tkP ws ++ drP ws).take (tkP ws).length := by rw [this]
  rw [h, List.take_left]
theorem tkP_len (ws : Ws) : (tkP ws).length ≤ ws.length := (List.takeWhile_sublist _).length_le
/-- How far the words of a list go. -/
theorem tkP_at {ws : Ws} {n : Nat} (h : ∀ j, j < n → isPart (gt ws j) = false) (hn : n ≤ ws.length) (he : n = ws.length ∨ isPart (gt ws n) = true) : (tkP ws).length = n := by
  induction n generalizing ws with
  | zero =>
    rcases he with he | he
    · have : ws = [] := List.eq_nil_of_length_eq_zero he.symm
      subst this; rfl
    · cases ws with
      | nil => rfl
      | cons x l =>
        have : isPart x = true := by simpa [gt] using he
        simp [tkP, List.takeWhile, this]
  | succ n ih =>
    cases ws with
    | nil => simp at hn
    | cons x l =>
      have h0 : isPart x = false := by simpa [gt] using h 0 (by omega)
      have := ih (ws := l) (fun j hj => by have := h (j + 1) (by omega); simpa [gt] using this) (by simpa using hn) (by
        rcases he with he | he
        · exact .inl (by simpa using he)
        · exact .inr (by simpa [gt] using he))
      simp only [tkP, List.takeWhile, h0, Bool.not_false, List.length_cons] at this ⊢
      simpa [tkP] using this
/-! ### Numbers of at most three digits -/
def digB (b : UInt8) : Bool := decide (48 ≤ b.toNat ∧ b.toNat ≤ 57)
def numV (s : List UInt8) : Nat := s.foldl (fun n b => 10 * n + (b.toNat - 48)) 0
def numOk (s : List UInt8) : Bool := !decide (s = []) && (decide (s.length ≤ 3) && ((!decide (s.head? = some 48) || decide (s = [48])) && s.all digB))
def numE (s : List UInt8) : Nat := if numOk s = true then numV s else 0
theorem numE_t {s : List UInt8} (h : numOk s = true) : numE s = numV s := if_pos h
theorem numE_f {s : List UInt8} (h : numOk s = false) : numE s = 0 := if_neg (by rw [h]; decide)
theorem digits_small : ∀ n : Fin 1000, numOk (decDigits n.val) = true ∧ numV (decDigits n.val) = n.val := by decide +kernel
theorem dig_of {b : UInt8} (h : digB b = true) : ∃ d : Fin 10, b = UInt8.ofNat (48 + d.val) := by
  have := of_decide_eq_true h
  exact ⟨⟨b.toNat - 48, by omega⟩, UInt8.toNat_inj.1 (by rw [UInt8.toNat_ofNat']; show b.toNat = (48 + (b.toNat - 48)) % 256; omega)⟩
theorem dig1 : ∀ a : Fin 10, itoa ((a.val : Nat) : Int) = [UInt8.ofNat (48 + a.val)] := by decide +kernel
theorem dig2 : ∀ a b : Fin 10, a.val ≠ 0 → itoa ((10 * a.val + b.val : Nat) : Int) = [UInt8.ofNat (48 + a.val), UInt8.ofNat (48 + b.val)] := by decide +kernel
theorem dig3 : ∀ a b c : Fin 10, a.val ≠ 0 → itoa ((100 * a.val + 10 * b.val + c.val : Nat) : Int) = [UInt8.ofNat (48 + a.val), UInt8.ofNat (48 + b.val), UInt8.ofNat (48 + c.val)] := by decide +kernel
/-- A number as it is read is what is written of it. -/
theorem num_itoa {s : List UInt8} (h : numOk s = true) : ∃ n : Nat, n < 1000 ∧ s = itoa (n : Int) := by
  unfold numOk at h
  simp only [Bool.and_eq_true, Bool.not_eq_true', decide_eq_false_iff_not, decide_eq_true_eq, Bool.or_eq_true, List.all_eq_true] at h
  obtain ⟨h1, h2, h3, h4⟩ := h
  match s, h1, h2, h3, h4 with
  | [a], _, _, _, h4 =>
    obtain ⟨a, rfl⟩ := dig_of (h4 a (by simp))
    exact ⟨a.val, by omega, (dig1 a).symm⟩
  | [a, b], _, _, h3, h4 =>
    obtain ⟨a, rfl⟩ := dig_of (h4 a (by simp)); obtain ⟨b, rfl⟩ := dig_of (h4 b (by simp))
    have ha : a.val ≠ 0 := fun e => by rw [e] at h3; simp at h3
    exact ⟨10 * a.val + b.val, by omega, (dig2 a b ha).symm⟩
  | [a, b, c], _, _, h3, h4 =>
    obtain ⟨a, rfl⟩ := dig_of (h4 a (by simp)); obtain ⟨b, rfl⟩ := dig_of (h4 b (by simp)); obtain ⟨c, rfl⟩ := dig_of (h4 c (by simp))
    have ha : a.val ≠ 0 := fun e => by rw [e] at h3; simp at h3
    exact ⟨100 * a.val + 10 * b.val + c.val, by omega, (dig3 a b c ha).symm⟩
theorem itoa_nat (n : Nat) : itoa (n : Int) = decDigits n := itoa_nonneg n
theorem dec_big : ∀ (u k : Nat), 10 ^ k ≤ u → k + 1 ≤ (decDigits u).length := by
  intro u
  induction u using Nat.strongRecOn with
  | _ u ih =>
    intro k hk
    rw [decDigits]
    split
    · have : k = 0 := by
        cases k with
        | zero => rfl
        | succ k => rw [Nat.pow_succ] at hk; have := Nat.one_le_pow k 10 (by decide); omega
      subst this; simp
    · cases k with
      | zero => simp
      | succ k =>
        have := ih (u / 10) (by omega) k (by rw [Nat.pow_succ] at hk; omega)
        simp only [List.length_append, List.length_singleton]; omega
theorem num_of_itoa {n : Nat} (h : n < 1000) : numOk (itoa (n : Int)) = true ∧ numV (itoa (n : Int)) = n := by
  rw [itoa_nat]; exact digits_small ⟨n, h⟩
/-- What the reference takes for a number: its text is that of what Atoi reads. -/
theorem small_iff {s : List UInt8} {n : Int} (ha : atoiE s = (n, true)) (h0 : 0 ≤ n) (hl : s.length ≤ 3) (hs : itoa n = s) : numOk s = true ∧ (numV s : Int) = n := by
  obtain ⟨u, rfl⟩ : ∃ u : Nat, n = (u : Int) := ⟨n.toNat, by omega⟩
  have hu : u < 1000 := by
    apply Nat.lt_of_not_le
    intro hge
    have := dec_big u 3 hge
    rw [← itoa_nat, hs] at this; omega
  have := num_of_itoa hu
  rw [hs] at this
  exact ⟨this.1, by rw [this.2]⟩
theorem small_of {s : List UInt8} (h : numOk s = true) : atoiE s = ((numV s : Int), true) ∧ s.length ≤ 3 ∧ itoa (numV s : Int) = s := by
  obtain ⟨n, hn, rfl⟩ := num_itoa h
  have h2 := num_of_itoa hn
  refine ⟨by rw [h2.2]; exact atoi_itoa (by omega) (by omega), ?_, by rw [h2.2]⟩
  unfold numOk at h
  simp only [Bool.and_eq_true, decide_eq_true_eq] at h
  exact h.2.1
/-! ### Rules -/
def rn (dn : Bool) (ro : Ws) (acs : List Int) (las : Ws) (fr tt nd : Int) (ofr : List UInt8) : RuleD := ⟨dn, none, ro, 0, none, acs, 0, none, las, 0, fr, tt, nd, ofr⟩
def actsOk (l : Ws) : Bool := l.all fun s => decide (s ∈ actW)
def actsV (l : Ws) : List Int := l.map fun s => ((actW.idxOf s : Nat) : Int) + 1
def hoursOk (s : List UInt8) : Bool := (cut s [45]).2.2 && (numOk (cut s [45]).1 && numOk (cut s [45]).2.1)
def hrA (s : List UInt8) : Int := (numE (cut s [45]).1 : Nat)
def hrB (s : List UInt8) : Int := (numE (cut s [45]).2.1 : Nat)
def wk1 (ws : Ws) : Ws := secR kROLE ws
def wk2 (ws : Ws) : Ws := secR kACT (wk1 ws)
def wk3 (ws : Ws) : Ws := secR kON (wk2 ws)
def wk4 (ws : Ws) : Ws := secR kAT (wk3 ws)
def wk5 (ws : Ws) : Ws := secR kNEED (wk4 ws)
def atOk (ws : Ws) : Bool := !headIs kAT (wk3 ws) || (decide ((secA kAT (wk3 ws)).length = 1) && hoursOk (gt (secA kAT (wk3 ws)) 0))
def needOk (ws : Ws) : Bool := !headIs kNEED (wk4 ws) || (decide ((secA kNEED (wk4 ws)).length = 2) && numOk (gt (secA kNEED (wk4 ws)) 0))
def frT (ws : Ws) : Int := if headIs kAT (wk3 ws) = true then hrA (gt (secA kAT (wk3 ws)) 0) else 0
def toT (ws : Ws) : Int := if headIs kAT (wk3 ws) = true then hrB (gt (secA kAT (wk3 ws)) 0) else 0
def ndT (ws : Ws) : Int := if headIs kNEED (wk4 ws) = true then ((numE (gt (secA kNEED (wk4 ws)) 0) : Nat) : Int) else 0
def ofT (ws : Ws) : List UInt8 := if headIs kNEED (wk4 ws) = true then gt (secA kNEED (wk4 ws)) 1 else []
/-- Is all well behind allow or deny, part for part. -/
def ok1 (ws : Ws) : Bool := secOk kROLE ws
def ok2 (ws : Ws) : Bool := ok1 ws && (secOk kACT (wk1 ws) && actsOk (secA kACT (wk1 ws)))
def ok3 (ws : Ws) : Bool := ok2 ws && secOk kON (wk2 ws)
def ok4 (ws : Ws) : Bool := ok3 ws && atOk ws
def ok5 (ws : Ws) : Bool := ok4 ws && needOk ws
def restOk (ws : Ws) : Bool := ok5 ws && decide (wk5 ws = [])
def restR (dn : Bool) (ws : Ws) : RuleD := rn dn (secA kROLE ws) (actsV (secA kACT (wk1 ws))) (secA kON (wk2 ws)) (frT ws) (toT ws) (ndT ws) (ofT ws)
def beginOk (ws : Ws) : Bool := headIs kDENY ws || headIs kALLOW ws
def ruleT (ws : Ws) : Option RuleD := if beginOk ws = true ∧ restOk ws.tail = true then some (restR (headIs kDENY ws) ws.tail) else none
/-! ### Texts -/
def lineW (l : List UInt8) : Ws := wordsB (ahead1 35 l)
/-- A line is empty, a rule, or wrong. -/
def lineBad (l : List UInt8) : Bool := !decide (lineW l = []) && decide (ruleT (lineW l) = none)
def lineR (l : List UInt8) : List RuleD := (ruleT (lineW l)).toList
def linesR (ls : Ws) : List RuleD := ls.flatMap lineR
theorem secR_f {k : List UInt8} {ws : Ws} (h : headIs k ws = false) : secR k ws = ws := by unfold secR; rw [h]; rfl
theorem secR_t {k : List UInt8} {ws : Ws} (h : headIs k ws = true) : secR k ws = drP ws.tail := by unfold secR; rw [h]; rfl
theorem secA_f {k : List UInt8} {ws : Ws} (h : headIs k ws = false) : secA k ws = [] := by unfold secA; rw [h]; rfl
theorem secA_t {k : List UInt8} {ws : Ws} (h : headIs k ws = true) : secA k ws = tkP ws.tail := by unfold secA; rw [h]; rfl
theorem secOk_f {k : List UInt8} {ws : Ws} (h : headIs k ws = false) : secOk k ws = true := by unfold secOk; rw [h]; rfl
theorem secOk_y {k : List UInt8} {ws : Ws} (h : headIs k ws = true) (h2 : 0 < (tkP ws.tail).length) : secOk k ws = true := by
  unfold secOk; rw [secA_t h, decide_eq_false (fun e => by rw [e] at h2; exact absurd h2 (by decide))]; simp
theorem secOk_n {k : List UInt8} {ws : Ws} (h : headIs k ws = true) (h2 : ¬ 0 < (tkP ws.tail).length) : secOk k ws = false := by
  unfold secOk; rw [h, secA_t h, decide_eq_true (List.eq_nil_of_length_eq_zero (by omega))]; rfl
theorem headIs_t {k : List UInt8} {ws : Ws} (h : 0 < ws.length) (h2 : gt ws 0 = k) : headIs k ws = true := by
  cases ws with
  | nil => simp at h
  | cons x l => exact decide_eq_true (by simpa [gt] using h2)
theorem headIs_n {k : List UInt8} {ws : Ws} (h2 : ¬ gt ws 0 = k) (h : 0 < ws.length) : headIs k ws = false := by
  cases ws with
  | nil => simp at h
  | cons x l => exact decide_eq_false (by simpa [gt] using h2)
theorem headIs_e {k : List UInt8} {ws : Ws} (h : ws.length = 0) : headIs k ws = false := by
  rw [List.eq_nil_of_length_eq_zero h]; rfl
theorem drP_le (ws : Ws) : (drP ws).length ≤ ws.length := by rw [drP_eq, List.length_drop]; omega
theorem isPart_f {s : List UInt8} (h1 : ¬ s = kROLE) (h2 : ¬ s = kACT) (h3 : ¬ s = kON) (h4 : ¬ s = kAT) (h5 : ¬ s = kNEED) : isPart s = false := decide_eq_false (by simp [h1, h2, h3, h4, h5])
theorem isPart_t {s : List UInt8} (h : s = kROLE ∨ s = kACT ∨ s = kON ∨ s = kAT ∨ s = kNEED) : isPart s = true := decide_eq_true h
theorem atOk_f {ws : Ws} (h : headIs kAT (wk3 ws) = false) : atOk ws = true := by unfold atOk; rw [h]; rfl
theorem atOk_y {ws : Ws} (h : headIs kAT (wk3 ws) = true) (h2 : (tkP (wk3 ws).tail).length = 1) : atOk ws = hoursOk (gt (tkP (wk3 ws).tail) 0) := by unfold atOk; rw [h, secA_t h, decide_eq_true h2]; rfl
theorem atOk_n {ws : Ws} (h : headIs kAT (wk3 ws) = true) (h2 : ¬ (tkP (wk3 ws).tail).length = 1) : atOk ws = false := by unfold atOk; rw [h, secA_t h, decide_eq_false h2]; rfl
theorem frT_f {ws : Ws} (h : headIs kAT (wk3 ws) = false) : frT ws = 0 ∧ toT ws = 0 := by unfold frT toT; rw [h]; exact ⟨rfl, rfl⟩
theorem frT_t {ws : Ws} (h : headIs kAT (wk3 ws) = true) : frT ws = hrA (gt (tkP (wk3 ws).tail) 0) ∧ toT ws = hrB (gt (tkP (wk3 ws).tail) 0) := by unfold frT toT; rw [h, secA_t h]; exact ⟨rfl, rfl⟩
theorem needOk_f {ws : Ws} (h : headIs kNEED (wk4 ws) = false) : needOk ws = true := by unfold needOk; rw [h]; rfl
theorem needOk_y {ws : Ws} (h : headIs kNEED (wk4 ws) = true) (h2 : (tkP (wk4 ws).tail).length = 2) : needOk ws = numOk (gt (tkP (wk4 ws).tail) 0) := by unfold needOk; rw [h, secA_t h, decide_eq_true h2]; rfl
theorem needOk_n {ws : Ws} (h : headIs kNEED (wk4 ws) = true) (h2 : ¬ (tkP (wk4 ws).tail).length = 2) : needOk ws = false := by unfold needOk; rw [h, secA_t h, decide_eq_false h2]; rfl
theorem ndT_f {ws : Ws} (h : headIs kNEED (wk4 ws) = false) : ndT ws = 0 ∧ ofT ws = [] := by unfold ndT ofT; rw [h]; exact ⟨rfl, rfl⟩
theorem ndT_t {ws : Ws} (h : headIs kNEED (wk4 ws) = true) : ndT ws = ((numE (gt (tkP (wk4 ws).tail) 0) : Nat) : Int) ∧ ofT ws = gt (tkP (wk4 ws).tail) 1 := by unfold ndT ofT; rw [h, secA_t h]; exact ⟨rfl, rfl⟩
theorem ruleT_nil : ruleT [] = none := rfl
theorem lineR_empty {l : List UInt8} (h : lineW l = []) : lineR l = [] := by rw [lineR, h, ruleT_nil]; rfl
theorem lineR_some {l : List UInt8} {r : RuleD} (h : ruleT (lineW l) = some r) : lineR l = [r] := by rw [lineR, h]; rfl
theorem linesR_step {ls : Ws} {k : Nat} (hk : k < ls.length) : linesR (ls.take (k + 1)) = linesR (ls.take k) ++ lineR (gt ls k) := by
  rw [take_gt ls k hk]; simp [linesR]
/-- What a text is read to: rules, a line, an error. -/
def PolT (l : List UInt8) (rs : List RuleD) (n : Nat) (e : Int) : Prop :=
  (65536 < l.length ∧ rs = [] ∧ n = 0 ∧ e = 5) ∨
  (l.length ≤ 65536 ∧ n < (splitC 10 l).length ∧ lineBad (gt (splitC 10 l) n) = true ∧ (∀ j, j < n → lineBad (gt (splitC 10 l) j) = false) ∧ rs = [] ∧ e = 11) ∨
  (l.length ≤ 65536 ∧ (∀ j, j < (splitC 10 l).length → lineBad (gt (splitC 10 l) j) = false) ∧ n = 0 ∧ e = polE (linesR (splitC 10 l)) ∧ rs = if polE (linesR (splitC 10 l)) = 0 then linesR (splitC 10 l) else [])
theorem polT_uniq {l : List UInt8} {r1 r2 : List RuleD} {n1 n2 : Nat} {e1 e2 : Int} (h1 : PolT l r1 n1 e1) (h2 : PolT l r2 n2 e2) : r1 = r2 ∧ n1 = n2 ∧ e1 = e2 := by
  have no : ∀ {a : Bool}, a = true → a = false → False := fun h h' => by rw [h] at h'; cases h'
  rcases h1 with ⟨a, rfl, rfl, rfl⟩ | ⟨a, b, c, d, rfl, rfl⟩ | ⟨a, b, rfl, rfl, rfl⟩ <;> rcases h2 with ⟨a', rfl, rfl, rfl⟩ | ⟨a', b', c', d', rfl, rfl⟩ | ⟨a', b', rfl, rfl, rfl⟩
  · exact ⟨rfl, rfl, rfl⟩
  · omega
  · omega
  · omega
  · refine ⟨rfl, ?_, rfl⟩
    rcases Nat.lt_trichotomy n1 n2 with hij | hij | hij
    · exact (no c (d' _ hij)).elim
    · exact hij
    · exact (no c' (d _ hij)).elim
  · exact (no c (b' _ b)).elim
  · omega
  · exact (no c' (b _ b')).elim
  · exact ⟨rfl, rfl, rfl⟩
theorem PolT.large {l : List UInt8} (h : 65536 < l.length) : PolT l [] 0 5 := .inl ⟨h, rfl, rfl, rfl⟩
theorem PolT.wrong {l : List UInt8} {i : Nat} (h : l.length ≤ 65536) (hi : i < (splitC 10 l).length) (hb : lineBad (gt (splitC 10 l) i) = true) (hno : ∀ j, j < i → lineBad (gt (splitC 10 l) j) = false) : PolT l [] i 11 := .inr (.inl ⟨h, hi, hb, hno, rfl, rfl⟩)
theorem PolT.bad {l : List UInt8} (h : l.length ≤ 65536) (hno : ∀ j, j < (splitC 10 l).length → lineBad (gt (splitC 10 l) j) = false) (he : ¬ polE (linesR (splitC 10 l)) = 0) : PolT l [] 0 (polE (linesR (splitC 10 l))) := .inr (.inr ⟨h, hno, rfl, rfl, (if_neg he).symm⟩)
theorem PolT.good {l : List UInt8} (h : l.length ≤ 65536) (hno : ∀ j, j < (splitC 10 l).length → lineBad (gt (splitC 10 l) j) = false) (he : polE (linesR (splitC 10 l)) = 0) : PolT l (linesR (splitC 10 l)) 0 0 := .inr (.inr ⟨h, hno, rfl, he.symm, (if_pos he).symm⟩)
end Go.Kw
