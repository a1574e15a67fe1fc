/- What the law's proof leans on. No condition. -/
import Derived.Test.YtmonnmndphlkaaaGreatPPdAH
import Derived.Test.YtmonnmndphlkaaaGreatPPdBA
import Derived.Test.YtmonnmndphlkaaaGreatPPdAQ
namespace Go.Proofs.YtmonnmndphlkaaaGreat
open Go.Kw
set_option linter.unusedVariables false
set_option linter.unusedSimpArgs false
set_option maxRecDepth 100000
theorem indexFuncS_ok (l : List (List UInt8)) (a : Option Addr) (n c : Nat) (g : Nat) (lb : List Value) (p : List UInt8 → Bool) (w : World) (hb : Row w a (l.map sv)) (hl : l.length = n) (hn : n ≤ 140737488351232) (hg : FnOk Tryz.prog g) (H : ∀ x w', x ∈ l → St w [] w' [] → Ret Tryz.prog g ([sv x] ++ lb) w' (fun v w'' => v = .bool (p x) ∧ St w' [] w'' [])) :
    Ret Tryz.prog 82 [.slice a n c, .func (.func g) #[] lb.toArray] w (fun v w' => (l.any p = true ∧ (∃ i : Nat, v = vi i) ∧ St w [] w' []) ∨ (l.any p = false ∧ v = .int .i64 (-1) ∧ St w [] w' [])) := by
  subst hl
  refine enter Tryz.func82 rfl Tryz.ntmps82 rfl ?_
  have hS := St.refl w []
  refine c_seq ?_; refine c_region ?_; refine wl_val (r_assign (v := .int .i64 0) rfl) rfl ?_; refine wl_nil ?_; refine c_then ?_; refine c_seq ?_; refine c_seq ?_; refine c_region ?_; refine wl_val (r_move (v := .slice _ _ _) rfl) rfl ?_; refine wl_val (r_len (T := 36) rfl ti36.und rfl _ rfl) rfl ?_; refine wl_val (r_move (v := .int .i64 0) rfl) rfl ?_; refine wl_nil ?_; refine c_then ?_; refine c_block ?_; refine c_loopE [0, 1, 7] (fun d e w' => ∃ (k : Nat), Kw.look e 8 = vi k ∧ d = l.length - k ∧ St w [] w' [] ∧ (k ≤ l.length) ∧ ((l.take k).any p = false)) (l.length - 0) ?_ ?_
  · exact ⟨0, rfl, rfl, hS, Nat.zero_le _, rfl⟩
  · rintro d4 e1 w2 ⟨k, hc0_8, rfl, hS3, hk, hany⟩ -
    refine c_set (d := 8) hc0_8 ?_; refine c_seq ?_; refine c_region ?_
    refine wl_dec (r_lss rfl rfl) rfl (fun h2_0 => ?_) (fun h2_0 => ?_)
    · refine wl_nil ?_
      refine c_then ?_; refine c_seq ?_; refine c_true rfl ?_; refine wp_skip ?_; refine c_then ?_; refine c_seq ?_; refine c_block ?_; refine c_seq ?_; refine c_region ?_; refine wl_val (r_move (v := .int .i64 _) rfl) rfl ?_; refine wl_val (r_assign (v := .int .i64 _) rfl) rfl ?_; refine wl_nil ?_; refine c_then ?_; refine c_seq ?_; refine c_region ?_; refine wl_val (r_move rfl) rfl ?_; refine wl_val (r_move (v := .slice _ _ _) rfl) rfl ?_; refine wl_val (r_move (v := .int .i64 _) rfl) rfl ?_; refine wl_val (r_ixS ti36.und ti9 rfl rfl (hb.st hS3) (by first | omega | (simp [*]; done) | (simp [*] <;> omega)) (by first | (simp [*]; done) | (simp [*] <;> omega) | omega)) rfl ?_; refine wl_val (r_loadS1 ti9.und rfl rfl (hb.st hS3) (by rw [Nat.mul_one]; exact map_gt _ _ _ (by first | omega | (simp [*]; done) | (simp [*] <;> omega)))) rfl ?_; refine wl_call (r_callDyn hg rfl rfl) rfl ((H (gt l k) _ (gt_mem l k (by omega)) hS3.fin).br) ?_
      rintro _ w5 (⟨hpx, rfl, hx6⟩ | ⟨hpx, rfl, hx6⟩)
      · have hS7 := hS3.ext hx6
        refine wl_nil ?_; refine c_then ?_; refine c_true rfl ?_; refine c_seq ?_; refine c_region ?_; refine wl_val (r_move (v := .int .i64 _) rfl) rfl ?_; refine wl_val (r_assign (v := .int .i64 _) rfl) rfl ?_; refine wl_nil ?_; refine c_then ?_; refine wp_ret ?_; refine c_inR ?_; refine c_thenR ?_; refine c_thenR ?_; refine c_inR ?_; refine c_thenR ?_; refine ret1 Tryz.results82 ?_
        first | exact .inl ⟨any_here (by omega) hpx, ⟨_, rfl⟩, hS7.fin⟩ | (obtain rfl : k = l.length := (by omega); rw [List.take_length] at hany; exact .inr ⟨hany, rfl, hS7.fin⟩)
      have hS7 := hS3.ext hx6
      refine wl_nil ?_; refine c_then ?_; refine c_false rfl ?_; refine wp_skip ?_; refine c_inN ?_; refine c_then ?_; refine c_region ?_; refine wl_val (r_addn (b := 1) rfl rfl (by omega)) rfl ?_; refine wl_val (r_move (v := .int .i64 _) rfl) rfl ?_; refine wl_nil ?_; refine c_then ?_
      exact ⟨l.length - (k + 1), _, by omega, rfl, ⟨k + 1, rfl, rfl, hS7, by omega, any_step (by omega) hany hpx⟩, ⟨rfl, rfl, rfl, trivial⟩⟩
    refine wl_nil ?_; refine c_then ?_; refine c_seq ?_; refine c_false rfl ?_; refine wp_exit ?_; refine c_thenE ?_; refine c_thenE ?_; refine c_inE ?_; refine c_then ?_; refine c_seq ?_; refine c_region ?_; refine wl_val (r_assign (v := .int .i64 (-1)) rfl) rfl ?_; refine wl_nil ?_; refine c_then ?_; refine wp_ret ?_; refine ret1 Tryz.results82 ?_
    first | exact .inl ⟨any_here (by omega) hpx, ⟨_, rfl⟩, hS3.fin⟩ | (obtain rfl : k = l.length := (by omega); rw [List.take_length] at hany; exact .inr ⟨hany, rfl, hS3.fin⟩)

theorem containsFuncS_ok (l : List (List UInt8)) (a : Option Addr) (n c : Nat) (g : Nat) (lb : List Value) (p : List UInt8 → Bool) (w : World) (hb : Row w a (l.map sv)) (hl : l.length = n) (hn : n ≤ 140737488351232) (hg : FnOk Tryz.prog g) (H : ∀ x w', x ∈ l → St w [] w' [] → Ret Tryz.prog g ([sv x] ++ lb) w' (fun v w'' => v = .bool (p x) ∧ St w' [] w'' [])) :
    Ret Tryz.prog 53 [.slice a n c, .func (.func g) #[] lb.toArray] w (fun v w' => (l.any p = true ∧ v = .bool true ∧ St w [] w' []) ∨ (l.any p = false ∧ v = .bool false ∧ St w [] w' [])) := by
  refine enter Tryz.func53 rfl Tryz.ntmps53 rfl ?_
  have hS := St.refl w []
  refine c_seq ?_; refine c_region ?_; refine wl_val (r_assign (v := .bool false) rfl) rfl ?_; refine wl_nil ?_; refine c_then ?_; refine c_seq ?_; refine c_region ?_; refine wl_val (r_move (v := .slice _ _ _) rfl) rfl ?_; refine wl_val (r_move rfl) rfl ?_; refine wl_call (r_call fn82 rfl rfl) rfl (indexFuncS_ok l a n c g lb p _ (hb.st hS) hl hn hg (fun x w' hx h' => H x w' hx (hS.ext h').fin)) ?_
  rintro _ w1 (⟨hany, ⟨ix, rfl⟩, hx2⟩ | ⟨hany, rfl, hx2⟩)
  · have hS3 := hS.ext hx2
    refine wl_dec_t (r_geq rfl rfl) rfl (by omega) ?_; refine wl_val (r_assign (v := .bool _) rfl) rfl ?_; refine wl_nil ?_; refine c_then ?_; refine wp_ret ?_; refine ret1 Tryz.results53 ?_
    first | exact .inl ⟨by assumption, rfl, hS3.fin⟩ | exact .inr ⟨by assumption, rfl, hS3.fin⟩
  have hS3 := hS.ext hx2
  refine wl_dec_f (r_geq rfl rfl) rfl (by decide) ?_; refine wl_val (r_assign (v := .bool _) rfl) rfl ?_; refine wl_nil ?_; refine c_then ?_; refine wp_ret ?_; refine ret1 Tryz.results53 ?_
  first | exact .inl ⟨by assumption, rfl, hS3.fin⟩ | exact .inr ⟨by assumption, rfl, hS3.fin⟩

theorem indexS_ok (l : List (List UInt8)) (a : Option Addr) (n c : Nat) (x : List UInt8) (w : World) (hb : Row w a (l.map sv)) (hl : l.length = n) (hn : n ≤ 140737488351232) :
    Ret Tryz.prog 111 [.slice a n c, sv x] w (fun v w' => (x ∈ l ∧ (∃ i : Nat, v = vi i) ∧ St w [] w' []) ∨ (¬ x ∈ l ∧ v = .int .i64 (-1) ∧ St w [] w' [])) := by
  subst hl
  refine enter Tryz.func111 rfl Tryz.ntmps111 rfl ?_
  have hS := St.refl w []
  refine c_seq ?_; refine c_region ?_; refine wl_val (r_assign (v := .int .i64 0) rfl) rfl ?_; refine wl_nil ?_; refine c_then ?_; refine c_seq ?_; refine c_seq ?_; refine c_region ?_; refine wl_val (r_move (v := .slice _ _ _) rfl) rfl ?_; refine wl_val (r_len (T := 36) rfl ti36.und rfl _ rfl) rfl ?_; refine wl_val (r_move (v := .int .i64 0) rfl) rfl ?_; refine wl_nil ?_; refine c_then ?_; refine c_block ?_; refine c_loopE [0, 1, 7] (fun d e w' => ∃ (k : Nat), Kw.look e 8 = vi k ∧ d = l.length - k ∧ St w [] w' [] ∧ (k ≤ l.length) ∧ (¬ x ∈ l.take k)) (l.length - 0) ?_ ?_
  · exact ⟨0, rfl, rfl, hS, Nat.zero_le _, by simp⟩
  · rintro d4 e1 w2 ⟨k, hc0_8, rfl, hS3, hk, hnm⟩ -
    refine c_set (d := 8) hc0_8 ?_; refine c_seq ?_; refine c_region ?_
    refine wl_dec (r_lss rfl rfl) rfl (fun h2_0 => ?_) (fun h2_0 => ?_)
    · refine wl_nil ?_
      refine c_then ?_; refine c_seq ?_; refine c_true rfl ?_; refine wp_skip ?_; refine c_then ?_; refine c_seq ?_; refine c_block ?_; refine c_seq ?_; refine c_region ?_; refine wl_val (r_move (v := .int .i64 _) rfl) rfl ?_; refine wl_val (r_assign (v := .int .i64 _) rfl) rfl ?_; refine wl_nil ?_; refine c_then ?_; refine c_seq ?_; refine c_region ?_; refine wl_val (r_move (v := .string _) rfl) rfl ?_; refine wl_val (r_move (v := .slice _ _ _) rfl) rfl ?_; refine wl_val (r_move (v := .int .i64 _) rfl) rfl ?_; refine wl_val (r_ixS ti36.und ti9 rfl rfl (hb.st hS3) (by first | omega | (simp [*]; done) | (simp [*] <;> omega)) (by first | (simp [*]; done) | (simp [*] <;> omega) | omega)) rfl ?_; refine wl_val (r_loadS1 ti9.und rfl rfl (hb.st hS3) (by rw [Nat.mul_one]; exact map_gt _ _ _ (by first | omega | (simp [*]; done) | (simp [*] <;> omega)))) rfl ?_
      refine wl_dec (r_eqlStrL rfl rfl) rfl (fun h4_5 => ?_) (fun h4_5 => ?_)
      · refine wl_nil ?_
        refine c_then ?_; refine c_true rfl ?_; refine c_seq ?_; refine c_region ?_; refine wl_val (r_move (v := .int .i64 _) rfl) rfl ?_; refine wl_val (r_assign (v := .int .i64 _) rfl) rfl ?_; refine wl_nil ?_; refine c_then ?_; refine wp_ret ?_; refine c_inR ?_; refine c_thenR ?_; refine c_thenR ?_; refine c_inR ?_; refine c_thenR ?_; refine ret1 Tryz.results111 ?_
        first | exact .inl ⟨by rw [h4_5]; exact gt_mem l k (by omega), ⟨_, rfl⟩, hS3.fin⟩ | (obtain rfl : k = l.length := (by omega); rw [List.take_length] at hnm; exact .inr ⟨hnm, rfl, hS3.fin⟩)
      refine wl_nil ?_; refine c_then ?_; refine c_false rfl ?_; refine wp_skip ?_; refine c_inN ?_; refine c_then ?_; refine c_region ?_; refine wl_val (r_addn (b := 1) rfl rfl (by omega)) rfl ?_; refine wl_val (r_move (v := .int .i64 _) rfl) rfl ?_; refine wl_nil ?_; refine c_then ?_
      exact ⟨l.length - (k + 1), _, by omega, rfl, ⟨k + 1, rfl, rfl, hS3, by omega, notmem_step (by omega) hnm h4_5⟩, ⟨rfl, rfl, rfl, trivial⟩⟩
    refine wl_nil ?_; refine c_then ?_; refine c_seq ?_; refine c_false rfl ?_; refine wp_exit ?_; refine c_thenE ?_; refine c_thenE ?_; refine c_inE ?_; refine c_then ?_; refine c_seq ?_; refine c_region ?_; refine wl_val (r_assign (v := .int .i64 (-1)) rfl) rfl ?_; refine wl_nil ?_; refine c_then ?_; refine wp_ret ?_; refine ret1 Tryz.results111 ?_
    first | exact .inl ⟨by rw [h4_5]; exact gt_mem l k (by omega), ⟨_, rfl⟩, hS3.fin⟩ | (obtain rfl : k = l.length := (by omega); rw [List.take_length] at hnm; exact .inr ⟨hnm, rfl, hS3.fin⟩)

theorem containsS_ok (l : List (List UInt8)) (a : Option Addr) (n c : Nat) (x : List UInt8) (w : World) (hb : Row w a (l.map sv)) (hl : l.length = n) (hn : n ≤ 140737488351232) :
    Ret Tryz.prog 70 [.slice a n c, sv x] w (fun v w' => (x ∈ l ∧ v = .bool true ∧ St w [] w' []) ∨ (¬ x ∈ l ∧ v = .bool false ∧ St w [] w' [])) := by
  refine enter Tryz.func70 rfl Tryz.ntmps70 rfl ?_
  have hS := St.refl w []
  refine c_seq ?_; refine c_region ?_; refine wl_val (r_assign (v := .bool false) rfl) rfl ?_; refine wl_nil ?_; refine c_then ?_; refine c_seq ?_; refine c_region ?_; refine wl_val (r_move (v := .slice _ _ _) rfl) rfl ?_; refine wl_val (r_move (v := .string _) rfl) rfl ?_; refine wl_call (r_call fn111 rfl rfl) rfl (indexS_ok l a n c x _ (hb.st hS) hl hn) ?_
  rintro _ w1 (⟨hany, ⟨ix, rfl⟩, hx2⟩ | ⟨hany, rfl, hx2⟩)
  · have hS3 := hS.ext hx2
    refine wl_dec_t (r_geq rfl rfl) rfl (by omega) ?_; refine wl_val (r_assign (v := .bool _) rfl) rfl ?_; refine wl_nil ?_; refine c_then ?_; refine wp_ret ?_; refine ret1 Tryz.results70 ?_
    first | exact .inl ⟨by assumption, rfl, hS3.fin⟩ | exact .inr ⟨by assumption, rfl, hS3.fin⟩
  have hS3 := hS.ext hx2
  refine wl_dec_f (r_geq rfl rfl) rfl (by decide) ?_; refine wl_val (r_assign (v := .bool _) rfl) rfl ?_; refine wl_nil ?_; refine c_then ?_; refine wp_ret ?_; refine ret1 Tryz.results70 ?_
  first | exact .inl ⟨by assumption, rfl, hS3.fin⟩ | exact .inr ⟨by assumption, rfl, hS3.fin⟩

theorem twiceS_ok (l : List (List UInt8)) (a : Option Addr) (n c : Nat) (w : World) (hb : Row w a (l.map sv)) (hl : l.length = n) (hn : n ≤ 140737488351232) (hc : n ≤ c) :
    Ret Tryz.prog 119 [.slice a n c] w (fun v w' => (¬ l.Nodup ∧ v = .bool true ∧ St w [] w' []) ∨ (l.Nodup ∧ v = .bool false ∧ St w [] w' [])) := by
  subst hl
  refine enter Tryz.func119 rfl Tryz.ntmps119 rfl ?_
  have hS := St.refl w []
  refine c_seq ?_; refine c_region ?_; refine wl_val (r_assign (v := .bool false) rfl) rfl ?_; refine wl_nil ?_; refine c_then ?_; refine c_seq ?_; refine c_region ?_; refine wl_exv (x_makeMap sv hS) rfl ?_; rintro _ w1 ⟨b6, rfl, hS2⟩; refine wl_val (r_assign (v := .map _) rfl) rfl ?_; refine wl_nil ?_; refine c_then ?_; refine c_seq ?_; refine c_seq ?_; refine c_region ?_; refine wl_val (r_move (v := .slice _ _ _) rfl) rfl ?_; refine wl_val (r_len (T := 36) rfl ti36.und rfl _ rfl) rfl ?_; refine wl_val (r_move (v := .int .i64 0) rfl) rfl ?_; refine wl_nil ?_; refine c_then ?_; refine c_block ?_; refine c_loopE [3, 7, 8] (fun d e w' => ∃ (k : Nat), Kw.look e 9 = vi k ∧ d = l.length - k ∧ St w [] w' [.blk b6 (ents sv (l.take k))] ∧ (k ≤ l.length) ∧ ((l.take k).Nodup)) (l.length - 0) ?_ ?_
  · exact ⟨0, rfl, rfl, hS2, Nat.zero_le _, List.nodup_nil⟩
  · rintro d6 e3 w4 ⟨k, hc0_9, rfl, hS5, hk, hnd⟩ -
    refine c_set (d := 9) hc0_9 ?_; refine c_seq ?_; refine c_region ?_
    refine wl_dec (r_lss rfl rfl) rfl (fun h3_0 => ?_) (fun h3_0 => ?_)
    · refine wl_nil ?_
      refine c_then ?_; refine c_seq ?_; refine c_true rfl ?_; refine wp_skip ?_; refine c_then ?_; refine c_seq ?_; refine c_block ?_; refine c_seq ?_; refine c_region ?_; refine wl_val (r_ixS ti36.und ti9 rfl rfl (hb.st hS5) (by first | omega | (simp [*]; done) | (simp [*] <;> omega)) (by first | (simp [*]; done) | (simp [*] <;> omega) | omega)) rfl ?_; refine wl_val (r_loadS1 ti9.und rfl rfl (hb.st hS5) (by rw [Nat.mul_one]; exact map_gt _ _ _ (by first | omega | (simp [*]; done) | (simp [*] <;> omega)))) rfl ?_; refine wl_val (r_assign (v := .string _) rfl) rfl ?_; refine wl_nil ?_; refine c_then ?_; refine c_seq ?_; refine c_seq ?_; refine c_region ?_; refine wl_val (r_move (v := .map _) rfl) rfl ?_; refine wl_val (r_move (v := .string _) rfl) rfl ?_
      refine wl_dec (r_lookupB (f := sv) (d := .string) (fun _ => trivial) (fun _ _ => sv_inj) ti142.und ti9.und ti4 rfl rfl (hS5.heap (.head _))) rfl (fun h5_2 => ?_) (fun h5_2 => ?_)
      · refine wl_nil ?_
        refine c_then ?_; refine c_true rfl ?_; refine c_seq ?_; refine c_region ?_; refine wl_val (r_assign (v := .bool true) rfl) rfl ?_; refine wl_nil ?_; refine c_then ?_; refine wp_ret ?_; refine c_thenR ?_; refine c_inR ?_; refine c_thenR ?_; refine c_thenR ?_; refine c_inR ?_; refine c_thenR ?_; refine ret1 Tryz.results119 ?_
        first | exact .inl ⟨nodup_no (by omega) h5_2, rfl, hS5.fin⟩ | (obtain rfl : k = l.length := (by omega); rw [List.take_length] at hnd; exact .inr ⟨hnd, rfl, hS5.fin⟩)
      refine wl_nil ?_; refine c_then ?_; refine c_false rfl ?_; refine wp_skip ?_; refine c_then ?_; refine c_region ?_; refine wl_val (r_move (v := .map _) rfl) rfl ?_; refine wl_val (r_move (v := .string _) rfl) rfl ?_; refine wl_exs (x_mapAdd (f := sv) (d := .string) [] hS5 (fun _ => trivial) (fun _ _ => sv_inj) ti142.und ti9.und rfl rfl rfl (by assumption)) rfl ?_; intro w7 hS8; simp only [List.cons_append, List.nil_append] at hS8; refine wl_nil ?_; refine c_inN ?_; refine c_then ?_; refine c_region ?_; refine wl_val (r_addn (b := 1) rfl rfl (by omega)) rfl ?_; refine wl_val (r_move (v := .int .i64 _) rfl) rfl ?_; refine wl_nil ?_; refine c_then ?_
      rw [← take_gt l k (by omega)] at hS8
      exact ⟨l.length - (k + 1), _, by omega, rfl, ⟨k + 1, rfl, rfl, hS8, by omega, nodup_step (by omega) hnd h5_2⟩, ⟨rfl, rfl, rfl, trivial⟩⟩
    refine wl_nil ?_; refine c_then ?_; refine c_seq ?_; refine c_false rfl ?_; refine wp_exit ?_; refine c_thenE ?_; refine c_thenE ?_; refine c_inE ?_; refine c_then ?_; refine c_seq ?_; refine c_region ?_; refine wl_val (r_assign (v := .bool false) rfl) rfl ?_; refine wl_nil ?_; refine c_then ?_; refine wp_ret ?_; refine ret1 Tryz.results119 ?_
    first | exact .inl ⟨nodup_no (by omega) h5_2, rfl, hS5.fin⟩ | (obtain rfl : k = l.length := (by omega); rw [List.take_length] at hnd; exact .inr ⟨hnd, rfl, hS5.fin⟩)

theorem rtwiceS_ok (l : List (List UInt8)) (a : Option Addr) (n c : Nat) (w : World) (hb : Row w a (l.map sv)) (hl : l.length = n) (hn : n ≤ 140737488351232) (hc : n ≤ c) :
    Ret Tryz.prog 59 [.slice a n c] w (fun v w' => (¬ l.Nodup ∧ v = .bool true ∧ St w [] w' []) ∨ (l.Nodup ∧ v = .bool false ∧ St w [] w' [])) := by
  subst hl
  refine enter Tryz.func59 rfl Tryz.ntmps59 rfl ?_
  have hS := St.refl w []
  refine c_seq ?_; refine c_region ?_; refine wl_val (r_assign (v := .bool false) rfl) rfl ?_; refine wl_nil ?_; refine c_then ?_; refine c_seq ?_; refine c_seq ?_; refine c_region ?_; refine wl_val (r_move (v := .slice _ _ _) rfl) rfl ?_; refine wl_val (r_len (T := 36) rfl ti36.und rfl _ rfl) rfl ?_; refine wl_val (r_move (v := .int .i64 0) rfl) rfl ?_; refine wl_nil ?_; refine c_then ?_; refine c_block ?_; refine c_loopE [0, 5, 6] (fun d e w' => ∃ (k : Nat), Kw.look e 7 = vi k ∧ d = l.length - k ∧ St w [] w' [] ∧ (k ≤ l.length) ∧ ((l.take k).Nodup)) (l.length - 0) ?_ ?_
  · exact ⟨0, rfl, rfl, hS, Nat.zero_le _, List.nodup_nil⟩
  · rintro d4 e1 w2 ⟨k, hc0_7, rfl, hS3, hk, hnd⟩ -
    refine c_set (d := 7) hc0_7 ?_; refine c_seq ?_; refine c_region ?_
    refine wl_dec (r_lss rfl rfl) rfl (fun h2_0 => ?_) (fun h2_0 => ?_)
    · refine wl_nil ?_
      refine c_then ?_; refine c_seq ?_; refine c_true rfl ?_; refine wp_skip ?_; refine c_then ?_; refine c_seq ?_; refine c_block ?_; refine c_seq ?_; refine c_region ?_; refine wl_val (r_move (v := .int .i64 _) rfl) rfl ?_; refine wl_val (r_ixS ti36.und ti9 rfl rfl (hb.st hS3) (by first | omega | (simp [*]; done) | (simp [*] <;> omega)) (by first | (simp [*]; done) | (simp [*] <;> omega) | omega)) rfl ?_; refine wl_val (r_loadS1 ti9.und rfl rfl (hb.st hS3) (by rw [Nat.mul_one]; exact map_gt _ _ _ (by first | omega | (simp [*]; done) | (simp [*] <;> omega)))) rfl ?_; refine wl_val (r_assign (v := .int .i64 _) rfl) rfl ?_; refine wl_val (r_assign (v := .string _) rfl) rfl ?_; refine wl_nil ?_; refine c_then ?_; refine c_seq ?_
      have hrk : Row w a ((l.take k).map sv) := by rw [List.map_take]; exact hb.take
      refine c_region ?_; refine wl_val (r_move (v := .slice _ _ _) rfl) rfl ?_; refine wl_val (r_move (v := .int .i64 _) rfl) rfl ?_; refine wl_val (r_sl_h ti36.und ti9 rfl rfl (by omega)) rfl ?_; refine wl_val (r_move (v := .string _) rfl) rfl ?_; refine wl_call (r_call fn70 rfl rfl) rfl (containsS_ok (l.take k) a k c (gt l k) _ (hrk.st hS3) (by rw [List.length_take]; omega) (by omega)) ?_
      rintro _ w5 (⟨hin, rfl, hx6⟩ | ⟨hin, rfl, hx6⟩)
      · have hS7 := hS3.ext hx6
        refine wl_nil ?_; refine c_then ?_; refine c_true rfl ?_; refine c_seq ?_; refine c_region ?_; refine wl_val (r_assign (v := .bool true) rfl) rfl ?_; refine wl_nil ?_; refine c_then ?_; refine wp_ret ?_; refine c_inR ?_; refine c_thenR ?_; refine c_thenR ?_; refine c_inR ?_; refine c_thenR ?_; refine ret1 Tryz.results59 ?_
        first | exact .inl ⟨nodup_no (by omega) hin, rfl, hS7.fin⟩ | (obtain rfl : k = l.length := (by omega); rw [List.take_length] at hnd; exact .inr ⟨hnd, rfl, hS7.fin⟩)
      have hS7 := hS3.ext hx6
      refine wl_nil ?_; refine c_then ?_; refine c_false rfl ?_; refine wp_skip ?_; refine c_inN ?_; refine c_then ?_; refine c_region ?_; refine wl_val (r_addn (b := 1) rfl rfl (by omega)) rfl ?_; refine wl_val (r_move (v := .int .i64 _) rfl) rfl ?_; refine wl_nil ?_; refine c_then ?_
      exact ⟨l.length - (k + 1), _, by omega, rfl, ⟨k + 1, rfl, rfl, hS7, by omega, nodup_step (by omega) hnd hin⟩, ⟨rfl, rfl, rfl, trivial⟩⟩
    refine wl_nil ?_; refine c_then ?_; refine c_seq ?_; refine c_false rfl ?_; refine wp_exit ?_; refine c_thenE ?_; refine c_thenE ?_; refine c_inE ?_; refine c_then ?_; refine c_seq ?_; refine c_region ?_; refine wl_val (r_assign (v := .bool false) rfl) rfl ?_; refine wl_nil ?_; refine c_then ?_; refine wp_ret ?_; refine ret1 Tryz.results59 ?_
    first | exact .inl ⟨nodup_no (by omega) hin, rfl, hS3.fin⟩ | (obtain rfl : k = l.length := (by omega); rw [List.take_length] at hnd; exact .inr ⟨hnd, rfl, hS3.fin⟩)

theorem indexFuncI_ok (l : List (Int)) (a : Option Addr) (n c : Nat) (g : Nat) (lb : List Value) (p : Int → Bool) (w : World) (hb : Row w a (l.map iv)) (hl : l.length = n) (hn : n ≤ 140737488351232) (hg : FnOk Tryz.prog g) (H : ∀ x w', x ∈ l → St w [] w' [] → Ret Tryz.prog g ([iv x] ++ lb) w' (fun v w'' => v = .bool (p x) ∧ St w' [] w'' [])) :
    Ret Tryz.prog 83 [.slice a n c, .func (.func g) #[] lb.toArray] w (fun v w' => (l.any p = true ∧ (∃ i : Nat, v = vi i) ∧ St w [] w' []) ∨ (l.any p = false ∧ v = .int .i64 (-1) ∧ St w [] w' [])) := by
  subst hl
  refine enter Tryz.func83 rfl Tryz.ntmps83 rfl ?_
  have hS := St.refl w []
  refine c_seq ?_; refine c_region ?_; refine wl_val (r_assign (v := .int .i64 0) rfl) rfl ?_; refine wl_nil ?_; refine c_then ?_; refine c_seq ?_; refine c_seq ?_; refine c_region ?_; refine wl_val (r_move (v := .slice _ _ _) rfl) rfl ?_; refine wl_val (r_len (T := 48) rfl ti48.und rfl _ rfl) rfl ?_; refine wl_val (r_move (v := .int .i64 0) rfl) rfl ?_; refine wl_nil ?_; refine c_then ?_; refine c_block ?_; refine c_loopE [0, 1, 7] (fun d e w' => ∃ (k : Nat), Kw.look e 8 = vi k ∧ d = l.length - k ∧ St w [] w' [] ∧ (k ≤ l.length) ∧ ((l.take k).any p = false)) (l.length - 0) ?_ ?_
  · exact ⟨0, rfl, rfl, hS, Nat.zero_le _, rfl⟩
  · rintro d4 e1 w2 ⟨k, hc0_8, rfl, hS3, hk, hany⟩ -
    refine c_set (d := 8) hc0_8 ?_; refine c_seq ?_; refine c_region ?_
    refine wl_dec (r_lss rfl rfl) rfl (fun h2_0 => ?_) (fun h2_0 => ?_)
    · refine wl_nil ?_
      refine c_then ?_; refine c_seq ?_; refine c_true rfl ?_; refine wp_skip ?_; refine c_then ?_; refine c_seq ?_; refine c_block ?_; refine c_seq ?_; refine c_region ?_; refine wl_val (r_move (v := .int .i64 _) rfl) rfl ?_; refine wl_val (r_assign (v := .int .i64 _) rfl) rfl ?_; refine wl_nil ?_; refine c_then ?_; refine c_seq ?_; refine c_region ?_; refine wl_val (r_move rfl) rfl ?_; refine wl_val (r_move (v := .slice _ _ _) rfl) rfl ?_; refine wl_val (r_move (v := .int .i64 _) rfl) rfl ?_; refine wl_val (r_ixS ti48.und ti3 rfl rfl (hb.st hS3) (by first | omega | (simp [*]; done) | (simp [*] <;> omega)) (by first | (simp [*]; done) | (simp [*] <;> omega) | omega)) rfl ?_; refine wl_val (r_loadS1 ti3.und rfl rfl (hb.st hS3) (by rw [Nat.mul_one]; exact map_gt _ _ _ (by first | omega | (simp [*]; done) | (simp [*] <;> omega)))) rfl ?_; refine wl_call (r_callDyn hg rfl rfl) rfl ((H (gt l k) _ (gt_mem l k (by omega)) hS3.fin).br) ?_
      rintro _ w5 (⟨hpx, rfl, hx6⟩ | ⟨hpx, rfl, hx6⟩)
      · have hS7 := hS3.ext hx6
        refine wl_nil ?_; refine c_then ?_; refine c_true rfl ?_; refine c_seq ?_; refine c_region ?_; refine wl_val (r_move (v := .int .i64 _) rfl) rfl ?_; refine wl_val (r_assign (v := .int .i64 _) rfl) rfl ?_; refine wl_nil ?_; refine c_then ?_; refine wp_ret ?_; refine c_inR ?_; refine c_thenR ?_; refine c_thenR ?_; refine c_inR ?_; refine c_thenR ?_; refine ret1 Tryz.results83 ?_
        first | exact .inl ⟨any_here (by omega) hpx, ⟨_, rfl⟩, hS7.fin⟩ | (obtain rfl : k = l.length := (by omega); rw [List.take_length] at hany; exact .inr ⟨hany, rfl, hS7.fin⟩)
      have hS7 := hS3.ext hx6
      refine wl_nil ?_; refine c_then ?_; refine c_false rfl ?_; refine wp_skip ?_; refine c_inN ?_; refine c_then ?_; refine c_region ?_; refine wl_val (r_addn (b := 1) rfl rfl (by omega)) rfl ?_; refine wl_val (r_move (v := .int .i64 _) rfl) rfl ?_; refine wl_nil ?_; refine c_then ?_
      exact ⟨l.length - (k + 1), _, by omega, rfl, ⟨k + 1, rfl, rfl, hS7, by omega, any_step (by omega) hany hpx⟩, ⟨rfl, rfl, rfl, trivial⟩⟩
    refine wl_nil ?_; refine c_then ?_; refine c_seq ?_; refine c_false rfl ?_; refine wp_exit ?_; refine c_thenE ?_; refine c_thenE ?_; refine c_inE ?_; refine c_then ?_; refine c_seq ?_; refine c_region ?_; refine wl_val (r_assign (v := .int .i64 (-1)) rfl) rfl ?_; refine wl_nil ?_; refine c_then ?_; refine wp_ret ?_; refine ret1 Tryz.results83 ?_
    first | exact .inl ⟨any_here (by omega) hpx, ⟨_, rfl⟩, hS3.fin⟩ | (obtain rfl : k = l.length := (by omega); rw [List.take_length] at hany; exact .inr ⟨hany, rfl, hS3.fin⟩)

theorem containsFuncI_ok (l : List (Int)) (a : Option Addr) (n c : Nat) (g : Nat) (lb : List Value) (p : Int → Bool) (w : World) (hb : Row w a (l.map iv)) (hl : l.length = n) (hn : n ≤ 140737488351232) (hg : FnOk Tryz.prog g) (H : ∀ x w', x ∈ l → St w [] w' [] → Ret Tryz.prog g ([iv x] ++ lb) w' (fun v w'' => v = .bool (p x) ∧ St w' [] w'' [])) :
    Ret Tryz.prog 55 [.slice a n c, .func (.func g) #[] lb.toArray] w (fun v w' => (l.any p = true ∧ v = .bool true ∧ St w [] w' []) ∨ (l.any p = false ∧ v = .bool false ∧ St w [] w' [])) := by
  refine enter Tryz.func55 rfl Tryz.ntmps55 rfl ?_
  have hS := St.refl w []
  refine c_seq ?_; refine c_region ?_; refine wl_val (r_assign (v := .bool false) rfl) rfl ?_; refine wl_nil ?_; refine c_then ?_; refine c_seq ?_; refine c_region ?_; refine wl_val (r_move (v := .slice _ _ _) rfl) rfl ?_; refine wl_val (r_move rfl) rfl ?_; refine wl_call (r_call fn83 rfl rfl) rfl (indexFuncI_ok l a n c g lb p _ (hb.st hS) hl hn hg (fun x w' hx h' => H x w' hx (hS.ext h').fin)) ?_
  rintro _ w1 (⟨hany, ⟨ix, rfl⟩, hx2⟩ | ⟨hany, rfl, hx2⟩)
  · have hS3 := hS.ext hx2
    refine wl_dec_t (r_geq rfl rfl) rfl (by omega) ?_; refine wl_val (r_assign (v := .bool _) rfl) rfl ?_; refine wl_nil ?_; refine c_then ?_; refine wp_ret ?_; refine ret1 Tryz.results55 ?_
    first | exact .inl ⟨by assumption, rfl, hS3.fin⟩ | exact .inr ⟨by assumption, rfl, hS3.fin⟩
  have hS3 := hS.ext hx2
  refine wl_dec_f (r_geq rfl rfl) rfl (by decide) ?_; refine wl_val (r_assign (v := .bool _) rfl) rfl ?_; refine wl_nil ?_; refine c_then ?_; refine wp_ret ?_; refine ret1 Tryz.results55 ?_
  first | exact .inl ⟨by assumption, rfl, hS3.fin⟩ | exact .inr ⟨by assumption, rfl, hS3.fin⟩

theorem indexI_ok (l : List (Int)) (a : Option Addr) (n c : Nat) (x : Int) (w : World) (hb : Row w a (l.map iv)) (hl : l.length = n) (hn : n ≤ 140737488351232) :
    Ret Tryz.prog 112 [.slice a n c, iv x] w (fun v w' => (x ∈ l ∧ (∃ i : Nat, v = vi i) ∧ St w [] w' []) ∨ (¬ x ∈ l ∧ v = .int .i64 (-1) ∧ St w [] w' [])) := by
  subst hl
  refine enter Tryz.func112 rfl Tryz.ntmps112 rfl ?_
  have hS := St.refl w []
  refine c_seq ?_; refine c_region ?_; refine wl_val (r_assign (v := .int .i64 0) rfl) rfl ?_; refine wl_nil ?_; refine c_then ?_; refine c_seq ?_; refine c_seq ?_; refine c_region ?_; refine wl_val (r_move (v := .slice _ _ _) rfl) rfl ?_; refine wl_val (r_len (T := 48) rfl ti48.und rfl _ rfl) rfl ?_; refine wl_val (r_move (v := .int .i64 0) rfl) rfl ?_; refine wl_nil ?_; refine c_then ?_; refine c_block ?_; refine c_loopE [0, 1, 7] (fun d e w' => ∃ (k : Nat), Kw.look e 8 = vi k ∧ d = l.length - k ∧ St w [] w' [] ∧ (k ≤ l.length) ∧ (¬ x ∈ l.take k)) (l.length - 0) ?_ ?_
  · exact ⟨0, rfl, rfl, hS, Nat.zero_le _, by simp⟩
  · rintro d4 e1 w2 ⟨k, hc0_8, rfl, hS3, hk, hnm⟩ -
    refine c_set (d := 8) hc0_8 ?_; refine c_seq ?_; refine c_region ?_
    refine wl_dec (r_lss rfl rfl) rfl (fun h2_0 => ?_) (fun h2_0 => ?_)
    · refine wl_nil ?_
      refine c_then ?_; refine c_seq ?_; refine c_true rfl ?_; refine wp_skip ?_; refine c_then ?_; refine c_seq ?_; refine c_block ?_; refine c_seq ?_; refine c_region ?_; refine wl_val (r_move (v := .int .i64 _) rfl) rfl ?_; refine wl_val (r_assign (v := .int .i64 _) rfl) rfl ?_; refine wl_nil ?_; refine c_then ?_; refine c_seq ?_; refine c_region ?_; refine wl_val (r_move (v := .int .i64 _) rfl) rfl ?_; refine wl_val (r_move (v := .slice _ _ _) rfl) rfl ?_; refine wl_val (r_move (v := .int .i64 _) rfl) rfl ?_; refine wl_val (r_ixS ti48.und ti3 rfl rfl (hb.st hS3) (by first | omega | (simp [*]; done) | (simp [*] <;> omega)) (by first | (simp [*]; done) | (simp [*] <;> omega) | omega)) rfl ?_; refine wl_val (r_loadS1 ti3.und rfl rfl (hb.st hS3) (by rw [Nat.mul_one]; exact map_gt _ _ _ (by first | omega | (simp [*]; done) | (simp [*] <;> omega)))) rfl ?_
      refine wl_dec (r_eql rfl rfl) rfl (fun h4_5 => ?_) (fun h4_5 => ?_)
      · refine wl_nil ?_
        refine c_then ?_; refine c_true rfl ?_; refine c_seq ?_; refine c_region ?_; refine wl_val (r_move (v := .int .i64 _) rfl) rfl ?_; refine wl_val (r_assign (v := .int .i64 _) rfl) rfl ?_; refine wl_nil ?_; refine c_then ?_; refine wp_ret ?_; refine c_inR ?_; refine c_thenR ?_; refine c_thenR ?_; refine c_inR ?_; refine c_thenR ?_; refine ret1 Tryz.results112 ?_
        first | exact .inl ⟨by rw [h4_5]; exact gt_mem l k (by omega), ⟨_, rfl⟩, hS3.fin⟩ | (obtain rfl : k = l.length := (by omega); rw [List.take_length] at hnm; exact .inr ⟨hnm, rfl, hS3.fin⟩)
      refine wl_nil ?_; refine c_then ?_; refine c_false rfl ?_; refine wp_skip ?_; refine c_inN ?_; refine c_then ?_; refine c_region ?_; refine wl_val (r_addn (b := 1) rfl rfl (by omega)) rfl ?_; refine wl_val (r_move (v := .int .i64 _) rfl) rfl ?_; refine wl_nil ?_; refine c_then ?_
      exact ⟨l.length - (k + 1), _, by omega, rfl, ⟨k + 1, rfl, rfl, hS3, by omega, notmem_step (by omega) hnm h4_5⟩, ⟨rfl, rfl, rfl, trivial⟩⟩
    refine wl_nil ?_; refine c_then ?_; refine c_seq ?_; refine c_false rfl ?_; refine wp_exit ?_; refine c_thenE ?_; refine c_thenE ?_; refine c_inE ?_; refine c_then ?_; refine c_seq ?_; refine c_region ?_; refine wl_val (r_assign (v := .int .i64 (-1)) rfl) rfl ?_; refine wl_nil ?_; refine c_then ?_; refine wp_ret ?_; refine ret1 Tryz.results112 ?_
    first | exact .inl ⟨by rw [h4_5]; exact gt_mem l k (by omega), ⟨_, rfl⟩, hS3.fin⟩ | (obtain rfl : k = l.length := (by omega); rw [List.take_length] at hnm; exact .inr ⟨hnm, rfl, hS3.fin⟩)

theorem containsI_ok (l : List (Int)) (a : Option Addr) (n c : Nat) (x : Int) (w : World) (hb : Row w a (l.map iv)) (hl : l.length = n) (hn : n ≤ 140737488351232) :
    Ret Tryz.prog 71 [.slice a n c, iv x] w (fun v w' => (x ∈ l ∧ v = .bool true ∧ St w [] w' []) ∨ (¬ x ∈ l ∧ v = .bool false ∧ St w [] w' [])) := by
  refine enter Tryz.func71 rfl Tryz.ntmps71 rfl ?_
  have hS := St.refl w []
  refine c_seq ?_; refine c_region ?_; refine wl_val (r_assign (v := .bool false) rfl) rfl ?_; refine wl_nil ?_; refine c_then ?_; refine c_seq ?_; refine c_region ?_; refine wl_val (r_move (v := .slice _ _ _) rfl) rfl ?_; refine wl_val (r_move (v := .int .i64 _) rfl) rfl ?_; refine wl_call (r_call fn112 rfl rfl) rfl (indexI_ok l a n c x _ (hb.st hS) hl hn) ?_
  rintro _ w1 (⟨hany, ⟨ix, rfl⟩, hx2⟩ | ⟨hany, rfl, hx2⟩)
  · have hS3 := hS.ext hx2
    refine wl_dec_t (r_geq rfl rfl) rfl (by omega) ?_; refine wl_val (r_assign (v := .bool _) rfl) rfl ?_; refine wl_nil ?_; refine c_then ?_; refine wp_ret ?_; refine ret1 Tryz.results71 ?_
    first | exact .inl ⟨by assumption, rfl, hS3.fin⟩ | exact .inr ⟨by assumption, rfl, hS3.fin⟩
  have hS3 := hS.ext hx2
  refine wl_dec_f (r_geq rfl rfl) rfl (by decide) ?_; refine wl_val (r_assign (v := .bool _) rfl) rfl ?_; refine wl_nil ?_; refine c_then ?_; refine wp_ret ?_; refine ret1 Tryz.results71 ?_
  first | exact .inl ⟨by assumption, rfl, hS3.fin⟩ | exact .inr ⟨by assumption, rfl, hS3.fin⟩

theorem twiceI_ok (l : List (Int)) (a : Option Addr) (n c : Nat) (w : World) (hb : Row w a (l.map iv)) (hl : l.length = n) (hn : n ≤ 140737488351232) (hc : n ≤ c) :
    Ret Tryz.prog 120 [.slice a n c] w (fun v w' => (¬ l.Nodup ∧ v = .bool true ∧ St w [] w' []) ∨ (l.Nodup ∧ v = .bool false ∧ St w [] w' [])) := by
  subst hl
  refine enter Tryz.func120 rfl Tryz.ntmps120 rfl ?_
  have hS := St.refl w []
  refine c_seq ?_; refine c_region ?_; refine wl_val (r_assign (v := .bool false) rfl) rfl ?_; refine wl_nil ?_; refine c_then ?_; refine c_seq ?_; refine c_region ?_; refine wl_exv (x_makeMap iv hS) rfl ?_; rintro _ w1 ⟨b6, rfl, hS2⟩; refine wl_val (r_assign (v := .map _) rfl) rfl ?_; refine wl_nil ?_; refine c_then ?_; refine c_seq ?_; refine c_seq ?_; refine c_region ?_; refine wl_val (r_move (v := .slice _ _ _) rfl) rfl ?_; refine wl_val (r_len (T := 48) rfl ti48.und rfl _ rfl) rfl ?_; refine wl_val (r_move (v := .int .i64 0) rfl) rfl ?_; refine wl_nil ?_; refine c_then ?_; refine c_block ?_; refine c_loopE [3, 7, 8] (fun d e w' => ∃ (k : Nat), Kw.look e 9 = vi k ∧ d = l.length - k ∧ St w [] w' [.blk b6 (ents iv (l.take k))] ∧ (k ≤ l.length) ∧ ((l.take k).Nodup)) (l.length - 0) ?_ ?_
  · exact ⟨0, rfl, rfl, hS2, Nat.zero_le _, List.nodup_nil⟩
  · rintro d6 e3 w4 ⟨k, hc0_9, rfl, hS5, hk, hnd⟩ -
    refine c_set (d := 9) hc0_9 ?_; refine c_seq ?_; refine c_region ?_
    refine wl_dec (r_lss rfl rfl) rfl (fun h3_0 => ?_) (fun h3_0 => ?_)
    · refine wl_nil ?_
      refine c_then ?_; refine c_seq ?_; refine c_true rfl ?_; refine wp_skip ?_; refine c_then ?_; refine c_seq ?_; refine c_block ?_; refine c_seq ?_; refine c_region ?_; refine wl_val (r_ixS ti48.und ti3 rfl rfl (hb.st hS5) (by first | omega | (simp [*]; done) | (simp [*] <;> omega)) (by first | (simp [*]; done) | (simp [*] <;> omega) | omega)) rfl ?_; refine wl_val (r_loadS1 ti3.und rfl rfl (hb.st hS5) (by rw [Nat.mul_one]; exact map_gt _ _ _ (by first | omega | (simp [*]; done) | (simp [*] <;> omega)))) rfl ?_; refine wl_val (r_assign (v := .int .i64 _) rfl) rfl ?_; refine wl_nil ?_; refine c_then ?_; refine c_seq ?_; refine c_seq ?_; refine c_region ?_; refine wl_val (r_move (v := .map _) rfl) rfl ?_; refine wl_val (r_move (v := .int .i64 _) rfl) rfl ?_
      refine wl_dec (r_lookupB (f := iv) (d := .int .i64) (fun _ => rfl) (fun _ _ => iv_inj) ti149.und ti3.und ti4 rfl rfl (hS5.heap (.head _))) rfl (fun h5_2 => ?_) (fun h5_2 => ?_)
      · refine wl_nil ?_
        refine c_then ?_; refine c_true rfl ?_; refine c_seq ?_; refine c_region ?_; refine wl_val (r_assign (v := .bool true) rfl) rfl ?_; refine wl_nil ?_; refine c_then ?_; refine wp_ret ?_; refine c_thenR ?_; refine c_inR ?_; refine c_thenR ?_; refine c_thenR ?_; refine c_inR ?_; refine c_thenR ?_; refine ret1 Tryz.results120 ?_
        first | exact .inl ⟨nodup_no (by omega) h5_2, rfl, hS5.fin⟩ | (obtain rfl : k = l.length := (by omega); rw [List.take_length] at hnd; exact .inr ⟨hnd, rfl, hS5.fin⟩)
      refine wl_nil ?_; refine c_then ?_; refine c_false rfl ?_; refine wp_skip ?_; refine c_then ?_; refine c_region ?_; refine wl_val (r_move (v := .map _) rfl) rfl ?_; refine wl_val (r_move (v := .int .i64 _) rfl) rfl ?_; refine wl_exs (x_mapAdd (f := iv) (d := .int .i64) [] hS5 (fun _ => rfl) (fun _ _ => iv_inj) ti149.und ti3.und rfl rfl rfl (by assumption)) rfl ?_; intro w7 hS8; simp only [List.cons_append, List.nil_append] at hS8; refine wl_nil ?_; refine c_inN ?_; refine c_then ?_; refine c_region ?_; refine wl_val (r_addn (b := 1) rfl rfl (by omega)) rfl ?_; refine wl_val (r_move (v := .int .i64 _) rfl) rfl ?_; refine wl_nil ?_; refine c_then ?_
      rw [← take_gt l k (by omega)] at hS8
      exact ⟨l.length - (k + 1), _, by omega, rfl, ⟨k + 1, rfl, rfl, hS8, by omega, nodup_step (by omega) hnd h5_2⟩, ⟨rfl, rfl, rfl, trivial⟩⟩
    refine wl_nil ?_; refine c_then ?_; refine c_seq ?_; refine c_false rfl ?_; refine wp_exit ?_; refine c_thenE ?_; refine c_thenE ?_; refine c_inE ?_; refine c_then ?_; refine c_seq ?_; refine c_region ?_; refine wl_val (r_assign (v := .bool false) rfl) rfl ?_; refine wl_nil ?_; refine c_then ?_; refine wp_ret ?_; refine ret1 Tryz.results120 ?_
    first | exact .inl ⟨nodup_no (by omega) h5_2, rfl, hS5.fin⟩ | (obtain rfl : k = l.length := (by omega); rw [List.take_length] at hnd; exact .inr ⟨hnd, rfl, hS5.fin⟩)

theorem rtwiceI_ok (l : List (Int)) (a : Option Addr) (n c : Nat) (w : World) (hb : Row w a (l.map iv)) (hl : l.length = n) (hn : n ≤ 140737488351232) (hc : n ≤ c) :
    Ret Tryz.prog 60 [.slice a n c] w (fun v w' => (¬ l.Nodup ∧ v = .bool true ∧ St w [] w' []) ∨ (l.Nodup ∧ v = .bool false ∧ St w [] w' [])) := by
  subst hl
  refine enter Tryz.func60 rfl Tryz.ntmps60 rfl ?_
  have hS := St.refl w []
  refine c_seq ?_; refine c_region ?_; refine wl_val (r_assign (v := .bool false) rfl) rfl ?_; refine wl_nil ?_; refine c_then ?_; refine c_seq ?_; refine c_seq ?_; refine c_region ?_; refine wl_val (r_move (v := .slice _ _ _) rfl) rfl ?_; refine wl_val (r_len (T := 48) rfl ti48.und rfl _ rfl) rfl ?_; refine wl_val (r_move (v := .int .i64 0) rfl) rfl ?_; refine wl_nil ?_; refine c_then ?_; refine c_block ?_; refine c_loopE [0, 5, 6] (fun d e w' => ∃ (k : Nat), Kw.look e 7 = vi k ∧ d = l.length - k ∧ St w [] w' [] ∧ (k ≤ l.length) ∧ ((l.take k).Nodup)) (l.length - 0) ?_ ?_
  · exact ⟨0, rfl, rfl, hS, Nat.zero_le _, List.nodup_nil⟩
  · rintro d4 e1 w2 ⟨k, hc0_7, rfl, hS3, hk, hnd⟩ -
    refine c_set (d := 7) hc0_7 ?_; refine c_seq ?_; refine c_region ?_
    refine wl_dec (r_lss rfl rfl) rfl (fun h2_0 => ?_) (fun h2_0 => ?_)
    · refine wl_nil ?_
      refine c_then ?_; refine c_seq ?_; refine c_true rfl ?_; refine wp_skip ?_; refine c_then ?_; refine c_seq ?_; refine c_block ?_; refine c_seq ?_; refine c_region ?_; refine wl_val (r_move (v := .int .i64 _) rfl) rfl ?_; refine wl_val (r_ixS ti48.und ti3 rfl rfl (hb.st hS3) (by first | omega | (simp [*]; done) | (simp [*] <;> omega)) (by first | (simp [*]; done) | (simp [*] <;> omega) | omega)) rfl ?_; refine wl_val (r_loadS1 ti3.und rfl rfl (hb.st hS3) (by rw [Nat.mul_one]; exact map_gt _ _ _ (by first | omega | (simp [*]; done) | (simp [*] <;> omega)))) rfl ?_; refine wl_val (r_assign (v := .int .i64 _) rfl) rfl ?_; refine wl_val (r_assign (v := .int .i64 _) rfl) rfl ?_; refine wl_nil ?_; refine c_then ?_; refine c_seq ?_
      have hrk : Row w a ((l.take k).map iv) := by rw [List.map_take]; exact hb.take
      refine c_region ?_; refine wl_val (r_move (v := .slice _ _ _) rfl) rfl ?_; refine wl_val (r_move (v := .int .i64 _) rfl) rfl ?_; refine wl_val (r_sl_h ti48.und ti3 rfl rfl (by omega)) rfl ?_; refine wl_val (r_move (v := .int .i64 _) rfl) rfl ?_; refine wl_call (r_call fn71 rfl rfl) rfl (containsI_ok (l.take k) a k c (gt l k) _ (hrk.st hS3) (by rw [List.length_take]; omega) (by omega)) ?_
      rintro _ w5 (⟨hin, rfl, hx6⟩ | ⟨hin, rfl, hx6⟩)
      · have hS7 := hS3.ext hx6
        refine wl_nil ?_; refine c_then ?_; refine c_true rfl ?_; refine c_seq ?_; refine c_region ?_; refine wl_val (r_assign (v := .bool true) rfl) rfl ?_; refine wl_nil ?_; refine c_then ?_; refine wp_ret ?_; refine c_inR ?_; refine c_thenR ?_; refine c_thenR ?_; refine c_inR ?_; refine c_thenR ?_; refine ret1 Tryz.results60 ?_
        first | exact .inl ⟨nodup_no (by omega) hin, rfl, hS7.fin⟩ | (obtain rfl : k = l.length := (by omega); rw [List.take_length] at hnd; exact .inr ⟨hnd, rfl, hS7.fin⟩)
      have hS7 := hS3.ext hx6
      refine wl_nil ?_; refine c_then ?_; refine c_false rfl ?_; refine wp_skip ?_; refine c_inN ?_; refine c_then ?_; refine c_region ?_; refine wl_val (r_addn (b := 1) rfl rfl (by omega)) rfl ?_; refine wl_val (r_move (v := .int .i64 _) rfl) rfl ?_; refine wl_nil ?_; refine c_then ?_
      exact ⟨l.length - (k + 1), _, by omega, rfl, ⟨k + 1, rfl, rfl, hS7, by omega, nodup_step (by omega) hnd hin⟩, ⟨rfl, rfl, rfl, trivial⟩⟩
    refine wl_nil ?_; refine c_then ?_; refine c_seq ?_; refine c_false rfl ?_; refine wp_exit ?_; refine c_thenE ?_; refine c_thenE ?_; refine c_inE ?_; refine c_then ?_; refine c_seq ?_; refine c_region ?_; refine wl_val (r_assign (v := .bool false) rfl) rfl ?_; refine wl_nil ?_; refine c_then ?_; refine wp_ret ?_; refine ret1 Tryz.results60 ?_
    first | exact .inl ⟨nodup_no (by omega) hin, rfl, hS3.fin⟩ | (obtain rfl : k = l.length := (by omega); rw [List.take_length] at hnd; exact .inr ⟨hnd, rfl, hS3.fin⟩)

end Go.Proofs.YtmonnmndphlkaaaGreat
