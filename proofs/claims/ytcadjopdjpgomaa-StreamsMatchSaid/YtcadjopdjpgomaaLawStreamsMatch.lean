/- For every key, nonce, place, number and text: Stream and Cover are the reference's where it speaks, are refused where they must be, and what is covered twice is as it was; the law's function returns true and turns nothing. No condition. -/
import Derived.Test.YtcadjopdjpgomaaRows
import Derived.Test.YtcadjopdjpgomaaOpen
import Derived.Test.YtcadjopdjpgomaaMixD
namespace Go.Proofs.Ytcadjopdjpgomaa.lawStreamsMatch
open Go.Kw Go.Proofs.Ytcadjopdjpgomaa
open Go.ChangeShapes Go.WideShapes Go.ChangeAt Go.RowKit
set_option linter.unusedVariables false
set_option linter.unusedSimpArgs false
set_option maxRecDepth 100000
set_option maxHeartbeats 20000000

theorem walk (k n : List UInt8) (l : List UInt8) (a : Option Addr) (c : Nat) (p q : Int) (w : World) (hk : k.length = 32) (hn : n.length = 16) (hb : Row w a (l.map b8)) (hc : l.length ≤ c) (hp1 : -9223372036854775808 ≤ p) (hp2 : p ≤ 9223372036854775807) (hq1 : -9223372036854775808 ≤ q) (hq2 : q ≤ 9223372036854775807) :
    Ret Try.prog 6 [.agg (k.map b8).toArray, .agg (n.map b8).toArray, .int .i64 p, .int .i64 q, .slice a l.length c] w (fun v w' => v = .bool true ∧ St w [] w' []) := by
  refine enter Try.func6 rfl Try.ntmps6 rfl ?_
  have hS := St.refl w []
  refine c_seq ?_
  refine c_region ?_
  refine wl_exv (x_box hS (v := .agg _) rfl rfl) rfl ?_
  rintro _ w1 ⟨b5, rfl, hS2⟩
  refine wl_exv (x_box hS2 (v := .agg _) rfl rfl) rfl ?_
  rintro _ w3 ⟨b6, rfl, hS4⟩
  refine wl_val (r_assign (v := .bool false) rfl) rfl ?_
  refine wl_nil ?_
  refine c_then ?_
  refine c_seq ?_
  refine c_seq ?_
  refine c_region ?_
  refine wl_call (r_call fn15 rfl rfl) rfl (landed_ok _) ?_
  rintro _ w5 ⟨rfl, hx6⟩
  have hS7 := hS4.ext hx6
  refine wl_val (r_not rfl) rfl ?_
  refine wl_nil ?_
  refine c_then ?_
  refine c_false rfl ?_
  refine wp_skip ?_
  refine c_then ?_
  refine c_cut2 [4, 5, 6] (fun e w' => St w [] w' [.blk b6 (cl (n.map b8) 55), .blk b5 (cl (k.map b8) 54)]) ?_ ?_
  · refine c_region ?_
    refine wl_val (r_loadB ti54 rfl rfl (hS7.heap (.tail _ (.head _))) (by first | (simp [*]; done) | (simp [*] <;> omega) | omega)) rfl ?_
    refine wl_val (r_loadB ti55 rfl rfl (hS7.heap (.head _)) (by first | (simp [*]; done) | (simp [*] <;> omega) | omega)) rfl ?_
    refine wl_val (r_move (v := .int .i64 _) rfl) rfl ?_
    refine wl_val (r_move (v := .int .i64 _) rfl) rfl ?_
    refine wl_call (r_call fn32 rfl rfl) rfl (stream_any k n p q _ hk hn) ?_
    rintro _ w12 (⟨hbad, rfl, hx13⟩ | ⟨hbad, rfl, hx13⟩ | ⟨hgood, a23, c23, rfl, hx13⟩)
    · have hS14 := hS7.ext hx13
      refine wl_val (r_move (v := .tuple _) rfl) rfl ?_
      refine wl_val (r_extract (v := .slice _ _ _) rfl rfl) rfl ?_
      refine wl_val (r_extract (v := .int .i64 _) rfl rfl) rfl ?_
      refine wl_val (r_assign (v := .slice _ _ _) rfl) rfl ?_
      refine wl_val (r_assign (v := .int .i64 _) rfl) rfl ?_
      refine wl_nil ?_
      refine c_then ?_
      refine c_block ?_
      refine c_seq ?_
      refine c_region ?_
      refine wl_val (r_move (v := .int .i64 _) rfl) rfl ?_
      refine wl_dec (r_lss rfl rfl) rfl (fun h6_1 => ?_) (fun h6_1 => ?_)
      · refine wl_val (r_move (v := .bool _) rfl) rfl ?_
        refine wl_not rfl ?_
        refine wl_not rfl ?_
        refine wl_val (r_pick_t rfl (v := .bool true) rfl) rfl ?_
        refine wl_val (r_move (v := .bool _) rfl) rfl ?_
        refine wl_not rfl ?_
        refine wl_not rfl ?_
        refine wl_val (r_pick_t rfl (v := .bool true) rfl) rfl ?_
        refine wl_val (r_assign (v := .bool _) rfl) rfl ?_
        refine wl_nil ?_
        refine c_then ?_
        refine c_true rfl ?_
        refine c_seq ?_
        refine c_region ?_
        refine wl_val (r_move (v := .int .i64 _) rfl) rfl ?_
        refine wl_dec_f (r_neq rfl rfl) rfl (by decide) ?_
        refine wl_val (r_move (v := .bool _) rfl) rfl ?_
        refine wl_val (r_move (v := .slice _ _ _) rfl) rfl ?_
        refine wl_val (r_len (T := 26) rfl ti26.und rfl _ rfl) rfl ?_
        refine wl_dec_f (r_gtr rfl rfl) rfl (by omega) ?_
        refine wl_val (r_pick_f rfl (v := .bool _) rfl) rfl ?_
        refine wl_nil ?_
        refine c_then ?_
        refine c_false rfl ?_
        refine wp_skip ?_
        refine c_inN ?_
        refine c_then ?_
        first | exact ⟨_, rfl, hS14, ⟨rfl, rfl, rfl, trivial⟩⟩ | (exfalso; omega)
      · refine wl_val (r_move (v := .bool _) rfl) rfl ?_
        refine wl_val (r_move (v := .int .i64 _) rfl) rfl ?_
        refine wl_dec (r_gtr rfl rfl) rfl (fun h6_4 => ?_) (fun h6_4 => ?_)
        · refine wl_val (r_pick_f rfl (v := .bool _) rfl) rfl ?_
          refine wl_val (r_move (v := .bool _) rfl) rfl ?_
          refine wl_not rfl ?_
          refine wl_not rfl ?_
          refine wl_val (r_pick_t rfl (v := .bool true) rfl) rfl ?_
          refine wl_val (r_assign (v := .bool _) rfl) rfl ?_
          refine wl_nil ?_
          refine c_then ?_
          refine c_true rfl ?_
          refine c_seq ?_
          refine c_region ?_
          refine wl_val (r_move (v := .int .i64 _) rfl) rfl ?_
          refine wl_dec_f (r_neq rfl rfl) rfl (by decide) ?_
          refine wl_val (r_move (v := .bool _) rfl) rfl ?_
          refine wl_val (r_move (v := .slice _ _ _) rfl) rfl ?_
          refine wl_val (r_len (T := 26) rfl ti26.und rfl _ rfl) rfl ?_
          refine wl_dec_f (r_gtr rfl rfl) rfl (by omega) ?_
          refine wl_val (r_pick_f rfl (v := .bool _) rfl) rfl ?_
          refine wl_nil ?_
          refine c_then ?_
          refine c_false rfl ?_
          refine wp_skip ?_
          refine c_inN ?_
          refine c_then ?_
          first | exact ⟨_, rfl, hS14, ⟨rfl, rfl, rfl, trivial⟩⟩ | (exfalso; omega)
        · refine wl_val (r_pick_f rfl (v := .bool _) rfl) rfl ?_
          refine wl_val (r_move (v := .bool _) rfl) rfl ?_
          refine wl_val (r_move (v := .int .i64 _) rfl) rfl ?_
          refine wl_dec (r_lss rfl rfl) rfl (fun h6_8 => ?_) (fun h6_8 => ?_)
          · refine wl_val (r_pick_f rfl (v := .bool _) rfl) rfl ?_
            refine wl_val (r_assign (v := .bool _) rfl) rfl ?_
            refine wl_nil ?_
            refine c_then ?_
            refine c_true rfl ?_
            refine c_seq ?_
            refine c_region ?_
            refine wl_val (r_move (v := .int .i64 _) rfl) rfl ?_
            refine wl_dec_f (r_neq rfl rfl) rfl (by decide) ?_
            refine wl_val (r_move (v := .bool _) rfl) rfl ?_
            refine wl_val (r_move (v := .slice _ _ _) rfl) rfl ?_
            refine wl_val (r_len (T := 26) rfl ti26.und rfl _ rfl) rfl ?_
            refine wl_dec_f (r_gtr rfl rfl) rfl (by omega) ?_
            refine wl_val (r_pick_f rfl (v := .bool _) rfl) rfl ?_
            refine wl_nil ?_
            refine c_then ?_
            refine c_false rfl ?_
            refine wp_skip ?_
            refine c_inN ?_
            refine c_then ?_
            first | exact ⟨_, rfl, hS14, ⟨rfl, rfl, rfl, trivial⟩⟩ | (exfalso; omega)
          · refine wl_val (r_pick_f rfl (v := .bool _) rfl) rfl ?_
            refine wl_val (r_assign (v := .bool _) rfl) rfl ?_
            refine wl_nil ?_
            refine c_then ?_
            refine c_false rfl ?_
            refine c_seq ?_
            refine c_region ?_
            refine wl_val (r_move (v := .int .i64 _) rfl) rfl ?_
            refine wl_dec (r_gtr rfl rfl) rfl (fun h9_1 => ?_) (fun h9_1 => ?_)
            · refine wl_val (r_assign (v := .bool _) rfl) rfl ?_
              refine wl_nil ?_
              refine c_then ?_
              refine c_true rfl ?_
              refine c_seq ?_
              refine c_region ?_
              refine wl_val (r_move (v := .int .i64 _) rfl) rfl ?_
              refine wl_dec_t (r_neq rfl rfl) rfl (by decide) ?_
              refine wl_val (r_move (v := .bool _) rfl) rfl ?_
              refine wl_not rfl ?_
              refine wl_not rfl ?_
              refine wl_not rfl ?_
              refine wl_val (r_pick_t rfl (v := .bool true) rfl) rfl ?_
              refine wl_nil ?_
              refine c_then ?_
              refine c_true rfl ?_
              refine c_seq ?_
              refine c_region ?_
              refine wl_val (r_assign (v := .bool false) rfl) rfl ?_
              refine wl_nil ?_
              refine c_then ?_
              refine wp_ret ?_
              refine c_inR ?_
              refine c_thenR ?_
              refine ret1 Try.results6 ?_
              first | exact ⟨rfl, hS14.fin⟩ | (exfalso; omega)
            · refine wl_val (r_assign (v := .bool _) rfl) rfl ?_
              refine wl_nil ?_
              refine c_then ?_
              refine c_false rfl ?_
              refine c_seq ?_
              refine c_region ?_
              refine wl_val (r_move (v := .int .i64 _) rfl) rfl ?_
              refine wl_dec (r_gtr rfl rfl) rfl (fun h12_1 => ?_) (fun h12_1 => ?_)
              · refine wl_val (r_assign (v := .bool _) rfl) rfl ?_
                refine wl_nil ?_
                refine c_then ?_
                refine c_true rfl ?_
                refine wp_skip ?_
                refine c_inN ?_
                refine c_then ?_
                first | exact ⟨_, rfl, hS14, ⟨rfl, rfl, rfl, trivial⟩⟩ | (exfalso; omega)
              · refine wl_val (r_assign (v := .bool _) rfl) rfl ?_
                refine wl_nil ?_
                refine c_then ?_
                refine c_false rfl ?_
                refine c_seq ?_
                refine c_region ?_
                refine wl_val (r_move (v := .int .i64 _) rfl) rfl ?_
                refine wl_dec_t (r_neq rfl rfl) rfl (by decide) ?_
                refine wl_val (r_move (v := .bool _) rfl) rfl ?_
                refine wl_not rfl ?_
                refine wl_not rfl ?_
                refine wl_not rfl ?_
                refine wl_not rfl ?_
                refine wl_not rfl ?_
                refine wl_not rfl ?_
                refine wl_not rfl ?_
                refine wl_not rfl ?_
                refine wl_val (r_pick_t rfl (v := .bool true) rfl) rfl ?_
                refine wl_nil ?_
                refine c_then ?_
                refine c_true rfl ?_
                refine c_seq ?_
                refine c_region ?_
                refine wl_val (r_assign (v := .bool false) rfl) rfl ?_
                refine wl_nil ?_
                refine c_then ?_
                refine wp_ret ?_
                refine c_inR ?_
                refine c_thenR ?_
                refine ret1 Try.results6 ?_
                first | exact ⟨rfl, hS14.fin⟩ | (exfalso; omega)
    · have hS14 := hS7.ext hx13
      refine wl_val (r_move (v := .tuple _) rfl) rfl ?_
      refine wl_val (r_extract (v := .slice _ _ _) rfl rfl) rfl ?_
      refine wl_val (r_extract (v := .int .i64 _) rfl rfl) rfl ?_
      refine wl_val (r_assign (v := .slice _ _ _) rfl) rfl ?_
      refine wl_val (r_assign (v := .int .i64 _) rfl) rfl ?_
      refine wl_nil ?_
      refine c_then ?_
      refine c_block ?_
      refine c_seq ?_
      refine c_region ?_
      refine wl_val (r_move (v := .int .i64 _) rfl) rfl ?_
      refine wl_dec_f (r_lss rfl rfl) rfl (by omega) ?_
      refine wl_val (r_move (v := .bool _) rfl) rfl ?_
      refine wl_val (r_move (v := .int .i64 _) rfl) rfl ?_
      refine wl_dec_f (r_gtr rfl rfl) rfl (by omega) ?_
      refine wl_val (r_pick_f rfl (v := .bool _) rfl) rfl ?_
      refine wl_val (r_move (v := .bool _) rfl) rfl ?_
      refine wl_val (r_move (v := .int .i64 _) rfl) rfl ?_
      refine wl_dec_f (r_lss rfl rfl) rfl (by omega) ?_
      refine wl_val (r_pick_f rfl (v := .bool _) rfl) rfl ?_
      refine wl_val (r_assign (v := .bool _) rfl) rfl ?_
      refine wl_nil ?_
      refine c_then ?_
      refine c_false rfl ?_
      refine c_seq ?_
      refine c_region ?_
      refine wl_val (r_move (v := .int .i64 _) rfl) rfl ?_
      refine wl_dec_t (r_gtr rfl rfl) rfl (by omega) ?_
      refine wl_val (r_assign (v := .bool _) rfl) rfl ?_
      refine wl_nil ?_
      refine c_then ?_
      refine c_true rfl ?_
      refine c_seq ?_
      refine c_region ?_
      refine wl_val (r_move (v := .int .i64 _) rfl) rfl ?_
      refine wl_dec_f (r_neq rfl rfl) rfl (by decide) ?_
      refine wl_val (r_move (v := .bool _) rfl) rfl ?_
      refine wl_val (r_move (v := .slice _ _ _) rfl) rfl ?_
      refine wl_val (r_len (T := 26) rfl ti26.und rfl _ rfl) rfl ?_
      refine wl_dec_f (r_gtr rfl rfl) rfl (by omega) ?_
      refine wl_val (r_pick_f rfl (v := .bool _) rfl) rfl ?_
      refine wl_nil ?_
      refine c_then ?_
      refine c_false rfl ?_
      refine wp_skip ?_
      refine c_inN ?_
      refine c_then ?_
      first | exact ⟨_, rfl, hS14, ⟨rfl, rfl, rfl, trivial⟩⟩ | (exfalso; omega)
    · have hS14 := hS7.call hx13
      simp only [List.cons_append, List.nil_append] at hS14
      refine wl_val (r_move (v := .tuple _) rfl) rfl ?_
      refine wl_val (r_extract (v := .slice _ _ _) rfl rfl) rfl ?_
      refine wl_val (r_extract (v := .int .i64 _) rfl rfl) rfl ?_
      refine wl_val (r_assign (v := .slice _ _ _) rfl) rfl ?_
      refine wl_val (r_assign (v := .int .i64 _) rfl) rfl ?_
      refine wl_nil ?_
      refine c_then ?_
      refine c_block ?_
      refine c_seq ?_
      refine c_region ?_
      refine wl_val (r_move (v := .int .i64 _) rfl) rfl ?_
      refine wl_dec_f (r_lss rfl rfl) rfl (by omega) ?_
      refine wl_val (r_move (v := .bool _) rfl) rfl ?_
      refine wl_val (r_move (v := .int .i64 _) rfl) rfl ?_
      refine wl_dec_f (r_gtr rfl rfl) rfl (by omega) ?_
      refine wl_val (r_pick_f rfl (v := .bool _) rfl) rfl ?_
      refine wl_val (r_move (v := .bool _) rfl) rfl ?_
      refine wl_val (r_move (v := .int .i64 _) rfl) rfl ?_
      refine wl_dec_f (r_lss rfl rfl) rfl (by omega) ?_
      refine wl_val (r_pick_f rfl (v := .bool _) rfl) rfl ?_
      refine wl_val (r_assign (v := .bool _) rfl) rfl ?_
      refine wl_nil ?_
      refine c_then ?_
      refine c_false rfl ?_
      refine c_seq ?_
      refine c_region ?_
      refine wl_val (r_move (v := .int .i64 _) rfl) rfl ?_
      refine wl_dec_f (r_gtr rfl rfl) rfl (by omega) ?_
      refine wl_val (r_assign (v := .bool _) rfl) rfl ?_
      refine wl_nil ?_
      refine c_then ?_
      refine c_false rfl ?_
      refine c_seq ?_
      refine c_region ?_
      refine wl_val (r_move (v := .int .i64 _) rfl) rfl ?_
      refine wl_dec (r_gtr rfl rfl) rfl (fun h12_1 => ?_) (fun h12_1 => ?_)
      · refine wl_val (r_assign (v := .bool _) rfl) rfl ?_
        refine wl_nil ?_
        refine c_then ?_
        refine c_true rfl ?_
        refine wp_skip ?_
        refine c_inN ?_
        refine c_then ?_
        first | exact ⟨_, rfl, hS14.drop1, ⟨rfl, rfl, rfl, trivial⟩⟩ | (exfalso; omega)
      · refine wl_val (r_assign (v := .bool _) rfl) rfl ?_
        refine wl_nil ?_
        refine c_then ?_
        refine c_false rfl ?_
        refine c_seq ?_
        refine c_set (d := 2) (v := vi p.toNat) (congrArg (Value.int .i64) (toNat_cast (by omega)).symm) ?_
        refine c_set (d := 3) (v := vi q.toNat) (congrArg (Value.int .i64) (toNat_cast (by omega)).symm) ?_
        refine c_region ?_
        refine wl_val (r_move (v := .int .i64 _) rfl) rfl ?_
        refine wl_dec_f (r_neq rfl rfl) rfl (by decide) ?_
        refine wl_val (r_move (v := .bool _) rfl) rfl ?_
        refine wl_val (r_move (v := .slice _ _ _) rfl) rfl ?_
        refine wl_val (r_loadB ti54 rfl rfl (hS14.heap (.tail _ (.tail _ (.head _)))) (by first | (simp [*]; done) | (simp [*] <;> omega) | omega)) rfl ?_
        refine wl_val (r_loadB ti55 rfl rfl (hS14.heap (.tail _ (.head _))) (by first | (simp [*]; done) | (simp [*] <;> omega) | omega)) rfl ?_
        refine wl_val (r_move (v := .int .i64 _) rfl) rfl ?_
        refine wl_val (r_move (v := .int .i64 _) rfl) rfl ?_
        refine wl_call (r_call fn33 rfl rfl) rfl (rstream_ok _ _ _ _ _ hk hn (by first | omega | (simp [*]; done) | (simp [*] <;> omega)) (by first | omega | (simp [*]; done) | (simp [*] <;> omega))) ?_
        rintro _ w15 ⟨a34, c34, rfl, hx16⟩
        have hS17 := hS14.call hx16
        simp only [List.cons_append, List.nil_append] at hS17
        refine wl_call (r_call fn25 rfl rfl) rfl (equal_t _ _ _ _ _ _ _ _ _ (St.rowAt hS17 (.tail _ (.head _))) (St.rowAt hS17 (.head _)) (by first | (simp [*]; done) | (simp [*] <;> omega) | omega) (by first | (simp [*]; done) | (simp [*] <;> omega) | omega) rfl) ?_
        rintro _ w18 ⟨rfl, hx19⟩
        have hS20 := hS17.ext hx19
        refine wl_val (r_not rfl) rfl ?_
        refine wl_val (r_pick_f rfl (v := .bool _) rfl) rfl ?_
        refine wl_nil ?_
        refine c_then ?_
        refine c_false rfl ?_
        refine wp_skip ?_
        refine c_inN ?_
        refine c_then ?_
        first | exact ⟨_, rfl, hS20.drop1.drop1, ⟨rfl, rfl, rfl, trivial⟩⟩ | (exfalso; omega)
  · rintro e8 w9 hS10 -
    refine c_seq ?_
    refine c_region ?_
    refine wl_val (r_move (v := .slice _ _ _) rfl) rfl ?_
    refine wl_val (r_move (v := .slice _ _ _) rfl) rfl ?_
    refine wl_val (r_len (T := 26) rfl ti26.und rfl _ rfl) rfl ?_
    refine wl_val (r_min2n (b := 3000) rfl rfl _ rfl) rfl ?_
    refine wl_val (r_sl_h ti26.und ti5 rfl rfl (by omega)) rfl ?_
    have ht : Row w a ((l.take 3000).map b8) := by have := hb.take (n := 3000); rwa [← List.map_take] at this
    refine wl_val (r_assign (v := .slice _ _ _) rfl) rfl ?_
    refine wl_nil ?_
    refine c_then ?_
    refine c_seq ?_
    refine c_region ?_
    refine wl_val (r_loadB ti54 rfl rfl (hS10.heap (.tail _ (.head _))) (by first | (simp [*]; done) | (simp [*] <;> omega) | omega)) rfl ?_
    refine wl_val (r_loadB ti55 rfl rfl (hS10.heap (.head _)) (by first | (simp [*]; done) | (simp [*] <;> omega) | omega)) rfl ?_
    refine wl_val (r_move (v := .slice _ _ _) rfl) rfl ?_
    refine wl_call (r_call fn34 rfl rfl) rfl (cover_ok _ _ _ _ _ _ _ hk hn (by first | (simp [*]; done) | (simp [*] <;> omega) | omega) (ht.st hS10) (by first | omega | (simp [*]; done) | (simp [*] <;> omega))) ?_
    rintro _ w21 ⟨a78, c78, rfl, hx22⟩
    have hS23 := hS10.call hx22
    simp only [List.cons_append, List.nil_append] at hS23
    refine wl_val (r_move (v := .tuple _) rfl) rfl ?_
    refine wl_val (r_extract (v := .slice _ _ _) rfl rfl) rfl ?_
    refine wl_val (r_extract (v := .int .i64 _) rfl rfl) rfl ?_
    refine wl_val (r_assign (v := .slice _ _ _) rfl) rfl ?_
    refine wl_val (r_assign (v := .int .i64 _) rfl) rfl ?_
    refine wl_nil ?_
    refine c_then ?_
    refine c_seq ?_
    refine c_region ?_
    refine wl_val (r_loadB ti54 rfl rfl (hS23.heap (.tail _ (.tail _ (.head _)))) (by first | (simp [*]; done) | (simp [*] <;> omega) | omega)) rfl ?_
    refine wl_val (r_loadB ti55 rfl rfl (hS23.heap (.tail _ (.head _))) (by first | (simp [*]; done) | (simp [*] <;> omega) | omega)) rfl ?_
    refine wl_val (r_move (v := .slice _ _ _) rfl) rfl ?_
    refine wl_call (r_call fn34 rfl rfl) rfl (cover_ok _ _ _ _ _ _ _ hk hn (by first | (simp [*]; done) | (simp [*] <;> omega) | omega) (St.rowAt hS23 (.head _)) (by first | omega | (simp [*]; done) | (simp [*] <;> omega))) ?_
    rintro _ w24 ⟨a85, c85, rfl, hx25⟩
    have hS26 := hS23.call hx25
    simp only [List.cons_append, List.nil_append] at hS26
    refine wl_val (r_move (v := .tuple _) rfl) rfl ?_
    refine wl_val (r_extract (v := .slice _ _ _) rfl rfl) rfl ?_
    refine wl_val (r_extract (v := .int .i64 _) rfl rfl) rfl ?_
    refine wl_val (r_assign (v := .slice _ _ _) rfl) rfl ?_
    refine wl_val (r_assign (v := .int .i64 _) rfl) rfl ?_
    refine wl_nil ?_
    refine c_then ?_
    refine c_seq ?_
    refine c_region ?_
    refine wl_val (r_move (v := .int .i64 _) rfl) rfl ?_
    refine wl_dec_t (r_eql rfl rfl) rfl (by decide) ?_
    refine wl_val (r_move (v := .bool _) rfl) rfl ?_
    refine wl_val (r_move (v := .int .i64 _) rfl) rfl ?_
    refine wl_dec_t (r_eql rfl rfl) rfl (by decide) ?_
    refine wl_val (r_pick_t rfl (v := .bool _) rfl) rfl ?_
    refine wl_val (r_move (v := .bool _) rfl) rfl ?_
    refine wl_val (r_move (v := .slice _ _ _) rfl) rfl ?_
    refine wl_val (r_loadB ti54 rfl rfl (hS26.heap (.tail _ (.tail _ (.tail _ (.head _))))) (by first | (simp [*]; done) | (simp [*] <;> omega) | omega)) rfl ?_
    refine wl_val (r_loadB ti55 rfl rfl (hS26.heap (.tail _ (.tail _ (.head _)))) (by first | (simp [*]; done) | (simp [*] <;> omega) | omega)) rfl ?_
    refine wl_val (r_move (v := .slice _ _ _) rfl) rfl ?_
    refine wl_call (r_call fn35 rfl rfl) rfl (rcover_ok _ _ _ _ _ _ _ hk hn (by first | (simp [*]; done) | (simp [*] <;> omega) | omega) (ht.st hS26) (by first | omega | (simp [*]; done) | (simp [*] <;> omega))) ?_
    rintro _ w27 ⟨a99, c99, rfl, hx28⟩
    have hS29 := hS26.call hx28
    simp only [List.cons_append, List.nil_append] at hS29
    refine wl_call (r_call fn25 rfl rfl) rfl (equal_t _ _ _ _ _ _ _ _ _ (St.rowAt hS29 (.tail _ (.tail _ (.head _)))) (St.rowAt hS29 (.head _)) (by first | (simp [*]; done) | (simp [*] <;> omega) | omega) (by first | (simp [*]; done) | (simp [*] <;> omega) | omega) rfl) ?_
    rintro _ w30 ⟨rfl, hx31⟩
    have hS32 := hS29.ext hx31
    refine wl_val (r_pick_t rfl (v := .bool _) rfl) rfl ?_
    refine wl_val (r_move (v := .bool _) rfl) rfl ?_
    refine wl_val (r_move (v := .slice _ _ _) rfl) rfl ?_
    refine wl_val (r_move (v := .slice _ _ _) rfl) rfl ?_
    refine wl_call (r_call fn25 rfl rfl) rfl (equal_t _ _ _ _ _ _ _ _ _ (St.rowAt hS32 (.tail _ (.head _))) (ht.st hS32) (by first | (simp [*]; done) | (simp [*] <;> omega) | omega) (by first | (simp [*]; done) | (simp [*] <;> omega) | omega) (cover_cover k n _)) ?_
    rintro _ w33 ⟨rfl, hx34⟩
    have hS35 := hS32.ext hx34
    refine wl_val (r_pick_t rfl (v := .bool _) rfl) rfl ?_
    refine wl_val (r_assign (v := .bool _) rfl) rfl ?_
    refine wl_nil ?_
    refine c_then ?_
    refine wp_ret ?_
    refine ret1 Try.results6 ?_
    first | exact ⟨rfl, hS35.fin⟩ | (exfalso; omega)


theorem own : ownKnob Try.prog.godebug = none := by kernel_rfl
theorem laidOut : laidOutB Try.prog = true := by kernel_rfl
theorem readable3 : Try.prog.readableRec 3 = true := by kernel_rfl
theorem inside3 : decide (3 < Try.prog.types.size) = true := by kernel_rfl
theorem readable26 : Try.prog.readableRec 26 = true := by kernel_rfl
theorem inside26 : decide (26 < Try.prog.types.size) = true := by kernel_rfl
theorem readable54 : Try.prog.readableRec 54 = true := by kernel_rfl
theorem inside54 : decide (54 < Try.prog.types.size) = true := by kernel_rfl
theorem readable55 : Try.prog.readableRec 55 = true := by kernel_rfl
theorem inside55 : decide (55 < Try.prog.types.size) = true := by kernel_rfl
theorem lifted (os : Os) (started : os.Started) (H : Type) (enc : TypeId × Value → H) :
    ReturnsInHanded {} Try.checked os 6 .any (Rows.streamsMatchSpec.pre6 enc Try.prog Try.f6 Rows.streamsMatchRow.domain false) (Rows.streamsMatchSpec.post enc Try.prog Try.f6 false true false false) := by
  refine returnsInHanded_of_change_sized (C := Try.checked) own started (by kernel_rfl) Try.func6
    (ChangeSpec.witness6 (enc := enc) (C := Try.checked) false ⟨#[], #[.agg ((List.replicate 32 (0 : UInt8)).map b8).toArray, .agg ((List.replicate 16 (0 : UInt8)).map b8).toArray, .int .i64 0, .int .i64 0, .slice none 0 0], []⟩ 8 (by kernel_rfl) (by kernel_rfl) (by kernel_rfl) (by kernel_rfl)) ?_
  intro W base args ds gs before hval0 hW hcnd hsz0 _
  have hval : ∀ (j : Nat) t v, Try.f6.params[j]? = some t → args[j]? = some v → Value.okWide Try.prog W .any base t v := hval0
  have hW' := hW
  obtain ⟨p, q, hA0, hV, rfl, hfz, hnd⟩ := hW
  have hA : DataW.TrodAll enc Try.prog W 0 (fun _ => true) true Try.f6.params.toList args.toList ds p := hA0
  have hsz : (DataW.weightsEach Try.prog (Try.f6.params.toList ++ Rows.streamsMatchSpec.plain.varTypes Try.prog) (ds ++ gs)).all (· ≤ reachBytes) = true := hsz0
  rw [Try.params6] at hA hval hsz
  obtain ⟨v0, vs0, d0, ds0, p0, q0, hargs, rfl, rfl, h0, r0⟩ := trodAll_cons hA
  obtain ⟨v1, vs1, d1, ds1, p1, q1, rfl, rfl, rfl, h1, r1⟩ := trodAll_cons r0
  obtain ⟨v2, vs2, d2, ds2, p2, q2, rfl, rfl, rfl, h2, r2⟩ := trodAll_cons r1
  obtain ⟨v3, vs3, d3, ds3, p3, q3, rfl, rfl, rfl, h3, r3⟩ := trodAll_cons r2
  obtain ⟨v4, vs4, d4, ds4, p4, q4, rfl, rfl, rfl, h4, r4⟩ := trodAll_cons r3
  obtain ⟨rfl, rfl, rfl⟩ := trodAll_nil r4
  obtain rfl : args = #[v0, v1, v2, v3, v4] := by cases args; simp_all
  obtain ⟨rfl, rfl⟩ := trodVars_none hV
  have lt0 : ∀ x ∈ p0, x.block < W.heap.size := by obtain ⟨m, hm⟩ := h0; exact DataW.trod_lt m _ _ _ hm
  have lt1 : ∀ x ∈ p1, x.block < W.heap.size := by obtain ⟨m, hm⟩ := h1; exact DataW.trod_lt m _ _ _ hm
  have lt2 : ∀ x ∈ p2, x.block < W.heap.size := by obtain ⟨m, hm⟩ := h2; exact DataW.trod_lt m _ _ _ hm
  have lt3 : ∀ x ∈ p3, x.block < W.heap.size := by obtain ⟨m, hm⟩ := h3; exact DataW.trod_lt m _ _ _ hm
  have lt4 : ∀ x ∈ p4, x.block < W.heap.size := by obtain ⟨m, hm⟩ := h4; exact DataW.trod_lt m _ _ _ hm
  have ok0 := hval 0 54 v0 rfl rfl
  obtain ⟨k, lk, rfl⟩ := open_bytesA Try.underlying54 Try.underlying5 (by kernel_rfl) (by kernel_rfl) ok0 h0
  have ok1 := hval 1 55 v1 rfl rfl
  obtain ⟨n, ln, rfl⟩ := open_bytesA Try.underlying55 Try.underlying5 (by kernel_rfl) (by kernel_rfl) ok1 h1
  have ok2 := hval 2 3 v2 rfl rfl
  obtain ⟨p, rfl, lop, hip⟩ := open_i64 Try.underlying3 ok2 h2
  have ok3 := hval 3 3 v3 rfl rfl
  obtain ⟨q, rfl, loq, hiq⟩ := open_i64 Try.underlying3 ok3 h3
  have ok4 := hval 4 26 v4 rfl rfl
  obtain ⟨al, l, cl, rfl, rl, lcl, hcl⟩ := open_bytesS (j := 4) Try.underlying26 Try.underlying5 (by kernel_rfl) (by kernel_rfl) ok4 h4 hsz rfl rfl
  refine Calls.mono (walk k n l al cl p q W lk ln rl lcl lop hip loq hiq) fun e W' ⟨v, he, hv, hs⟩ => ?_
  subst hv; subst he
  have bel := hs.below
  exact ⟨_, rfl, _, _, _, [], _, [], hW', trodAll_mk1 (shut_bool Try.underlying4 _), (trodAll_cons_mk (Below.trod laidOut readable54 (of_decide_eq_true inside54) h0 bel lt0) (trodAll_cons_mk (Below.trod laidOut readable55 (of_decide_eq_true inside55) h1 bel lt1) (trodAll_cons_mk (Below.trod laidOut readable3 (of_decide_eq_true inside3) h2 bel lt2) (trodAll_cons_mk (Below.trod laidOut readable3 (of_decide_eq_true inside3) h3 bel lt3) (trodAll_cons_mk (Below.trod laidOut readable26 (of_decide_eq_true inside26) h4 bel lt4) trodAll_mk0))))), rfl, bel.frame _, fun h => by cases h⟩
theorem over : Rows.streamsMatchRow.holds Try.pinned (OpenSpec.ofChange Rows.streamsMatchSpec) :=
  OpenClaim.holds_of_wide 6 Try.f6 rfl rfl rfl rfl rfl rfl rfl ⟨rfl, rfl, rfl, rfl, rfl⟩ rfl rfl rfl rfl rfl (by kernel_rfl) Try.func6 (by kernel_rfl)
    (of_decide_eq_true (by kernel_rfl)) (by unfold Func.isWrapper; rw [if_neg (of_decide_eq_false (by kernel_rfl))]; exact ⟨rfl, rfl⟩)
    (fun os started H enc _ => lifted os started H enc)
theorem proved : Rows.StreamsMatchSaid := over
#print axioms proved
end Go.Proofs.Ytcadjopdjpgomaa.lawStreamsMatch
