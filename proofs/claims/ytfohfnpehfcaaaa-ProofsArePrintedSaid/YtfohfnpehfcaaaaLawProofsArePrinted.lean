/- For every proof and text: PrintProof and ParseProof of the program are the reference's, and what is printed is parsed back; the law's function returns true and turns nothing. No condition. -/
import Derived.Test.YtfohfnpehfcaaaaRows
import Derived.Test.YtfohfnpehfcaaaaOpen
import Derived.Test.YtfohfnpehfcaaaaPrintB
namespace Go.Proofs.Ytfohfnpehfcaaaa.lawProofsArePrinted
open Go.Kw Go.Proofs.Ytfohfnpehfcaaaa
open Go.ChangeShapes Go.WideShapes Go.ChangeAt Go.RowKit
set_option linter.unusedVariables false
set_option linter.unusedSimpArgs false
set_option maxRecDepth 100000
set_option maxHeartbeats 20000000

theorem walk (ix sz : Int) (pa : Option Addr) (pc : Nat) (pl : List (List UInt8)) (l : List UInt8) (a : Option Addr) (c : Nat) (w : World) (hp : Row w pa (pl.flatten.map b8)) (h32 : S32 pl) (hpc : pl.length ≤ pc) (hpm : pl.length ≤ 4398046511104) (hi1 : -9223372036854775808 ≤ ix) (hi2 : ix ≤ 9223372036854775807) (hs1 : -9223372036854775808 ≤ sz) (hs2 : sz ≤ 9223372036854775807) (hb : Row w a (l.map b8)) (hc : l.length ≤ c) (hn : l.length ≤ 140737488351232) :
    Ret Try.prog 5 [.agg #[.int .i64 ix, .int .i64 sz, .slice pa pl.length pc], .slice a l.length c] w (fun v w' => v = .bool true ∧ St w [] w' []) := by
  refine enter Try.func5 rfl Try.ntmps5 rfl ?_
  have hS := St.refl w []
  refine c_seq ?_
  refine c_region ?_
  refine wl_exv (x_box hS (v := .agg _) rfl rfl) rfl ?_
  rintro _ w1 ⟨b2, rfl, hS2⟩
  refine wl_val (r_assign (v := .bool false) rfl) rfl ?_
  refine wl_nil ?_
  refine c_then ?_
  refine c_seq ?_
  refine c_region ?_
  refine wl_val (r_loadB ti55 ag55 rfl (hS2.heap (.head _)) (by first | (simp [*]; done) | (simp [*] <;> omega) | omega)) rfl ?_
  refine wl_call (r_call fn34 rfl rfl) rfl (printProof_ok ix sz pa pc pl _ (hp.st hS2) h32 hpc) ?_
  rintro _ w3 (⟨hf, rfl, hx4⟩ | ⟨hf, rfl, hx4⟩ | ⟨hf, aDST, cDST, rfl, hcDST, hx4⟩)
  · have hS5 := hS2.ext hx4
    refine wl_val (r_move (v := .tuple _) rfl) rfl ?_
    refine wl_val (r_extract (v := .slice _ _ _) rfl rfl) rfl ?_
    refine wl_val (r_extract (v := .int .i64 _) rfl rfl) rfl ?_
    refine wl_val (r_assign (v := .slice _ _ _) rfl) rfl ?_
    refine wl_val (r_assign (v := .int .i64 _) rfl) rfl ?_
    refine wl_nil ?_
    refine c_then ?_
    refine c_seq ?_
    refine c_region ?_
    refine wl_val (r_loadB ti55 ag55 rfl (hS5.heap (.head _)) (by first | (simp [*]; done) | (simp [*] <;> omega) | omega)) rfl ?_
    refine wl_call (r_call fn35 rfl rfl) rfl (rprintProof_ok ix sz pa pc pl _ (hp.st hS5) h32 hpc) ?_
    rintro _ w6 (⟨hf2, rfl, hx7⟩ | ⟨hf2, rfl, hx7⟩ | ⟨hf2, aDST, cDST, rfl, hcDST, hx7⟩)
    · have hS8 := hS5.ext hx7
      refine wl_val (r_move (v := .tuple _) rfl) rfl ?_
      refine wl_val (r_extract (v := .slice _ _ _) rfl rfl) rfl ?_
      refine wl_val (r_extract (v := .int .i64 _) rfl rfl) rfl ?_
      refine wl_val (r_assign (v := .slice _ _ _) rfl) rfl ?_
      refine wl_val (r_assign (v := .int .i64 _) rfl) rfl ?_
      refine wl_nil ?_
      refine c_then ?_
      refine c_seq ?_
      refine c_seq ?_
      refine c_region ?_
      refine wl_val (r_move (v := .int .i64 _) rfl) rfl ?_
      refine wl_val (r_move (v := .int .i64 _) rfl) rfl ?_
      refine wl_dec_f (r_neq rfl rfl) rfl (by decide) ?_
      refine wl_val (r_move (v := .bool _) rfl) rfl ?_
      refine wl_val (r_move (v := .slice _ _ _) rfl) rfl ?_
      refine wl_val (r_move (v := .slice _ _ _) rfl) rfl ?_
      refine wl_call (r_call fn36 rfl rfl) rfl (equalB_ok [] none none 0 0 0 0 _ Row.nil Row.nil rfl rfl (by decide)) ?_
      rintro _ w9 ⟨rfl, hx10⟩
      have hS11 := hS8.ext hx10
      refine wl_val (r_not rfl) rfl ?_
      refine wl_val (r_pick_f rfl (v := .bool _) rfl) rfl ?_
      refine wl_nil ?_
      refine c_then ?_
      refine c_false rfl ?_
      refine wp_skip ?_
      refine c_then ?_
      refine c_seq ?_
      refine c_seq ?_
      refine c_region ?_
      refine wl_val (r_move (v := .int .i64 _) rfl) rfl ?_
      refine wl_dec_f (r_eql rfl rfl) rfl (by decide) ?_
      refine wl_nil ?_
      refine c_then ?_
      refine c_false rfl ?_
      refine wp_skip ?_
      refine c_then ?_
      refine c_seq ?_
      refine c_region ?_
      refine wl_val (r_move (v := .slice _ _ _) rfl) rfl ?_
      refine wl_call (r_call fn37 rfl rfl) rfl (parse_ok l a l.length c _ _ _ _ (hb.st hS11) rfl hc hn rfl rfl rfl (natN_le8 (by simp; omega)) (natN_le8 (by simp; omega))) ?_
      rintro _ w12 (⟨hg, rfl, hx13⟩ | ⟨hg1, hg, rfl, hx13⟩ | ⟨hg1, hg, hg3, rfl, hx13⟩ | ⟨hg1, hg, hg3, aDST, cDST, rfl, hcDST, hx13⟩)
      · have hS14 := hS11.ext hx13
        refine wl_val (r_move (v := .tuple _) rfl) rfl ?_
        refine wl_val (r_extract (v := .agg _) rfl rfl) rfl ?_
        refine wl_val (r_extract (v := .int .i64 _) rfl rfl) rfl ?_
        refine wl_val (r_extract (v := .int .i64 _) rfl rfl) rfl ?_
        refine wl_exv (x_alloc (C := [.int .i64 0, .int .i64 0, .slice none 0 0]) hS14 ti55 rfl) rfl ?_
        rintro _ w15 ⟨b12, rfl, hS16⟩
        refine wl_exs (x_storeW [] hS16 ti55 rfl rfl (by first | (simp [*]; done) | (simp [*] <;> omega) | omega) (by first | (simp [*]; done) | (simp [*] <;> omega) | omega) (by repeat' first | exact one_nil | exact one_b8 _ | exact one_v32 _ | exact one_all rfl | refine one_cons rfl ?_ | refine one_app ?_ ?_)) rfl ?_
        intro w17 hS18
        simp only [List.cons_append, List.nil_append] at hS18
        refine wl_val (r_assign (v := .int .i64 _) rfl) rfl ?_
        refine wl_val (r_assign (v := .int .i64 _) rfl) rfl ?_
        refine wl_nil ?_
        refine c_then ?_
        refine c_seq ?_
        refine c_region ?_
        refine wl_val (r_move (v := .slice _ _ _) rfl) rfl ?_
        refine wl_call (r_call fn39 rfl rfl) rfl (rparse_ok l a l.length c _ _ _ _ (hb.st hS18) rfl hc hn rfl rfl rfl (natN_le8 (by simp; omega)) (natN_le8 (by simp; omega))) ?_
        rintro _ w19 (⟨ig, rfl, hx20⟩ | ⟨ig1, ig, rfl, hx20⟩ | ⟨ig1, ig, ig3, rfl, hx20⟩ | ⟨ig1, ig, ig3, aDST, cDST, rfl, hcDST, hx20⟩)
        · have hS21 := hS18.ext hx20
          refine wl_val (r_move (v := .tuple _) rfl) rfl ?_
          refine wl_val (r_extract (v := .agg _) rfl rfl) rfl ?_
          refine wl_val (r_extract (v := .int .i64 _) rfl rfl) rfl ?_
          refine wl_val (r_extract (v := .int .i64 _) rfl rfl) rfl ?_
          refine wl_exv (x_alloc (C := [.int .i64 0, .int .i64 0, .slice none 0 0]) hS21 ti55 rfl) rfl ?_
          rintro _ w22 ⟨b14, rfl, hS23⟩
          refine wl_exs (x_storeW [] hS23 ti55 rfl rfl (by first | (simp [*]; done) | (simp [*] <;> omega) | omega) (by first | (simp [*]; done) | (simp [*] <;> omega) | omega) (by repeat' first | exact one_nil | exact one_b8 _ | exact one_v32 _ | exact one_all rfl | refine one_cons rfl ?_ | refine one_app ?_ ?_)) rfl ?_
          intro w24 hS25
          simp only [List.cons_append, List.nil_append] at hS25
          refine wl_val (r_assign (v := .int .i64 _) rfl) rfl ?_
          refine wl_val (r_assign (v := .int .i64 _) rfl) rfl ?_
          refine wl_nil ?_
          refine c_then ?_
          refine c_seq ?_
          refine c_region ?_
          refine wl_val (r_move (v := .int .i64 _) rfl) rfl ?_
          refine wl_val (r_move (v := .int .i64 _) rfl) rfl ?_
          refine wl_dec_t (r_eql rfl rfl) rfl (by decide) ?_
          refine wl_val (r_move (v := .bool _) rfl) rfl ?_
          refine wl_val (r_move (v := .int .i64 _) rfl) rfl ?_
          refine wl_val (r_move (v := .int .i64 _) rfl) rfl ?_
          refine wl_dec_t (r_eql rfl rfl) rfl (by decide) ?_
          refine wl_val (r_pick_t rfl (v := .bool _) rfl) rfl ?_
          refine wl_val (r_move (v := .bool _) rfl) rfl ?_
          refine wl_val (r_loadB ti55 ag55 rfl (hS25.heap (.tail _ (.head _))) (by first | (simp [*]; done) | (simp [*] <;> omega) | omega)) rfl ?_
          refine wl_val (r_loadB ti55 ag55 rfl (hS25.heap (.head _)) (by first | (simp [*]; done) | (simp [*] <;> omega) | omega)) rfl ?_
          refine wl_call (r_call fn38 rfl rfl) rfl (sameProof_t 0 0 0 0 none none 0 0 0 0 [] [] _ Row.nil Row.nil S32.nil S32.nil rfl rfl (by decide) rfl rfl rfl) ?_
          rintro _ w26 ⟨rfl, hx27⟩
          have hS28 := hS25.ext hx27
          refine wl_val (r_pick_t rfl (v := .bool _) rfl) rfl ?_
          refine wl_val (r_assign (v := .bool _) rfl) rfl ?_
          refine wl_nil ?_
          refine c_then ?_
          refine wp_ret ?_
          refine ret1 Try.results5 ?_
          exact ⟨rfl, hS28.fin⟩
        · exfalso; first | omega | exact r4_rg hg ig | exact r4_rg ig hg
        · exfalso; first | omega | exact r4_rg hg ig | exact r4_rg ig hg
        · exfalso; first | omega | exact r4_rg hg ig | exact r4_rg ig hg
      · have hS14 := hS11.ext hx13
        refine wl_val (r_move (v := .tuple _) rfl) rfl ?_
        refine wl_val (r_extract (v := .agg _) rfl rfl) rfl ?_
        refine wl_val (r_extract (v := .int .i64 _) rfl rfl) rfl ?_
        refine wl_val (r_extract (v := .int .i64 _) rfl rfl) rfl ?_
        refine wl_exv (x_alloc (C := [.int .i64 0, .int .i64 0, .slice none 0 0]) hS14 ti55 rfl) rfl ?_
        rintro _ w29 ⟨b12, rfl, hS30⟩
        refine wl_exs (x_storeW [] hS30 ti55 rfl rfl (by first | (simp [*]; done) | (simp [*] <;> omega) | omega) (by first | (simp [*]; done) | (simp [*] <;> omega) | omega) (by repeat' first | exact one_nil | exact one_b8 _ | exact one_v32 _ | exact one_all rfl | refine one_cons rfl ?_ | refine one_app ?_ ?_)) rfl ?_
        intro w31 hS32
        simp only [List.cons_append, List.nil_append] at hS32
        refine wl_val (r_assign (v := .int .i64 _) rfl) rfl ?_
        refine wl_val (r_assign (v := .int .i64 _) rfl) rfl ?_
        refine wl_nil ?_
        refine c_then ?_
        refine c_seq ?_
        refine c_region ?_
        refine wl_val (r_move (v := .slice _ _ _) rfl) rfl ?_
        refine wl_call (r_call fn39 rfl rfl) rfl (rparse_ok l a l.length c _ _ _ _ (hb.st hS32) rfl hc hn rfl rfl rfl (natN_le8 (by simp; omega)) (natN_le8 (by simp; omega))) ?_
        rintro _ w33 (⟨ig, rfl, hx34⟩ | ⟨ig1, ig, rfl, hx34⟩ | ⟨ig1, ig, ig3, rfl, hx34⟩ | ⟨ig1, ig, ig3, aDST, cDST, rfl, hcDST, hx34⟩)
        · exfalso; first | omega | exact r4_rg hg ig | exact r4_rg ig hg
        · have hS35 := hS32.ext hx34
          refine wl_val (r_move (v := .tuple _) rfl) rfl ?_
          refine wl_val (r_extract (v := .agg _) rfl rfl) rfl ?_
          refine wl_val (r_extract (v := .int .i64 _) rfl rfl) rfl ?_
          refine wl_val (r_extract (v := .int .i64 _) rfl rfl) rfl ?_
          refine wl_exv (x_alloc (C := [.int .i64 0, .int .i64 0, .slice none 0 0]) hS35 ti55 rfl) rfl ?_
          rintro _ w36 ⟨b14, rfl, hS37⟩
          refine wl_exs (x_storeW [] hS37 ti55 rfl rfl (by first | (simp [*]; done) | (simp [*] <;> omega) | omega) (by first | (simp [*]; done) | (simp [*] <;> omega) | omega) (by repeat' first | exact one_nil | exact one_b8 _ | exact one_v32 _ | exact one_all rfl | refine one_cons rfl ?_ | refine one_app ?_ ?_)) rfl ?_
          intro w38 hS39
          simp only [List.cons_append, List.nil_append] at hS39
          refine wl_val (r_assign (v := .int .i64 _) rfl) rfl ?_
          refine wl_val (r_assign (v := .int .i64 _) rfl) rfl ?_
          refine wl_nil ?_
          refine c_then ?_
          refine c_seq ?_
          refine c_region ?_
          refine wl_val (r_move (v := .int .i64 _) rfl) rfl ?_
          refine wl_val (r_move (v := .int .i64 _) rfl) rfl ?_
          refine wl_dec_t (r_eql rfl rfl) rfl (by decide) ?_
          refine wl_val (r_move (v := .bool _) rfl) rfl ?_
          refine wl_val (r_move (v := .int .i64 _) rfl) rfl ?_
          refine wl_val (r_move (v := .int .i64 _) rfl) rfl ?_
          refine wl_dec_t (r_eql rfl rfl) rfl (by decide) ?_
          refine wl_val (r_pick_t rfl (v := .bool _) rfl) rfl ?_
          refine wl_val (r_move (v := .bool _) rfl) rfl ?_
          refine wl_val (r_loadB ti55 ag55 rfl (hS39.heap (.tail _ (.head _))) (by first | (simp [*]; done) | (simp [*] <;> omega) | omega)) rfl ?_
          refine wl_val (r_loadB ti55 ag55 rfl (hS39.heap (.head _)) (by first | (simp [*]; done) | (simp [*] <;> omega) | omega)) rfl ?_
          refine wl_call (r_call fn38 rfl rfl) rfl (sameProof_t 0 0 0 0 none none 0 0 0 0 [] [] _ Row.nil Row.nil S32.nil S32.nil rfl rfl (by decide) rfl rfl rfl) ?_
          rintro _ w40 ⟨rfl, hx41⟩
          have hS42 := hS39.ext hx41
          refine wl_val (r_pick_t rfl (v := .bool _) rfl) rfl ?_
          refine wl_val (r_assign (v := .bool _) rfl) rfl ?_
          refine wl_nil ?_
          refine c_then ?_
          refine wp_ret ?_
          refine ret1 Try.results5 ?_
          exact ⟨rfl, hS42.fin⟩
        · exfalso; first | omega | exact r4_rg hg ig | exact r4_rg ig hg
        · exfalso; first | omega | exact r4_rg hg ig | exact r4_rg ig hg
      · have hS14 := hS11.ext hx13
        refine wl_val (r_move (v := .tuple _) rfl) rfl ?_
        refine wl_val (r_extract (v := .agg _) rfl rfl) rfl ?_
        refine wl_val (r_extract (v := .int .i64 _) rfl rfl) rfl ?_
        refine wl_val (r_extract (v := .int .i64 _) rfl rfl) rfl ?_
        refine wl_exv (x_alloc (C := [.int .i64 0, .int .i64 0, .slice none 0 0]) hS14 ti55 rfl) rfl ?_
        rintro _ w43 ⟨b12, rfl, hS44⟩
        refine wl_exs (x_storeW [] hS44 ti55 rfl rfl (by first | (simp [*]; done) | (simp [*] <;> omega) | omega) (by first | (simp [*]; done) | (simp [*] <;> omega) | omega) (by repeat' first | exact one_nil | exact one_b8 _ | exact one_v32 _ | exact one_all rfl | refine one_cons rfl ?_ | refine one_app ?_ ?_)) rfl ?_
        intro w45 hS46
        simp only [List.cons_append, List.nil_append] at hS46
        refine wl_val (r_assign (v := .int .i64 _) rfl) rfl ?_
        refine wl_val (r_assign (v := .int .i64 _) rfl) rfl ?_
        refine wl_nil ?_
        refine c_then ?_
        refine c_seq ?_
        refine c_region ?_
        refine wl_val (r_move (v := .slice _ _ _) rfl) rfl ?_
        refine wl_call (r_call fn39 rfl rfl) rfl (rparse_ok l a l.length c _ _ _ _ (hb.st hS46) rfl hc hn rfl rfl rfl (natN_le8 (by simp; omega)) (natN_le8 (by simp; omega))) ?_
        rintro _ w47 (⟨ig, rfl, hx48⟩ | ⟨ig1, ig, rfl, hx48⟩ | ⟨ig1, ig, ig3, rfl, hx48⟩ | ⟨ig1, ig, ig3, aDST, cDST, rfl, hcDST, hx48⟩)
        · exfalso; first | omega | exact r4_rg hg ig | exact r4_rg ig hg
        · exfalso; first | omega | exact r4_rg hg ig | exact r4_rg ig hg
        · have hS49 := hS46.ext hx48
          refine wl_val (r_move (v := .tuple _) rfl) rfl ?_
          refine wl_val (r_extract (v := .agg _) rfl rfl) rfl ?_
          refine wl_val (r_extract (v := .int .i64 _) rfl rfl) rfl ?_
          refine wl_val (r_extract (v := .int .i64 _) rfl rfl) rfl ?_
          refine wl_exv (x_alloc (C := [.int .i64 0, .int .i64 0, .slice none 0 0]) hS49 ti55 rfl) rfl ?_
          rintro _ w50 ⟨b14, rfl, hS51⟩
          refine wl_exs (x_storeW [] hS51 ti55 rfl rfl (by first | (simp [*]; done) | (simp [*] <;> omega) | omega) (by first | (simp [*]; done) | (simp [*] <;> omega) | omega) (by repeat' first | exact one_nil | exact one_b8 _ | exact one_v32 _ | exact one_all rfl | refine one_cons rfl ?_ | refine one_app ?_ ?_)) rfl ?_
          intro w52 hS53
          simp only [List.cons_append, List.nil_append] at hS53
          refine wl_val (r_assign (v := .int .i64 _) rfl) rfl ?_
          refine wl_val (r_assign (v := .int .i64 _) rfl) rfl ?_
          refine wl_nil ?_
          refine c_then ?_
          refine c_seq ?_
          refine c_region ?_
          refine wl_val (r_move (v := .int .i64 _) rfl) rfl ?_
          refine wl_val (r_move (v := .int .i64 _) rfl) rfl ?_
          refine wl_dec_t (r_eql rfl rfl) rfl (by decide) ?_
          refine wl_val (r_move (v := .bool _) rfl) rfl ?_
          refine wl_val (r_move (v := .int .i64 _) rfl) rfl ?_
          refine wl_val (r_move (v := .int .i64 _) rfl) rfl ?_
          refine wl_dec_t (r_eql rfl rfl) rfl (by decide) ?_
          refine wl_val (r_pick_t rfl (v := .bool _) rfl) rfl ?_
          refine wl_val (r_move (v := .bool _) rfl) rfl ?_
          refine wl_val (r_loadB ti55 ag55 rfl (hS53.heap (.tail _ (.head _))) (by first | (simp [*]; done) | (simp [*] <;> omega) | omega)) rfl ?_
          refine wl_val (r_loadB ti55 ag55 rfl (hS53.heap (.head _)) (by first | (simp [*]; done) | (simp [*] <;> omega) | omega)) rfl ?_
          refine wl_call (r_call fn38 rfl rfl) rfl (sameProof_t 0 0 0 0 none none 0 0 0 0 [] [] _ Row.nil Row.nil S32.nil S32.nil rfl rfl (by decide) rfl rfl rfl) ?_
          rintro _ w54 ⟨rfl, hx55⟩
          have hS56 := hS53.ext hx55
          refine wl_val (r_pick_t rfl (v := .bool _) rfl) rfl ?_
          refine wl_val (r_assign (v := .bool _) rfl) rfl ?_
          refine wl_nil ?_
          refine c_then ?_
          refine wp_ret ?_
          refine ret1 Try.results5 ?_
          exact ⟨rfl, hS56.fin⟩
        · exfalso; first | omega | exact r4_rg hg ig | exact r4_rg ig hg
      · have hS14 := hS11.call hx13
        simp only [List.cons_append, List.nil_append] at hS14
        refine wl_val (r_move (v := .tuple _) rfl) rfl ?_
        refine wl_val (r_extract (v := .agg _) rfl rfl) rfl ?_
        refine wl_val (r_extract (v := .int .i64 _) rfl rfl) rfl ?_
        refine wl_val (r_extract (v := .int .i64 _) rfl rfl) rfl ?_
        refine wl_exv (x_alloc (C := [.int .i64 0, .int .i64 0, .slice none 0 0]) hS14 ti55 rfl) rfl ?_
        rintro _ w57 ⟨b12, rfl, hS58⟩
        refine wl_exs (x_storeW [] hS58 ti55 rfl rfl (by first | (simp [*]; done) | (simp [*] <;> omega) | omega) (by first | (simp [*]; done) | (simp [*] <;> omega) | omega) (by repeat' first | exact one_nil | exact one_b8 _ | exact one_v32 _ | exact one_all rfl | refine one_cons rfl ?_ | refine one_app ?_ ?_)) rfl ?_
        intro w59 hS60
        simp only [List.cons_append, List.nil_append] at hS60
        refine wl_val (r_assign (v := .int .i64 _) rfl) rfl ?_
        refine wl_val (r_assign (v := .int .i64 _) rfl) rfl ?_
        refine wl_nil ?_
        refine c_then ?_
        refine c_seq ?_
        refine c_region ?_
        refine wl_val (r_move (v := .slice _ _ _) rfl) rfl ?_
        refine wl_call (r_call fn39 rfl rfl) rfl (rparse_ok l a l.length c _ _ _ _ (hb.st hS60) rfl hc hn rfl rfl rfl (natN_le8 (by simp; omega)) (natN_le8 (by simp; omega))) ?_
        rintro _ w61 (⟨ig, rfl, hx62⟩ | ⟨ig1, ig, rfl, hx62⟩ | ⟨ig1, ig, ig3, rfl, hx62⟩ | ⟨ig1, ig, ig3, aDST, cDST, rfl, hcDST, hx62⟩)
        · exfalso; first | omega | exact r4_rg hg ig | exact r4_rg ig hg
        · exfalso; first | omega | exact r4_rg hg ig | exact r4_rg ig hg
        · exfalso; first | omega | exact r4_rg hg ig | exact r4_rg ig hg
        · have hS63 := hS60.call hx62
          simp only [List.cons_append, List.nil_append] at hS63
          refine wl_val (r_move (v := .tuple _) rfl) rfl ?_
          refine wl_val (r_extract (v := .agg _) rfl rfl) rfl ?_
          refine wl_val (r_extract (v := .int .i64 _) rfl rfl) rfl ?_
          refine wl_val (r_extract (v := .int .i64 _) rfl rfl) rfl ?_
          refine wl_exv (x_alloc (C := [.int .i64 0, .int .i64 0, .slice none 0 0]) hS63 ti55 rfl) rfl ?_
          rintro _ w64 ⟨b14, rfl, hS65⟩
          refine wl_exs (x_storeW [] hS65 ti55 rfl rfl (by first | (simp [*]; done) | (simp [*] <;> omega) | omega) (by first | (simp [*]; done) | (simp [*] <;> omega) | omega) (by repeat' first | exact one_nil | exact one_b8 _ | exact one_v32 _ | exact one_all rfl | refine one_cons rfl ?_ | refine one_app ?_ ?_)) rfl ?_
          intro w66 hS67
          simp only [List.cons_append, List.nil_append] at hS67
          refine wl_val (r_assign (v := .int .i64 _) rfl) rfl ?_
          refine wl_val (r_assign (v := .int .i64 _) rfl) rfl ?_
          refine wl_nil ?_
          refine c_then ?_
          refine c_seq ?_
          refine c_region ?_
          refine wl_val (r_move (v := .int .i64 _) rfl) rfl ?_
          refine wl_val (r_move (v := .int .i64 _) rfl) rfl ?_
          refine wl_dec_t (r_eql rfl rfl) rfl (by decide) ?_
          refine wl_val (r_move (v := .bool _) rfl) rfl ?_
          refine wl_val (r_move (v := .int .i64 _) rfl) rfl ?_
          refine wl_val (r_move (v := .int .i64 _) rfl) rfl ?_
          refine wl_dec_t (r_eql rfl rfl) rfl rfl ?_
          refine wl_val (r_pick_t rfl (v := .bool _) rfl) rfl ?_
          refine wl_val (r_move (v := .bool _) rfl) rfl ?_
          refine wl_val (r_loadB ti55 ag55 rfl (hS67.heap (.tail _ (.tail _ (.head _)))) (by first | (simp [*]; done) | (simp [*] <;> omega) | omega)) rfl ?_
          refine wl_val (r_loadB ti55 ag55 rfl (hS67.heap (.head _)) (by first | (simp [*]; done) | (simp [*] <;> omega) | omega)) rfl ?_
          refine wl_call (r_call fn38 rfl rfl) rfl (sameProof_t _ _ _ _ _ _ _ _ _ _ (chunksL l _) (chunksL l _) _ (St.rowAt hS67 (.tail _ (.tail _ (.tail _ (.head _))))) (St.rowAt hS67 (.tail _ (.head _))) (chunks_32 (by omega)) (chunks_32 (by omega)) (chunks_len _ _) (chunks_len _ _) (by omega) rfl rfl rfl) ?_
          rintro _ w68 ⟨rfl, hx69⟩
          have hS70 := hS67.ext hx69
          refine wl_val (r_pick_t rfl (v := .bool _) rfl) rfl ?_
          refine wl_val (r_assign (v := .bool _) rfl) rfl ?_
          refine wl_nil ?_
          refine c_then ?_
          refine wp_ret ?_
          refine ret1 Try.results5 ?_
          exact ⟨rfl, hS70.fin⟩
    · exfalso; omega
    · exfalso; omega
  · have hS5 := hS2.ext hx4
    refine wl_val (r_move (v := .tuple _) rfl) rfl ?_
    refine wl_val (r_extract (v := .slice _ _ _) rfl rfl) rfl ?_
    refine wl_val (r_extract (v := .int .i64 _) rfl rfl) rfl ?_
    refine wl_val (r_assign (v := .slice _ _ _) rfl) rfl ?_
    refine wl_val (r_assign (v := .int .i64 _) rfl) rfl ?_
    refine wl_nil ?_
    refine c_then ?_
    refine c_seq ?_
    refine c_region ?_
    refine wl_val (r_loadB ti55 ag55 rfl (hS5.heap (.head _)) (by first | (simp [*]; done) | (simp [*] <;> omega) | omega)) rfl ?_
    refine wl_call (r_call fn35 rfl rfl) rfl (rprintProof_ok ix sz pa pc pl _ (hp.st hS5) h32 hpc) ?_
    rintro _ w71 (⟨hf2, rfl, hx72⟩ | ⟨hf2, rfl, hx72⟩ | ⟨hf2, aDST, cDST, rfl, hcDST, hx72⟩)
    · exfalso; omega
    · have hS73 := hS5.ext hx72
      refine wl_val (r_move (v := .tuple _) rfl) rfl ?_
      refine wl_val (r_extract (v := .slice _ _ _) rfl rfl) rfl ?_
      refine wl_val (r_extract (v := .int .i64 _) rfl rfl) rfl ?_
      refine wl_val (r_assign (v := .slice _ _ _) rfl) rfl ?_
      refine wl_val (r_assign (v := .int .i64 _) rfl) rfl ?_
      refine wl_nil ?_
      refine c_then ?_
      refine c_seq ?_
      refine c_seq ?_
      refine c_region ?_
      refine wl_val (r_move (v := .int .i64 _) rfl) rfl ?_
      refine wl_val (r_move (v := .int .i64 _) rfl) rfl ?_
      refine wl_dec_f (r_neq rfl rfl) rfl (by decide) ?_
      refine wl_val (r_move (v := .bool _) rfl) rfl ?_
      refine wl_val (r_move (v := .slice _ _ _) rfl) rfl ?_
      refine wl_val (r_move (v := .slice _ _ _) rfl) rfl ?_
      refine wl_call (r_call fn36 rfl rfl) rfl (equalB_ok [] none none 0 0 0 0 _ Row.nil Row.nil rfl rfl (by decide)) ?_
      rintro _ w74 ⟨rfl, hx75⟩
      have hS76 := hS73.ext hx75
      refine wl_val (r_not rfl) rfl ?_
      refine wl_val (r_pick_f rfl (v := .bool _) rfl) rfl ?_
      refine wl_nil ?_
      refine c_then ?_
      refine c_false rfl ?_
      refine wp_skip ?_
      refine c_then ?_
      refine c_seq ?_
      refine c_seq ?_
      refine c_region ?_
      refine wl_val (r_move (v := .int .i64 _) rfl) rfl ?_
      refine wl_dec_f (r_eql rfl rfl) rfl (by decide) ?_
      refine wl_nil ?_
      refine c_then ?_
      refine c_false rfl ?_
      refine wp_skip ?_
      refine c_then ?_
      refine c_seq ?_
      refine c_region ?_
      refine wl_val (r_move (v := .slice _ _ _) rfl) rfl ?_
      refine wl_call (r_call fn37 rfl rfl) rfl (parse_ok l a l.length c _ _ _ _ (hb.st hS76) rfl hc hn rfl rfl rfl (natN_le8 (by simp; omega)) (natN_le8 (by simp; omega))) ?_
      rintro _ w77 (⟨hg, rfl, hx78⟩ | ⟨hg1, hg, rfl, hx78⟩ | ⟨hg1, hg, hg3, rfl, hx78⟩ | ⟨hg1, hg, hg3, aDST, cDST, rfl, hcDST, hx78⟩)
      · have hS79 := hS76.ext hx78
        refine wl_val (r_move (v := .tuple _) rfl) rfl ?_
        refine wl_val (r_extract (v := .agg _) rfl rfl) rfl ?_
        refine wl_val (r_extract (v := .int .i64 _) rfl rfl) rfl ?_
        refine wl_val (r_extract (v := .int .i64 _) rfl rfl) rfl ?_
        refine wl_exv (x_alloc (C := [.int .i64 0, .int .i64 0, .slice none 0 0]) hS79 ti55 rfl) rfl ?_
        rintro _ w80 ⟨b12, rfl, hS81⟩
        refine wl_exs (x_storeW [] hS81 ti55 rfl rfl (by first | (simp [*]; done) | (simp [*] <;> omega) | omega) (by first | (simp [*]; done) | (simp [*] <;> omega) | omega) (by repeat' first | exact one_nil | exact one_b8 _ | exact one_v32 _ | exact one_all rfl | refine one_cons rfl ?_ | refine one_app ?_ ?_)) rfl ?_
        intro w82 hS83
        simp only [List.cons_append, List.nil_append] at hS83
        refine wl_val (r_assign (v := .int .i64 _) rfl) rfl ?_
        refine wl_val (r_assign (v := .int .i64 _) rfl) rfl ?_
        refine wl_nil ?_
        refine c_then ?_
        refine c_seq ?_
        refine c_region ?_
        refine wl_val (r_move (v := .slice _ _ _) rfl) rfl ?_
        refine wl_call (r_call fn39 rfl rfl) rfl (rparse_ok l a l.length c _ _ _ _ (hb.st hS83) rfl hc hn rfl rfl rfl (natN_le8 (by simp; omega)) (natN_le8 (by simp; omega))) ?_
        rintro _ w84 (⟨ig, rfl, hx85⟩ | ⟨ig1, ig, rfl, hx85⟩ | ⟨ig1, ig, ig3, rfl, hx85⟩ | ⟨ig1, ig, ig3, aDST, cDST, rfl, hcDST, hx85⟩)
        · have hS86 := hS83.ext hx85
          refine wl_val (r_move (v := .tuple _) rfl) rfl ?_
          refine wl_val (r_extract (v := .agg _) rfl rfl) rfl ?_
          refine wl_val (r_extract (v := .int .i64 _) rfl rfl) rfl ?_
          refine wl_val (r_extract (v := .int .i64 _) rfl rfl) rfl ?_
          refine wl_exv (x_alloc (C := [.int .i64 0, .int .i64 0, .slice none 0 0]) hS86 ti55 rfl) rfl ?_
          rintro _ w87 ⟨b14, rfl, hS88⟩
          refine wl_exs (x_storeW [] hS88 ti55 rfl rfl (by first | (simp [*]; done) | (simp [*] <;> omega) | omega) (by first | (simp [*]; done) | (simp [*] <;> omega) | omega) (by repeat' first | exact one_nil | exact one_b8 _ | exact one_v32 _ | exact one_all rfl | refine one_cons rfl ?_ | refine one_app ?_ ?_)) rfl ?_
          intro w89 hS90
          simp only [List.cons_append, List.nil_append] at hS90
          refine wl_val (r_assign (v := .int .i64 _) rfl) rfl ?_
          refine wl_val (r_assign (v := .int .i64 _) rfl) rfl ?_
          refine wl_nil ?_
          refine c_then ?_
          refine c_seq ?_
          refine c_region ?_
          refine wl_val (r_move (v := .int .i64 _) rfl) rfl ?_
          refine wl_val (r_move (v := .int .i64 _) rfl) rfl ?_
          refine wl_dec_t (r_eql rfl rfl) rfl (by decide) ?_
          refine wl_val (r_move (v := .bool _) rfl) rfl ?_
          refine wl_val (r_move (v := .int .i64 _) rfl) rfl ?_
          refine wl_val (r_move (v := .int .i64 _) rfl) rfl ?_
          refine wl_dec_t (r_eql rfl rfl) rfl (by decide) ?_
          refine wl_val (r_pick_t rfl (v := .bool _) rfl) rfl ?_
          refine wl_val (r_move (v := .bool _) rfl) rfl ?_
          refine wl_val (r_loadB ti55 ag55 rfl (hS90.heap (.tail _ (.head _))) (by first | (simp [*]; done) | (simp [*] <;> omega) | omega)) rfl ?_
          refine wl_val (r_loadB ti55 ag55 rfl (hS90.heap (.head _)) (by first | (simp [*]; done) | (simp [*] <;> omega) | omega)) rfl ?_
          refine wl_call (r_call fn38 rfl rfl) rfl (sameProof_t 0 0 0 0 none none 0 0 0 0 [] [] _ Row.nil Row.nil S32.nil S32.nil rfl rfl (by decide) rfl rfl rfl) ?_
          rintro _ w91 ⟨rfl, hx92⟩
          have hS93 := hS90.ext hx92
          refine wl_val (r_pick_t rfl (v := .bool _) rfl) rfl ?_
          refine wl_val (r_assign (v := .bool _) rfl) rfl ?_
          refine wl_nil ?_
          refine c_then ?_
          refine wp_ret ?_
          refine ret1 Try.results5 ?_
          exact ⟨rfl, hS93.fin⟩
        · exfalso; first | omega | exact r4_rg hg ig | exact r4_rg ig hg
        · exfalso; first | omega | exact r4_rg hg ig | exact r4_rg ig hg
        · exfalso; first | omega | exact r4_rg hg ig | exact r4_rg ig hg
      · have hS79 := hS76.ext hx78
        refine wl_val (r_move (v := .tuple _) rfl) rfl ?_
        refine wl_val (r_extract (v := .agg _) rfl rfl) rfl ?_
        refine wl_val (r_extract (v := .int .i64 _) rfl rfl) rfl ?_
        refine wl_val (r_extract (v := .int .i64 _) rfl rfl) rfl ?_
        refine wl_exv (x_alloc (C := [.int .i64 0, .int .i64 0, .slice none 0 0]) hS79 ti55 rfl) rfl ?_
        rintro _ w94 ⟨b12, rfl, hS95⟩
        refine wl_exs (x_storeW [] hS95 ti55 rfl rfl (by first | (simp [*]; done) | (simp [*] <;> omega) | omega) (by first | (simp [*]; done) | (simp [*] <;> omega) | omega) (by repeat' first | exact one_nil | exact one_b8 _ | exact one_v32 _ | exact one_all rfl | refine one_cons rfl ?_ | refine one_app ?_ ?_)) rfl ?_
        intro w96 hS97
        simp only [List.cons_append, List.nil_append] at hS97
        refine wl_val (r_assign (v := .int .i64 _) rfl) rfl ?_
        refine wl_val (r_assign (v := .int .i64 _) rfl) rfl ?_
        refine wl_nil ?_
        refine c_then ?_
        refine c_seq ?_
        refine c_region ?_
        refine wl_val (r_move (v := .slice _ _ _) rfl) rfl ?_
        refine wl_call (r_call fn39 rfl rfl) rfl (rparse_ok l a l.length c _ _ _ _ (hb.st hS97) rfl hc hn rfl rfl rfl (natN_le8 (by simp; omega)) (natN_le8 (by simp; omega))) ?_
        rintro _ w98 (⟨ig, rfl, hx99⟩ | ⟨ig1, ig, rfl, hx99⟩ | ⟨ig1, ig, ig3, rfl, hx99⟩ | ⟨ig1, ig, ig3, aDST, cDST, rfl, hcDST, hx99⟩)
        · exfalso; first | omega | exact r4_rg hg ig | exact r4_rg ig hg
        · have hS100 := hS97.ext hx99
          refine wl_val (r_move (v := .tuple _) rfl) rfl ?_
          refine wl_val (r_extract (v := .agg _) rfl rfl) rfl ?_
          refine wl_val (r_extract (v := .int .i64 _) rfl rfl) rfl ?_
          refine wl_val (r_extract (v := .int .i64 _) rfl rfl) rfl ?_
          refine wl_exv (x_alloc (C := [.int .i64 0, .int .i64 0, .slice none 0 0]) hS100 ti55 rfl) rfl ?_
          rintro _ w101 ⟨b14, rfl, hS102⟩
          refine wl_exs (x_storeW [] hS102 ti55 rfl rfl (by first | (simp [*]; done) | (simp [*] <;> omega) | omega) (by first | (simp [*]; done) | (simp [*] <;> omega) | omega) (by repeat' first | exact one_nil | exact one_b8 _ | exact one_v32 _ | exact one_all rfl | refine one_cons rfl ?_ | refine one_app ?_ ?_)) rfl ?_
          intro w103 hS104
          simp only [List.cons_append, List.nil_append] at hS104
          refine wl_val (r_assign (v := .int .i64 _) rfl) rfl ?_
          refine wl_val (r_assign (v := .int .i64 _) rfl) rfl ?_
          refine wl_nil ?_
          refine c_then ?_
          refine c_seq ?_
          refine c_region ?_
          refine wl_val (r_move (v := .int .i64 _) rfl) rfl ?_
          refine wl_val (r_move (v := .int .i64 _) rfl) rfl ?_
          refine wl_dec_t (r_eql rfl rfl) rfl (by decide) ?_
          refine wl_val (r_move (v := .bool _) rfl) rfl ?_
          refine wl_val (r_move (v := .int .i64 _) rfl) rfl ?_
          refine wl_val (r_move (v := .int .i64 _) rfl) rfl ?_
          refine wl_dec_t (r_eql rfl rfl) rfl (by decide) ?_
          refine wl_val (r_pick_t rfl (v := .bool _) rfl) rfl ?_
          refine wl_val (r_move (v := .bool _) rfl) rfl ?_
          refine wl_val (r_loadB ti55 ag55 rfl (hS104.heap (.tail _ (.head _))) (by first | (simp [*]; done) | (simp [*] <;> omega) | omega)) rfl ?_
          refine wl_val (r_loadB ti55 ag55 rfl (hS104.heap (.head _)) (by first | (simp [*]; done) | (simp [*] <;> omega) | omega)) rfl ?_
          refine wl_call (r_call fn38 rfl rfl) rfl (sameProof_t 0 0 0 0 none none 0 0 0 0 [] [] _ Row.nil Row.nil S32.nil S32.nil rfl rfl (by decide) rfl rfl rfl) ?_
          rintro _ w105 ⟨rfl, hx106⟩
          have hS107 := hS104.ext hx106
          refine wl_val (r_pick_t rfl (v := .bool _) rfl) rfl ?_
          refine wl_val (r_assign (v := .bool _) rfl) rfl ?_
          refine wl_nil ?_
          refine c_then ?_
          refine wp_ret ?_
          refine ret1 Try.results5 ?_
          exact ⟨rfl, hS107.fin⟩
        · exfalso; first | omega | exact r4_rg hg ig | exact r4_rg ig hg
        · exfalso; first | omega | exact r4_rg hg ig | exact r4_rg ig hg
      · have hS79 := hS76.ext hx78
        refine wl_val (r_move (v := .tuple _) rfl) rfl ?_
        refine wl_val (r_extract (v := .agg _) rfl rfl) rfl ?_
        refine wl_val (r_extract (v := .int .i64 _) rfl rfl) rfl ?_
        refine wl_val (r_extract (v := .int .i64 _) rfl rfl) rfl ?_
        refine wl_exv (x_alloc (C := [.int .i64 0, .int .i64 0, .slice none 0 0]) hS79 ti55 rfl) rfl ?_
        rintro _ w108 ⟨b12, rfl, hS109⟩
        refine wl_exs (x_storeW [] hS109 ti55 rfl rfl (by first | (simp [*]; done) | (simp [*] <;> omega) | omega) (by first | (simp [*]; done) | (simp [*] <;> omega) | omega) (by repeat' first | exact one_nil | exact one_b8 _ | exact one_v32 _ | exact one_all rfl | refine one_cons rfl ?_ | refine one_app ?_ ?_)) rfl ?_
        intro w110 hS111
        simp only [List.cons_append, List.nil_append] at hS111
        refine wl_val (r_assign (v := .int .i64 _) rfl) rfl ?_
        refine wl_val (r_assign (v := .int .i64 _) rfl) rfl ?_
        refine wl_nil ?_
        refine c_then ?_
        refine c_seq ?_
        refine c_region ?_
        refine wl_val (r_move (v := .slice _ _ _) rfl) rfl ?_
        refine wl_call (r_call fn39 rfl rfl) rfl (rparse_ok l a l.length c _ _ _ _ (hb.st hS111) rfl hc hn rfl rfl rfl (natN_le8 (by simp; omega)) (natN_le8 (by simp; omega))) ?_
        rintro _ w112 (⟨ig, rfl, hx113⟩ | ⟨ig1, ig, rfl, hx113⟩ | ⟨ig1, ig, ig3, rfl, hx113⟩ | ⟨ig1, ig, ig3, aDST, cDST, rfl, hcDST, hx113⟩)
        · exfalso; first | omega | exact r4_rg hg ig | exact r4_rg ig hg
        · exfalso; first | omega | exact r4_rg hg ig | exact r4_rg ig hg
        · have hS114 := hS111.ext hx113
          refine wl_val (r_move (v := .tuple _) rfl) rfl ?_
          refine wl_val (r_extract (v := .agg _) rfl rfl) rfl ?_
          refine wl_val (r_extract (v := .int .i64 _) rfl rfl) rfl ?_
          refine wl_val (r_extract (v := .int .i64 _) rfl rfl) rfl ?_
          refine wl_exv (x_alloc (C := [.int .i64 0, .int .i64 0, .slice none 0 0]) hS114 ti55 rfl) rfl ?_
          rintro _ w115 ⟨b14, rfl, hS116⟩
          refine wl_exs (x_storeW [] hS116 ti55 rfl rfl (by first | (simp [*]; done) | (simp [*] <;> omega) | omega) (by first | (simp [*]; done) | (simp [*] <;> omega) | omega) (by repeat' first | exact one_nil | exact one_b8 _ | exact one_v32 _ | exact one_all rfl | refine one_cons rfl ?_ | refine one_app ?_ ?_)) rfl ?_
          intro w117 hS118
          simp only [List.cons_append, List.nil_append] at hS118
          refine wl_val (r_assign (v := .int .i64 _) rfl) rfl ?_
          refine wl_val (r_assign (v := .int .i64 _) rfl) rfl ?_
          refine wl_nil ?_
          refine c_then ?_
          refine c_seq ?_
          refine c_region ?_
          refine wl_val (r_move (v := .int .i64 _) rfl) rfl ?_
          refine wl_val (r_move (v := .int .i64 _) rfl) rfl ?_
          refine wl_dec_t (r_eql rfl rfl) rfl (by decide) ?_
          refine wl_val (r_move (v := .bool _) rfl) rfl ?_
          refine wl_val (r_move (v := .int .i64 _) rfl) rfl ?_
          refine wl_val (r_move (v := .int .i64 _) rfl) rfl ?_
          refine wl_dec_t (r_eql rfl rfl) rfl (by decide) ?_
          refine wl_val (r_pick_t rfl (v := .bool _) rfl) rfl ?_
          refine wl_val (r_move (v := .bool _) rfl) rfl ?_
          refine wl_val (r_loadB ti55 ag55 rfl (hS118.heap (.tail _ (.head _))) (by first | (simp [*]; done) | (simp [*] <;> omega) | omega)) rfl ?_
          refine wl_val (r_loadB ti55 ag55 rfl (hS118.heap (.head _)) (by first | (simp [*]; done) | (simp [*] <;> omega) | omega)) rfl ?_
          refine wl_call (r_call fn38 rfl rfl) rfl (sameProof_t 0 0 0 0 none none 0 0 0 0 [] [] _ Row.nil Row.nil S32.nil S32.nil rfl rfl (by decide) rfl rfl rfl) ?_
          rintro _ w119 ⟨rfl, hx120⟩
          have hS121 := hS118.ext hx120
          refine wl_val (r_pick_t rfl (v := .bool _) rfl) rfl ?_
          refine wl_val (r_assign (v := .bool _) rfl) rfl ?_
          refine wl_nil ?_
          refine c_then ?_
          refine wp_ret ?_
          refine ret1 Try.results5 ?_
          exact ⟨rfl, hS121.fin⟩
        · exfalso; first | omega | exact r4_rg hg ig | exact r4_rg ig hg
      · have hS79 := hS76.call hx78
        simp only [List.cons_append, List.nil_append] at hS79
        refine wl_val (r_move (v := .tuple _) rfl) rfl ?_
        refine wl_val (r_extract (v := .agg _) rfl rfl) rfl ?_
        refine wl_val (r_extract (v := .int .i64 _) rfl rfl) rfl ?_
        refine wl_val (r_extract (v := .int .i64 _) rfl rfl) rfl ?_
        refine wl_exv (x_alloc (C := [.int .i64 0, .int .i64 0, .slice none 0 0]) hS79 ti55 rfl) rfl ?_
        rintro _ w122 ⟨b12, rfl, hS123⟩
        refine wl_exs (x_storeW [] hS123 ti55 rfl rfl (by first | (simp [*]; done) | (simp [*] <;> omega) | omega) (by first | (simp [*]; done) | (simp [*] <;> omega) | omega) (by repeat' first | exact one_nil | exact one_b8 _ | exact one_v32 _ | exact one_all rfl | refine one_cons rfl ?_ | refine one_app ?_ ?_)) rfl ?_
        intro w124 hS125
        simp only [List.cons_append, List.nil_append] at hS125
        refine wl_val (r_assign (v := .int .i64 _) rfl) rfl ?_
        refine wl_val (r_assign (v := .int .i64 _) rfl) rfl ?_
        refine wl_nil ?_
        refine c_then ?_
        refine c_seq ?_
        refine c_region ?_
        refine wl_val (r_move (v := .slice _ _ _) rfl) rfl ?_
        refine wl_call (r_call fn39 rfl rfl) rfl (rparse_ok l a l.length c _ _ _ _ (hb.st hS125) rfl hc hn rfl rfl rfl (natN_le8 (by simp; omega)) (natN_le8 (by simp; omega))) ?_
        rintro _ w126 (⟨ig, rfl, hx127⟩ | ⟨ig1, ig, rfl, hx127⟩ | ⟨ig1, ig, ig3, rfl, hx127⟩ | ⟨ig1, ig, ig3, aDST, cDST, rfl, hcDST, hx127⟩)
        · exfalso; first | omega | exact r4_rg hg ig | exact r4_rg ig hg
        · exfalso; first | omega | exact r4_rg hg ig | exact r4_rg ig hg
        · exfalso; first | omega | exact r4_rg hg ig | exact r4_rg ig hg
        · have hS128 := hS125.call hx127
          simp only [List.cons_append, List.nil_append] at hS128
          refine wl_val (r_move (v := .tuple _) rfl) rfl ?_
          refine wl_val (r_extract (v := .agg _) rfl rfl) rfl ?_
          refine wl_val (r_extract (v := .int .i64 _) rfl rfl) rfl ?_
          refine wl_val (r_extract (v := .int .i64 _) rfl rfl) rfl ?_
          refine wl_exv (x_alloc (C := [.int .i64 0, .int .i64 0, .slice none 0 0]) hS128 ti55 rfl) rfl ?_
          rintro _ w129 ⟨b14, rfl, hS130⟩
          refine wl_exs (x_storeW [] hS130 ti55 rfl rfl (by first | (simp [*]; done) | (simp [*] <;> omega) | omega) (by first | (simp [*]; done) | (simp [*] <;> omega) | omega) (by repeat' first | exact one_nil | exact one_b8 _ | exact one_v32 _ | exact one_all rfl | refine one_cons rfl ?_ | refine one_app ?_ ?_)) rfl ?_
          intro w131 hS132
          simp only [List.cons_append, List.nil_append] at hS132
          refine wl_val (r_assign (v := .int .i64 _) rfl) rfl ?_
          refine wl_val (r_assign (v := .int .i64 _) rfl) rfl ?_
          refine wl_nil ?_
          refine c_then ?_
          refine c_seq ?_
          refine c_region ?_
          refine wl_val (r_move (v := .int .i64 _) rfl) rfl ?_
          refine wl_val (r_move (v := .int .i64 _) rfl) rfl ?_
          refine wl_dec_t (r_eql rfl rfl) rfl (by decide) ?_
          refine wl_val (r_move (v := .bool _) rfl) rfl ?_
          refine wl_val (r_move (v := .int .i64 _) rfl) rfl ?_
          refine wl_val (r_move (v := .int .i64 _) rfl) rfl ?_
          refine wl_dec_t (r_eql rfl rfl) rfl rfl ?_
          refine wl_val (r_pick_t rfl (v := .bool _) rfl) rfl ?_
          refine wl_val (r_move (v := .bool _) rfl) rfl ?_
          refine wl_val (r_loadB ti55 ag55 rfl (hS132.heap (.tail _ (.tail _ (.head _)))) (by first | (simp [*]; done) | (simp [*] <;> omega) | omega)) rfl ?_
          refine wl_val (r_loadB ti55 ag55 rfl (hS132.heap (.head _)) (by first | (simp [*]; done) | (simp [*] <;> omega) | omega)) rfl ?_
          refine wl_call (r_call fn38 rfl rfl) rfl (sameProof_t _ _ _ _ _ _ _ _ _ _ (chunksL l _) (chunksL l _) _ (St.rowAt hS132 (.tail _ (.tail _ (.tail _ (.head _))))) (St.rowAt hS132 (.tail _ (.head _))) (chunks_32 (by omega)) (chunks_32 (by omega)) (chunks_len _ _) (chunks_len _ _) (by omega) rfl rfl rfl) ?_
          rintro _ w133 ⟨rfl, hx134⟩
          have hS135 := hS132.ext hx134
          refine wl_val (r_pick_t rfl (v := .bool _) rfl) rfl ?_
          refine wl_val (r_assign (v := .bool _) rfl) rfl ?_
          refine wl_nil ?_
          refine c_then ?_
          refine wp_ret ?_
          refine ret1 Try.results5 ?_
          exact ⟨rfl, hS135.fin⟩
    · exfalso; omega
  · have hS5 := hS2.call hx4
    simp only [List.cons_append, List.nil_append] at hS5
    refine wl_val (r_move (v := .tuple _) rfl) rfl ?_
    refine wl_val (r_extract (v := .slice _ _ _) rfl rfl) rfl ?_
    refine wl_val (r_extract (v := .int .i64 _) rfl rfl) rfl ?_
    refine wl_val (r_assign (v := .slice _ _ _) rfl) rfl ?_
    refine wl_val (r_assign (v := .int .i64 _) rfl) rfl ?_
    refine wl_nil ?_
    refine c_then ?_
    refine c_seq ?_
    refine c_region ?_
    refine wl_val (r_loadB ti55 ag55 rfl (hS5.heap (.tail _ (.head _))) (by first | (simp [*]; done) | (simp [*] <;> omega) | omega)) rfl ?_
    refine wl_call (r_call fn35 rfl rfl) rfl (rprintProof_ok ix sz pa pc pl _ (hp.st hS5) h32 hpc) ?_
    rintro _ w136 (⟨hf2, rfl, hx137⟩ | ⟨hf2, rfl, hx137⟩ | ⟨hf2, aDST, cDST, rfl, hcDST, hx137⟩)
    · exfalso; omega
    · exfalso; omega
    · have hS138 := hS5.call hx137
      simp only [List.cons_append, List.nil_append] at hS138
      refine wl_val (r_move (v := .tuple _) rfl) rfl ?_
      refine wl_val (r_extract (v := .slice _ _ _) rfl rfl) rfl ?_
      refine wl_val (r_extract (v := .int .i64 _) rfl rfl) rfl ?_
      refine wl_val (r_assign (v := .slice _ _ _) rfl) rfl ?_
      refine wl_val (r_assign (v := .int .i64 _) rfl) rfl ?_
      refine wl_nil ?_
      refine c_then ?_
      refine c_seq ?_
      refine c_seq ?_
      refine c_region ?_
      refine wl_val (r_move (v := .int .i64 _) rfl) rfl ?_
      refine wl_val (r_move (v := .int .i64 _) rfl) rfl ?_
      refine wl_dec_f (r_neq rfl rfl) rfl (by decide) ?_
      refine wl_val (r_move (v := .bool _) rfl) rfl ?_
      refine wl_val (r_move (v := .slice _ _ _) rfl) rfl ?_
      refine wl_val (r_move (v := .slice _ _ _) rfl) rfl ?_
      refine wl_call (r_call fn36 rfl rfl) rfl (equalB_ok (printL ix sz pl) _ _ _ _ _ _ _ (St.rowAt hS138 (.tail _ (.head _))) (St.rowAt hS138 (.head _)) (printL_len h32) (printL_len h32) (by omega)) ?_
      rintro _ w139 ⟨rfl, hx140⟩
      have hS141 := hS138.ext hx140
      refine wl_val (r_not rfl) rfl ?_
      refine wl_val (r_pick_f rfl (v := .bool _) rfl) rfl ?_
      refine wl_nil ?_
      refine c_then ?_
      refine c_false rfl ?_
      refine wp_skip ?_
      refine c_then ?_
      refine c_seq ?_
      refine c_seq ?_
      refine c_region ?_
      refine wl_val (r_move (v := .int .i64 _) rfl) rfl ?_
      refine wl_dec_t (r_eql rfl rfl) rfl (by decide) ?_
      refine wl_nil ?_
      refine c_then ?_
      refine c_true rfl ?_
      refine c_seq ?_
      refine c_region ?_
      refine wl_val (r_move (v := .slice _ _ _) rfl) rfl ?_
      refine wl_exv (x_lit (vs := [b8 1, b8 2]) hS141 ti22.und ti5 rfl rfl rfl (by intro c hc; simp only [List.mem_cons, List.not_mem_nil, or_false] at hc; rcases hc with rfl | rfl <;> rfl) (by decide)) rfl ?_
      rintro _ w142 ⟨b39, rfl, hS143⟩
      refine wl_exv (x_append [_, _] hS143 ti22.und ti5 rfl (by decide) rfl rfl (Row.of_at (at_all (hS143.heap (.head _)))) (by first | (simp [*]; done) | (simp [*] <;> omega) | omega) (by first | exact one_b8 _ | exact one_v32 _ | (intro c hc; simp only [List.mem_cons, List.not_mem_nil, or_false] at hc; (first | subst hc | rcases hc with rfl | rfl) <;> rfl)) (by first | omega | (simp [*]; done) | (simp [*] <;> omega)) (by first | omega | (simp [*]; done) | (simp [*] <;> omega)) _ rfl) rfl ?_
      rintro _ w144 ⟨aq146, cq146, rfl, hcq146, hS145⟩
      simp only [List.cons_append, List.nil_append] at hS145
      refine wl_call (r_call fn37 rfl rfl) rfl (parse_print ix sz pl _ _ _ _ (by rw [List.map_append]; exact (St.rowAt hS145 (.tail _ (.tail _ (.head _))))) h32 hf rfl (by omega)) ?_
      rintro _ w147 ⟨a41, c41, rfl, hc41, hx148⟩
      have hS149 := hS145.call hx148
      simp only [List.cons_append, List.nil_append] at hS149
      refine wl_val (r_move (v := .tuple _) rfl) rfl ?_
      refine wl_val (r_extract (v := .agg _) rfl rfl) rfl ?_
      refine wl_val (r_extract (v := .int .i64 _) rfl rfl) rfl ?_
      refine wl_val (r_extract (v := .int .i64 _) rfl rfl) rfl ?_
      refine wl_exv (x_alloc (C := [.int .i64 0, .int .i64 0, .slice none 0 0]) hS149 ti55 rfl) rfl ?_
      rintro _ w150 ⟨b9, rfl, hS151⟩
      refine wl_exs (x_storeW [] hS151 ti55 rfl rfl (by first | (simp [*]; done) | (simp [*] <;> omega) | omega) (by first | (simp [*]; done) | (simp [*] <;> omega) | omega) (by repeat' first | exact one_nil | exact one_b8 _ | exact one_v32 _ | exact one_all rfl | refine one_cons rfl ?_ | refine one_app ?_ ?_)) rfl ?_
      intro w152 hS153
      simp only [List.cons_append, List.nil_append] at hS153
      refine wl_val (r_assign (v := .int .i64 _) rfl) rfl ?_
      refine wl_val (r_assign (v := .int .i64 _) rfl) rfl ?_
      refine wl_nil ?_
      refine c_then ?_
      refine c_seq ?_
      refine c_region ?_
      refine wl_val (r_move (v := .int .i64 _) rfl) rfl ?_
      refine wl_dec_f (r_neq rfl rfl) rfl (by decide) ?_
      refine wl_val (r_move (v := .bool _) rfl) rfl ?_
      refine wl_val (r_move (v := .int .i64 _) rfl) rfl ?_
      refine wl_val (r_move (v := .slice _ _ _) rfl) rfl ?_
      refine wl_val (r_len (T := 22) rfl ti22.und rfl _ rfl) rfl ?_
      refine wl_dec_f (r_neq rfl rfl) rfl (by omega) ?_
      refine wl_val (r_pick_f rfl (v := .bool _) rfl) rfl ?_
      refine wl_val (r_move (v := .bool _) rfl) rfl ?_
      refine wl_val (r_loadB ti55 ag55 rfl (hS153.heap (.tail _ (.tail _ (.tail _ (.tail _ (.tail _ (.head _))))))) (by first | (simp [*]; done) | (simp [*] <;> omega) | omega)) rfl ?_
      refine wl_val (r_loadB ti55 ag55 rfl (hS153.heap (.head _)) (by first | (simp [*]; done) | (simp [*] <;> omega) | omega)) rfl ?_
      refine wl_call (r_call fn38 rfl rfl) rfl (sameProof_t ix sz ix sz _ _ pl.length pl.length _ _ pl pl _ (hp.st hS153) (St.rowAt hS153 (.tail _ (.head _))) h32 h32 rfl rfl hpm rfl rfl rfl) ?_
      rintro _ w154 ⟨rfl, hx155⟩
      have hS156 := hS153.ext hx155
      refine wl_val (r_not rfl) rfl ?_
      refine wl_val (r_pick_f rfl (v := .bool _) rfl) rfl ?_
      refine wl_nil ?_
      refine c_then ?_
      refine c_false rfl ?_
      refine wp_skip ?_
      refine c_then ?_
      refine c_seq ?_
      refine c_region ?_
      refine wl_val (r_move (v := .slice _ _ _) rfl) rfl ?_
      refine wl_call (r_call fn37 rfl rfl) rfl (parse_ok l a l.length c _ _ _ _ (hb.st hS156) rfl hc hn rfl rfl rfl (natN_le8 (by simp; omega)) (natN_le8 (by simp; omega))) ?_
      rintro _ w157 (⟨hg, rfl, hx158⟩ | ⟨hg1, hg, rfl, hx158⟩ | ⟨hg1, hg, hg3, rfl, hx158⟩ | ⟨hg1, hg, hg3, aDST, cDST, rfl, hcDST, hx158⟩)
      · have hS159 := hS156.ext hx158
        refine wl_val (r_move (v := .tuple _) rfl) rfl ?_
        refine wl_val (r_extract (v := .agg _) rfl rfl) rfl ?_
        refine wl_val (r_extract (v := .int .i64 _) rfl rfl) rfl ?_
        refine wl_val (r_extract (v := .int .i64 _) rfl rfl) rfl ?_
        refine wl_exv (x_alloc (C := [.int .i64 0, .int .i64 0, .slice none 0 0]) hS159 ti55 rfl) rfl ?_
        rintro _ w160 ⟨b12, rfl, hS161⟩
        refine wl_exs (x_storeW [] hS161 ti55 rfl rfl (by first | (simp [*]; done) | (simp [*] <;> omega) | omega) (by first | (simp [*]; done) | (simp [*] <;> omega) | omega) (by repeat' first | exact one_nil | exact one_b8 _ | exact one_v32 _ | exact one_all rfl | refine one_cons rfl ?_ | refine one_app ?_ ?_)) rfl ?_
        intro w162 hS163
        simp only [List.cons_append, List.nil_append] at hS163
        refine wl_val (r_assign (v := .int .i64 _) rfl) rfl ?_
        refine wl_val (r_assign (v := .int .i64 _) rfl) rfl ?_
        refine wl_nil ?_
        refine c_then ?_
        refine c_seq ?_
        refine c_region ?_
        refine wl_val (r_move (v := .slice _ _ _) rfl) rfl ?_
        refine wl_call (r_call fn39 rfl rfl) rfl (rparse_ok l a l.length c _ _ _ _ (hb.st hS163) rfl hc hn rfl rfl rfl (natN_le8 (by simp; omega)) (natN_le8 (by simp; omega))) ?_
        rintro _ w164 (⟨ig, rfl, hx165⟩ | ⟨ig1, ig, rfl, hx165⟩ | ⟨ig1, ig, ig3, rfl, hx165⟩ | ⟨ig1, ig, ig3, aDST, cDST, rfl, hcDST, hx165⟩)
        · have hS166 := hS163.ext hx165
          refine wl_val (r_move (v := .tuple _) rfl) rfl ?_
          refine wl_val (r_extract (v := .agg _) rfl rfl) rfl ?_
          refine wl_val (r_extract (v := .int .i64 _) rfl rfl) rfl ?_
          refine wl_val (r_extract (v := .int .i64 _) rfl rfl) rfl ?_
          refine wl_exv (x_alloc (C := [.int .i64 0, .int .i64 0, .slice none 0 0]) hS166 ti55 rfl) rfl ?_
          rintro _ w167 ⟨b14, rfl, hS168⟩
          refine wl_exs (x_storeW [] hS168 ti55 rfl rfl (by first | (simp [*]; done) | (simp [*] <;> omega) | omega) (by first | (simp [*]; done) | (simp [*] <;> omega) | omega) (by repeat' first | exact one_nil | exact one_b8 _ | exact one_v32 _ | exact one_all rfl | refine one_cons rfl ?_ | refine one_app ?_ ?_)) rfl ?_
          intro w169 hS170
          simp only [List.cons_append, List.nil_append] at hS170
          refine wl_val (r_assign (v := .int .i64 _) rfl) rfl ?_
          refine wl_val (r_assign (v := .int .i64 _) rfl) rfl ?_
          refine wl_nil ?_
          refine c_then ?_
          refine c_seq ?_
          refine c_region ?_
          refine wl_val (r_move (v := .int .i64 _) rfl) rfl ?_
          refine wl_val (r_move (v := .int .i64 _) rfl) rfl ?_
          refine wl_dec_t (r_eql rfl rfl) rfl (by decide) ?_
          refine wl_val (r_move (v := .bool _) rfl) rfl ?_
          refine wl_val (r_move (v := .int .i64 _) rfl) rfl ?_
          refine wl_val (r_move (v := .int .i64 _) rfl) rfl ?_
          refine wl_dec_t (r_eql rfl rfl) rfl (by decide) ?_
          refine wl_val (r_pick_t rfl (v := .bool _) rfl) rfl ?_
          refine wl_val (r_move (v := .bool _) rfl) rfl ?_
          refine wl_val (r_loadB ti55 ag55 rfl (hS170.heap (.tail _ (.head _))) (by first | (simp [*]; done) | (simp [*] <;> omega) | omega)) rfl ?_
          refine wl_val (r_loadB ti55 ag55 rfl (hS170.heap (.head _)) (by first | (simp [*]; done) | (simp [*] <;> omega) | omega)) rfl ?_
          refine wl_call (r_call fn38 rfl rfl) rfl (sameProof_t 0 0 0 0 none none 0 0 0 0 [] [] _ Row.nil Row.nil S32.nil S32.nil rfl rfl (by decide) rfl rfl rfl) ?_
          rintro _ w171 ⟨rfl, hx172⟩
          have hS173 := hS170.ext hx172
          refine wl_val (r_pick_t rfl (v := .bool _) rfl) rfl ?_
          refine wl_val (r_assign (v := .bool _) rfl) rfl ?_
          refine wl_nil ?_
          refine c_then ?_
          refine wp_ret ?_
          refine ret1 Try.results5 ?_
          exact ⟨rfl, hS173.fin⟩
        · exfalso; first | omega | exact r4_rg hg ig | exact r4_rg ig hg
        · exfalso; first | omega | exact r4_rg hg ig | exact r4_rg ig hg
        · exfalso; first | omega | exact r4_rg hg ig | exact r4_rg ig hg
      · have hS159 := hS156.ext hx158
        refine wl_val (r_move (v := .tuple _) rfl) rfl ?_
        refine wl_val (r_extract (v := .agg _) rfl rfl) rfl ?_
        refine wl_val (r_extract (v := .int .i64 _) rfl rfl) rfl ?_
        refine wl_val (r_extract (v := .int .i64 _) rfl rfl) rfl ?_
        refine wl_exv (x_alloc (C := [.int .i64 0, .int .i64 0, .slice none 0 0]) hS159 ti55 rfl) rfl ?_
        rintro _ w174 ⟨b12, rfl, hS175⟩
        refine wl_exs (x_storeW [] hS175 ti55 rfl rfl (by first | (simp [*]; done) | (simp [*] <;> omega) | omega) (by first | (simp [*]; done) | (simp [*] <;> omega) | omega) (by repeat' first | exact one_nil | exact one_b8 _ | exact one_v32 _ | exact one_all rfl | refine one_cons rfl ?_ | refine one_app ?_ ?_)) rfl ?_
        intro w176 hS177
        simp only [List.cons_append, List.nil_append] at hS177
        refine wl_val (r_assign (v := .int .i64 _) rfl) rfl ?_
        refine wl_val (r_assign (v := .int .i64 _) rfl) rfl ?_
        refine wl_nil ?_
        refine c_then ?_
        refine c_seq ?_
        refine c_region ?_
        refine wl_val (r_move (v := .slice _ _ _) rfl) rfl ?_
        refine wl_call (r_call fn39 rfl rfl) rfl (rparse_ok l a l.length c _ _ _ _ (hb.st hS177) rfl hc hn rfl rfl rfl (natN_le8 (by simp; omega)) (natN_le8 (by simp; omega))) ?_
        rintro _ w178 (⟨ig, rfl, hx179⟩ | ⟨ig1, ig, rfl, hx179⟩ | ⟨ig1, ig, ig3, rfl, hx179⟩ | ⟨ig1, ig, ig3, aDST, cDST, rfl, hcDST, hx179⟩)
        · exfalso; first | omega | exact r4_rg hg ig | exact r4_rg ig hg
        · have hS180 := hS177.ext hx179
          refine wl_val (r_move (v := .tuple _) rfl) rfl ?_
          refine wl_val (r_extract (v := .agg _) rfl rfl) rfl ?_
          refine wl_val (r_extract (v := .int .i64 _) rfl rfl) rfl ?_
          refine wl_val (r_extract (v := .int .i64 _) rfl rfl) rfl ?_
          refine wl_exv (x_alloc (C := [.int .i64 0, .int .i64 0, .slice none 0 0]) hS180 ti55 rfl) rfl ?_
          rintro _ w181 ⟨b14, rfl, hS182⟩
          refine wl_exs (x_storeW [] hS182 ti55 rfl rfl (by first | (simp [*]; done) | (simp [*] <;> omega) | omega) (by first | (simp [*]; done) | (simp [*] <;> omega) | omega) (by repeat' first | exact one_nil | exact one_b8 _ | exact one_v32 _ | exact one_all rfl | refine one_cons rfl ?_ | refine one_app ?_ ?_)) rfl ?_
          intro w183 hS184
          simp only [List.cons_append, List.nil_append] at hS184
          refine wl_val (r_assign (v := .int .i64 _) rfl) rfl ?_
          refine wl_val (r_assign (v := .int .i64 _) rfl) rfl ?_
          refine wl_nil ?_
          refine c_then ?_
          refine c_seq ?_
          refine c_region ?_
          refine wl_val (r_move (v := .int .i64 _) rfl) rfl ?_
          refine wl_val (r_move (v := .int .i64 _) rfl) rfl ?_
          refine wl_dec_t (r_eql rfl rfl) rfl (by decide) ?_
          refine wl_val (r_move (v := .bool _) rfl) rfl ?_
          refine wl_val (r_move (v := .int .i64 _) rfl) rfl ?_
          refine wl_val (r_move (v := .int .i64 _) rfl) rfl ?_
          refine wl_dec_t (r_eql rfl rfl) rfl (by decide) ?_
          refine wl_val (r_pick_t rfl (v := .bool _) rfl) rfl ?_
          refine wl_val (r_move (v := .bool _) rfl) rfl ?_
          refine wl_val (r_loadB ti55 ag55 rfl (hS184.heap (.tail _ (.head _))) (by first | (simp [*]; done) | (simp [*] <;> omega) | omega)) rfl ?_
          refine wl_val (r_loadB ti55 ag55 rfl (hS184.heap (.head _)) (by first | (simp [*]; done) | (simp [*] <;> omega) | omega)) rfl ?_
          refine wl_call (r_call fn38 rfl rfl) rfl (sameProof_t 0 0 0 0 none none 0 0 0 0 [] [] _ Row.nil Row.nil S32.nil S32.nil rfl rfl (by decide) rfl rfl rfl) ?_
          rintro _ w185 ⟨rfl, hx186⟩
          have hS187 := hS184.ext hx186
          refine wl_val (r_pick_t rfl (v := .bool _) rfl) rfl ?_
          refine wl_val (r_assign (v := .bool _) rfl) rfl ?_
          refine wl_nil ?_
          refine c_then ?_
          refine wp_ret ?_
          refine ret1 Try.results5 ?_
          exact ⟨rfl, hS187.fin⟩
        · exfalso; first | omega | exact r4_rg hg ig | exact r4_rg ig hg
        · exfalso; first | omega | exact r4_rg hg ig | exact r4_rg ig hg
      · have hS159 := hS156.ext hx158
        refine wl_val (r_move (v := .tuple _) rfl) rfl ?_
        refine wl_val (r_extract (v := .agg _) rfl rfl) rfl ?_
        refine wl_val (r_extract (v := .int .i64 _) rfl rfl) rfl ?_
        refine wl_val (r_extract (v := .int .i64 _) rfl rfl) rfl ?_
        refine wl_exv (x_alloc (C := [.int .i64 0, .int .i64 0, .slice none 0 0]) hS159 ti55 rfl) rfl ?_
        rintro _ w188 ⟨b12, rfl, hS189⟩
        refine wl_exs (x_storeW [] hS189 ti55 rfl rfl (by first | (simp [*]; done) | (simp [*] <;> omega) | omega) (by first | (simp [*]; done) | (simp [*] <;> omega) | omega) (by repeat' first | exact one_nil | exact one_b8 _ | exact one_v32 _ | exact one_all rfl | refine one_cons rfl ?_ | refine one_app ?_ ?_)) rfl ?_
        intro w190 hS191
        simp only [List.cons_append, List.nil_append] at hS191
        refine wl_val (r_assign (v := .int .i64 _) rfl) rfl ?_
        refine wl_val (r_assign (v := .int .i64 _) rfl) rfl ?_
        refine wl_nil ?_
        refine c_then ?_
        refine c_seq ?_
        refine c_region ?_
        refine wl_val (r_move (v := .slice _ _ _) rfl) rfl ?_
        refine wl_call (r_call fn39 rfl rfl) rfl (rparse_ok l a l.length c _ _ _ _ (hb.st hS191) rfl hc hn rfl rfl rfl (natN_le8 (by simp; omega)) (natN_le8 (by simp; omega))) ?_
        rintro _ w192 (⟨ig, rfl, hx193⟩ | ⟨ig1, ig, rfl, hx193⟩ | ⟨ig1, ig, ig3, rfl, hx193⟩ | ⟨ig1, ig, ig3, aDST, cDST, rfl, hcDST, hx193⟩)
        · exfalso; first | omega | exact r4_rg hg ig | exact r4_rg ig hg
        · exfalso; first | omega | exact r4_rg hg ig | exact r4_rg ig hg
        · have hS194 := hS191.ext hx193
          refine wl_val (r_move (v := .tuple _) rfl) rfl ?_
          refine wl_val (r_extract (v := .agg _) rfl rfl) rfl ?_
          refine wl_val (r_extract (v := .int .i64 _) rfl rfl) rfl ?_
          refine wl_val (r_extract (v := .int .i64 _) rfl rfl) rfl ?_
          refine wl_exv (x_alloc (C := [.int .i64 0, .int .i64 0, .slice none 0 0]) hS194 ti55 rfl) rfl ?_
          rintro _ w195 ⟨b14, rfl, hS196⟩
          refine wl_exs (x_storeW [] hS196 ti55 rfl rfl (by first | (simp [*]; done) | (simp [*] <;> omega) | omega) (by first | (simp [*]; done) | (simp [*] <;> omega) | omega) (by repeat' first | exact one_nil | exact one_b8 _ | exact one_v32 _ | exact one_all rfl | refine one_cons rfl ?_ | refine one_app ?_ ?_)) rfl ?_
          intro w197 hS198
          simp only [List.cons_append, List.nil_append] at hS198
          refine wl_val (r_assign (v := .int .i64 _) rfl) rfl ?_
          refine wl_val (r_assign (v := .int .i64 _) rfl) rfl ?_
          refine wl_nil ?_
          refine c_then ?_
          refine c_seq ?_
          refine c_region ?_
          refine wl_val (r_move (v := .int .i64 _) rfl) rfl ?_
          refine wl_val (r_move (v := .int .i64 _) rfl) rfl ?_
          refine wl_dec_t (r_eql rfl rfl) rfl (by decide) ?_
          refine wl_val (r_move (v := .bool _) rfl) rfl ?_
          refine wl_val (r_move (v := .int .i64 _) rfl) rfl ?_
          refine wl_val (r_move (v := .int .i64 _) rfl) rfl ?_
          refine wl_dec_t (r_eql rfl rfl) rfl (by decide) ?_
          refine wl_val (r_pick_t rfl (v := .bool _) rfl) rfl ?_
          refine wl_val (r_move (v := .bool _) rfl) rfl ?_
          refine wl_val (r_loadB ti55 ag55 rfl (hS198.heap (.tail _ (.head _))) (by first | (simp [*]; done) | (simp [*] <;> omega) | omega)) rfl ?_
          refine wl_val (r_loadB ti55 ag55 rfl (hS198.heap (.head _)) (by first | (simp [*]; done) | (simp [*] <;> omega) | omega)) rfl ?_
          refine wl_call (r_call fn38 rfl rfl) rfl (sameProof_t 0 0 0 0 none none 0 0 0 0 [] [] _ Row.nil Row.nil S32.nil S32.nil rfl rfl (by decide) rfl rfl rfl) ?_
          rintro _ w199 ⟨rfl, hx200⟩
          have hS201 := hS198.ext hx200
          refine wl_val (r_pick_t rfl (v := .bool _) rfl) rfl ?_
          refine wl_val (r_assign (v := .bool _) rfl) rfl ?_
          refine wl_nil ?_
          refine c_then ?_
          refine wp_ret ?_
          refine ret1 Try.results5 ?_
          exact ⟨rfl, hS201.fin⟩
        · exfalso; first | omega | exact r4_rg hg ig | exact r4_rg ig hg
      · have hS159 := hS156.call hx158
        simp only [List.cons_append, List.nil_append] at hS159
        refine wl_val (r_move (v := .tuple _) rfl) rfl ?_
        refine wl_val (r_extract (v := .agg _) rfl rfl) rfl ?_
        refine wl_val (r_extract (v := .int .i64 _) rfl rfl) rfl ?_
        refine wl_val (r_extract (v := .int .i64 _) rfl rfl) rfl ?_
        refine wl_exv (x_alloc (C := [.int .i64 0, .int .i64 0, .slice none 0 0]) hS159 ti55 rfl) rfl ?_
        rintro _ w202 ⟨b12, rfl, hS203⟩
        refine wl_exs (x_storeW [] hS203 ti55 rfl rfl (by first | (simp [*]; done) | (simp [*] <;> omega) | omega) (by first | (simp [*]; done) | (simp [*] <;> omega) | omega) (by repeat' first | exact one_nil | exact one_b8 _ | exact one_v32 _ | exact one_all rfl | refine one_cons rfl ?_ | refine one_app ?_ ?_)) rfl ?_
        intro w204 hS205
        simp only [List.cons_append, List.nil_append] at hS205
        refine wl_val (r_assign (v := .int .i64 _) rfl) rfl ?_
        refine wl_val (r_assign (v := .int .i64 _) rfl) rfl ?_
        refine wl_nil ?_
        refine c_then ?_
        refine c_seq ?_
        refine c_region ?_
        refine wl_val (r_move (v := .slice _ _ _) rfl) rfl ?_
        refine wl_call (r_call fn39 rfl rfl) rfl (rparse_ok l a l.length c _ _ _ _ (hb.st hS205) rfl hc hn rfl rfl rfl (natN_le8 (by simp; omega)) (natN_le8 (by simp; omega))) ?_
        rintro _ w206 (⟨ig, rfl, hx207⟩ | ⟨ig1, ig, rfl, hx207⟩ | ⟨ig1, ig, ig3, rfl, hx207⟩ | ⟨ig1, ig, ig3, aDST, cDST, rfl, hcDST, hx207⟩)
        · exfalso; first | omega | exact r4_rg hg ig | exact r4_rg ig hg
        · exfalso; first | omega | exact r4_rg hg ig | exact r4_rg ig hg
        · exfalso; first | omega | exact r4_rg hg ig | exact r4_rg ig hg
        · have hS208 := hS205.call hx207
          simp only [List.cons_append, List.nil_append] at hS208
          refine wl_val (r_move (v := .tuple _) rfl) rfl ?_
          refine wl_val (r_extract (v := .agg _) rfl rfl) rfl ?_
          refine wl_val (r_extract (v := .int .i64 _) rfl rfl) rfl ?_
          refine wl_val (r_extract (v := .int .i64 _) rfl rfl) rfl ?_
          refine wl_exv (x_alloc (C := [.int .i64 0, .int .i64 0, .slice none 0 0]) hS208 ti55 rfl) rfl ?_
          rintro _ w209 ⟨b14, rfl, hS210⟩
          refine wl_exs (x_storeW [] hS210 ti55 rfl rfl (by first | (simp [*]; done) | (simp [*] <;> omega) | omega) (by first | (simp [*]; done) | (simp [*] <;> omega) | omega) (by repeat' first | exact one_nil | exact one_b8 _ | exact one_v32 _ | exact one_all rfl | refine one_cons rfl ?_ | refine one_app ?_ ?_)) rfl ?_
          intro w211 hS212
          simp only [List.cons_append, List.nil_append] at hS212
          refine wl_val (r_assign (v := .int .i64 _) rfl) rfl ?_
          refine wl_val (r_assign (v := .int .i64 _) rfl) rfl ?_
          refine wl_nil ?_
          refine c_then ?_
          refine c_seq ?_
          refine c_region ?_
          refine wl_val (r_move (v := .int .i64 _) rfl) rfl ?_
          refine wl_val (r_move (v := .int .i64 _) rfl) rfl ?_
          refine wl_dec_t (r_eql rfl rfl) rfl (by decide) ?_
          refine wl_val (r_move (v := .bool _) rfl) rfl ?_
          refine wl_val (r_move (v := .int .i64 _) rfl) rfl ?_
          refine wl_val (r_move (v := .int .i64 _) rfl) rfl ?_
          refine wl_dec_t (r_eql rfl rfl) rfl rfl ?_
          refine wl_val (r_pick_t rfl (v := .bool _) rfl) rfl ?_
          refine wl_val (r_move (v := .bool _) rfl) rfl ?_
          refine wl_val (r_loadB ti55 ag55 rfl (hS212.heap (.tail _ (.tail _ (.head _)))) (by first | (simp [*]; done) | (simp [*] <;> omega) | omega)) rfl ?_
          refine wl_val (r_loadB ti55 ag55 rfl (hS212.heap (.head _)) (by first | (simp [*]; done) | (simp [*] <;> omega) | omega)) rfl ?_
          refine wl_call (r_call fn38 rfl rfl) rfl (sameProof_t _ _ _ _ _ _ _ _ _ _ (chunksL l _) (chunksL l _) _ (St.rowAt hS212 (.tail _ (.tail _ (.tail _ (.head _))))) (St.rowAt hS212 (.tail _ (.head _))) (chunks_32 (by omega)) (chunks_32 (by omega)) (chunks_len _ _) (chunks_len _ _) (by omega) rfl rfl rfl) ?_
          rintro _ w213 ⟨rfl, hx214⟩
          have hS215 := hS212.ext hx214
          refine wl_val (r_pick_t rfl (v := .bool _) rfl) rfl ?_
          refine wl_val (r_assign (v := .bool _) rfl) rfl ?_
          refine wl_nil ?_
          refine c_then ?_
          refine wp_ret ?_
          refine ret1 Try.results5 ?_
          exact ⟨rfl, hS215.fin⟩


theorem own : ownKnob Try.prog.godebug = none := by kernel_rfl
theorem laidOut : laidOutB Try.prog = true := by kernel_rfl
theorem readable22 : Try.prog.readableRec 22 = true := by kernel_rfl
theorem inside22 : decide (22 < Try.prog.types.size) = true := by kernel_rfl
theorem readable55 : Try.prog.readableRec 55 = true := by kernel_rfl
theorem inside55 : decide (55 < Try.prog.types.size) = true := by kernel_rfl
theorem lifted (os : Os) (started : os.Started) (H : Type) (enc : TypeId × Value → H) :
    ReturnsInHanded {} Try.checked os 5 .any (Rows.proofsArePrintedSpec.pre6 enc Try.prog Try.f5 Rows.proofsArePrintedRow.domain false) (Rows.proofsArePrintedSpec.post enc Try.prog Try.f5 false true false false) := by
  refine returnsInHanded_of_change_sized (C := Try.checked) own started (by kernel_rfl) Try.func5
    (ChangeSpec.witness6 (enc := enc) (C := Try.checked) false ⟨#[], #[.agg #[.int .i64 0, .int .i64 0, .slice none 0 0], .slice none 0 0], []⟩ 8 (by kernel_rfl) (by kernel_rfl) (by kernel_rfl) (by kernel_rfl)) ?_
  intro W base args ds gs before hval0 hW hcnd hsz0 _
  have hval : ∀ (j : Nat) t v, Try.f5.params[j]? = some t → args[j]? = some v → Value.okWide Try.prog W .any base t v := hval0
  have hW' := hW
  obtain ⟨p, q, hA0, hV, rfl, hfz, hnd⟩ := hW
  have hA : DataW.TrodAll enc Try.prog W 0 (fun _ => true) true Try.f5.params.toList args.toList ds p := hA0
  have hsz : (DataW.weightsEach Try.prog (Try.f5.params.toList ++ Rows.proofsArePrintedSpec.plain.varTypes Try.prog) (ds ++ gs)).all (· ≤ reachBytes) = true := hsz0
  rw [Try.params5] at hA hval hsz
  obtain ⟨v0, vs0, d0, ds0, p0, q0, hargs, rfl, rfl, h0, r0⟩ := trodAll_cons hA
  obtain ⟨v1, vs1, d1, ds1, p1, q1, rfl, rfl, rfl, h1, r1⟩ := trodAll_cons r0
  obtain ⟨rfl, rfl, rfl⟩ := trodAll_nil r1
  obtain rfl : args = #[v0, v1] := by cases args; simp_all
  obtain ⟨rfl, rfl⟩ := trodVars_none hV
  have lt0 : ∀ x ∈ p0, x.block < W.heap.size := by obtain ⟨m, hm⟩ := h0; exact DataW.trod_lt m _ _ _ hm
  have lt1 : ∀ x ∈ p1, x.block < W.heap.size := by obtain ⟨m, hm⟩ := h1; exact DataW.trod_lt m _ _ _ hm
  have ok0 := hval 0 55 v0 rfl rfl
  obtain ⟨⟨ix, sz, ⟨pa, pc, pl⟩, _⟩, rfl, ⟨hi1, hi2⟩, ⟨hs1, hs2⟩, ⟨rpl, lpl, cpl, h32⟩, _⟩ := open_struct (j := 0) Try.underlying55 (opens_struct Try.underlying55 (by kernel_rfl) (opensFs_cons (sz := 1) (opens_i64 Try.underlying3) rfl (by kernel_rfl) (opensFs_cons (sz := 1) (opens_i64 Try.underlying3) rfl (by kernel_rfl) (opensFs_cons (sz := 1) (opens_sums Try.underlying53 Try.underlying49 Try.underlying5 (by kernel_rfl) (by kernel_rfl) (by kernel_rfl)) rfl (by kernel_rfl) opensFs_nil (by simp)) (by simp)) (by simp))) ok0 h0 hsz rfl rfl
  simp only [] at hi1 hi2 hs1 hs2 rpl lpl cpl h32
  have ok1 := hval 1 22 v1 rfl rfl
  obtain ⟨ab, b, cb, rfl, rb, lcb, hcb⟩ := open_bytesS (j := 1) Try.underlying22 Try.underlying5 (by kernel_rfl) (by kernel_rfl) ok1 h1 hsz rfl rfl
  refine Calls.mono (walk ix sz pa pc pl b ab cb W rpl h32 lpl (by omega) hi1 hi2 hs1 hs2 rb lcb (Nat.le_trans lcb hcb)) fun e W' ⟨v, he, hv, hs⟩ => ?_
  subst hv; subst he
  have bel := hs.below
  exact ⟨_, rfl, _, _, _, [], _, [], hW', trodAll_mk1 (shut_bool Try.underlying4 _), (trodAll_cons_mk (Below.trod laidOut readable55 (of_decide_eq_true inside55) h0 bel lt0) (trodAll_cons_mk (Below.trod laidOut readable22 (of_decide_eq_true inside22) h1 bel lt1) trodAll_mk0)), rfl, bel.frame _, fun h => by cases h⟩
theorem over : Rows.proofsArePrintedRow.holds Try.pinned (OpenSpec.ofChange Rows.proofsArePrintedSpec) :=
  OpenClaim.holds_of_wide 5 Try.f5 rfl rfl rfl rfl rfl rfl rfl ⟨rfl, rfl, rfl, rfl, rfl⟩ rfl rfl rfl rfl rfl (by kernel_rfl) Try.func5 (by kernel_rfl)
    (of_decide_eq_true (by kernel_rfl)) (by unfold Func.isWrapper; rw [if_neg (of_decide_eq_false (by kernel_rfl))]; exact ⟨rfl, rfl⟩)
    (fun os started H enc _ => lifted os started H enc)
theorem proved : Rows.ProofsArePrintedSaid := over
#print axioms proved
end Go.Proofs.Ytfohfnpehfcaaaa.lawProofsArePrinted
