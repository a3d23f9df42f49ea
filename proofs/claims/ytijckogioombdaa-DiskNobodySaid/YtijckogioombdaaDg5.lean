/- What the walks of this seat show of Dg5. -/
import Derived.Test.YtijckogioombdaaDf
import Derived.Test.YtijckogioombdaaSx16
import Derived.Test.YtijckogioombdaaProg
set_option linter.unusedVariables false
set_option linter.unusedSimpArgs false
namespace Go.Proofs.Ytijckogioombdaa
open Go Go.Sx
namespace TDg5
theorem hm : Try.prog.follows .mixedOrders = true := by kernel_rfl
theorem ag28 : aggB Try.prog 28 = some false := by kernel_rfl
theorem ag3 : aggB Try.prog 3 = some false := by kernel_rfl
theorem ag38 : aggB Try.prog 38 = some true := by kernel_rfl
theorem bd11 : bodied Try.prog 11 = true := by kernel_rfl
theorem bd17 : bodied Try.prog 17 = true := by kernel_rfl
theorem bd18 : bodied Try.prog 18 = true := by kernel_rfl
theorem bd19 : bodied Try.prog 19 = true := by kernel_rfl
theorem bd20 : bodied Try.prog 20 = true := by kernel_rfl
theorem el41 : Elem Try.prog 41 28 1 8 := Elem.of (by kernel_rfl)
theorem fo38_1 : offB Try.prog 38 1 = some 1 := by kernel_rfl
theorem pl40 : partPl Try.prog 40 = some [(0, 3), (3, 1), (4, 1), (5, 1), (6, 1)] := by kernel_rfl
theorem sz28 : sz Try.prog 28 = some 1 := by kernel_rfl
theorem sz38 : sz Try.prog 38 = some 4 := by kernel_rfl
theorem zr28 : zr Try.prog 28 = some ([.pointer none]) := by kernel_rfl
theorem zr40 : zr Try.prog 40 = some (List.replicate 3 (.slice none 0 0) ++ [.int .i64 0] ++ [.bool false] ++ [.bool false] ++ [.int .i64 0]) := by kernel_rfl
end TDg5
set_option maxHeartbeats 4000000 in
theorem law_nobody (k : Do) (AB : Option Addr) (bc : Nat) (w : World) (_hk : DoOk w k AB bc) : Calls Try.prog 4 #[.agg ([vi k.op, vi k.file, vi k.n, .slice AB k.b.length bc] : List Value).toArray] w fun e w2 => e = .returned (.bool true) ∧ Fr [] w w2 := by
  have hF := Fr.refl [] w
  refine calls_W 46 Try.func4 rfl Try.ntmps4 rfl [.tmp 2] rfl ?_
  refine W_seq_k fun K1_ hK1_ => ?_
  refine W_region [some 1, some 2] rfl ?_
  have hz1_hF := hF.size
  refine Ops_to (R_box rfl) rfl rfl ?_
  rintro _ w1_ ⟨b1, rfl, hb1, hB1, hF1_⟩
  have hl1 := hB1.lt
  replace hF := hF.fr0 hF1_
  clear hF1_
  replace hB1 : Blk _ b1 38 [vi k.op, vi k.file, vi k.n, .slice AB k.b.length bc] := hB1
  refine Ops_step (R_assign rfl) rfl rfl ?_
  refine Ops_nil ?_
  refine then_n (hK1_ _ _ ?_)
  clear hK1_ K1_
  refine W_seq_k fun K2_ hK2_ => ?_
  refine W_seq_k fun K3_ hK3_ => ?_
  refine W_region [some 8, some 9, some 10, some 11, some 12] rfl ?_
  refine Ops_step (R_build (pl := []) (cs := unK) TDg5.zr40 TDg5.pl40 rfl rfl (by kernel_rfl)) rfl rfl ?_
  have hz9_hF := hF.size
  have hn9_hB1 := hB1.lt
  refine Ops_to (R_box rfl) rfl rfl ?_
  rintro _ w9_ ⟨b9, rfl, hb9, hB9, hF9_⟩
  have hl9 := hB9.lt
  replace hF := hF.fr0 hF9_
  replace hB1 := hB1.fr0 hF9_
  clear hF9_
  replace hB9 : Blk _ b9 40 unK := hB9
  have hz10_hF := hF.size
  have hn10_hB1 := hB1.lt
  have hn10_hB9 := hB9.lt
  refine Ops_to (R_buildSlice TDg5.el41 TDg5.zr28 (by decide) (by decide) rfl rfl) rfl rfl ?_
  rintro _ w10_ ⟨b10, rfl, hb10, hB10, hF10_⟩
  have hl10 := hB10.lt
  replace hF := hF.fr0 hF10_
  replace hB1 := hB1.fr0 hF10_
  replace hB9 := hB9.fr0 hF10_
  clear hF10_
  replace hB10 : Blk _ b10 28 [.pointer none, .pointer (some ⟨b9, 0, none⟩)] := hB10
  refine Ops_step (R_len Try.underlying41 rfl rfl) rfl rfl ?_
  refine Ops_step (R_move rfl) rfl rfl ?_
  refine Ops_nil ?_
  refine then_n (hK3_ _ _ ?_)
  clear hK3_ K3_
  refine W_block ?_
  refine W_loopB [1, 10, 11] [12] (fun m vs w' => ∃ i, i ≤ 2 ∧ m = 2 - i ∧ vs = [vi (i : Nat)] ∧ Blk w' b10 28 [.pointer none, .pointer (some ⟨b9, 0, none⟩)] ∧ Blk w' b9 40 unK ∧ Blk w' b1 38 [vi k.op, vi k.file, vi k.n, .slice AB k.b.length bc] ∧ Fr [] w w') (2) _ rfl (⟨0, by omega, rfl, rfl, hB10, hB9, hB1, hF⟩) fun B4 hB4_ => ?_
  simp only [pickE, lookE, putE, zipE, args0, Nat.reduceAdd, Nat.zero_add, List.cons_append, List.nil_append, Nat.reduceBEq, cond_true, cond_false] at hB4_
  subst hB4_
  clear hB10 hB9 hB1 hF
  rintro m_ vs_ w0_ ⟨i, hi, rfl, rfl, hB10, hB9, hB1, hF⟩
  refine W_seq_k fun K5_ hK5_ => ?_
  refine W_region [some 13] rfl ?_
  refine Ops_step (R_lss rfl rfl) rfl rfl ?_
  refine Ops_nil ?_
  refine then_n (hK5_ _ _ ?_)
  clear hK5_ K5_
  refine W_seq_k fun K6_ hK6_ => ?_
  refine W_if rfl (fun hc13 => ?_) (fun hc13 => ?_)
  · obtain ⟨p, hpc, hN⟩ := nobD_two hB10 hB9 (i := i) (by omega)
    refine W_skip ?_
    refine then_n (hK6_ _ _ ?_)
    clear hK6_ K6_
    refine W_seq_k fun K7_ hK7_ => ?_
    refine W_block ?_
    refine W_seq_k fun K8_ hK8_ => ?_
    refine W_region [some 14, some 15, some 4] rfl ?_
    refine Ops_step (R_indexSl Try.underlying41 TDg5.sz28 rfl rfl (by omega) (by omega) rfl) rfl rfl ?_
    refine Ops_step (R_load TDg5.ag28 rfl hpc) rfl rfl ?_
    refine Ops_step (R_assign rfl) rfl rfl ?_
    refine Ops_nil ?_
    refine then_n (hK8_ _ _ ?_)
    clear hK8_ K8_
    refine W_seq_k fun K9_ hK9_ => ?_
    refine W_region [some 17, some 18, some 19, some 20, some 16, some 21, some 22, some 5, some 6] rfl ?_
    refine Ops_step (R_move rfl) rfl rfl ?_
    refine Ops_step (R_fieldAddr TDg5.fo38_1 rfl) rfl rfl ?_
    refine Ops_step (R_loadB TDg5.ag3 rfl hB1 rfl) rfl rfl ?_
    refine Ops_call (C_func TDg5.bd17 rfl) rfl rfl ?_
    refine (read_nob p _ _ hN).mono ?_
    rintro _ wq20_ ⟨rfl, hq20_⟩
    replace hq20_ := hq20_.symm
    subst hq20_
    refine ⟨_, rfl, ?_⟩
    refine Ops_step (R_move rfl) rfl rfl ?_
    refine Ops_step (R_extract rfl rfl) rfl rfl ?_
    refine Ops_step (R_extract rfl rfl) rfl rfl ?_
    refine Ops_step (R_assign rfl) rfl rfl ?_
    refine Ops_step (R_assign rfl) rfl rfl ?_
    refine Ops_nil ?_
    refine then_n (hK9_ _ _ ?_)
    clear hK9_ K9_
    refine W_keepB [1, 4, 5, 6, 10, 11, 12] fun B10 hB10_ => ?_
    simp only [pickE, lookE, putE, zipE, args0, Nat.reduceAdd, Nat.zero_add, List.cons_append, List.nil_append, Nat.reduceBEq, cond_true, cond_false] at hB10_
    subst hB10_
    refine W_seq_k fun K11_ hK11_ => ?_
    refine W_region [some 23, some 24, some 25, some 26, some 27, some 28, some 29, some 30, some 31, some 32, some 33, some 34, some 35, some 36, some 37, some 38] rfl ?_
    refine Ops_step (R_move rfl) rfl rfl ?_
    refine Ops_step (R_loadW TDg5.ag38 TDg5.sz38 rfl hB1 (by rfl)) rfl rfl ?_
    refine Ops_call (C_func TDg5.bd18 rfl) rfl rfl ?_
    refine (does_nob p k AB bc _ hN).mono ?_
    rintro _ w25_ ⟨rfl, hF25_⟩
    replace hF := hF.fr0 hF25_
    replace hB10 := hB10.fr0 hF25_
    replace hB9 := hB9.fr0 hF25_
    replace hB1 := hB1.fr0 hF25_
    replace hN := hN.fr0 hF25_
    clear hF25_
    refine ⟨_, rfl, ?_⟩
    refine Ops_step (R_neq rfl rfl) rfl rfl ?_
    refine Ops_step (R_move rfl) rfl rfl ?_
    refine Ops_known (b := false) 27 rfl (by decide) ?_
    refine Ops_step (R_move rfl) rfl rfl ?_
    refine Ops_step (R_len Try.underlying24 rfl rfl) rfl rfl ?_
    refine Ops_step (R_move rfl) rfl rfl ?_
    refine Ops_call (C_func TDg5.bd19 rfl) rfl rfl ?_
    refine (used_nob p _ hN).mono ?_
    rintro _ wq31_ ⟨rfl, hq31_⟩
    replace hq31_ := hq31_.symm
    subst hq31_
    refine ⟨_, rfl, ?_⟩
    refine Ops_step (R_add rfl rfl (show _ = (0 : Int) by rfl)) rfl rfl ?_
    refine Ops_step (R_neq rfl rfl) rfl rfl ?_
    refine Ops_step (R_pick_false rfl rfl) rfl rfl ?_
    refine Ops_step (R_move rfl) rfl rfl ?_
    refine Ops_known (b := false) 35 rfl (by decide) ?_
    refine Ops_step (R_move rfl) rfl rfl ?_
    refine Ops_step (R_neq rfl rfl) rfl rfl ?_
    refine Ops_step (R_pick_false rfl rfl) rfl rfl ?_
    refine Ops_nil ?_
    refine then_n (hK11_ _ _ ?_)
    clear hK11_ K11_
    refine W_keepB [1, 10, 11, 12, 28, 29, 30, 31, 32, 33, 36, 37, 38] fun B12 hB12_ => ?_
    simp only [pickE, lookE, putE, zipE, args0, Nat.reduceAdd, Nat.zero_add, List.cons_append, List.nil_append, Nat.reduceBEq, cond_true, cond_false] at hB12_
    subst hB12_
    refine W_no rfl (by decide) ?_
    refine W_skip ?_
    refine block_n ?_
    refine then_n (hK7_ _ _ ?_)
    clear hK7_ K7_
    refine W_region [some 39, some 12] rfl ?_
    refine Ops_step (R_add rfl rfl (wIc (n := i + 1) (by omega) (by omega))) rfl rfl ?_
    refine Ops_step (R_move rfl) rfl rfl ?_
    refine Ops_nil ?_
    exact ⟨2 - (i + 1), _, by omega, rfl, ⟨i + 1, by omega, rfl, rfl, hB10, hB9, hB1, hF⟩, ⟨rfl, rfl, rfl, trivial⟩⟩
  · refine W_exit ?_
    refine then_exit ?_
    clear hK6_ K6_
    refine then_exit ?_
    refine block_exit ?_
    refine then_n (hK2_ _ _ ?_)
    clear hK2_ K2_
    refine W_seq_k fun K13_ hK13_ => ?_
    refine W_region [some 7] rfl ?_
    refine Ops_step (R_assign rfl) rfl rfl ?_
    refine Ops_nil ?_
    refine then_n (hK13_ _ _ ?_)
    clear hK13_ K13_
    refine W_seq_k fun K14_ hK14_ => ?_
    refine W_region [some 40, some 41, some 42, some 43, some 44, some 45, some 2] rfl ?_
    refine Ops_step (R_move rfl) rfl rfl ?_
    refine Ops_call (C_func TDg5.bd20 rfl) rfl rfl ?_
    refine (clone_nil _).mono ?_
    rintro _ wq41_ ⟨rfl, hq41_⟩
    replace hq41_ := hq41_.symm
    subst hq41_
    refine ⟨_, rfl, ?_⟩
    refine Ops_step (R_ptrNil Try.underlying28 rfl rfl) rfl rfl ?_
    refine Ops_step (R_move rfl) rfl rfl ?_
    refine Ops_call (C_func TDg5.bd11 rfl) rfl rfl ?_
    refine (awake_any _).mono ?_
    rintro _ w44_ ⟨rfl, hF44_⟩
    replace hF := hF.fr0 hF44_
    replace hB10 := hB10.fr0 hF44_
    replace hB9 := hB9.fr0 hF44_
    replace hB1 := hB1.fr0 hF44_
    clear hF44_
    refine ⟨_, rfl, ?_⟩
    refine Ops_step (R_pick_true rfl rfl) rfl rfl ?_
    refine Ops_step (R_assign rfl) rfl rfl ?_
    refine Ops_nil ?_
    refine then_n (hK14_ _ _ ?_)
    clear hK14_ K14_
    refine W_keepB [2] fun B15 hB15_ => ?_
    simp only [pickE, lookE, putE, zipE, args0, Nat.reduceAdd, Nat.zero_add, List.cons_append, List.nil_append, Nat.reduceBEq, cond_true, cond_false] at hB15_
    subst hB15_
    refine W_ret ?_
    refine ⟨_, ⟨_, _, rfl, rfl, rfl⟩, ?_⟩
    exact ⟨rfl, hF⟩

end Go.Proofs.Ytijckogioombdaa
