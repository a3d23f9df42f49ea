/- What the walks of this seat show of Dd. -/
import Derived.Test.YtijckogioombdaaDc
import Derived.Test.YtijckogioombdaaProg
set_option linter.unusedVariables false
set_option linter.unusedSimpArgs false
namespace Go.Proofs.Ytijckogioombdaa
open Go Go.Sx
namespace TDd
theorem hm : Try.prog.follows .mixedOrders = true := by kernel_rfl
theorem ag24 : aggB Try.prog 24 = some false := by kernel_rfl
theorem ag3 : aggB Try.prog 3 = some false := by kernel_rfl
theorem ag30 : aggB Try.prog 30 = some true := by kernel_rfl
theorem bd35 : bodied Try.prog 35 = true := by kernel_rfl
theorem fo40_0 : offB Try.prog 40 0 = some 0 := by kernel_rfl
theorem fo40_1 : offB Try.prog 40 1 = some 3 := by kernel_rfl
theorem sz24 : sz Try.prog 24 = some 1 := by kernel_rfl
theorem sz30 : sz Try.prog 30 = some 3 := by kernel_rfl
end TDd
set_option maxHeartbeats 4000000 in
theorem able_nil (f : Int) (w : World) : Calls Try.prog 35 #[.pointer none, vi f] w fun e w2 => e = .returned (vi 6) ∧ w2 = w := by
  refine calls_W 27 Try.func35 rfl Try.ntmps35 rfl [.tmp 4] rfl ?_
  refine W_seq_k fun K1_ hK1_ => ?_
  refine W_region [some 4] rfl ?_
  refine Ops_step (R_assign rfl) rfl rfl ?_
  refine Ops_nil ?_
  refine then_n (hK1_ _ _ ?_)
  clear hK1_ K1_
  refine W_seq_k fun K2_ hK2_ => ?_
  refine W_block ?_
  refine W_seq_k fun K3_ hK3_ => ?_
  refine W_region [some 6, some 7, some 8, some 9, some 10, some 11, some 12, some 13, some 14, some 5] rfl ?_
  refine Ops_step (R_move rfl) rfl rfl ?_
  refine Ops_step (R_ptrNil Try.underlying28 rfl rfl) rfl rfl ?_
  refine Ops_step (R_move rfl) rfl rfl ?_
  refine Ops_pass rfl rfl ?_
  refine Ops_pass rfl rfl ?_
  refine Ops_pass rfl rfl ?_
  refine Ops_pass rfl rfl ?_
  refine Ops_pass rfl rfl ?_
  refine Ops_step (R_pick_true rfl rfl) rfl rfl ?_
  refine Ops_step (R_assign rfl) rfl rfl ?_
  refine Ops_nil ?_
  refine then_n (hK3_ _ _ ?_)
  clear hK3_ K3_
  refine W_keepB [0, 1, 5] fun B4 hB4_ => ?_
  simp only [pickE, lookE, putE, zipE, args0, Nat.reduceAdd, Nat.zero_add, List.cons_append, List.nil_append, Nat.reduceBEq, cond_true, cond_false] at hB4_
  subst hB4_
  refine W_cond_true rfl ?_
  refine W_seq_k fun K5_ hK5_ => ?_
  refine W_region [some 4] rfl ?_
  refine Ops_step (R_assign rfl) rfl rfl ?_
  refine Ops_nil ?_
  refine then_n (hK5_ _ _ ?_)
  clear hK5_ K5_
  refine W_ret ?_
  refine block_ret ?_
  refine then_ret ?_
  clear hK2_ K2_
  refine ⟨_, ⟨_, _, rfl, rfl, rfl⟩, ?_⟩
  exact ⟨rfl, rfl⟩
set_option maxHeartbeats 4000000 in
theorem able_un (d : Nat) (f : Int) (w : World) (hB : Blk w d 40 unK) : Calls Try.prog 35 #[.pointer (some ⟨d, 0, none⟩), vi f] w fun e w2 => e = .returned (vi 6) ∧ w2 = w := by
  refine calls_W 27 Try.func35 rfl Try.ntmps35 rfl [.tmp 4] rfl ?_
  refine W_seq_k fun K1_ hK1_ => ?_
  refine W_region [some 4] rfl ?_
  refine Ops_step (R_assign rfl) rfl rfl ?_
  refine Ops_nil ?_
  refine then_n (hK1_ _ _ ?_)
  clear hK1_ K1_
  refine W_seq_k fun K2_ hK2_ => ?_
  refine W_block ?_
  refine W_seq_k fun K3_ hK3_ => ?_
  refine W_region [some 6, some 7, some 8, some 9, some 10, some 11, some 12, some 13, some 14, some 5] rfl ?_
  refine Ops_step (R_move rfl) rfl rfl ?_
  refine Ops_step (R_ptrNil Try.underlying28 rfl rfl) rfl rfl ?_
  refine Ops_step (R_move rfl) rfl rfl ?_
  refine Ops_step (R_move rfl) rfl rfl ?_
  refine Ops_step (R_nilCheck rfl) rfl rfl ?_
  refine Ops_step (R_fieldAddr TDd.fo40_1 rfl) rfl rfl ?_
  refine Ops_step (R_loadB TDd.ag3 rfl hB rfl) rfl rfl ?_
  refine Ops_step (R_eql rfl rfl) rfl rfl ?_
  refine Ops_step (R_pick_false rfl rfl) rfl rfl ?_
  refine Ops_step (R_assign rfl) rfl rfl ?_
  refine Ops_nil ?_
  refine then_n (hK3_ _ _ ?_)
  clear hK3_ K3_
  refine W_keepB [0, 1, 5] fun B4 hB4_ => ?_
  simp only [pickE, lookE, putE, zipE, args0, Nat.reduceAdd, Nat.zero_add, List.cons_append, List.nil_append, Nat.reduceBEq, cond_true, cond_false] at hB4_
  subst hB4_
  refine W_yes rfl (by decide) ?_
  refine W_seq_k fun K5_ hK5_ => ?_
  refine W_region [some 4] rfl ?_
  refine Ops_step (R_assign rfl) rfl rfl ?_
  refine Ops_nil ?_
  refine then_n (hK5_ _ _ ?_)
  clear hK5_ K5_
  refine W_ret ?_
  refine block_ret ?_
  refine then_ret ?_
  clear hK2_ K2_
  refine ⟨_, ⟨_, _, rfl, rfl, rfl⟩, ?_⟩
  exact ⟨rfl, rfl⟩
set_option maxHeartbeats 4000000 in
theorem used_nil (w : World) : Calls Try.prog 19 #[.pointer none] w fun e w2 => e = .returned (vi 0) ∧ w2 = w := by
  refine calls_W 21 Try.func19 rfl Try.ntmps19 rfl [.tmp 2] rfl ?_
  refine W_seq_k fun K1_ hK1_ => ?_
  refine W_region [some 2] rfl ?_
  refine Ops_step (R_assign rfl) rfl rfl ?_
  refine Ops_nil ?_
  refine then_n (hK1_ _ _ ?_)
  clear hK1_ K1_
  refine W_seq_k fun K2_ hK2_ => ?_
  refine W_seq_k fun K3_ hK3_ => ?_
  refine W_region [some 6, some 7] rfl ?_
  refine Ops_step (R_move rfl) rfl rfl ?_
  refine Ops_step (R_ptrNil Try.underlying28 rfl rfl) rfl rfl ?_
  refine Ops_nil ?_
  refine then_n (hK3_ _ _ ?_)
  clear hK3_ K3_
  refine W_cond_true rfl ?_
  refine W_seq_k fun K4_ hK4_ => ?_
  refine W_region [some 2] rfl ?_
  refine Ops_step (R_assign rfl) rfl rfl ?_
  refine Ops_nil ?_
  refine then_n (hK4_ _ _ ?_)
  clear hK4_ K4_
  refine W_ret ?_
  refine then_ret ?_
  clear hK2_ K2_
  refine ⟨_, ⟨_, _, rfl, rfl, rfl⟩, ?_⟩
  exact ⟨rfl, rfl⟩
set_option maxHeartbeats 4000000 in
theorem used_un (d : Nat) (w : World) (hB : Blk w d 40 unK) : Calls Try.prog 19 #[.pointer (some ⟨d, 0, none⟩)] w fun e w2 => e = .returned (vi 0) ∧ w2 = w := by
  refine calls_W 21 Try.func19 rfl Try.ntmps19 rfl [.tmp 2] rfl ?_
  refine W_seq_k fun K1_ hK1_ => ?_
  refine W_region [some 2] rfl ?_
  refine Ops_step (R_assign rfl) rfl rfl ?_
  refine Ops_nil ?_
  refine then_n (hK1_ _ _ ?_)
  clear hK1_ K1_
  refine W_seq_k fun K2_ hK2_ => ?_
  refine W_seq_k fun K3_ hK3_ => ?_
  refine W_region [some 6, some 7] rfl ?_
  refine Ops_step (R_move rfl) rfl rfl ?_
  refine Ops_step (R_ptrNil Try.underlying28 rfl rfl) rfl rfl ?_
  refine Ops_nil ?_
  refine then_n (hK3_ _ _ ?_)
  clear hK3_ K3_
  refine W_cond_false rfl ?_
  refine W_skip ?_
  refine then_n (hK2_ _ _ ?_)
  clear hK2_ K2_
  refine W_seq_k fun K4_ hK4_ => ?_
  refine W_region [some 3] rfl ?_
  refine Ops_step (R_assign rfl) rfl rfl ?_
  refine Ops_nil ?_
  refine then_n (hK4_ _ _ ?_)
  clear hK4_ K4_
  refine W_seq_k fun K5_ hK5_ => ?_
  refine W_seq_k fun K6_ hK6_ => ?_
  refine W_region [some 8, some 9, some 10, some 11, some 12] rfl ?_
  refine Ops_step (R_move rfl) rfl rfl ?_
  refine Ops_step (R_nilCheck rfl) rfl rfl ?_
  refine Ops_step (R_fieldAddr TDd.fo40_0 rfl) rfl rfl ?_
  refine Ops_step (R_loadN TDd.ag30 TDd.sz30 rfl hB (by decide)) rfl rfl ?_
  refine Ops_step (R_move rfl) rfl rfl ?_
  refine Ops_nil ?_
  refine then_n (hK6_ _ _ ?_)
  clear hK6_ K6_
  refine W_keepB [3, 11, 12] fun B7 hB7_ => ?_
  simp only [pickE, lookE, putE, zipE, args0, Nat.reduceAdd, Nat.zero_add, List.cons_append, List.nil_append, Nat.reduceBEq, cond_true, cond_false] at hB7_
  subst hB7_
  refine W_block ?_
  refine W_loopB [11] [3, 12] (fun m vs w' => ∃ i, i ≤ 3 ∧ m = 3 - i ∧ vs = [vi (0 : Nat), vi (i : Nat)] ∧ w' = w) (3) _ rfl (⟨0, by omega, rfl, rfl, rfl⟩) fun B8 hB8_ => ?_
  simp only [pickE, lookE, putE, zipE, args0, Nat.reduceAdd, Nat.zero_add, List.cons_append, List.nil_append, Nat.reduceBEq, cond_true, cond_false] at hB8_
  subst hB8_
  rintro m_ vs_ w0_ ⟨i, hi, rfl, rfl, rfl⟩
  refine W_seq_k fun K9_ hK9_ => ?_
  refine W_region [some 13] rfl ?_
  refine Ops_step (R_lss rfl rfl) rfl rfl ?_
  refine Ops_nil ?_
  refine then_n (hK9_ _ _ ?_)
  clear hK9_ K9_
  refine W_seq_k fun K10_ hK10_ => ?_
  refine W_if rfl (fun hc13 => ?_) (fun hc13 => ?_)
  · refine W_skip ?_
    refine then_n (hK10_ _ _ ?_)
    clear hK10_ K10_
    refine W_seq_k fun K11_ hK11_ => ?_
    refine W_block ?_
    refine W_seq_k fun K12_ hK12_ => ?_
    refine W_region [some 14, some 5] rfl ?_
    refine Ops_step (R_index Try.underlying30 TDd.sz24 TDd.ag24 rfl rfl (by omega) (by omega) (unK_f (i := i) (by omega))) rfl rfl ?_
    refine Ops_step (R_assign rfl) rfl rfl ?_
    refine Ops_nil ?_
    refine then_n (hK12_ _ _ ?_)
    clear hK12_ K12_
    refine W_region [some 15, some 16, some 17, some 18, some 3] rfl ?_
    refine Ops_step (R_move rfl) rfl rfl ?_
    refine Ops_step (R_move rfl) rfl rfl ?_
    refine Ops_step (R_len Try.underlying24 rfl rfl) rfl rfl ?_
    refine Ops_step (R_add rfl rfl (wI (by omega) (by omega))) rfl rfl ?_
    refine Ops_step (R_assign rfl) rfl rfl ?_
    refine Ops_nil ?_
    refine block_n ?_
    refine then_n (hK11_ _ _ ?_)
    clear hK11_ K11_
    refine W_keepB [3, 11, 12] fun B13 hB13_ => ?_
    simp only [pickE, lookE, putE, zipE, args0, Nat.reduceAdd, Nat.zero_add, List.cons_append, List.nil_append, Nat.reduceBEq, cond_true, cond_false] at hB13_
    subst hB13_
    refine W_region [some 19, some 12] rfl ?_
    refine Ops_step (R_add rfl rfl (wIc (n := i + 1) (by omega) (by omega))) rfl rfl ?_
    refine Ops_step (R_move rfl) rfl rfl ?_
    refine Ops_nil ?_
    exact ⟨3 - (i + 1), _, by omega, rfl, ⟨i + 1, by omega, rfl, rfl, rfl⟩, ⟨rfl, trivial⟩⟩
  · have hi3 : i = 3 := by omega
    subst hi3
    refine W_exit ?_
    refine then_exit ?_
    clear hK10_ K10_
    refine then_exit ?_
    refine block_exit ?_
    refine then_n (hK5_ _ _ ?_)
    clear hK5_ K5_
    refine W_seq_k fun K14_ hK14_ => ?_
    refine W_region [some 20, some 2] rfl ?_
    refine Ops_step (R_move rfl) rfl rfl ?_
    refine Ops_step (R_assign rfl) rfl rfl ?_
    refine Ops_nil ?_
    refine then_n (hK14_ _ _ ?_)
    clear hK14_ K14_
    refine W_ret ?_
    refine ⟨_, ⟨_, _, rfl, rfl, rfl⟩, ?_⟩
    exact ⟨rfl, rfl⟩
set_option maxHeartbeats 4000000 in
theorem start_nil (w : World) : Calls Try.prog 34 #[.pointer none] w fun e w2 => e = .returned (vi 6) ∧ w2 = w := by
  refine calls_W 15 Try.func34 rfl Try.ntmps34 rfl [.tmp 2] rfl ?_
  refine W_seq_k fun K1_ hK1_ => ?_
  refine W_region [some 2] rfl ?_
  refine Ops_step (R_assign rfl) rfl rfl ?_
  refine Ops_nil ?_
  refine then_n (hK1_ _ _ ?_)
  clear hK1_ K1_
  refine W_seq_k fun K2_ hK2_ => ?_
  refine W_seq_k fun K3_ hK3_ => ?_
  refine W_region [some 3, some 4, some 5, some 6, some 7, some 8, some 9, some 10, some 11] rfl ?_
  refine Ops_step (R_move rfl) rfl rfl ?_
  refine Ops_step (R_ptrNil Try.underlying28 rfl rfl) rfl rfl ?_
  refine Ops_step (R_move rfl) rfl rfl ?_
  refine Ops_pass rfl rfl ?_
  refine Ops_pass rfl rfl ?_
  refine Ops_pass rfl rfl ?_
  refine Ops_pass rfl rfl ?_
  refine Ops_pass rfl rfl ?_
  refine Ops_step (R_pick_true rfl rfl) rfl rfl ?_
  refine Ops_nil ?_
  refine then_n (hK3_ _ _ ?_)
  clear hK3_ K3_
  refine W_keepB [0, 11] fun B4 hB4_ => ?_
  simp only [pickE, lookE, putE, zipE, args0, Nat.reduceAdd, Nat.zero_add, List.cons_append, List.nil_append, Nat.reduceBEq, cond_true, cond_false] at hB4_
  subst hB4_
  refine W_cond_true rfl ?_
  refine W_seq_k fun K5_ hK5_ => ?_
  refine W_region [some 2] rfl ?_
  refine Ops_step (R_assign rfl) rfl rfl ?_
  refine Ops_nil ?_
  refine then_n (hK5_ _ _ ?_)
  clear hK5_ K5_
  refine W_ret ?_
  refine then_ret ?_
  clear hK2_ K2_
  refine ⟨_, ⟨_, _, rfl, rfl, rfl⟩, ?_⟩
  exact ⟨rfl, rfl⟩
set_option maxHeartbeats 4000000 in
theorem start_un (d : Nat) (w : World) (hB : Blk w d 40 unK) : Calls Try.prog 34 #[.pointer (some ⟨d, 0, none⟩)] w fun e w2 => e = .returned (vi 6) ∧ w2 = w := by
  refine calls_W 15 Try.func34 rfl Try.ntmps34 rfl [.tmp 2] rfl ?_
  refine W_seq_k fun K1_ hK1_ => ?_
  refine W_region [some 2] rfl ?_
  refine Ops_step (R_assign rfl) rfl rfl ?_
  refine Ops_nil ?_
  refine then_n (hK1_ _ _ ?_)
  clear hK1_ K1_
  refine W_seq_k fun K2_ hK2_ => ?_
  refine W_seq_k fun K3_ hK3_ => ?_
  refine W_region [some 3, some 4, some 5, some 6, some 7, some 8, some 9, some 10, some 11] rfl ?_
  refine Ops_step (R_move rfl) rfl rfl ?_
  refine Ops_step (R_ptrNil Try.underlying28 rfl rfl) rfl rfl ?_
  refine Ops_step (R_move rfl) rfl rfl ?_
  refine Ops_step (R_move rfl) rfl rfl ?_
  refine Ops_step (R_nilCheck rfl) rfl rfl ?_
  refine Ops_step (R_fieldAddr TDd.fo40_1 rfl) rfl rfl ?_
  refine Ops_step (R_loadB TDd.ag3 rfl hB rfl) rfl rfl ?_
  refine Ops_step (R_eql rfl rfl) rfl rfl ?_
  refine Ops_step (R_pick_false rfl rfl) rfl rfl ?_
  refine Ops_nil ?_
  refine then_n (hK3_ _ _ ?_)
  clear hK3_ K3_
  refine W_keepB [0, 11] fun B4 hB4_ => ?_
  simp only [pickE, lookE, putE, zipE, args0, Nat.reduceAdd, Nat.zero_add, List.cons_append, List.nil_append, Nat.reduceBEq, cond_true, cond_false] at hB4_
  subst hB4_
  refine W_yes rfl (by decide) ?_
  refine W_seq_k fun K5_ hK5_ => ?_
  refine W_region [some 2] rfl ?_
  refine Ops_step (R_assign rfl) rfl rfl ?_
  refine Ops_nil ?_
  refine then_n (hK5_ _ _ ?_)
  clear hK5_ K5_
  refine W_ret ?_
  refine then_ret ?_
  clear hK2_ K2_
  refine ⟨_, ⟨_, _, rfl, rfl, rfl⟩, ?_⟩
  exact ⟨rfl, rfl⟩
set_option maxHeartbeats 4000000 in
theorem clone_nil (w : World) : Calls Try.prog 20 #[.pointer none] w fun e w2 => e = .returned (.pointer none) ∧ w2 = w := by
  refine calls_W 9 Try.func20 rfl Try.ntmps20 rfl [.tmp 2] rfl ?_
  refine W_seq_k fun K1_ hK1_ => ?_
  refine W_region [some 2] rfl ?_
  refine Ops_step (R_assign rfl) rfl rfl ?_
  refine Ops_nil ?_
  refine then_n (hK1_ _ _ ?_)
  clear hK1_ K1_
  refine W_seq_k fun K2_ hK2_ => ?_
  refine W_seq_k fun K3_ hK3_ => ?_
  refine W_region [some 4, some 5] rfl ?_
  refine Ops_step (R_move rfl) rfl rfl ?_
  refine Ops_step (R_ptrNil Try.underlying28 rfl rfl) rfl rfl ?_
  refine Ops_nil ?_
  refine then_n (hK3_ _ _ ?_)
  clear hK3_ K3_
  refine W_cond_true rfl ?_
  refine W_seq_k fun K4_ hK4_ => ?_
  refine W_region [some 2] rfl ?_
  refine Ops_step (R_assign rfl) rfl rfl ?_
  refine Ops_nil ?_
  refine then_n (hK4_ _ _ ?_)
  clear hK4_ K4_
  refine W_ret ?_
  refine then_ret ?_
  clear hK2_ K2_
  refine ⟨_, ⟨_, _, rfl, rfl, rfl⟩, ?_⟩
  exact ⟨rfl, rfl⟩

theorem able_nob (p : Option Addr) (f : Int) (w : World) (h : NobD w p) : Calls Try.prog 35 #[.pointer p, vi f] w fun e w2 => e = .returned (vi 6) ∧ w2 = w := by
  rcases h with rfl | ⟨d, rfl, hB⟩
  · exact able_nil f w
  · exact able_un d f w hB
theorem used_nob (p : Option Addr) (w : World) (h : NobD w p) : Calls Try.prog 19 #[.pointer p] w fun e w2 => e = .returned (vi 0) ∧ w2 = w := by
  rcases h with rfl | ⟨d, rfl, hB⟩
  · exact used_nil w
  · exact used_un d w hB
theorem start_nob (p : Option Addr) (w : World) (h : NobD w p) : Calls Try.prog 34 #[.pointer p] w fun e w2 => e = .returned (vi 6) ∧ w2 = w := by
  rcases h with rfl | ⟨d, rfl, hB⟩
  · exact start_nil w
  · exact start_un d w hB
set_option maxHeartbeats 4000000 in
theorem wipe_nob (p : Option Addr) (f : Int) (w : World) (hN : NobD w p) : Calls Try.prog 38 #[.pointer p, vi f] w fun e w2 => e = .returned (vi 6) ∧ w2 = w := by
  refine calls_W 22 Try.func38 rfl Try.ntmps38 rfl [.tmp 4] rfl ?_
  refine W_seq_k fun K1_ hK1_ => ?_
  refine W_region [some 4] rfl ?_
  refine Ops_step (R_assign rfl) rfl rfl ?_
  refine Ops_nil ?_
  refine then_n (hK1_ _ _ ?_)
  clear hK1_ K1_
  refine W_seq_k fun K2_ hK2_ => ?_
  refine W_seq_k fun K3_ hK3_ => ?_
  refine W_region [some 6, some 7, some 8, some 5] rfl ?_
  refine Ops_step (R_move rfl) rfl rfl ?_
  refine Ops_step (R_move rfl) rfl rfl ?_
  refine Ops_call (C_func TDd.bd35 rfl) rfl rfl ?_
  refine (able_nob _ _ _ hN).mono ?_
  rintro _ wq8_ ⟨rfl, hq8_⟩
  replace hq8_ := hq8_.symm
  subst hq8_
  refine ⟨_, rfl, ?_⟩
  refine Ops_step (R_assign rfl) rfl rfl ?_
  refine Ops_nil ?_
  refine then_n (hK3_ _ _ ?_)
  clear hK3_ K3_
  refine W_seq_k fun K4_ hK4_ => ?_
  refine W_region [some 9, some 10] rfl ?_
  refine Ops_step (R_move rfl) rfl rfl ?_
  refine Ops_step (R_neq rfl rfl) rfl rfl ?_
  refine Ops_nil ?_
  refine then_n (hK4_ _ _ ?_)
  clear hK4_ K4_
  refine W_yes rfl (by decide) ?_
  refine W_seq_k fun K5_ hK5_ => ?_
  refine W_region [some 11, some 4] rfl ?_
  refine Ops_step (R_move rfl) rfl rfl ?_
  refine Ops_step (R_assign rfl) rfl rfl ?_
  refine Ops_nil ?_
  refine then_n (hK5_ _ _ ?_)
  clear hK5_ K5_
  refine W_keepB [4] fun B6 hB6_ => ?_
  simp only [pickE, lookE, putE, zipE, args0, Nat.reduceAdd, Nat.zero_add, List.cons_append, List.nil_append, Nat.reduceBEq, cond_true, cond_false] at hB6_
  subst hB6_
  refine W_ret ?_
  refine then_ret ?_
  clear hK2_ K2_
  refine ⟨_, ⟨_, _, rfl, rfl, rfl⟩, ?_⟩
  exact ⟨rfl, rfl⟩
set_option maxHeartbeats 4000000 in
theorem crash_nob (p : Option Addr) (w : World) (hN : NobD w p) : Calls Try.prog 39 #[.pointer p] w fun e w2 => e = .returned (vi 6) ∧ w2 = w := by
  refine calls_W 18 Try.func39 rfl Try.ntmps39 rfl [.tmp 2] rfl ?_
  refine W_seq_k fun K1_ hK1_ => ?_
  refine W_region [some 2] rfl ?_
  refine Ops_step (R_assign rfl) rfl rfl ?_
  refine Ops_nil ?_
  refine then_n (hK1_ _ _ ?_)
  clear hK1_ K1_
  refine W_seq_k fun K2_ hK2_ => ?_
  refine W_seq_k fun K3_ hK3_ => ?_
  refine W_region [some 4, some 5, some 3] rfl ?_
  refine Ops_step (R_move rfl) rfl rfl ?_
  refine Ops_call (C_func TDd.bd35 rfl) rfl rfl ?_
  refine (able_nob _ _ _ hN).mono ?_
  rintro _ wq5_ ⟨rfl, hq5_⟩
  replace hq5_ := hq5_.symm
  subst hq5_
  refine ⟨_, rfl, ?_⟩
  refine Ops_step (R_assign rfl) rfl rfl ?_
  refine Ops_nil ?_
  refine then_n (hK3_ _ _ ?_)
  clear hK3_ K3_
  refine W_seq_k fun K4_ hK4_ => ?_
  refine W_region [some 6, some 7] rfl ?_
  refine Ops_step (R_move rfl) rfl rfl ?_
  refine Ops_step (R_neq rfl rfl) rfl rfl ?_
  refine Ops_nil ?_
  refine then_n (hK4_ _ _ ?_)
  clear hK4_ K4_
  refine W_yes rfl (by decide) ?_
  refine W_seq_k fun K5_ hK5_ => ?_
  refine W_region [some 8, some 2] rfl ?_
  refine Ops_step (R_move rfl) rfl rfl ?_
  refine Ops_step (R_assign rfl) rfl rfl ?_
  refine Ops_nil ?_
  refine then_n (hK5_ _ _ ?_)
  clear hK5_ K5_
  refine W_keepB [2] fun B6 hB6_ => ?_
  simp only [pickE, lookE, putE, zipE, args0, Nat.reduceAdd, Nat.zero_add, List.cons_append, List.nil_append, Nat.reduceBEq, cond_true, cond_false] at hB6_
  subst hB6_
  refine W_ret ?_
  refine then_ret ?_
  clear hK2_ K2_
  refine ⟨_, ⟨_, _, rfl, rfl, rfl⟩, ?_⟩
  exact ⟨rfl, rfl⟩
set_option maxHeartbeats 4000000 in
theorem disarm_nob (p : Option Addr) (w : World) (hN : NobD w p) : Calls Try.prog 14 #[.pointer p] w fun e w2 => e = .returned (vi 6) ∧ w2 = w := by
  refine calls_W 15 Try.func14 rfl Try.ntmps14 rfl [.tmp 2] rfl ?_
  refine W_seq_k fun K1_ hK1_ => ?_
  refine W_region [some 2] rfl ?_
  refine Ops_step (R_assign rfl) rfl rfl ?_
  refine Ops_nil ?_
  refine then_n (hK1_ _ _ ?_)
  clear hK1_ K1_
  refine W_seq_k fun K2_ hK2_ => ?_
  refine W_seq_k fun K3_ hK3_ => ?_
  refine W_region [some 4, some 5, some 3] rfl ?_
  refine Ops_step (R_move rfl) rfl rfl ?_
  refine Ops_call (C_func TDd.bd35 rfl) rfl rfl ?_
  refine (able_nob _ _ _ hN).mono ?_
  rintro _ wq5_ ⟨rfl, hq5_⟩
  replace hq5_ := hq5_.symm
  subst hq5_
  refine ⟨_, rfl, ?_⟩
  refine Ops_step (R_assign rfl) rfl rfl ?_
  refine Ops_nil ?_
  refine then_n (hK3_ _ _ ?_)
  clear hK3_ K3_
  refine W_seq_k fun K4_ hK4_ => ?_
  refine W_region [some 6, some 7] rfl ?_
  refine Ops_step (R_move rfl) rfl rfl ?_
  refine Ops_step (R_neq rfl rfl) rfl rfl ?_
  refine Ops_nil ?_
  refine then_n (hK4_ _ _ ?_)
  clear hK4_ K4_
  refine W_yes rfl (by decide) ?_
  refine W_seq_k fun K5_ hK5_ => ?_
  refine W_region [some 8, some 2] rfl ?_
  refine Ops_step (R_move rfl) rfl rfl ?_
  refine Ops_step (R_assign rfl) rfl rfl ?_
  refine Ops_nil ?_
  refine then_n (hK5_ _ _ ?_)
  clear hK5_ K5_
  refine W_keepB [2] fun B6 hB6_ => ?_
  simp only [pickE, lookE, putE, zipE, args0, Nat.reduceAdd, Nat.zero_add, List.cons_append, List.nil_append, Nat.reduceBEq, cond_true, cond_false] at hB6_
  subst hB6_
  refine W_ret ?_
  refine then_ret ?_
  clear hK2_ K2_
  refine ⟨_, ⟨_, _, rfl, rfl, rfl⟩, ?_⟩
  exact ⟨rfl, rfl⟩
set_option maxHeartbeats 4000000 in
theorem arm_nob (p : Option Addr) (n : Int) (w : World) (hN : NobD w p) : Calls Try.prog 15 #[.pointer p, vi n] w fun e w2 => e = .returned (vi 6) ∧ w2 = w := by
  refine calls_W 22 Try.func15 rfl Try.ntmps15 rfl [.tmp 4] rfl ?_
  refine W_seq_k fun K1_ hK1_ => ?_
  refine W_region [some 4] rfl ?_
  refine Ops_step (R_assign rfl) rfl rfl ?_
  refine Ops_nil ?_
  refine then_n (hK1_ _ _ ?_)
  clear hK1_ K1_
  refine W_seq_k fun K2_ hK2_ => ?_
  refine W_region [some 6, some 7, some 5] rfl ?_
  refine Ops_step (R_move rfl) rfl rfl ?_
  refine Ops_call (C_func TDd.bd35 rfl) rfl rfl ?_
  refine (able_nob _ _ _ hN).mono ?_
  rintro _ wq7_ ⟨rfl, hq7_⟩
  replace hq7_ := hq7_.symm
  subst hq7_
  refine ⟨_, rfl, ?_⟩
  refine Ops_step (R_assign rfl) rfl rfl ?_
  refine Ops_nil ?_
  refine then_n (hK2_ _ _ ?_)
  clear hK2_ K2_
  refine W_seq_k fun K3_ hK3_ => ?_
  refine W_block ?_
  refine W_seq_k fun K4_ hK4_ => ?_
  refine W_region [some 9, some 10, some 8] rfl ?_
  refine Ops_step (R_move rfl) rfl rfl ?_
  refine Ops_step (R_neq rfl rfl) rfl rfl ?_
  refine Ops_step (R_assign rfl) rfl rfl ?_
  refine Ops_nil ?_
  refine then_n (hK4_ _ _ ?_)
  clear hK4_ K4_
  refine W_yes rfl (by decide) ?_
  refine W_seq_k fun K5_ hK5_ => ?_
  refine W_region [some 11, some 4] rfl ?_
  refine Ops_step (R_move rfl) rfl rfl ?_
  refine Ops_step (R_assign rfl) rfl rfl ?_
  refine Ops_nil ?_
  refine then_n (hK5_ _ _ ?_)
  clear hK5_ K5_
  refine W_keepB [4] fun B6 hB6_ => ?_
  simp only [pickE, lookE, putE, zipE, args0, Nat.reduceAdd, Nat.zero_add, List.cons_append, List.nil_append, Nat.reduceBEq, cond_true, cond_false] at hB6_
  subst hB6_
  refine W_ret ?_
  refine block_ret ?_
  refine then_ret ?_
  clear hK3_ K3_
  refine ⟨_, ⟨_, _, rfl, rfl, rfl⟩, ?_⟩
  exact ⟨rfl, rfl⟩
set_option maxHeartbeats 4000000 in
theorem append_nob (p : Option Addr) (f : Int) (v : Value) (w : World) (hN : NobD w p) : Calls Try.prog 16 #[.pointer p, vi f, v] w fun e w2 => e = .returned (vi 6) ∧ w2 = w := by
  refine calls_W 55 Try.func16 rfl Try.ntmps16 rfl [.tmp 6] rfl ?_
  refine W_seq_k fun K1_ hK1_ => ?_
  refine W_region [some 6] rfl ?_
  refine Ops_step (R_assign rfl) rfl rfl ?_
  refine Ops_nil ?_
  refine then_n (hK1_ _ _ ?_)
  clear hK1_ K1_
  refine W_seq_k fun K2_ hK2_ => ?_
  refine W_region [some 10, some 11, some 12, some 7] rfl ?_
  refine Ops_step (R_move rfl) rfl rfl ?_
  refine Ops_step (R_move rfl) rfl rfl ?_
  refine Ops_call (C_func TDd.bd35 rfl) rfl rfl ?_
  refine (able_nob _ _ _ hN).mono ?_
  rintro _ wq12_ ⟨rfl, hq12_⟩
  replace hq12_ := hq12_.symm
  subst hq12_
  refine ⟨_, rfl, ?_⟩
  refine Ops_step (R_assign rfl) rfl rfl ?_
  refine Ops_nil ?_
  refine then_n (hK2_ _ _ ?_)
  clear hK2_ K2_
  refine W_seq_k fun K3_ hK3_ => ?_
  refine W_block ?_
  refine W_seq_k fun K4_ hK4_ => ?_
  refine W_region [some 14, some 15, some 13] rfl ?_
  refine Ops_step (R_move rfl) rfl rfl ?_
  refine Ops_step (R_neq rfl rfl) rfl rfl ?_
  refine Ops_step (R_assign rfl) rfl rfl ?_
  refine Ops_nil ?_
  refine then_n (hK4_ _ _ ?_)
  clear hK4_ K4_
  refine W_keepB [0, 1, 2, 7, 13] fun B5 hB5_ => ?_
  simp only [pickE, lookE, putE, zipE, args0, Nat.reduceAdd, Nat.zero_add, List.cons_append, List.nil_append, Nat.reduceBEq, cond_true, cond_false] at hB5_
  subst hB5_
  refine W_yes rfl (by decide) ?_
  refine W_seq_k fun K6_ hK6_ => ?_
  refine W_region [some 16, some 6] rfl ?_
  refine Ops_step (R_move rfl) rfl rfl ?_
  refine Ops_step (R_assign rfl) rfl rfl ?_
  refine Ops_nil ?_
  refine then_n (hK6_ _ _ ?_)
  clear hK6_ K6_
  refine W_keepB [6] fun B7 hB7_ => ?_
  simp only [pickE, lookE, putE, zipE, args0, Nat.reduceAdd, Nat.zero_add, List.cons_append, List.nil_append, Nat.reduceBEq, cond_true, cond_false] at hB7_
  subst hB7_
  refine W_ret ?_
  refine block_ret ?_
  refine then_ret ?_
  clear hK3_ K3_
  refine ⟨_, ⟨_, _, rfl, rfl, rfl⟩, ?_⟩
  exact ⟨rfl, rfl⟩
set_option maxHeartbeats 4000000 in
theorem read_nob (p : Option Addr) (f : Int) (w : World) (hN : NobD w p) : Calls Try.prog 17 #[.pointer p, vi f] w fun e w2 => e = .returned (.tuple #[.slice none 0 0, vi 6]) ∧ w2 = w := by
  refine calls_W 21 Try.func17 rfl Try.ntmps17 rfl [.tmp 4, .tmp 5] rfl ?_
  refine W_seq_k fun K1_ hK1_ => ?_
  refine W_region [some 4, some 5] rfl ?_
  refine Ops_step (R_assign rfl) rfl rfl ?_
  refine Ops_step (R_assign rfl) rfl rfl ?_
  refine Ops_nil ?_
  refine then_n (hK1_ _ _ ?_)
  clear hK1_ K1_
  refine W_seq_k fun K2_ hK2_ => ?_
  refine W_seq_k fun K3_ hK3_ => ?_
  refine W_region [some 7, some 8, some 9, some 6] rfl ?_
  refine Ops_step (R_move rfl) rfl rfl ?_
  refine Ops_step (R_move rfl) rfl rfl ?_
  refine Ops_call (C_func TDd.bd35 rfl) rfl rfl ?_
  refine (able_nob _ _ _ hN).mono ?_
  rintro _ wq9_ ⟨rfl, hq9_⟩
  replace hq9_ := hq9_.symm
  subst hq9_
  refine ⟨_, rfl, ?_⟩
  refine Ops_step (R_assign rfl) rfl rfl ?_
  refine Ops_nil ?_
  refine then_n (hK3_ _ _ ?_)
  clear hK3_ K3_
  refine W_seq_k fun K4_ hK4_ => ?_
  refine W_region [some 10, some 11] rfl ?_
  refine Ops_step (R_move rfl) rfl rfl ?_
  refine Ops_step (R_neq rfl rfl) rfl rfl ?_
  refine Ops_nil ?_
  refine then_n (hK4_ _ _ ?_)
  clear hK4_ K4_
  refine W_keepB [0, 1, 6, 11] fun B5 hB5_ => ?_
  simp only [pickE, lookE, putE, zipE, args0, Nat.reduceAdd, Nat.zero_add, List.cons_append, List.nil_append, Nat.reduceBEq, cond_true, cond_false] at hB5_
  subst hB5_
  refine W_yes rfl (by decide) ?_
  refine W_seq_k fun K6_ hK6_ => ?_
  refine W_region [some 12, some 4, some 5] rfl ?_
  refine Ops_step (R_move rfl) rfl rfl ?_
  refine Ops_step (R_assign rfl) rfl rfl ?_
  refine Ops_step (R_assign rfl) rfl rfl ?_
  refine Ops_nil ?_
  refine then_n (hK6_ _ _ ?_)
  clear hK6_ K6_
  refine W_ret ?_
  refine then_ret ?_
  clear hK2_ K2_
  refine ⟨_, ⟨_, _, rfl, rfl, ⟨_, _, rfl, rfl, rfl⟩⟩, ?_⟩
  exact ⟨rfl, rfl⟩

end Go.Proofs.Ytijckogioombdaa
