/- What the walks of this seat show of Re. -/
import Derived.Test.YtijckogioombdaaRd
import Derived.Test.YtijckogioombdaaProg
set_option linter.unusedVariables false
set_option linter.unusedSimpArgs false
namespace Go.Proofs.Ytijckogioombdaa
open Go Go.Sx
namespace TRe
theorem hm : Try.prog.follows .mixedOrders = true := by kernel_rfl
theorem bd11 : bodied Try.prog 11 = true := by kernel_rfl
theorem bd21 : bodied Try.prog 21 = true := by kernel_rfl
theorem bd23 : bodied Try.prog 23 = true := by kernel_rfl
end TRe
set_option maxHeartbeats 4000000 in
theorem law_plays_bad (r : Int) (LA : Option Addr) (lc n : Nat) (w : World) (hr : r < 1 ∨ 16777216 < r) : Calls Try.prog 7 #[vi r, .slice LA n lc] w fun e w2 => e = .returned (.bool true) ∧ Fr [] w w2 := by
  have hF := Fr.refl [] w
  refine calls_W 160 Try.func7 rfl Try.ntmps7 rfl [.tmp 4] rfl ?_
  refine W_seq_k fun K1_ hK1_ => ?_
  refine W_region [some 4] rfl ?_
  refine Ops_step (R_assign rfl) rfl rfl ?_
  refine Ops_nil ?_
  refine then_n (hK1_ _ _ ?_)
  clear hK1_ K1_
  refine W_seq_k fun K2_ hK2_ => ?_
  refine W_region [some 20, some 21, some 19, some 22, some 23, some 5, some 6] rfl ?_
  refine Ops_step (R_move rfl) rfl rfl ?_
  refine Ops_call (C_func TRe.bd21 rfl) rfl rfl ?_
  refine (new_bad r hr _).mono ?_
  rintro _ wq21_ ⟨rfl, hq21_⟩
  replace hq21_ := hq21_.symm
  subst hq21_
  refine ⟨_, rfl, ?_⟩
  refine Ops_step (R_move rfl) rfl rfl ?_
  refine Ops_step (R_extract rfl rfl) rfl rfl ?_
  refine Ops_step (R_extract rfl rfl) rfl rfl ?_
  refine Ops_step (R_assign rfl) rfl rfl ?_
  refine Ops_step (R_assign rfl) rfl rfl ?_
  refine Ops_nil ?_
  refine then_n (hK2_ _ _ ?_)
  clear hK2_ K2_
  refine W_keepB [0, 1, 5, 6] fun B3 hB3_ => ?_
  simp only [pickE, lookE, putE, zipE, args0, Nat.reduceAdd, Nat.zero_add, List.cons_append, List.nil_append, Nat.reduceBEq, cond_true, cond_false] at hB3_
  subst hB3_
  refine W_seq_k fun K4_ hK4_ => ?_
  refine W_region [some 25, some 26, some 24, some 27, some 28, some 7, some 8] rfl ?_
  refine Ops_step (R_move rfl) rfl rfl ?_
  refine Ops_call (C_func TRe.bd23 rfl) rfl rfl ?_
  refine (rnew_bad r hr _).mono ?_
  rintro _ wq26_ ⟨rfl, hq26_⟩
  replace hq26_ := hq26_.symm
  subst hq26_
  refine ⟨_, rfl, ?_⟩
  refine Ops_step (R_move rfl) rfl rfl ?_
  refine Ops_step (R_extract rfl rfl) rfl rfl ?_
  refine Ops_step (R_extract rfl rfl) rfl rfl ?_
  refine Ops_step (R_assign rfl) rfl rfl ?_
  refine Ops_step (R_assign rfl) rfl rfl ?_
  refine Ops_nil ?_
  refine then_n (hK4_ _ _ ?_)
  clear hK4_ K4_
  refine W_keepB [1, 5, 6, 7, 8] fun B5 hB5_ => ?_
  simp only [pickE, lookE, putE, zipE, args0, Nat.reduceAdd, Nat.zero_add, List.cons_append, List.nil_append, Nat.reduceBEq, cond_true, cond_false] at hB5_
  subst hB5_
  refine W_seq_k fun K6_ hK6_ => ?_
  refine W_seq_k fun K7_ hK7_ => ?_
  refine W_region [some 29, some 30, some 31, some 32, some 33, some 34, some 35, some 36, some 37, some 38] rfl ?_
  refine Ops_step (R_move rfl) rfl rfl ?_
  refine Ops_step (R_move rfl) rfl rfl ?_
  refine Ops_step (R_neq rfl rfl) rfl rfl ?_
  refine Ops_step (R_move rfl) rfl rfl ?_
  refine Ops_known (b := false) 32 rfl (by decide) ?_
  refine Ops_step (R_move rfl) rfl rfl ?_
  refine Ops_step (R_ptrNil Try.underlying28 rfl rfl) rfl rfl ?_
  refine Ops_step (R_move rfl) rfl rfl ?_
  refine Ops_step (R_ptrNil Try.underlying53 rfl rfl) rfl rfl ?_
  refine Ops_step (R_boolNe Try.underlying4 rfl rfl) rfl rfl ?_
  refine Ops_step (R_pick_false rfl rfl) rfl rfl ?_
  refine Ops_nil ?_
  refine then_n (hK7_ _ _ ?_)
  clear hK7_ K7_
  refine W_keepB [1, 5, 7, 38] fun B8 hB8_ => ?_
  simp only [pickE, lookE, putE, zipE, args0, Nat.reduceAdd, Nat.zero_add, List.cons_append, List.nil_append, Nat.reduceBEq, cond_true, cond_false] at hB8_
  subst hB8_
  refine W_cond_false rfl ?_
  refine W_skip ?_
  refine then_n (hK6_ _ _ ?_)
  clear hK6_ K6_
  refine W_seq_k fun K9_ hK9_ => ?_
  refine W_seq_k fun K10_ hK10_ => ?_
  refine W_region [some 39, some 40, some 41, some 42, some 43, some 44, some 45] rfl ?_
  refine Ops_step (R_move rfl) rfl rfl ?_
  refine Ops_step (R_ptrNil Try.underlying53 rfl rfl) rfl rfl ?_
  refine Ops_step (R_move rfl) rfl rfl ?_
  refine Ops_pass rfl rfl ?_
  refine Ops_pass rfl rfl ?_
  refine Ops_pass rfl rfl ?_
  refine Ops_step (R_pick_true rfl rfl) rfl rfl ?_
  refine Ops_nil ?_
  refine then_n (hK10_ _ _ ?_)
  clear hK10_ K10_
  refine W_keepB [1, 5, 7, 45] fun B11 hB11_ => ?_
  simp only [pickE, lookE, putE, zipE, args0, Nat.reduceAdd, Nat.zero_add, List.cons_append, List.nil_append, Nat.reduceBEq, cond_true, cond_false] at hB11_
  subst hB11_
  refine W_cond_true rfl ?_
  refine W_seq_k fun K12_ hK12_ => ?_
  refine W_region [some 46, some 4] rfl ?_
  refine Ops_call (C_func TRe.bd11 rfl) rfl rfl ?_
  refine (awake_any _).mono ?_
  rintro _ w46_ ⟨rfl, hF46_⟩
  replace hF := hF.fr0 hF46_
  clear hF46_
  refine ⟨_, rfl, ?_⟩
  refine Ops_step (R_assign rfl) rfl rfl ?_
  refine Ops_nil ?_
  refine then_n (hK12_ _ _ ?_)
  clear hK12_ K12_
  refine W_ret ?_
  refine then_ret ?_
  clear hK9_ K9_
  refine ⟨_, ⟨_, _, rfl, rfl, rfl⟩, ?_⟩
  exact ⟨rfl, hF⟩

end Go.Proofs.Ytijckogioombdaa
