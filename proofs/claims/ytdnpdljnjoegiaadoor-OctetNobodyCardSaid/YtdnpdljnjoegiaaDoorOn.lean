/- What the walks of this seat show of On. -/
import Derived.Test.YtdnpdljnjoegiaaDoorOcN
import Derived.Test.YtdnpdljnjoegiaaDoorOtE
import Derived.Test.YtdnpdljnjoegiaaDoorP2w
import Derived.Test.YtdnpdljnjoegiaaDoorProg
set_option linter.unusedVariables false
set_option linter.unusedSimpArgs false
namespace Go.Proofs.YtdnpdljnjoegiaaDoor
open Go Go.Sx
namespace TOn
theorem hm : Tryd.prog.follows .mixedOrders = true := by kernel_rfl
theorem ag22 : aggB Tryd.prog 22 = some false := by kernel_rfl
theorem ag25 : aggB Tryd.prog 25 = some false := by kernel_rfl
theorem ag3 : aggB Tryd.prog 3 = some false := by kernel_rfl
theorem ag4 : aggB Tryd.prog 4 = some false := by kernel_rfl
theorem bd15 : bodied Tryd.prog 15 = true := by kernel_rfl
theorem bd20 : bodied Tryd.prog 20 = true := by kernel_rfl
theorem bd21 : bodied Tryd.prog 21 = true := by kernel_rfl
theorem bd22 : bodied Tryd.prog 22 = true := by kernel_rfl
theorem bd25 : bodied Tryd.prog 25 = true := by kernel_rfl
theorem bd26 : bodied Tryd.prog 26 = true := by kernel_rfl
theorem bd37 : bodied Tryd.prog 37 = true := by kernel_rfl
theorem bd38 : bodied Tryd.prog 38 = true := by kernel_rfl
theorem bd52 : bodied Tryd.prog 52 = true := by kernel_rfl
theorem bd54 : bodied Tryd.prog 54 = true := by kernel_rfl
theorem el59 : Elem Tryd.prog 59 25 1 8 := Elem.of (by kernel_rfl)
theorem fo54_1 : offB Tryd.prog 54 1 = some 1 := by kernel_rfl
theorem fo54_2 : offB Tryd.prog 54 2 = some 2 := by kernel_rfl
theorem fo56_0 : offB Tryd.prog 56 0 = some 0 := by kernel_rfl
theorem fo56_1 : offB Tryd.prog 56 1 = some 1 := by kernel_rfl
theorem fo56_3 : offB Tryd.prog 56 3 = some 3 := by kernel_rfl
theorem fo58_0 : offB Tryd.prog 58 0 = some 0 := by kernel_rfl
theorem pl58 : partPl Tryd.prog 58 = some [(0, 4)] := by kernel_rfl
theorem sz25 : sz Tryd.prog 25 = some 1 := by kernel_rfl
theorem zr25 : zr Tryd.prog 25 = some ([.pointer none]) := by kernel_rfl
theorem zr58 : zr Tryd.prog 58 = some ([.slice none 0 0] ++ [.int .i64 0] ++ [.int .i64 0] ++ [.bool false]) := by kernel_rfl
end TOn
set_option maxHeartbeats 4000000 in
theorem dead_nil (w : World) : Calls Tryd.prog 52 #[.pointer none] w fun e w2 => e = .returned (.bool true) ∧ w2 = w := by
  refine calls_W 13 Tryd.func52 rfl Tryd.ntmps52 rfl [.tmp 2] rfl ?_
  refine W_seq_k fun K1_ hK1_ => ?_
  refine W_region [some 2] rfl ?_
  refine Ops_step (R_assign rfl) rfl rfl ?_
  refine Ops_nil ?_
  refine then_n (hK1_ _ _ ?_)
  clear hK1_ K1_
  refine W_seq_k fun K2_ hK2_ => ?_
  refine W_region [some 3, some 4, some 5, some 6, some 7, some 8, some 9, some 10, some 11, some 12, some 2] rfl ?_
  refine Ops_step (R_move rfl) rfl rfl ?_
  refine Ops_step (R_ptrNil Tryd.underlying25 rfl rfl) rfl rfl ?_
  refine Ops_step (R_move rfl) rfl rfl ?_
  refine Ops_pass rfl rfl ?_
  refine Ops_pass rfl rfl ?_
  refine Ops_pass rfl rfl ?_
  refine Ops_pass rfl rfl ?_
  refine Ops_pass rfl rfl ?_
  refine Ops_pass rfl rfl ?_
  refine Ops_step (R_pick_true rfl rfl) rfl rfl ?_
  refine Ops_step (R_assign rfl) rfl rfl ?_
  refine Ops_nil ?_
  refine then_n (hK2_ _ _ ?_)
  clear hK2_ K2_
  refine W_keepB [2] fun B3 hB3_ => ?_
  simp only [pickE, lookE, putE, zipE, args0, Nat.reduceAdd, Nat.zero_add, List.cons_append, List.nil_append, Nat.reduceBEq, cond_true, cond_false] at hB3_
  subst hB3_
  refine W_ret ?_
  refine ⟨_, ⟨_, _, rfl, rfl, rfl⟩, ?_⟩
  exact ⟨rfl, rfl⟩
set_option maxHeartbeats 4000000 in
theorem dead_un (d : Nat) (w : World) (hB : Blk w d 58 unR) : Calls Tryd.prog 52 #[.pointer (some ⟨d, 0, none⟩)] w fun e w2 => e = .returned (.bool true) ∧ w2 = w := by
  refine calls_W 13 Tryd.func52 rfl Tryd.ntmps52 rfl [.tmp 2] rfl ?_
  refine W_seq_k fun K1_ hK1_ => ?_
  refine W_region [some 2] rfl ?_
  refine Ops_step (R_assign rfl) rfl rfl ?_
  refine Ops_nil ?_
  refine then_n (hK1_ _ _ ?_)
  clear hK1_ K1_
  refine W_seq_k fun K2_ hK2_ => ?_
  refine W_region [some 3, some 4, some 5, some 6, some 7, some 8, some 9, some 10, some 11, some 12, some 2] rfl ?_
  refine Ops_step (R_move rfl) rfl rfl ?_
  refine Ops_step (R_ptrNil Tryd.underlying25 rfl rfl) rfl rfl ?_
  refine Ops_step (R_move rfl) rfl rfl ?_
  refine Ops_step (R_move rfl) rfl rfl ?_
  refine Ops_step (R_nilCheck rfl) rfl rfl ?_
  refine Ops_step (R_fieldAddr TOn.fo58_0 rfl) rfl rfl ?_
  refine Ops_step (R_fieldAddr TOn.fo56_3 rfl) rfl rfl ?_
  refine Ops_step (R_loadB TOn.ag4 rfl hB rfl) rfl rfl ?_
  refine Ops_step (R_not rfl) rfl rfl ?_
  refine Ops_step (R_pick_false rfl rfl) rfl rfl ?_
  refine Ops_step (R_assign rfl) rfl rfl ?_
  refine Ops_nil ?_
  refine then_n (hK2_ _ _ ?_)
  clear hK2_ K2_
  refine W_keepB [2] fun B3 hB3_ => ?_
  simp only [pickE, lookE, putE, zipE, args0, Nat.reduceAdd, Nat.zero_add, List.cons_append, List.nil_append, Nat.reduceBEq, cond_true, cond_false] at hB3_
  subst hB3_
  refine W_ret ?_
  refine ⟨_, ⟨_, _, rfl, rfl, rfl⟩, ?_⟩
  exact ⟨rfl, rfl⟩

theorem dead_nob (p : Option Addr) (w : World) (h : NobR w p) : Calls Tryd.prog 52 #[.pointer p] w fun e w2 => e = .returned (.bool true) ∧ w2 = w := by
  rcases h with rfl | ⟨d, rfl, hB⟩
  · exact dead_nil w
  · exact dead_un d w hB
set_option maxHeartbeats 4000000 in
theorem err_nob (p : Option Addr) (w : World) (hN : NobR w p) : Calls Tryd.prog 26 #[.pointer p] w fun e w2 => e = .returned (vi 6) ∧ w2 = w := by
  refine calls_W 10 Tryd.func26 rfl Tryd.ntmps26 rfl [.tmp 2] rfl ?_
  refine W_seq_k fun K1_ hK1_ => ?_
  refine W_region [some 2] rfl ?_
  refine Ops_step (R_assign rfl) rfl rfl ?_
  refine Ops_nil ?_
  refine then_n (hK1_ _ _ ?_)
  clear hK1_ K1_
  refine W_seq_k fun K2_ hK2_ => ?_
  refine W_seq_k fun K3_ hK3_ => ?_
  refine W_region [some 3, some 4] rfl ?_
  refine Ops_step (R_move rfl) rfl rfl ?_
  refine Ops_call (C_func TOn.bd52 rfl) rfl rfl ?_
  refine (dead_nob _ _ hN).mono ?_
  rintro _ wq4_ ⟨rfl, hq4_⟩
  replace hq4_ := hq4_.symm
  subst hq4_
  refine ⟨_, rfl, ?_⟩
  refine Ops_nil ?_
  refine then_n (hK3_ _ _ ?_)
  clear hK3_ K3_
  refine W_cond_true rfl ?_
  refine W_seq_k fun K4_ hK4_ => ?_
  refine W_region [some 2] rfl ?_
  refine Ops_step (R_assign rfl) rfl rfl ?_
  refine Ops_nil ?_
  refine then_n (hK4_ _ _ ?_)
  clear hK4_ K4_
  refine W_ret ?_
  refine then_ret ?_
  clear hK2_ K2_
  refine ⟨_, ⟨_, _, rfl, rfl, rfl⟩, ?_⟩
  exact ⟨rfl, rfl⟩
set_option maxHeartbeats 4000000 in
theorem num_nob (p : Option Addr) (w : World) (hN : NobR w p) : Calls Tryd.prog 20 #[.pointer p] w fun e w2 => e = .returned (vi 0) ∧ w2 = w := by
  refine calls_W 43 Tryd.func20 rfl Tryd.ntmps20 rfl [.tmp 2] rfl ?_
  refine W_seq_k fun K1_ hK1_ => ?_
  refine W_region [some 2] rfl ?_
  refine Ops_step (R_assign rfl) rfl rfl ?_
  refine Ops_nil ?_
  refine then_n (hK1_ _ _ ?_)
  clear hK1_ K1_
  refine W_seq_k fun K2_ hK2_ => ?_
  refine W_seq_k fun K3_ hK3_ => ?_
  refine W_region [some 7, some 8] rfl ?_
  refine Ops_step (R_move rfl) rfl rfl ?_
  refine Ops_call (C_func TOn.bd52 rfl) rfl rfl ?_
  refine (dead_nob _ _ hN).mono ?_
  rintro _ wq8_ ⟨rfl, hq8_⟩
  replace hq8_ := hq8_.symm
  subst hq8_
  refine ⟨_, rfl, ?_⟩
  refine Ops_nil ?_
  refine then_n (hK3_ _ _ ?_)
  clear hK3_ K3_
  refine W_cond_true rfl ?_
  refine W_seq_k fun K4_ hK4_ => ?_
  refine W_region [some 2] rfl ?_
  refine Ops_step (R_assign rfl) rfl rfl ?_
  refine Ops_nil ?_
  refine then_n (hK4_ _ _ ?_)
  clear hK4_ K4_
  refine W_ret ?_
  refine then_ret ?_
  clear hK2_ K2_
  refine ⟨_, ⟨_, _, rfl, rfl, rfl⟩, ?_⟩
  exact ⟨rfl, rfl⟩
set_option maxHeartbeats 4000000 in
theorem with_nob (p : Option Addr) (a b : Int) (w : World) (hN : NobR w p) : Calls Tryd.prog 37 #[.pointer p, vi a, vi b] w fun e w2 => e = .returned (vi 0) ∧ w2 = w := by
  refine calls_W 57 Tryd.func37 rfl Tryd.ntmps37 rfl [.tmp 6] rfl ?_
  refine W_seq_k fun K1_ hK1_ => ?_
  refine W_region [some 6] rfl ?_
  refine Ops_step (R_assign rfl) rfl rfl ?_
  refine Ops_nil ?_
  refine then_n (hK1_ _ _ ?_)
  clear hK1_ K1_
  refine W_seq_k fun K2_ hK2_ => ?_
  refine W_seq_k fun K3_ hK3_ => ?_
  refine W_region [some 8, some 9, some 10, some 11, some 12, some 13, some 14, some 15, some 16, some 17] rfl ?_
  refine Ops_step (R_move rfl) rfl rfl ?_
  refine Ops_call (C_func TOn.bd52 rfl) rfl rfl ?_
  refine (dead_nob _ _ hN).mono ?_
  rintro _ wq9_ ⟨rfl, hq9_⟩
  replace hq9_ := hq9_.symm
  subst hq9_
  refine ⟨_, rfl, ?_⟩
  refine Ops_step (R_move rfl) rfl rfl ?_
  refine Ops_pass rfl rfl ?_
  refine Ops_pass rfl rfl ?_
  refine Ops_pass rfl rfl ?_
  refine Ops_pass rfl rfl ?_
  refine Ops_pass rfl rfl ?_
  refine Ops_pass rfl rfl ?_
  refine Ops_step (R_pick_true rfl rfl) rfl rfl ?_
  refine Ops_nil ?_
  refine then_n (hK3_ _ _ ?_)
  clear hK3_ K3_
  refine W_keepB [0, 1, 2, 17] fun B4 hB4_ => ?_
  simp only [pickE, lookE, putE, zipE, args0, Nat.reduceAdd, Nat.zero_add, List.cons_append, List.nil_append, Nat.reduceBEq, cond_true, cond_false] at hB4_
  subst hB4_
  refine W_cond_true rfl ?_
  refine W_seq_k fun K5_ hK5_ => ?_
  refine W_region [some 6] rfl ?_
  refine Ops_step (R_assign rfl) rfl rfl ?_
  refine Ops_nil ?_
  refine then_n (hK5_ _ _ ?_)
  clear hK5_ K5_
  refine W_ret ?_
  refine then_ret ?_
  clear hK2_ K2_
  refine ⟨_, ⟨_, _, rfl, rfl, rfl⟩, ?_⟩
  exact ⟨rfl, rfl⟩
set_option maxHeartbeats 4000000 in
theorem bytes_nob (p : Option Addr) (a : Int) (w : World) (hN : NobR w p) : Calls Tryd.prog 21 #[.pointer p, vi a] w fun e w2 => e = .returned (.slice none 0 0) ∧ w2 = w := by
  refine calls_W 60 Tryd.func21 rfl Tryd.ntmps21 rfl [.tmp 4] rfl ?_
  refine W_seq_k fun K1_ hK1_ => ?_
  refine W_region [some 4] rfl ?_
  refine Ops_step (R_assign rfl) rfl rfl ?_
  refine Ops_nil ?_
  refine then_n (hK1_ _ _ ?_)
  clear hK1_ K1_
  refine W_seq_k fun K2_ hK2_ => ?_
  refine W_seq_k fun K3_ hK3_ => ?_
  refine W_region [some 8, some 9, some 10, some 11, some 12, some 13, some 14, some 15, some 16, some 17] rfl ?_
  refine Ops_step (R_move rfl) rfl rfl ?_
  refine Ops_call (C_func TOn.bd52 rfl) rfl rfl ?_
  refine (dead_nob _ _ hN).mono ?_
  rintro _ wq9_ ⟨rfl, hq9_⟩
  replace hq9_ := hq9_.symm
  subst hq9_
  refine ⟨_, rfl, ?_⟩
  refine Ops_step (R_move rfl) rfl rfl ?_
  refine Ops_pass rfl rfl ?_
  refine Ops_pass rfl rfl ?_
  refine Ops_pass rfl rfl ?_
  refine Ops_pass rfl rfl ?_
  refine Ops_pass rfl rfl ?_
  refine Ops_pass rfl rfl ?_
  refine Ops_step (R_pick_true rfl rfl) rfl rfl ?_
  refine Ops_nil ?_
  refine then_n (hK3_ _ _ ?_)
  clear hK3_ K3_
  refine W_keepB [0, 1, 17] fun B4 hB4_ => ?_
  simp only [pickE, lookE, putE, zipE, args0, Nat.reduceAdd, Nat.zero_add, List.cons_append, List.nil_append, Nat.reduceBEq, cond_true, cond_false] at hB4_
  subst hB4_
  refine W_cond_true rfl ?_
  refine W_seq_k fun K5_ hK5_ => ?_
  refine W_region [some 4] rfl ?_
  refine Ops_step (R_assign rfl) rfl rfl ?_
  refine Ops_nil ?_
  refine then_n (hK5_ _ _ ?_)
  clear hK5_ K5_
  refine W_ret ?_
  refine then_ret ?_
  clear hK2_ K2_
  refine ⟨_, ⟨_, _, rfl, rfl, rfl⟩, ?_⟩
  exact ⟨rfl, rfl⟩
set_option maxHeartbeats 4000000 in
theorem text_nob (p : Option Addr) (a : Int) (w : World) (hN : NobR w p) : Calls Tryd.prog 22 #[.pointer p, vi a] w fun e w2 => e = .returned (.string (ByteArray.mk #[])) ∧ w2 = w := by
  refine calls_W 71 Tryd.func22 rfl Tryd.ntmps22 rfl [.tmp 4] rfl ?_
  refine W_seq_k fun K1_ hK1_ => ?_
  refine W_region [some 4] rfl ?_
  refine Ops_step (R_assign rfl) rfl rfl ?_
  refine Ops_nil ?_
  refine then_n (hK1_ _ _ ?_)
  clear hK1_ K1_
  refine W_seq_k fun K2_ hK2_ => ?_
  refine W_seq_k fun K3_ hK3_ => ?_
  refine W_region [some 7, some 8, some 9, some 10, some 11, some 12, some 13, some 14, some 15, some 16] rfl ?_
  refine Ops_step (R_move rfl) rfl rfl ?_
  refine Ops_call (C_func TOn.bd52 rfl) rfl rfl ?_
  refine (dead_nob _ _ hN).mono ?_
  rintro _ wq8_ ⟨rfl, hq8_⟩
  replace hq8_ := hq8_.symm
  subst hq8_
  refine ⟨_, rfl, ?_⟩
  refine Ops_step (R_move rfl) rfl rfl ?_
  refine Ops_pass rfl rfl ?_
  refine Ops_pass rfl rfl ?_
  refine Ops_pass rfl rfl ?_
  refine Ops_pass rfl rfl ?_
  refine Ops_pass rfl rfl ?_
  refine Ops_pass rfl rfl ?_
  refine Ops_step (R_pick_true rfl rfl) rfl rfl ?_
  refine Ops_nil ?_
  refine then_n (hK3_ _ _ ?_)
  clear hK3_ K3_
  refine W_keepB [0, 1, 16] fun B4 hB4_ => ?_
  simp only [pickE, lookE, putE, zipE, args0, Nat.reduceAdd, Nat.zero_add, List.cons_append, List.nil_append, Nat.reduceBEq, cond_true, cond_false] at hB4_
  subst hB4_
  refine W_cond_true rfl ?_
  refine W_seq_k fun K5_ hK5_ => ?_
  refine W_region [some 4] rfl ?_
  refine Ops_step (R_assign rfl) rfl rfl ?_
  refine Ops_nil ?_
  refine then_n (hK5_ _ _ ?_)
  clear hK5_ K5_
  refine W_ret ?_
  refine then_ret ?_
  clear hK2_ K2_
  refine ⟨_, ⟨_, _, rfl, rfl, rfl⟩, ?_⟩
  exact ⟨rfl, rfl⟩
set_option maxHeartbeats 4000000 in
theorem end_nob (p : Option Addr) (w : World) (hN : NobR w p) : Calls Tryd.prog 38 #[.pointer p] w fun e w2 => e = .returned (vi 6) ∧ w2 = w := by
  refine calls_W 16 Tryd.func38 rfl Tryd.ntmps38 rfl [.tmp 2] rfl ?_
  refine W_seq_k fun K1_ hK1_ => ?_
  refine W_region [some 2] rfl ?_
  refine Ops_step (R_assign rfl) rfl rfl ?_
  refine Ops_nil ?_
  refine then_n (hK1_ _ _ ?_)
  clear hK1_ K1_
  refine W_seq_k fun K2_ hK2_ => ?_
  refine W_region [some 4, some 5, some 3] rfl ?_
  refine Ops_step (R_move rfl) rfl rfl ?_
  refine Ops_call (C_func TOn.bd26 rfl) rfl rfl ?_
  refine (err_nob _ _ hN).mono ?_
  rintro _ wq5_ ⟨rfl, hq5_⟩
  replace hq5_ := hq5_.symm
  subst hq5_
  refine ⟨_, rfl, ?_⟩
  refine Ops_step (R_assign rfl) rfl rfl ?_
  refine Ops_nil ?_
  refine then_n (hK2_ _ _ ?_)
  clear hK2_ K2_
  refine W_seq_k fun K3_ hK3_ => ?_
  refine W_seq_k fun K4_ hK4_ => ?_
  refine W_region [some 6, some 7, some 8, some 9, some 10, some 11, some 12, some 13, some 14] rfl ?_
  refine Ops_step (R_move rfl) rfl rfl ?_
  refine Ops_step (R_eql rfl rfl) rfl rfl ?_
  refine Ops_step (R_move rfl) rfl rfl ?_
  refine Ops_known (b := false) 8 rfl (by decide) ?_
  refine Ops_pass rfl rfl ?_
  refine Ops_pass rfl rfl ?_
  refine Ops_pass rfl rfl ?_
  refine Ops_pass rfl rfl ?_
  refine Ops_pass rfl rfl ?_
  refine Ops_step (R_pick_false rfl rfl) rfl rfl ?_
  refine Ops_nil ?_
  refine then_n (hK4_ _ _ ?_)
  clear hK4_ K4_
  refine W_keepB [3, 14] fun B5 hB5_ => ?_
  simp only [pickE, lookE, putE, zipE, args0, Nat.reduceAdd, Nat.zero_add, List.cons_append, List.nil_append, Nat.reduceBEq, cond_true, cond_false] at hB5_
  subst hB5_
  refine W_cond_false rfl ?_
  refine W_skip ?_
  refine then_n (hK3_ _ _ ?_)
  clear hK3_ K3_
  refine W_seq_k fun K6_ hK6_ => ?_
  refine W_region [some 15, some 2] rfl ?_
  refine Ops_step (R_move rfl) rfl rfl ?_
  refine Ops_step (R_assign rfl) rfl rfl ?_
  refine Ops_nil ?_
  refine then_n (hK6_ _ _ ?_)
  clear hK6_ K6_
  refine W_ret ?_
  refine ⟨_, ⟨_, _, rfl, rfl, rfl⟩, ?_⟩
  exact ⟨rfl, rfl⟩
set_option maxHeartbeats 4000000 in
theorem sleft_un (d : Nat) (w : World) (hB : Blk w d 58 unR) : Calls Tryd.prog 54 #[.pointer (some ⟨d, 0, none⟩)] w fun e w2 => e = .returned (vi 0) ∧ Fr [] w w2 := by
  have hF := Fr.refl [] w
  refine calls_W 13 Tryd.func54 rfl Tryd.ntmps54 rfl [.tmp 2] rfl ?_
  refine W_seq_k fun K1_ hK1_ => ?_
  refine W_region [some 2] rfl ?_
  refine Ops_step (R_assign rfl) rfl rfl ?_
  refine Ops_nil ?_
  refine then_n (hK1_ _ _ ?_)
  clear hK1_ K1_
  refine W_seq_k fun K2_ hK2_ => ?_
  refine W_drawF [some 3, some 4, some 5, some 6, some 7, some 8, some 9, some 10, some 11, some 12, some 2] [(0, true), (1, true), (2, true), (3, true), (4, true), (5, true), (6, true), (7, true), (8, true), (9, true), (10, true)] TOn.hm rfl (by kernel_rfl) fun ops3_ w3_ hops3_ hF3_ => ?_
  replace hF := hF.fr0 hF3_
  replace hB := hB.fr0 hF3_
  clear hF3_
  refine HS_pure (fun w_ => R_move rfl) rfl rfl ?_
  refine HS_pure (fun w_ => R_nilCheck rfl) rfl rfl ?_
  refine HS_pure (fun w_ => R_fieldAddr TOn.fo56_0 rfl) rfl rfl ?_
  refine HS_loadB TOn.ag22 rfl hB rfl rfl rfl ?_
  refine HS_pure (fun w_ => R_len Tryd.underlying22 rfl rfl) rfl rfl ?_
  refine HS_pure (fun w_ => R_move rfl) rfl rfl ?_
  refine HS_pure (fun w_ => R_nilCheck rfl) rfl rfl ?_
  refine HS_pure (fun w_ => R_fieldAddr TOn.fo56_1 rfl) rfl rfl ?_
  refine HS_loadB TOn.ag3 rfl hB rfl rfl rfl ?_
  refine HS_pure (fun w_ => R_sub rfl rfl (wIc (n := 0) (by decide) (by decide))) rfl rfl ?_
  refine HS_pure (fun w_ => R_assign rfl) rfl rfl ?_
  refine HS_nil ?_
  clear hops3_
  refine then_n (hK2_ _ _ ?_)
  clear hK2_ K2_
  refine W_keepB [2] fun B4 hB4_ => ?_
  simp only [pickE, lookE, putE, zipE, args0, Nat.reduceAdd, Nat.zero_add, List.cons_append, List.nil_append, Nat.reduceBEq, cond_true, cond_false] at hB4_
  subst hB4_
  refine W_ret ?_
  refine ⟨_, ⟨_, _, rfl, rfl, rfl⟩, ?_⟩
  exact ⟨rfl, hF⟩
set_option maxHeartbeats 4000000 in
theorem left_un (d : Nat) (w : World) (hB : Blk w d 58 unR) : Calls Tryd.prog 25 #[.pointer (some ⟨d, 0, none⟩)] w fun e w2 => e = .returned (vi 0) ∧ Fr [] w w2 := by
  have hF := Fr.refl [] w
  refine calls_W 9 Tryd.func25 rfl Tryd.ntmps25 rfl [.tmp 2] rfl ?_
  refine W_seq_k fun K1_ hK1_ => ?_
  refine W_region [some 2] rfl ?_
  refine Ops_step (R_assign rfl) rfl rfl ?_
  refine Ops_nil ?_
  refine then_n (hK1_ _ _ ?_)
  clear hK1_ K1_
  refine W_seq_k fun K2_ hK2_ => ?_
  refine W_seq_k fun K3_ hK3_ => ?_
  refine W_region [some 3, some 4] rfl ?_
  refine Ops_step (R_move rfl) rfl rfl ?_
  refine Ops_step (R_ptrNil Tryd.underlying25 rfl rfl) rfl rfl ?_
  refine Ops_nil ?_
  refine then_n (hK3_ _ _ ?_)
  clear hK3_ K3_
  refine W_cond_false rfl ?_
  refine W_skip ?_
  refine then_n (hK2_ _ _ ?_)
  clear hK2_ K2_
  refine W_seq_k fun K4_ hK4_ => ?_
  refine W_region [some 5, some 6, some 7, some 8, some 2] rfl ?_
  refine Ops_step (R_move rfl) rfl rfl ?_
  refine Ops_step (R_nilCheck rfl) rfl rfl ?_
  refine Ops_step (R_fieldAddr TOn.fo58_0 rfl) rfl rfl ?_
  refine Ops_call (C_func TOn.bd54 rfl) rfl rfl ?_
  refine (sleft_un _ _ hB).mono ?_
  rintro _ w8_ ⟨rfl, hF8_⟩
  replace hF := hF.fr0 hF8_
  clear hF8_
  refine ⟨_, rfl, ?_⟩
  refine Ops_step (R_assign rfl) rfl rfl ?_
  refine Ops_nil ?_
  refine then_n (hK4_ _ _ ?_)
  clear hK4_ K4_
  refine W_keepB [2] fun B5 hB5_ => ?_
  simp only [pickE, lookE, putE, zipE, args0, Nat.reduceAdd, Nat.zero_add, List.cons_append, List.nil_append, Nat.reduceBEq, cond_true, cond_false] at hB5_
  subst hB5_
  refine W_ret ?_
  refine ⟨_, ⟨_, _, rfl, rfl, rfl⟩, ?_⟩
  exact ⟨rfl, hF⟩

theorem awake_any {G : Lx.Gh} {w0 w : World} (hS : Lx.St G w0) (hg : GL G) (hF : Fr [] w0 w) : Calls Tryd.prog 15 #[] w fun e w2 => e = .returned (.bool true) ∧ Fr [] w w2 :=
  (sealskinlaw02_awake_ok (hS.fr0 hF) hg (Lx.awake_of (Q := fun r => r = true) rfl)).mono fun e w2 ⟨r0, L, H, he, hI, hr⟩ => ⟨by rw [he, hr], hI.fr⟩
set_option maxHeartbeats 4000000 in
theorem law_nobody {G : Lx.Gh} (k0 k1 k2 : Int) (w : World) (hS : Lx.St G w) (hg : GL G) : Calls Tryd.prog 10 #[.agg ([vi k0, vi k1, vi k2] : List Value).toArray] w fun e w2 => e = .returned (.bool true) ∧ Fr [] w w2 := by
  have hF := Fr.refl [] w
  refine calls_W 62 Tryd.func10 rfl Tryd.ntmps10 rfl [.tmp 2] rfl ?_
  refine W_seq_k fun K1_ hK1_ => ?_
  refine W_region [some 1, some 2] rfl ?_
  have hz1_hF := hF.size
  refine Ops_to (R_box rfl) rfl rfl ?_
  rintro _ w1_ ⟨b1, rfl, hb1, hB1, hF1_⟩
  have hl1 := hB1.lt
  replace hF := hF.fr0 hF1_
  clear hF1_
  replace hB1 : Blk _ b1 54 [vi k0, vi k1, vi k2] := hB1
  refine Ops_step (R_assign rfl) rfl rfl ?_
  refine Ops_nil ?_
  refine then_n (hK1_ _ _ ?_)
  clear hK1_ K1_
  refine W_seq_k fun K2_ hK2_ => ?_
  refine W_region [some 3] rfl ?_
  refine Ops_step (R_assign rfl) rfl rfl ?_
  refine Ops_nil ?_
  refine then_n (hK2_ _ _ ?_)
  clear hK2_ K2_
  refine W_seq_k fun K3_ hK3_ => ?_
  refine W_seq_k fun K4_ hK4_ => ?_
  refine W_region [some 7, some 8, some 9, some 10, some 11, some 12] rfl ?_
  refine Ops_step (R_move rfl) rfl rfl ?_
  refine Ops_step (R_build (pl := []) (cs := unR) TOn.zr58 TOn.pl58 rfl rfl (by kernel_rfl)) rfl rfl ?_
  have hz9_hF := hF.size
  have hn9_hB1 := hB1.lt
  refine Ops_to (R_box rfl) rfl rfl ?_
  rintro _ w9_ ⟨b9, rfl, hb9, hB9, hF9_⟩
  have hl9 := hB9.lt
  replace hF := hF.fr0 hF9_
  replace hB1 := hB1.fr0 hF9_
  clear hF9_
  replace hB9 : Blk _ b9 58 unR := hB9
  have hz10_hF := hF.size
  have hn10_hB1 := hB1.lt
  have hn10_hB9 := hB9.lt
  refine Ops_to (R_buildSlice TOn.el59 TOn.zr25 (by decide) (by decide) rfl rfl) rfl rfl ?_
  rintro _ w10_ ⟨b10, rfl, hb10, hB10, hF10_⟩
  have hl10 := hB10.lt
  replace hF := hF.fr0 hF10_
  replace hB1 := hB1.fr0 hF10_
  replace hB9 := hB9.fr0 hF10_
  clear hF10_
  replace hB10 : Blk _ b10 25 [.pointer none, .pointer (some ⟨b9, 0, none⟩)] := hB10
  refine Ops_step (R_len Tryd.underlying59 rfl rfl) rfl rfl ?_
  refine Ops_step (R_move rfl) rfl rfl ?_
  refine Ops_nil ?_
  refine then_n (hK4_ _ _ ?_)
  clear hK4_ K4_
  refine W_keepB [1, 10, 11, 12] fun B5 hB5_ => ?_
  simp only [pickE, lookE, putE, zipE, args0, Nat.reduceAdd, Nat.zero_add, List.cons_append, List.nil_append, Nat.reduceBEq, cond_true, cond_false] at hB5_
  subst hB5_
  refine W_block ?_
  refine W_loopB [1, 10, 11] [12] (fun m vs w' => ∃ i, i ≤ 2 ∧ m = 2 - i ∧ vs = [vi (i : Nat)] ∧ Blk w' b10 25 [.pointer none, .pointer (some ⟨b9, 0, none⟩)] ∧ Blk w' b9 58 unR ∧ Blk w' b1 54 [vi k0, vi k1, vi k2] ∧ Fr [] w w') (2) _ rfl (⟨0, by omega, rfl, rfl, hB10, hB9, hB1, hF⟩) fun B6 hB6_ => ?_
  simp only [pickE, lookE, putE, zipE, args0, Nat.reduceAdd, Nat.zero_add, List.cons_append, List.nil_append, Nat.reduceBEq, cond_true, cond_false] at hB6_
  subst hB6_
  clear hB10 hB9 hB1 hF
  rintro m_ vs_ w0_ ⟨i, hi, rfl, rfl, hB10, hB9, hB1, hF⟩
  refine W_seq_k fun K7_ hK7_ => ?_
  refine W_region [some 13] rfl ?_
  refine Ops_step (R_lss rfl rfl) rfl rfl ?_
  refine Ops_nil ?_
  refine then_n (hK7_ _ _ ?_)
  clear hK7_ K7_
  refine W_seq_k fun K8_ hK8_ => ?_
  refine W_if rfl (fun hc13 => ?_) (fun hc13 => ?_)
  · obtain ⟨p, hpc, hN⟩ := nobR_two hB10 hB9 (i := i) (by omega)
    refine W_skip ?_
    refine then_n (hK8_ _ _ ?_)
    clear hK8_ K8_
    refine W_seq_k fun K9_ hK9_ => ?_
    refine W_block ?_
    refine W_seq_k fun K10_ hK10_ => ?_
    refine W_region [some 14, some 15, some 5] rfl ?_
    refine Ops_step (R_indexSl Tryd.underlying59 TOn.sz25 rfl rfl (by omega) (by omega) rfl) rfl rfl ?_
    refine Ops_step (R_load TOn.ag25 rfl hpc) rfl rfl ?_
    refine Ops_step (R_assign rfl) rfl rfl ?_
    refine Ops_nil ?_
    refine then_n (hK10_ _ _ ?_)
    clear hK10_ K10_
    refine W_seq_k fun K11_ hK11_ => ?_
    refine W_region [some 16, some 17, some 18, some 19, some 20, some 21, some 22, some 23, some 24, some 25, some 26, some 27, some 28, some 29, some 30, some 31, some 32, some 33, some 34, some 35, some 36, some 37, some 38, some 39, some 40, some 41, some 42] rfl ?_
    refine Ops_step (R_move rfl) rfl rfl ?_
    refine Ops_call (C_func TOn.bd20 rfl) rfl rfl ?_
    refine (num_nob p _ hN).mono ?_
    rintro _ wq17_ ⟨rfl, hq17_⟩
    replace hq17_ := hq17_.symm
    subst hq17_
    refine ⟨_, rfl, ?_⟩
    refine Ops_step (R_neq rfl rfl) rfl rfl ?_
    refine Ops_step (R_move rfl) rfl rfl ?_
    refine Ops_known (b := false) 19 rfl (by decide) ?_
    refine Ops_step (R_move rfl) rfl rfl ?_
    refine Ops_step (R_fieldAddr TOn.fo54_1 rfl) rfl rfl ?_
    refine Ops_step (R_loadB TOn.ag3 rfl hB1 rfl) rfl rfl ?_
    refine Ops_step (R_fieldAddr TOn.fo54_2 rfl) rfl rfl ?_
    refine Ops_step (R_loadB TOn.ag3 rfl hB1 rfl) rfl rfl ?_
    refine Ops_call (C_func TOn.bd37 rfl) rfl rfl ?_
    refine (with_nob p _ _ _ hN).mono ?_
    rintro _ wq25_ ⟨rfl, hq25_⟩
    replace hq25_ := hq25_.symm
    subst hq25_
    refine ⟨_, rfl, ?_⟩
    refine Ops_step (R_neq rfl rfl) rfl rfl ?_
    refine Ops_step (R_pick_false rfl rfl) rfl rfl ?_
    refine Ops_step (R_move rfl) rfl rfl ?_
    refine Ops_known (b := false) 28 rfl (by decide) ?_
    refine Ops_step (R_move rfl) rfl rfl ?_
    refine Ops_step (R_fieldAddr TOn.fo54_2 rfl) rfl rfl ?_
    refine Ops_step (R_loadB TOn.ag3 rfl hB1 rfl) rfl rfl ?_
    refine Ops_call (C_func TOn.bd21 rfl) rfl rfl ?_
    refine (bytes_nob p _ _ hN).mono ?_
    rintro _ wq32_ ⟨rfl, hq32_⟩
    replace hq32_ := hq32_.symm
    subst hq32_
    refine ⟨_, rfl, ?_⟩
    refine Ops_step (R_len Tryd.underlying22 rfl rfl) rfl rfl ?_
    refine Ops_step (R_neq rfl rfl) rfl rfl ?_
    refine Ops_step (R_pick_false rfl rfl) rfl rfl ?_
    refine Ops_step (R_move rfl) rfl rfl ?_
    refine Ops_known (b := false) 36 rfl (by decide) ?_
    refine Ops_step (R_move rfl) rfl rfl ?_
    refine Ops_step (R_fieldAddr TOn.fo54_2 rfl) rfl rfl ?_
    refine Ops_step (R_loadB TOn.ag3 rfl hB1 rfl) rfl rfl ?_
    refine Ops_call (C_func TOn.bd22 rfl) rfl rfl ?_
    refine (text_nob p _ _ hN).mono ?_
    rintro _ wq40_ ⟨rfl, hq40_⟩
    replace hq40_ := hq40_.symm
    subst hq40_
    refine ⟨_, rfl, ?_⟩
    refine Ops_step (R_strNeB rfl rfl) rfl rfl ?_
    refine Ops_step (R_pick_false rfl rfl) rfl rfl ?_
    refine Ops_nil ?_
    refine then_n (hK11_ _ _ ?_)
    clear hK11_ K11_
    refine W_keepB [1, 10, 11, 12, 20, 21, 22, 23, 24, 25, 26, 29, 30, 31, 32, 33, 34, 37, 38, 39, 40, 41, 42] fun B12 hB12_ => ?_
    simp only [pickE, lookE, putE, zipE, args0, Nat.reduceAdd, Nat.zero_add, List.cons_append, List.nil_append, Nat.reduceBEq, cond_true, cond_false] at hB12_
    subst hB12_
    refine W_no rfl (by decide) ?_
    refine W_skip ?_
    refine block_n ?_
    refine then_n (hK9_ _ _ ?_)
    clear hK9_ K9_
    refine W_region [some 43, some 12] rfl ?_
    refine Ops_step (R_add rfl rfl (wIc (n := i + 1) (by omega) (by omega))) rfl rfl ?_
    refine Ops_step (R_move rfl) rfl rfl ?_
    refine Ops_nil ?_
    exact ⟨2 - (i + 1), _, by omega, rfl, ⟨i + 1, by omega, rfl, rfl, hB10, hB9, hB1, hF⟩, ⟨rfl, rfl, rfl, trivial⟩⟩
  · refine W_exit ?_
    refine then_exit ?_
    clear hK8_ K8_
    refine then_exit ?_
    refine block_exit ?_
    refine then_n (hK3_ _ _ ?_)
    clear hK3_ K3_
    refine W_seq_k fun K13_ hK13_ => ?_
    refine W_region [some 44, some 45, some 6] rfl ?_
    refine Ops_step (R_build (pl := []) (cs := unR) TOn.zr58 TOn.pl58 rfl rfl (by kernel_rfl)) rfl rfl ?_
    have hz45_hF := hF.size
    have hn45_hB10 := hB10.lt
    have hn45_hB9 := hB9.lt
    have hn45_hB1 := hB1.lt
    refine Ops_to (R_box rfl) rfl rfl ?_
    rintro _ w45_ ⟨b45, rfl, hb45, hB45, hF45_⟩
    have hl45 := hB45.lt
    replace hF := hF.fr0 hF45_
    replace hB10 := hB10.fr0 hF45_
    replace hB9 := hB9.fr0 hF45_
    replace hB1 := hB1.fr0 hF45_
    clear hF45_
    replace hB45 : Blk _ b45 58 unR := hB45
    refine Ops_step (R_assign rfl) rfl rfl ?_
    refine Ops_nil ?_
    refine then_n (hK13_ _ _ ?_)
    clear hK13_ K13_
    refine W_keepB [6] fun B14 hB14_ => ?_
    simp only [pickE, lookE, putE, zipE, args0, Nat.reduceAdd, Nat.zero_add, List.cons_append, List.nil_append, Nat.reduceBEq, cond_true, cond_false] at hB14_
    subst hB14_
    refine W_seq_k fun K15_ hK15_ => ?_
    refine W_region [some 46, some 47, some 48, some 49, some 50, some 51, some 52, some 53, some 54, some 55, some 56, some 57, some 58, some 59, some 60, some 61, some 2] rfl ?_
    refine Ops_step (R_move rfl) rfl rfl ?_
    refine Ops_call (C_func TOn.bd25 rfl) rfl rfl ?_
    refine (left_un _ _ hB45).mono ?_
    rintro _ w47_ ⟨rfl, hF47_⟩
    replace hF := hF.fr0 hF47_
    replace hB10 := hB10.fr0 hF47_
    replace hB9 := hB9.fr0 hF47_
    replace hB1 := hB1.fr0 hF47_
    replace hB45 := hB45.fr0 hF47_
    clear hF47_
    refine ⟨_, rfl, ?_⟩
    refine Ops_step (R_eql rfl rfl) rfl rfl ?_
    refine Ops_step (R_move rfl) rfl rfl ?_
    refine Ops_known (b := true) 49 rfl (by decide) ?_
    refine Ops_step (R_move rfl) rfl rfl ?_
    refine Ops_call (C_func TOn.bd26 rfl) rfl rfl ?_
    refine (err_nob _ _ (.inr ⟨_, rfl, hB45⟩)).mono ?_
    rintro _ wq51_ ⟨rfl, hq51_⟩
    replace hq51_ := hq51_.symm
    subst hq51_
    refine ⟨_, rfl, ?_⟩
    refine Ops_step (R_eql rfl rfl) rfl rfl ?_
    refine Ops_step (R_pick_true rfl rfl) rfl rfl ?_
    refine Ops_step (R_move rfl) rfl rfl ?_
    refine Ops_known (b := true) 54 rfl (by decide) ?_
    refine Ops_step (R_move rfl) rfl rfl ?_
    refine Ops_call (C_func TOn.bd38 rfl) rfl rfl ?_
    refine (end_nob _ _ (.inr ⟨_, rfl, hB45⟩)).mono ?_
    rintro _ wq56_ ⟨rfl, hq56_⟩
    replace hq56_ := hq56_.symm
    subst hq56_
    refine ⟨_, rfl, ?_⟩
    refine Ops_step (R_eql rfl rfl) rfl rfl ?_
    refine Ops_step (R_pick_true rfl rfl) rfl rfl ?_
    refine Ops_step (R_move rfl) rfl rfl ?_
    refine Ops_known (b := true) 59 rfl (by decide) ?_
    refine Ops_call (C_func TOn.bd15 rfl) rfl rfl ?_
    refine (awake_any hS hg hF).mono ?_
    rintro _ w60_ ⟨rfl, hF60_⟩
    replace hF := hF.fr0 hF60_
    replace hB10 := hB10.fr0 hF60_
    replace hB9 := hB9.fr0 hF60_
    replace hB1 := hB1.fr0 hF60_
    replace hB45 := hB45.fr0 hF60_
    clear hF60_
    refine ⟨_, rfl, ?_⟩
    refine Ops_step (R_pick_true rfl rfl) rfl rfl ?_
    refine Ops_step (R_assign rfl) rfl rfl ?_
    refine Ops_nil ?_
    refine then_n (hK15_ _ _ ?_)
    clear hK15_ K15_
    refine W_keepB [2] fun B16 hB16_ => ?_
    simp only [pickE, lookE, putE, zipE, args0, Nat.reduceAdd, Nat.zero_add, List.cons_append, List.nil_append, Nat.reduceBEq, cond_true, cond_false] at hB16_
    subst hB16_
    refine W_ret ?_
    refine ⟨_, ⟨_, _, rfl, rfl, rfl⟩, ?_⟩
    exact ⟨rfl, hF⟩

end Go.Proofs.YtdnpdljnjoegiaaDoor
