/- What the walks of this seat show of Wd. -/
import Derived.Test.YtghfohhekhedaaaDoorDg
import Derived.Test.YtghfohhekhedaaaDoorWc
import Derived.Test.YtghfohhekhedaaaDoorProg
set_option linter.unusedVariables false
set_option linter.unusedSimpArgs false
namespace Go.Proofs.YtghfohhekhedaaaDoor
open Go Go.Sx

namespace TWd
theorem hm : Tryd.prog.follows .mixedOrders = true := by kernel_rfl
theorem ag36 : aggB Tryd.prog 36 = some true := by kernel_rfl
theorem ag39 : aggB Tryd.prog 39 = some true := by kernel_rfl
theorem ag4 : aggB Tryd.prog 4 = some false := by kernel_rfl
theorem bd30 : bodied Tryd.prog 30 = true := by kernel_rfl
theorem fo39_3 : offB Tryd.prog 39 3 = some 10 := by kernel_rfl
theorem sz36 : sz Tryd.prog 36 = some 8 := by kernel_rfl
theorem sz39 : sz Tryd.prog 39 = some 11 := by kernel_rfl
theorem zr39 : zr Tryd.prog 39 = some (List.replicate 8 (.int .u32 0) ++ [.slice none 0 0] ++ [.int .u64 0] ++ [.bool false]) := by kernel_rfl
end TWd
set_option maxHeartbeats 4000000 in
theorem clone_any (B d : Nat) (D : Bl.D) (w : World) (hD : Dig w B d D) :
    Calls Tryd.prog 17 #[.pointer (some ⟨d, 0, none⟩)] w fun e w2 => ∃ d2, e = .returned (.pointer (some ⟨d2, 0, none⟩)) ∧ w.heap.size ≤ d2 ∧ Dig w2 B d2 D ∧ Fr [] w w2 := by
  obtain ⟨A, c, hB, hh, hr, hd, hR, hc⟩ := hD
  have hF := Fr.refl [] w
  refine calls_W 16 Tryd.func17 rfl Tryd.ntmps17 rfl [.tmp 2] rfl ?_
  refine W_seq_k fun K1_ hK1_ => ?_
  refine W_region [some 2] rfl ?_
  refine Ops_step (R_assign rfl) rfl rfl ?_
  refine Ops_nil ?_
  refine then_n (hK1_ _ _ ?_)
  clear hK1_ K1_
  refine W_seq_k fun K2_ hK2_ => ?_
  refine W_seq_k fun K3_ hK3_ => ?_
  refine W_region [some 4, some 5, some 6, some 7, some 8, some 9, some 10, some 11, some 12] rfl ?_
  refine Ops_step (R_move rfl) rfl rfl ?_
  refine Ops_step (R_ptrNil Tryd.underlying25 rfl rfl) rfl rfl ?_
  refine Ops_step (R_move rfl) rfl rfl ?_
  refine Ops_step (R_move rfl) rfl rfl ?_
  refine Ops_step (R_nilCheck rfl) rfl rfl ?_
  refine Ops_step (R_fieldAddr TWd.fo39_3 rfl) rfl rfl ?_
  refine Ops_step (R_loadB TWd.ag4 rfl hB (digC_get10 hh _ _ _ _)) rfl rfl ?_
  refine Ops_step (R_not rfl) rfl rfl ?_
  refine Ops_step (R_pick_false rfl rfl) rfl rfl ?_
  refine Ops_nil ?_
  refine then_n (hK3_ _ _ ?_)
  clear hK3_ K3_
  refine W_keepB [0, 12] fun B4 hB4_ => ?_
  simp only [pickE, lookE, putE, zipE, args0, Nat.reduceAdd, Nat.zero_add, List.cons_append, List.nil_append, Nat.reduceBEq, cond_true, cond_false] at hB4_
  subst hB4_
  refine W_cond_false rfl ?_
  refine W_skip ?_
  refine then_n (hK2_ _ _ ?_)
  clear hK2_ K2_
  refine W_seq_k fun K5_ hK5_ => ?_
  refine W_region [some 13, some 14, some 15, some 3, none] rfl ?_
  refine Ops_step (R_move rfl) rfl rfl ?_
  refine Ops_step (R_nilCheck rfl) rfl rfl ?_
  refine Ops_step (R_loadN TWd.ag39 TWd.sz39 rfl hB (by rw [digC_len hh]; decide)) rfl rfl ?_
  have hz3_hF := hF.size
  have hn3_hB := hB.lt
  refine Ops_to (R_alloc TWd.zr39) rfl rfl ?_
  rintro _ w3_ ⟨b3, rfl, hb3, hB3, hF3_⟩
  have hl3 := hB3.lt
  replace hF := hF.fr0 hF3_
  replace hB := hB.fr0 hF3_
  replace hR := hR.fr0 hF3_
  clear hF3_
  have hT3 : ∃ cs, Blk _ b3 39 cs := ⟨_, hB3⟩
  refine Ops_to0 (R_storeN TWd.sz39 (by simp [digC_len hh]) rfl rfl hB3 (by decide) (all_cut (digC_one _ _ _ _ _) _ _)) rfl ?_
  clear hB3
  rintro _ w6_ ⟨hB3, hF6_⟩
  replace hF := hF.then hF6_ (by simp only [List.mem_cons, List.not_mem_nil, or_false]; intro i_ hi_ hj_; omega)
  replace hB := hB.fr hF6_ (by simp only [List.mem_cons, List.not_mem_nil, or_false]; omega)
  replace hR := hR.fr hF6_ (one39 hT3)
  clear hF6_
  replace hB3 := hB3.to (over_whole (by simp) (digC_len hh _ _ _ _))
  refine Ops_nil ?_
  refine then_n (hK5_ _ _ ?_)
  clear hK5_ K5_
  refine W_seq_k fun K7_ hK7_ => ?_
  refine W_region [some 2] rfl ?_
  refine Ops_step (R_assign rfl) rfl rfl ?_
  refine Ops_nil ?_
  refine then_n (hK7_ _ _ ?_)
  clear hK7_ K7_
  refine W_keepB [2] fun B8 hB8_ => ?_
  simp only [pickE, lookE, putE, zipE, args0, Nat.reduceAdd, Nat.zero_add, List.cons_append, List.nil_append, Nat.reduceBEq, cond_true, cond_false] at hB8_
  subst hB8_
  refine W_ret ?_
  refine ⟨_, ⟨_, _, rfl, rfl, rfl⟩, ?_⟩
  exact ⟨_, rfl, by omega, ⟨A, c, hB3, hh, hr, by have := hB.lt; omega, hR, hc⟩, hF⟩
set_option maxHeartbeats 4000000 in
theorem new_any (w : World) : Calls Tryd.prog 14 #[] w fun e w2 => ∃ d, e = .returned (.pointer (some ⟨d, 0, none⟩)) ∧ Dig w2 w.heap.size d (Bl.begin_ []) ∧ Fr [] w w2 := by
  have hF := Fr.refl [] w
  refine calls_W 2 Tryd.func14 rfl Tryd.ntmps14 rfl [.tmp 0] rfl ?_
  refine W_seq_k fun K1_ hK1_ => ?_
  refine W_region [some 0] rfl ?_
  refine Ops_step (R_assign rfl) rfl rfl ?_
  refine Ops_nil ?_
  refine then_n (hK1_ _ _ ?_)
  clear hK1_ K1_
  refine W_seq_k fun K2_ hK2_ => ?_
  refine W_region [some 1, some 0] rfl ?_
  refine Ops_call (C_func TWd.bd30 rfl) rfl rfl ?_
  refine (begin_any none [] (by decide) 0 _ (Rd.nil _ _)).mono ?_
  rintro _ w1_ ⟨d, rfl, hD, hF1_⟩
  replace hF := hF.fr0 hF1_
  clear hF1_
  refine ⟨_, rfl, ?_⟩
  refine Ops_step (R_assign rfl) rfl rfl ?_
  refine Ops_nil ?_
  refine then_n (hK2_ _ _ ?_)
  clear hK2_ K2_
  refine W_ret ?_
  refine ⟨_, ⟨_, _, rfl, rfl, rfl⟩, ?_⟩
  exact ⟨_, rfl, hD, hF⟩

end Go.Proofs.YtghfohhekhedaaaDoor
