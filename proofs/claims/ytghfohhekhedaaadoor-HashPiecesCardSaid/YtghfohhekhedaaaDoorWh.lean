/- What the walks of this seat show of Wh. -/
import Derived.Test.YtghfohhekhedaaaDoorWg
import Derived.Test.YtghfohhekhedaaaDoorProg
set_option linter.unusedVariables false
set_option linter.unusedSimpArgs false
namespace Go.Proofs.YtghfohhekhedaaaDoor
open Go Go.Sx

namespace TWh
theorem hm : Tryd.prog.follows .mixedOrders = true := by kernel_rfl
theorem ag36 : aggB Tryd.prog 36 = some true := by kernel_rfl
theorem ag5 : aggB Tryd.prog 5 = some false := by kernel_rfl
theorem bd18 : bodied Tryd.prog 18 = true := by kernel_rfl
theorem el22 : Elem Tryd.prog 22 5 1 1 := Elem.of (by kernel_rfl)
theorem el53 : Elem Tryd.prog 53 22 1 24 := Elem.of (by kernel_rfl)
theorem sz30 : sz Tryd.prog 30 = some 32 := by kernel_rfl
theorem sz36 : sz Tryd.prog 36 = some 8 := by kernel_rfl
theorem sz5 : sz Tryd.prog 5 = some 1 := by kernel_rfl
theorem zr22 : zr Tryd.prog 22 = some ([.slice none 0 0]) := by kernel_rfl
theorem zr30 : zr Tryd.prog 30 = some (List.replicate 32 (.int .u8 0)) := by kernel_rfl
theorem zr5 : zr Tryd.prog 5 = some ([.int .u8 0]) := by kernel_rfl
end TWh
set_option maxHeartbeats 4000000 in
theorem awake_any (w : World) (hO : Rd w (some ⟨0, 0, none⟩) ordC) :
    Calls Tryd.prog 13 #[] w fun e w2 => e = .returned (.bool true) ∧ Fr [] w w2 := by
  have hF := Fr.refl [] w
  refine calls_W 34 Tryd.func13 rfl Tryd.ntmps13 rfl [.tmp 0] rfl ?_
  refine W_seq_k fun K1_ hK1_ => ?_
  refine W_region [some 0] rfl ?_
  refine Ops_step (R_assign rfl) rfl rfl ?_
  refine Ops_nil ?_
  refine then_n (hK1_ _ _ ?_)
  clear hK1_ K1_
  refine W_seq_k fun K2_ hK2_ => ?_
  refine W_region [some 2, some 3, some 4, some 5, some 1, none] rfl ?_
  have hz2_hF := hF.size
  refine Ops_to (R_buildSlice TWh.el22 TWh.zr5 (by decide) (by decide) rfl rfl) rfl rfl ?_
  rintro _ w2_ ⟨b2, rfl, hb2, hB2, hF2_⟩
  have hl2 := hB2.lt
  replace hF := hF.fr0 hF2_
  clear hF2_
  refine Ops_to (R_convB Tryd.underlying22 Tryd.underlying5 rfl hB2) rfl rfl ?_
  clear hB2
  rintro _ w3_ ⟨rfl, hA3, hF3_⟩
  replace hF := hF.then hF3_ (by simp only [List.mem_cons, List.not_mem_nil, or_false]; intro i_ hi_ hj_; omega)
  clear hF3_
  replace hA3 : Rd _ _ (([97, 98, 99] : List UInt8).map vb) := hA3
  have hz4_hF := hF.size
  refine Ops_to (R_buildSlice TWh.el53 TWh.zr22 (by decide) (by decide) rfl rfl) rfl rfl ?_
  rintro _ w4_ ⟨b4, rfl, hb4, hB4, hF4_⟩
  have hl4 := hB4.lt
  replace hF := hF.fr0 hF4_
  replace hA3 := hA3.fr0 hF4_
  clear hF4_
  refine Ops_call (C_func TWh.bd18 rfl) rfl rfl ?_
  refine (of_any _ [[97, 98, 99]] _ _ (RdLL.lit hB4 [[97, 98, 99]] [(some ⟨b2, 0, none⟩, 3)] rfl rfl (by intro p hp; rw [List.mem_singleton.1 hp]; exact hA3)) (by intro bs hbs; rw [List.mem_singleton.1 hbs]; decide) (by decide) (hO.fr0 hF)).mono ?_
  rintro _ w5_ ⟨rfl, hF5_⟩
  replace hF := hF.fr0 hF5_
  replace hA3 := hA3.fr0 hF5_
  replace hB4 := hB4.fr0 hF5_
  clear hF5_
  refine ⟨_, rfl, ?_⟩
  have hz1_hF := hF.size
  refine Ops_to (R_alloc TWh.zr30) rfl rfl ?_
  rintro _ w1_ ⟨b1, rfl, hb1, hB1, hF1_⟩
  have hl1 := hB1.lt
  replace hF := hF.fr0 hF1_
  clear hF1_
  refine Ops_to0 (R_storeN TWh.sz30 (by simp [Bl.of, sum_len]) rfl rfl hB1 (by simp) allb) rfl ?_
  clear hB1
  rintro _ w3_ ⟨hB1, hF3_⟩
  replace hF := hF.then hF3_ (by simp only [List.mem_cons, List.not_mem_nil, or_false]; intro i_ hi_ hj_; omega)
  clear hF3_
  replace hB1 := hB1.to (cs' := abcS.map vb) (by rw [List.toList_toArray, abc_sum]; rfl)
  refine Ops_nil ?_
  refine then_n (hK2_ _ _ ?_)
  clear hK2_ K2_
  refine W_seq_k fun K4_ hK4_ => ?_
  refine W_region [some 6, some 7, some 8, some 9, some 10, some 11, some 12, some 13, some 14, some 15, some 16, some 17, some 18, some 19, some 20, some 21, some 22, some 23, some 24, some 25, some 26, some 27, some 28, some 29, some 30, some 31, some 32, some 33, some 0] rfl ?_
  refine Ops_step (R_indexArr Tryd.underlying30 TWh.sz5 rfl rfl (by omega) (by omega)) rfl rfl ?_
  refine Ops_step (R_loadB TWh.ag5 rfl hB1 rfl) rfl rfl ?_
  refine Ops_step (R_eql rfl rfl) rfl rfl ?_
  refine Ops_step (R_move rfl) rfl rfl ?_
  refine Ops_known (b := true) 9 rfl (by decide) ?_
  refine Ops_step (R_indexArr Tryd.underlying30 TWh.sz5 rfl rfl (by omega) (by omega)) rfl rfl ?_
  refine Ops_step (R_loadB TWh.ag5 rfl hB1 rfl) rfl rfl ?_
  refine Ops_step (R_eql rfl rfl) rfl rfl ?_
  refine Ops_step (R_pick_true rfl rfl) rfl rfl ?_
  refine Ops_step (R_move rfl) rfl rfl ?_
  refine Ops_known (b := true) 14 rfl (by decide) ?_
  refine Ops_step (R_indexArr Tryd.underlying30 TWh.sz5 rfl rfl (by omega) (by omega)) rfl rfl ?_
  refine Ops_step (R_loadB TWh.ag5 rfl hB1 rfl) rfl rfl ?_
  refine Ops_step (R_eql rfl rfl) rfl rfl ?_
  refine Ops_step (R_pick_true rfl rfl) rfl rfl ?_
  refine Ops_step (R_move rfl) rfl rfl ?_
  refine Ops_known (b := true) 19 rfl (by decide) ?_
  refine Ops_step (R_indexArr Tryd.underlying30 TWh.sz5 rfl rfl (by omega) (by omega)) rfl rfl ?_
  refine Ops_step (R_loadB TWh.ag5 rfl hB1 rfl) rfl rfl ?_
  refine Ops_step (R_eql rfl rfl) rfl rfl ?_
  refine Ops_step (R_pick_true rfl rfl) rfl rfl ?_
  refine Ops_step (R_move rfl) rfl rfl ?_
  refine Ops_known (b := true) 24 rfl (by decide) ?_
  refine Ops_step (R_indexArr Tryd.underlying30 TWh.sz5 rfl rfl (by omega) (by omega)) rfl rfl ?_
  refine Ops_step (R_loadB TWh.ag5 rfl hB1 rfl) rfl rfl ?_
  refine Ops_step (R_eql rfl rfl) rfl rfl ?_
  refine Ops_step (R_pick_true rfl rfl) rfl rfl ?_
  refine Ops_step (R_move rfl) rfl rfl ?_
  refine Ops_known (b := true) 29 rfl (by decide) ?_
  refine Ops_step (R_indexArr Tryd.underlying30 TWh.sz5 rfl rfl (by omega) (by omega)) rfl rfl ?_
  refine Ops_step (R_loadB TWh.ag5 rfl hB1 rfl) rfl rfl ?_
  refine Ops_step (R_eql rfl rfl) rfl rfl ?_
  refine Ops_step (R_pick_true rfl rfl) rfl rfl ?_
  refine Ops_step (R_assign rfl) rfl rfl ?_
  refine Ops_nil ?_
  refine then_n (hK4_ _ _ ?_)
  clear hK4_ K4_
  refine W_keepB [0] fun B5 hB5_ => ?_
  simp only [pickE, lookE, putE, zipE, args0, Nat.reduceAdd, Nat.zero_add, List.cons_append, List.nil_append, Nat.reduceBEq, cond_true, cond_false] at hB5_
  subst hB5_
  refine W_ret ?_
  refine ⟨_, ⟨_, _, rfl, rfl, rfl⟩, ?_⟩
  exact ⟨rfl, hF⟩

end Go.Proofs.YtghfohhekhedaaaDoor
