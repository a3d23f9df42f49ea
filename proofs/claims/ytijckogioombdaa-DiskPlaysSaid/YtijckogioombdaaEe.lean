/- What the walks of this seat show of Ee. -/
import Derived.Test.YtijckogioombdaaEd
import Derived.Test.YtijckogioombdaaProg
set_option linter.unusedVariables false
set_option linter.unusedSimpArgs false
namespace Go.Proofs.Ytijckogioombdaa
open Go Go.Sx
namespace TEe
theorem hm : Try.prog.follows .mixedOrders = true := by kernel_rfl
theorem bd15 : bodied Try.prog 15 = true := by kernel_rfl
theorem bd16 : bodied Try.prog 16 = true := by kernel_rfl
theorem bd17 : bodied Try.prog 17 = true := by kernel_rfl
theorem bd19 : bodied Try.prog 19 = true := by kernel_rfl
theorem bd21 : bodied Try.prog 21 = true := by kernel_rfl
theorem bd34 : bodied Try.prog 34 = true := by kernel_rfl
theorem el24 : Elem Try.prog 24 5 1 1 := Elem.of (by kernel_rfl)
theorem zr5 : zr Try.prog 5 = some ([.int .u8 0]) := by kernel_rfl
end TEe
set_option maxHeartbeats 4000000 in
theorem awake_any (w : World) : Calls Try.prog 11 #[] w fun e w2 => e = .returned (.bool true) ∧ Fr [] w w2 := by
  have hF := Fr.refl [] w
  refine calls_W 65 Try.func11 rfl Try.ntmps11 rfl [.tmp 0] rfl ?_
  refine W_seq_k fun K1_ hK1_ => ?_
  refine W_region [some 0] rfl ?_
  refine Ops_step (R_assign rfl) rfl rfl ?_
  refine Ops_nil ?_
  refine then_n (hK1_ _ _ ?_)
  clear hK1_ K1_
  refine W_seq_k fun K2_ hK2_ => ?_
  refine W_region [some 8, some 7, some 9, some 10, some 1, some 2] rfl ?_
  have hz8 := hF.size
  refine Ops_call (C_func TEe.bd21 rfl) rfl rfl ?_
  refine (new_any 100 (by decide) (by decide) _).mono ?_
  rintro _ w8_ ⟨d1, rfl, hge1, hD, hF8_⟩
  replace hF := hF.fr0 hF8_
  clear hF8_
  
  refine ⟨_, rfl, ?_⟩
  refine Ops_step (R_move rfl) rfl rfl ?_
  refine Ops_step (R_extract rfl rfl) rfl rfl ?_
  refine Ops_step (R_extract rfl rfl) rfl rfl ?_
  refine Ops_step (R_assign rfl) rfl rfl ?_
  refine Ops_step (R_assign rfl) rfl rfl ?_
  refine Ops_nil ?_
  refine then_n (hK2_ _ _ ?_)
  clear hK2_ K2_
  refine W_seq_k fun K3_ hK3_ => ?_
  refine W_seq_k fun K4_ hK4_ => ?_
  refine W_region [some 11, some 12, some 13, some 14, some 15, some 16, some 17, some 18, some 19, some 20, some 21, some 22, some 23, some 24, some 25, some 26, some 27, some 28, some 29, some 30, some 31] rfl ?_
  refine Ops_step (R_move rfl) rfl rfl ?_
  refine Ops_step (R_neq rfl rfl) rfl rfl ?_
  refine Ops_step (R_move rfl) rfl rfl ?_
  refine Ops_known (b := false) 13 rfl (by decide +kernel) ?_
  refine Ops_step (R_move rfl) rfl rfl ?_
  have hlt15 := hD.lt
  have hz15_hF := hF.size
  have hn15_hD := hD.lt
  refine Ops_to (R_buildSlice TEe.el24 TEe.zr5 (by decide) (by decide) rfl rfl) rfl rfl ?_
  rintro _ w15_ ⟨b15, rfl, hb15, hB15, hF15_⟩
  have hl15 := hB15.lt
  replace hF := hF.fr0 hF15_
  refine Ops_to (R_convB Try.underlying24 Try.underlying5 rfl hB15) rfl rfl ?_
  clear hB15
  rintro _ w16_ ⟨rfl, hA16, hF16_⟩
  replace hF := hF.then hF16_ (by simp only [List.mem_cons, List.not_mem_nil, or_false]; intro i_ hi_ hj_; omega)
  replace hA16 : Rd _ _ (([97, 98] : List UInt8).map vb) := hA16
  replace hD := hD.frNew hF15_ hF16_ (by omega)
  clear hF15_ hF16_
  refine Ops_call (C_func TEe.bd16 rfl) rfl rfl ?_
  refine (append_any _ _ _ 0 _ [97, 98] _ _ hD (.inr ⟨hA16, offlt (by show b15 ≠ d1; omega)⟩) (by decide) (by decide) (fun _ _ => trivial)).mono ?_
  rintro _ w17_ ⟨rfl, hD, hF17_⟩
  replace hF := hF.then hF17_ (by simp only [List.mem_singleton]; omega)
  clear hF17_
  replace hD : Dsk _ (fun _ => True) d1 exE1 := hD
  refine ⟨_, rfl, ?_⟩
  refine Ops_step (R_neq rfl rfl) rfl rfl ?_
  refine Ops_step (R_pick_false rfl rfl) rfl rfl ?_
  refine Ops_step (R_move rfl) rfl rfl ?_
  refine Ops_known (b := false) 20 rfl (by decide +kernel) ?_
  refine Ops_step (R_move rfl) rfl rfl ?_
  refine Ops_call (C_func TEe.bd15 rfl) rfl rfl ?_
  refine (arm_any _ _ _ 1 (by decide) _ hD).mono ?_
  rintro _ w22_ ⟨rfl, hD, hF22_⟩
  replace hF := hF.then hF22_ (by simp only [List.mem_singleton]; omega)
  clear hF22_
  replace hD : Dsk _ (fun _ => True) d1 exE2 := hD
  refine ⟨_, rfl, ?_⟩
  refine Ops_step (R_neq rfl rfl) rfl rfl ?_
  refine Ops_step (R_pick_false rfl rfl) rfl rfl ?_
  refine Ops_step (R_move rfl) rfl rfl ?_
  refine Ops_known (b := false) 25 rfl (by decide +kernel) ?_
  refine Ops_step (R_move rfl) rfl rfl ?_
  have hlt27 := hD.lt
  have hz27_hF := hF.size
  have hn27_hD := hD.lt
  refine Ops_to (R_buildSlice TEe.el24 TEe.zr5 (by decide) (by decide) rfl rfl) rfl rfl ?_
  rintro _ w27_ ⟨b27, rfl, hb27, hB27, hF27_⟩
  have hl27 := hB27.lt
  replace hF := hF.fr0 hF27_
  refine Ops_to (R_convB Try.underlying24 Try.underlying5 rfl hB27) rfl rfl ?_
  clear hB27
  rintro _ w28_ ⟨rfl, hA28, hF28_⟩
  replace hF := hF.then hF28_ (by simp only [List.mem_cons, List.not_mem_nil, or_false]; intro i_ hi_ hj_; omega)
  replace hA28 : Rd _ _ (([99, 100] : List UInt8).map vb) := hA28
  replace hD := hD.frNew hF27_ hF28_ (by omega)
  clear hF27_ hF28_
  refine Ops_call (C_func TEe.bd16 rfl) rfl rfl ?_
  refine (append_any _ _ _ 0 _ [99, 100] _ _ hD (.inr ⟨hA28, offlt (by show b27 ≠ d1; omega)⟩) (by decide) (by decide) (fun _ _ => trivial)).mono ?_
  rintro _ w29_ ⟨rfl, hD, hF29_⟩
  replace hF := hF.then hF29_ (by simp only [List.mem_singleton]; omega)
  clear hF29_
  replace hD : Dsk _ (fun _ => True) d1 exE3 := hD
  refine ⟨_, rfl, ?_⟩
  refine Ops_step (R_neq rfl rfl) rfl rfl ?_
  refine Ops_step (R_pick_false rfl rfl) rfl rfl ?_
  refine Ops_nil ?_
  refine then_n (hK4_ _ _ ?_)
  clear hK4_ K4_
  refine W_keepB [1, 31] fun B5 hB5_ => ?_
  simp only [pickE, lookE, putE, zipE, args0, Nat.reduceAdd, Nat.zero_add, List.cons_append, List.nil_append, Nat.reduceBEq, cond_true, cond_false] at hB5_
  subst hB5_
  refine W_no rfl (by decide +kernel) ?_
  refine W_skip ?_
  refine then_n (hK3_ _ _ ?_)
  clear hK3_ K3_
  refine W_seq_k fun K6_ hK6_ => ?_
  refine W_region [some 33, some 34, some 32, some 35, some 36, some 3, some 4] rfl ?_
  refine Ops_step (R_move rfl) rfl rfl ?_
  refine Ops_call (C_func TEe.bd17 rfl) rfl rfl ?_
  refine (read_no _ _ _ 0 (by decide +kernel) _ hD).mono ?_
  rintro _ wq34_ ⟨rfl, hq34_⟩
  replace hq34_ := hq34_.symm
  subst hq34_
  refine ⟨_, rfl, ?_⟩
  refine Ops_step (R_move rfl) rfl rfl ?_
  refine Ops_step (R_extract rfl rfl) rfl rfl ?_
  refine Ops_step (R_extract rfl rfl) rfl rfl ?_
  refine Ops_step (R_assign rfl) rfl rfl ?_
  refine Ops_step (R_assign rfl) rfl rfl ?_
  refine Ops_nil ?_
  refine then_n (hK6_ _ _ ?_)
  clear hK6_ K6_
  refine W_keepB [1, 4] fun B7 hB7_ => ?_
  simp only [pickE, lookE, putE, zipE, args0, Nat.reduceAdd, Nat.zero_add, List.cons_append, List.nil_append, Nat.reduceBEq, cond_true, cond_false] at hB7_
  subst hB7_
  refine W_seq_k fun K8_ hK8_ => ?_
  refine W_region [some 37, some 38] rfl ?_
  refine Ops_step (R_move rfl) rfl rfl ?_
  refine Ops_call (C_func TEe.bd34 rfl) rfl rfl ?_
  refine (start_any _ _ _ _ hD).mono ?_
  rintro _ w38_ ⟨rfl, hD, hF38_⟩
  replace hF := hF.then hF38_ (by simp only [List.mem_singleton]; omega)
  clear hF38_
  replace hD : Dsk _ (fun _ => True) d1 exE4 := hD
  refine ⟨_, rfl, ?_⟩
  refine Ops_nil ?_
  refine then_n (hK8_ _ _ ?_)
  clear hK8_ K8_
  refine W_seq_k fun K9_ hK9_ => ?_
  refine W_region [some 40, some 41, some 39, some 42, some 43, some 5, some 6] rfl ?_
  refine Ops_step (R_move rfl) rfl rfl ?_
  refine Ops_call (C_func TEe.bd17 rfl) rfl rfl ?_
  refine (read_ok _ _ _ 0 (by decide) (by decide +kernel) _ hD).mono ?_
  rintro _ w41_ ⟨A41, c41, rfl, hQ41, hF41_⟩
  replace hF := hF.fr0 hF41_
  replace hD := hD.fr0 hF41_
  clear hF41_
  refine ⟨_, rfl, ?_⟩
  refine Ops_step (R_move rfl) rfl rfl ?_
  refine Ops_step (R_extract rfl rfl) rfl rfl ?_
  refine Ops_step (R_extract rfl rfl) rfl rfl ?_
  refine Ops_step (R_assign rfl) rfl rfl ?_
  refine Ops_step (R_assign rfl) rfl rfl ?_
  refine Ops_nil ?_
  refine then_n (hK9_ _ _ ?_)
  clear hK9_ K9_
  refine W_keepB [1, 4, 5, 6] fun B10 hB10_ => ?_
  simp only [pickE, lookE, putE, zipE, args0, Nat.reduceAdd, Nat.zero_add, List.cons_append, List.nil_append, Nat.reduceBEq, cond_true, cond_false] at hB10_
  subst hB10_
  refine W_seq_k fun K11_ hK11_ => ?_
  refine W_region [some 44, some 45, some 46, some 47, some 48, some 49, some 50, some 51, some 52, some 53, some 54, some 55, some 56, some 57, some 58, some 59, some 60, some 61, some 62, some 63, some 64, some 0] rfl ?_
  refine Ops_step (R_move rfl) rfl rfl ?_
  refine Ops_step (R_eql rfl rfl) rfl rfl ?_
  refine Ops_step (R_move rfl) rfl rfl ?_
  refine Ops_known (b := true) 46 rfl (by decide +kernel) ?_
  refine Ops_step (R_move rfl) rfl rfl ?_
  refine Ops_step (R_bytesStr Try.underlying24 Try.underlying5 Try.underlying9 rfl rfl hQ41.rd) rfl rfl ?_
  refine Ops_step (R_strEqB (ys := [97, 98, 99]) rfl rfl) rfl rfl ?_
  refine Ops_step (R_pick_true rfl rfl) rfl rfl ?_
  refine Ops_step (R_move rfl) rfl rfl ?_
  refine Ops_known (b := true) 51 rfl (by decide +kernel) ?_
  refine Ops_step (R_move rfl) rfl rfl ?_
  refine Ops_step (R_eql rfl rfl) rfl rfl ?_
  refine Ops_step (R_pick_true rfl rfl) rfl rfl ?_
  refine Ops_step (R_move rfl) rfl rfl ?_
  refine Ops_known (b := true) 55 rfl (by decide +kernel) ?_
  refine Ops_step (R_move rfl) rfl rfl ?_
  refine Ops_call (C_func TEe.bd16 rfl) rfl rfl ?_
  refine (append_any _ _ _ 3 none [] 0 _ hD (.inl rfl) (by decide) (by decide) (fun _ _ => trivial)).mono ?_
  rintro _ w57_ ⟨rfl, hD, hF57_⟩
  replace hF := hF.then hF57_ (by simp only [List.mem_singleton]; omega)
  clear hF57_
  replace hD : Dsk _ (fun _ => True) d1 exE4 := hD
  refine ⟨_, rfl, ?_⟩
  refine Ops_step (R_eql rfl rfl) rfl rfl ?_
  refine Ops_step (R_pick_true rfl rfl) rfl rfl ?_
  refine Ops_step (R_move rfl) rfl rfl ?_
  refine Ops_known (b := true) 60 rfl (by decide +kernel) ?_
  refine Ops_step (R_move rfl) rfl rfl ?_
  refine Ops_call (C_func TEe.bd19 rfl) rfl rfl ?_
  refine (used_any _ _ _ _ hD).mono ?_
  rintro _ wq62_ ⟨rfl, hq62_⟩
  replace hq62_ := hq62_.symm
  subst hq62_
  refine ⟨_, rfl, ?_⟩
  refine Ops_step (R_eql rfl rfl) rfl rfl ?_
  refine Ops_step (R_pick_true rfl rfl) rfl rfl ?_
  refine Ops_step (R_assign rfl) rfl rfl ?_
  refine Ops_nil ?_
  refine then_n (hK11_ _ _ ?_)
  clear hK11_ K11_
  refine W_keepB [0] fun B12 hB12_ => ?_
  simp only [pickE, lookE, putE, zipE, args0, Nat.reduceAdd, Nat.zero_add, List.cons_append, List.nil_append, Nat.reduceBEq, cond_true, cond_false] at hB12_
  subst hB12_
  refine W_ret ?_
  refine ⟨_, ⟨_, _, rfl, rfl, rfl⟩, ?_⟩
  exact ⟨by rw [decide_eq_true (show ((exE4.used : Nat) : Int) = 3 by decide +kernel)]; rfl, hF⟩

end Go.Proofs.Ytijckogioombdaa
