/- What the walks of this seat show of OmOrder. -/
import Derived.Test.YtdnpdljnjoegiaaDoorOmOrderp
import Derived.Test.YtdnpdljnjoegiaaDoorOtE
import Derived.Test.YtdnpdljnjoegiaaDoorOe
import Derived.Test.YtdnpdljnjoegiaaDoorProg
set_option linter.unusedVariables false
set_option linter.unusedSimpArgs false
namespace Go.Proofs.YtdnpdljnjoegiaaDoor
open Go Go.Sx Go.Lx
namespace TOmOrder
theorem hm : Tryd.prog.follows .mixedOrders = true := by kernel_rfl
theorem bd15 : bodied Tryd.prog 15 = true := by kernel_rfl
theorem bd19 : bodied Tryd.prog 19 = true := by kernel_rfl
theorem bd30 : bodied Tryd.prog 30 = true := by kernel_rfl
theorem el48 : Elem Tryd.prog 48 3 1 8 := Elem.of (by kernel_rfl)
theorem zr3 : zr Tryd.prog 3 = some ([.int .i64 0]) := by kernel_rfl
end TOmOrder
set_option maxHeartbeats 4000000 in
theorem sealskinlaw02_OctetOrder_ok {G : Gh} {w : World} (hS : St G w) (hg : GL G) {x0 : Int} {x1 : Int} {Q : Bool → Prop} (h : sealskinlaw02_OctetOrder x0 x1 Q) : Calls Tryd.prog 7 #[vi x0, vi x1] w fun e w2 => ∃ (r0 : Bool) (L H : Gh), e = .returned (.bool r0) ∧ Inv [] G w L H w2 ∧ Q r0 := by
  unfold sealskinlaw02_OctetOrder at h
  have hI := Inv.start (M := []) hS
  refine calls_W 34 Tryd.func7 rfl Tryd.ntmps7 rfl [.tmp 4] rfl ?_
  refine W_seq_k fun K1_ hK1_ => ?_
  refine W_region [some 4] rfl ?_
  refine Ops_step (R_assign rfl) rfl rfl ?_
  refine Ops_nil ?_
  refine then_n (hK1_ _ _ ?_)
  clear hK1_ K1_
  refine W_seq_k fun K2_ hK2_ => ?_
  refine W_region [some 6, some 7, some 8, some 9, some 0, some 1] rfl ?_
  refine Ops_step (R_move rfl) rfl rfl ?_
  refine Ops_step (R_max rfl rfl _root_.rfl) rfl rfl ?_
  refine Ops_step (R_move rfl) rfl rfl ?_
  refine Ops_step (R_max rfl rfl _root_.rfl) rfl rfl ?_
  refine Ops_step (R_assign rfl) rfl rfl ?_
  refine Ops_step (R_assign rfl) rfl rfl ?_
  refine Ops_nil ?_
  refine then_n (hK2_ _ _ ?_)
  clear hK2_ K2_
  refine W_seq_k fun K3_ hK3_ => ?_
  refine W_region [some 10, some 11, some 12, some 13, some 14, some 15, some 16, some 5] rfl ?_
  refine Ops_step (R_move rfl) rfl rfl ?_
  refine Ops_to (R_buildSlice TOmOrder.el48 TOmOrder.zr3 (by decide) (by decide) rfl rfl) rfl rfl ?_
  rintro _ w4_ ⟨b4_, rfl, hb4_, hB4_, hF4_⟩
  have ho4_ : OwnS w.heap.size 3 Gh.no G _ (some ⟨b4_, 0, none⟩) 1 ([(max x0 0)] : List Int) := OwnS.ofBlk hI.st hb4_ hB4_ (all2_sc' _) rfl (by have := hI.size; omega) (by show 1 ≤ maxLen; decide)
  replace hI := hI.fr0 hF4_
  clear hF4_ hB4_
  refine Exists.elim (ho4_.lend hI.st (Le.no _)) fun Hb5_0_ hb5_0_ => ?_
  refine Ops_call (C_func TOmOrder.bd19 rfl) rfl rfl ?_
  refine (octet_Put_ok (x0 := []) (x1 := ([(max x0 0)] : List Int)) hb5_0_.1 (hg.up (hI.le.trans hb5_0_.2.1)) (Nat.le_refl 0) Sl.nil (Nat.le_refl _) hb5_0_.2.2 h).mono ?_
  rintro _ w5_ ⟨A5_0, c5_0, r5_0, L5_, H5_, rfl, hI5_, ho5_0, h⟩
  refine Exists.elim (hI.callB hb5_0_.2.1 hI5_ (by simp)) fun L50_ h5_ => Exists.elim h5_ fun H50_ h5_ => ?_
  have hz5_ := hI.size
  replace hI := h5_.1
  have u5_ := h5_.2.1
  have hl5_ := h5_.2.2.1
  have hh5_ := h5_.2.2.2
  clear h5_
  replace ho5_0 := OwnS.backS ho5_0 hz5_ hh5_
  clear hI5_ u5_ hl5_
  refine ⟨_, rfl, ?_⟩
  refine Exists.elim (ho5_0.freeze hI) fun L6_ h6_ => Exists.elim h6_ fun H6_ h6_ => ?_
  replace hI := h6_.1
  have u6_ := h6_.2.1
  have hs6_ := h6_.2.2.1 (Le.no _)
  have hc6_ := ho5_0.cap
  clear h6_ u6_ ho5_0
  refine Ops_step (R_move rfl) rfl rfl ?_
  refine Ops_to (R_buildSlice TOmOrder.el48 TOmOrder.zr3 (by decide) (by decide) rfl rfl) rfl rfl ?_
  rintro _ w7_ ⟨b7_, rfl, hb7_, hB7_, hF7_⟩
  have ho7_ : OwnS w.heap.size 3 Gh.no H6_ _ (some ⟨b7_, 0, none⟩) 1 ([(max x1 0)] : List Int) := OwnS.ofBlk hI.st hb7_ hB7_ (all2_sc' _) rfl (by have := hI.size; omega) (by show 1 ≤ maxLen; decide)
  replace hI := hI.fr0 hF7_
  clear hF7_ hB7_
  refine Exists.elim (ho7_.lend hI.st (Le.no _)) fun Hb8_0_ hb8_0_ => ?_
  refine Ops_call (C_func TOmOrder.bd19 rfl) rfl rfl ?_
  refine (octet_Put_ok (x0 := []) (x1 := ([(max x1 0)] : List Int)) hb8_0_.1 (hg.up (hI.le.trans hb8_0_.2.1)) (Nat.le_refl 0) Sl.nil (Nat.le_refl _) hb8_0_.2.2 h).mono ?_
  rintro _ w8_ ⟨A8_0, c8_0, r8_0, L8_, H8_, rfl, hI8_, ho8_0, h⟩
  refine Exists.elim (hI.callB hb8_0_.2.1 hI8_ (by simp)) fun L80_ h8_ => Exists.elim h8_ fun H80_ h8_ => ?_
  have hz8_ := hI.size
  replace hI := h8_.1
  have u8_ := h8_.2.1
  have hl8_ := h8_.2.2.1
  have hh8_ := h8_.2.2.2
  clear h8_
  replace hs6_ := hs6_.up u8_.ll
  replace ho8_0 := OwnS.backS ho8_0 hz8_ hh8_
  clear hI8_ u8_ hl8_
  refine ⟨_, rfl, ?_⟩
  refine Exists.elim (ho8_0.freeze hI) fun L9_ h9_ => Exists.elim h9_ fun H9_ h9_ => ?_
  replace hI := h9_.1
  have u9_ := h9_.2.1
  have hs9_ := h9_.2.2.1 (Le.no _)
  have hc9_ := ho8_0.cap
  replace hs6_ := hs6_.up u9_.ll
  clear h9_ u9_ ho8_0
  refine Ops_call (C_func TOmOrder.bd30 rfl) rfl rfl ?_
  refine (bytes_Compare_ok (x0 := r5_0) (x1 := r8_0) hI.st (hg.up hI.le) hc6_ (hs6_.up hI.sub) hc9_ (hs9_.up hI.sub) h).mono ?_
  rintro _ w10_ ⟨r10_0, L10_, H10_, rfl, hI10_, h⟩
  refine Exists.elim (hI.call hI10_ (by simp)) fun L100_ h10_ => ?_
  have hz10_ := hI.size
  replace hI := h10_.1
  have u10_ := h10_.2.1
  have hl10_ := h10_.2.2
  clear h10_
  clear hI10_ u10_ hl10_
  refine ⟨_, rfl, ?_⟩
  refine Ops_step (R_assign rfl) rfl rfl ?_
  refine Ops_nil ?_
  refine then_n (hK3_ _ _ ?_)
  clear hK3_ K3_
  refine W_keepB [0, 1, 5] fun B11 hB11_ => ?_
  simp only [pickE, lookE, putE, zipE, args0, Nat.reduceAdd, Nat.zero_add, List.cons_append, List.nil_append, Nat.reduceBEq, cond_true, cond_false] at hB11_
  subst hB11_
  refine W_seq_k fun K12_ hK12_ => ?_
  refine W_region [some 17, some 18, some 19, some 20, some 21, some 22, some 23, some 24, some 25, some 26, some 27, some 28, some 29, some 30, some 31, some 32, some 33, some 4] rfl ?_
  refine Ops_step (R_move rfl) rfl rfl ?_
  refine Ops_step (R_lss rfl rfl) rfl rfl ?_
  refine Ops_step (R_move rfl) rfl rfl ?_
  refine Ops_step (R_move rfl) rfl rfl ?_
  refine Ops_step (R_lss rfl rfl) rfl rfl ?_
  refine Ops_step (R_boolEq Tryd.underlying4 rfl rfl) rfl rfl ?_
  refine Ops_step (R_move rfl) rfl rfl ?_
  refine Ops_splitB 23 rfl (fun hg13_ => ?_) (fun hg13_ => ?_)
  · replace h := h.1 hg13_
    refine Ops_step (R_move rfl) rfl rfl ?_
    refine Ops_step (R_eql rfl rfl) rfl rfl ?_
    refine Ops_step (R_move rfl) rfl rfl ?_
    refine Ops_step (R_move rfl) rfl rfl ?_
    refine Ops_step (R_eql rfl rfl) rfl rfl ?_
    refine Ops_step (R_boolEq Tryd.underlying4 rfl rfl) rfl rfl ?_
    refine Ops_step (R_pick_true rfl rfl) rfl rfl ?_
    refine Ops_step (R_move rfl) rfl rfl ?_
    refine Ops_splitB 31 rfl (fun hg14_ => ?_) (fun hg14_ => ?_)
    · replace h := h.1 hg14_
      refine Ops_call (C_func TOmOrder.bd15 rfl) rfl rfl ?_
      refine (sealskinlaw02_awake_ok  hI.st (hg.up hI.le)  h).mono ?_
      rintro _ w15_ ⟨r15_0, L15_, H15_, rfl, hI15_, h⟩
      refine Exists.elim (hI.call hI15_ (by simp)) fun L150_ h15_ => ?_
      have hz15_ := hI.size
      replace hI := h15_.1
      have u15_ := h15_.2.1
      have hl15_ := h15_.2.2
      clear h15_
      clear hI15_ u15_ hl15_
      refine ⟨_, rfl, ?_⟩
      refine Ops_step (R_pick_true rfl rfl) rfl rfl ?_
      refine Ops_step (R_assign rfl) rfl rfl ?_
      refine Ops_nil ?_
      refine then_n (hK12_ _ _ ?_)
      clear hK12_ K12_
      refine W_keepB [4] fun B16 hB16_ => ?_
      simp only [pickE, lookE, putE, zipE, args0, Nat.reduceAdd, Nat.zero_add, List.cons_append, List.nil_append, Nat.reduceBEq, cond_true, cond_false] at hB16_
      subst hB16_
      refine W_ret ?_
      refine ⟨_, ⟨_, _, rfl, rfl, rfl⟩, ?_⟩
      exact ⟨r15_0, _, _, rfl, hI, h⟩
    · replace h := h.2 hg14_
      refine Ops_pass rfl rfl ?_
      refine Ops_step (R_pick_false rfl rfl) rfl rfl ?_
      refine Ops_step (R_assign rfl) rfl rfl ?_
      refine Ops_nil ?_
      refine then_n (hK12_ _ _ ?_)
      clear hK12_ K12_
      refine W_keepB [4] fun B17 hB17_ => ?_
      simp only [pickE, lookE, putE, zipE, args0, Nat.reduceAdd, Nat.zero_add, List.cons_append, List.nil_append, Nat.reduceBEq, cond_true, cond_false] at hB17_
      subst hB17_
      refine W_ret ?_
      refine ⟨_, ⟨_, _, rfl, rfl, rfl⟩, ?_⟩
      exact ⟨false, _, _, rfl, hI, h⟩
  · replace h := h.2 hg13_
    refine Ops_pass rfl rfl ?_
    refine Ops_pass rfl rfl ?_
    refine Ops_pass rfl rfl ?_
    refine Ops_pass rfl rfl ?_
    refine Ops_pass rfl rfl ?_
    refine Ops_pass rfl rfl ?_
    refine Ops_step (R_pick_false rfl rfl) rfl rfl ?_
    refine Ops_step (R_move rfl) rfl rfl ?_
    refine Ops_pass rfl rfl ?_
    refine Ops_step (R_pick_false rfl rfl) rfl rfl ?_
    refine Ops_step (R_assign rfl) rfl rfl ?_
    refine Ops_nil ?_
    refine then_n (hK12_ _ _ ?_)
    clear hK12_ K12_
    refine W_keepB [4] fun B18 hB18_ => ?_
    simp only [pickE, lookE, putE, zipE, args0, Nat.reduceAdd, Nat.zero_add, List.cons_append, List.nil_append, Nat.reduceBEq, cond_true, cond_false] at hB18_
    subst hB18_
    refine W_ret ?_
    refine ⟨_, ⟨_, _, rfl, rfl, rfl⟩, ?_⟩
    exact ⟨false, _, _, rfl, hI, h⟩

end Go.Proofs.YtdnpdljnjoegiaaDoor
