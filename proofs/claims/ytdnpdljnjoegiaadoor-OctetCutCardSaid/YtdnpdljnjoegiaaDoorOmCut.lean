/- What the walks of this seat show of OmCut. -/
import Derived.Test.YtdnpdljnjoegiaaDoorOmCutp
import Derived.Test.YtdnpdljnjoegiaaDoorOtE
import Derived.Test.YtdnpdljnjoegiaaDoorProg
set_option linter.unusedVariables false
set_option linter.unusedSimpArgs false
namespace Go.Proofs.YtdnpdljnjoegiaaDoor
open Go Go.Sx Go.Lx
namespace TOmCut
theorem hm : Tryd.prog.follows .mixedOrders = true := by kernel_rfl
theorem bd15 : bodied Tryd.prog 15 = true := by kernel_rfl
theorem bd27 : bodied Tryd.prog 27 = true := by kernel_rfl
theorem bd28 : bodied Tryd.prog 28 = true := by kernel_rfl
theorem sz5 : sz Tryd.prog 5 = some 1 := by kernel_rfl
end TOmCut
set_option maxHeartbeats 4000000 in
theorem sealskinlaw02_OctetCut_ok {G : Gh} {w : World} (hS : St G w) (hg : GL G) {A0 : Option Addr} {c0 : Nat} {x0 : List UInt8} (hc0 : x0.length ≤ c0) (hs0 : Sl G A0 x0) {x1 : Int} {Q : Bool → Prop} (h : sealskinlaw02_OctetCut x0 x1 Q) : Calls Tryd.prog 5 #[.slice A0 x0.length c0, vi x1] w fun e w2 => ∃ (r0 : Bool) (L H : Gh), e = .returned (.bool r0) ∧ Inv [] G w L H w2 ∧ Q r0 := by
  unfold sealskinlaw02_OctetCut at h
  have hI := Inv.start (M := []) hS
  refine calls_W 49 Tryd.func5 rfl Tryd.ntmps5 rfl [.tmp 4] rfl ?_
  refine W_seq_k fun K1_ hK1_ => ?_
  refine W_region [some 4] rfl ?_
  refine Ops_step (R_assign rfl) rfl rfl ?_
  refine Ops_nil ?_
  refine then_n (hK1_ _ _ ?_)
  clear hK1_ K1_
  refine W_seq_k fun K2_ hK2_ => ?_
  refine W_region [some 11, some 12, some 10, some 13, some 14, some 5, some 6] rfl ?_
  refine Ops_step (R_move rfl) rfl rfl ?_
  refine Ops_call (C_func TOmCut.bd27 rfl) rfl rfl ?_
  refine (octet_Seal_ok (x0 := x0) hI.st (hg.up hI.le) hc0 hs0 h).mono ?_
  rintro _ w3_ ⟨A3_0, c3_0, r3_0, r3_1, L3_, H3_, rfl, hI3_, ho3_0, h⟩
  refine Exists.elim (hI.call hI3_ (by simp)) fun L30_ h3_ => ?_
  have hz3_ := hI.size
  replace hI := h3_.1
  have u3_ := h3_.2.1
  have hl3_ := h3_.2.2
  clear h3_
  replace ho3_0 := OwnS.backS ho3_0 hz3_ (Le.refl _)
  clear hI3_ u3_ hl3_
  refine ⟨_, rfl, ?_⟩
  refine Exists.elim (ho3_0.freeze hI) fun L4_ h4_ => Exists.elim h4_ fun H4_ h4_ => ?_
  replace hI := h4_.1
  have u4_ := h4_.2.1
  have hs4_ := h4_.2.2.1 (Le.no _)
  have hc4_ := ho3_0.cap
  clear h4_ u4_ ho3_0
  refine Ops_step (R_move rfl) rfl rfl ?_
  refine Ops_step (R_extract (v := .slice A3_0 r3_0.length c3_0) rfl rfl) rfl rfl ?_
  refine Ops_step (R_extract (v := vi r3_1) rfl rfl) rfl rfl ?_
  refine Ops_step (R_assign rfl) rfl rfl ?_
  refine Ops_step (R_assign rfl) rfl rfl ?_
  refine Ops_nil ?_
  refine then_n (hK2_ _ _ ?_)
  clear hK2_ K2_
  refine W_keepB [1, 5, 6] fun B5 hB5_ => ?_
  simp only [pickE, lookE, putE, zipE, args0, Nat.reduceAdd, Nat.zero_add, List.cons_append, List.nil_append, Nat.reduceBEq, cond_true, cond_false] at hB5_
  subst hB5_
  refine W_seq_k fun K6_ hK6_ => ?_
  refine W_seq_k fun K7_ hK7_ => ?_
  refine W_region [some 15, some 16] rfl ?_
  refine Ops_step (R_move rfl) rfl rfl ?_
  refine Ops_step (R_neq rfl rfl) rfl rfl ?_
  refine Ops_nil ?_
  refine then_n (hK7_ _ _ ?_)
  clear hK7_ K7_
  refine W_if rfl (fun hc8_ => ?_) (fun hc8_ => ?_)
  · replace h := h.1 hc8_
    refine W_seq_k fun K9_ hK9_ => ?_
    refine W_region [some 17, some 4] rfl ?_
    refine Ops_call (C_func TOmCut.bd15 rfl) rfl rfl ?_
    refine (sealskinlaw02_awake_ok  hI.st (hg.up hI.le)  h).mono ?_
    rintro _ w10_ ⟨r10_0, L10_, H10_, rfl, hI10_, h⟩
    refine Exists.elim (hI.call hI10_ (by simp)) fun L100_ h10_ => ?_
    have hz10_ := hI.size
    replace hI := h10_.1
    have u10_ := h10_.2.1
    have hl10_ := h10_.2.2
    clear h10_
    clear hI10_ u10_ hl10_
    refine ⟨_, rfl, ?_⟩
    refine Ops_step (R_assign rfl) rfl rfl ?_
    refine Ops_nil ?_
    refine then_n (hK9_ _ _ ?_)
    clear hK9_ K9_
    refine W_keepB [4] fun B11 hB11_ => ?_
    simp only [pickE, lookE, putE, zipE, args0, Nat.reduceAdd, Nat.zero_add, List.cons_append, List.nil_append, Nat.reduceBEq, cond_true, cond_false] at hB11_
    subst hB11_
    refine W_ret ?_
    refine then_ret ?_
    clear hK6_ K6_
    refine ⟨_, ⟨_, _, rfl, rfl, rfl⟩, ?_⟩
    exact ⟨r10_0, _, _, rfl, hI, h⟩
  · replace h := h.2 hc8_
    refine W_skip ?_
    refine then_n (hK6_ _ _ ?_)
    clear hK6_ K6_
    refine W_seq_k fun K12_ hK12_ => ?_
    refine W_seq_k fun K13_ hK13_ => ?_
    refine W_region [some 18, some 19, some 20] rfl ?_
    refine Ops_step (R_move rfl) rfl rfl ?_
    refine Ops_step (R_len Tryd.underlying22 rfl rfl) rfl rfl ?_
    refine Ops_step (R_lss rfl rfl) rfl rfl ?_
    refine Ops_nil ?_
    refine then_n (hK13_ _ _ ?_)
    clear hK13_ K13_
    refine W_if rfl (fun hc14_ => ?_) (fun hc14_ => ?_)
    · replace h := h.1 hc14_
      refine W_seq_k fun K15_ hK15_ => ?_
      refine W_region [some 4] rfl ?_
      refine Ops_step (R_assign rfl) rfl rfl ?_
      refine Ops_nil ?_
      refine then_n (hK15_ _ _ ?_)
      clear hK15_ K15_
      refine W_keepB [4] fun B16 hB16_ => ?_
      simp only [pickE, lookE, putE, zipE, args0, Nat.reduceAdd, Nat.zero_add, List.cons_append, List.nil_append, Nat.reduceBEq, cond_true, cond_false] at hB16_
      subst hB16_
      refine W_ret ?_
      refine then_ret ?_
      clear hK12_ K12_
      refine ⟨_, ⟨_, _, rfl, rfl, rfl⟩, ?_⟩
      exact ⟨false, _, _, rfl, hI, h⟩
    · replace h := h.2 hc14_
      refine W_skip ?_
      refine then_n (hK12_ _ _ ?_)
      clear hK12_ K12_
      refine W_keepB [1, 5] fun B17 hB17_ => ?_
      simp only [pickE, lookE, putE, zipE, args0, Nat.reduceAdd, Nat.zero_add, List.cons_append, List.nil_append, Nat.reduceBEq, cond_true, cond_false] at hB17_
      subst hB17_
      refine W_seq_k fun K18_ hK18_ => ?_
      refine W_region [some 22, some 23, some 24, some 25, some 26, some 27, some 28, some 29, some 30, some 31, some 21, some 32, some 33, some 34, some 7, some 8, some 9] rfl ?_
      refine Ops_step (R_move rfl) rfl rfl ?_
      refine Ops_step (R_move rfl) rfl rfl ?_
      refine Ops_step (R_conv Tryd.underlying3 Tryd.underlying40 rfl (cI_64 _)) rfl rfl ?_
      refine Ops_step (R_move rfl) rfl rfl ?_
      refine Ops_step (R_len Tryd.underlying22 rfl rfl) rfl rfl ?_
      refine Ops_step (R_conv Tryd.underlying3 Tryd.underlying40 rfl (cI_64 _)) rfl rfl ?_
      have hk19_ := h.1
      replace h := h.2
      refine Ops_step (R_rem rfl rfl hk19_ (rem64 (BitVec.ofInt 64 x1) (BitVec.ofInt 64 (r3_0.length : Int)))) rfl rfl ?_
      have hk20_ := h.1
      replace h := h.2
      refine Ops_step (R_conv Tryd.underlying40 Tryd.underlying3 rfl (c64_I _ hk20_)) rfl rfl ?_
      have hk22_ := h.1
      replace h := h.2
      have hk23_ := h.1
      replace h := h.2
      refine Exists.elim (cut_ex (n := 1) (hs4_.up hI.sub) rfl (by decide) hc4_ (Int.le_refl 0) hk22_ hk23_) fun A21_ h21_ => Exists.elim h21_ fun c21_ h21_ => ?_
      have hr21_ := h21_.1
      have hc21_ := h21_.2.1
      have hs21_ := h21_.2.2
      clear h21_
      refine Ops_step (X_slice (xs := r3_0) Tryd.underlying22 TOmCut.sz5 rfl hr21_ hc4_ rfl rfl (Int.le_refl 0) hk22_ hk23_) rfl rfl ?_
      clear hr21_
      refine Ops_call (C_func TOmCut.bd28 rfl) rfl rfl ?_
      refine (octet_Open_ok (x0 := (cut r3_0 0 (((BitVec.ofInt 64 x1) % (BitVec.ofInt 64 (r3_0.length : Int))).toNat : Int))) hI.st (hg.up hI.le) hc21_ hs21_ h).mono ?_
      rintro _ w24_ ⟨A24_0, c24_0, r24_0, r24_1, r24_2, L24_, H24_, rfl, hI24_, ho24_0, h⟩
      refine Exists.elim (hI.call hI24_ (by simp)) fun L240_ h24_ => ?_
      have hz24_ := hI.size
      replace hI := h24_.1
      have u24_ := h24_.2.1
      have hl24_ := h24_.2.2
      clear h24_
      replace ho24_0 := OwnS.backS ho24_0 hz24_ (Le.refl _)
      clear hI24_ u24_ hl24_
      refine ⟨_, rfl, ?_⟩
      refine Exists.elim (ho24_0.freeze hI) fun L25_ h25_ => Exists.elim h25_ fun H25_ h25_ => ?_
      replace hI := h25_.1
      have u25_ := h25_.2.1
      have hs25_ := h25_.2.2.1 (Le.no _)
      have hc25_ := ho24_0.cap
      clear h25_ u25_ ho24_0
      refine Ops_step (R_move rfl) rfl rfl ?_
      refine Ops_step (R_extract (v := .slice A24_0 r24_0.length c24_0) rfl rfl) rfl rfl ?_
      refine Ops_step (R_extract (v := vi r24_1) rfl rfl) rfl rfl ?_
      refine Ops_step (R_extract (v := vi r24_2) rfl rfl) rfl rfl ?_
      refine Ops_step (R_assign rfl) rfl rfl ?_
      refine Ops_step (R_assign rfl) rfl rfl ?_
      refine Ops_step (R_assign rfl) rfl rfl ?_
      refine Ops_nil ?_
      refine then_n (hK18_ _ _ ?_)
      clear hK18_ K18_
      refine W_keepB [7, 8, 9] fun B26 hB26_ => ?_
      simp only [pickE, lookE, putE, zipE, args0, Nat.reduceAdd, Nat.zero_add, List.cons_append, List.nil_append, Nat.reduceBEq, cond_true, cond_false] at hB26_
      subst hB26_
      refine W_seq_k fun K27_ hK27_ => ?_
      refine W_region [some 35, some 36, some 37, some 38, some 39, some 40, some 41, some 42, some 43, some 44, some 45, some 46, some 47, some 48, some 4] rfl ?_
      refine Ops_step (R_move rfl) rfl rfl ?_
      refine Ops_step (R_eql rfl rfl) rfl rfl ?_
      refine Ops_step (R_move rfl) rfl rfl ?_
      refine Ops_split 37 rfl (fun hg28_ => ?_) (fun hg28_ => ?_)
      · replace h := h.1 hg28_
        refine Ops_step (R_move rfl) rfl rfl ?_
        refine Ops_step (R_eql rfl rfl) rfl rfl ?_
        refine Ops_step (R_pick_true rfl rfl) rfl rfl ?_
        refine Ops_step (R_move rfl) rfl rfl ?_
        refine Ops_split 41 rfl (fun hg29_ => ?_) (fun hg29_ => ?_)
        · replace h := h.1 hg29_
          refine Ops_step (R_move rfl) rfl rfl ?_
          refine Ops_step (R_len Tryd.underlying22 rfl rfl) rfl rfl ?_
          refine Ops_step (R_eql rfl rfl) rfl rfl ?_
          refine Ops_step (R_pick_true rfl rfl) rfl rfl ?_
          refine Ops_step (R_move rfl) rfl rfl ?_
          refine Ops_split 46 rfl (fun hg30_ => ?_) (fun hg30_ => ?_)
          · replace h := h.1 hg30_
            refine Ops_call (C_func TOmCut.bd15 rfl) rfl rfl ?_
            refine (sealskinlaw02_awake_ok  hI.st (hg.up hI.le)  h).mono ?_
            rintro _ w31_ ⟨r31_0, L31_, H31_, rfl, hI31_, h⟩
            refine Exists.elim (hI.call hI31_ (by simp)) fun L310_ h31_ => ?_
            have hz31_ := hI.size
            replace hI := h31_.1
            have u31_ := h31_.2.1
            have hl31_ := h31_.2.2
            clear h31_
            clear hI31_ u31_ hl31_
            refine ⟨_, rfl, ?_⟩
            refine Ops_step (R_pick_true rfl rfl) rfl rfl ?_
            refine Ops_step (R_assign rfl) rfl rfl ?_
            refine Ops_nil ?_
            refine then_n (hK27_ _ _ ?_)
            clear hK27_ K27_
            refine W_keepB [4] fun B32 hB32_ => ?_
            simp only [pickE, lookE, putE, zipE, args0, Nat.reduceAdd, Nat.zero_add, List.cons_append, List.nil_append, Nat.reduceBEq, cond_true, cond_false] at hB32_
            subst hB32_
            refine W_ret ?_
            refine ⟨_, ⟨_, _, rfl, rfl, rfl⟩, ?_⟩
            exact ⟨r31_0, _, _, rfl, hI, h⟩
          · replace h := h.2 hg30_
            refine Ops_pass rfl rfl ?_
            refine Ops_step (R_pick_false rfl rfl) rfl rfl ?_
            refine Ops_step (R_assign rfl) rfl rfl ?_
            refine Ops_nil ?_
            refine then_n (hK27_ _ _ ?_)
            clear hK27_ K27_
            refine W_keepB [4] fun B33 hB33_ => ?_
            simp only [pickE, lookE, putE, zipE, args0, Nat.reduceAdd, Nat.zero_add, List.cons_append, List.nil_append, Nat.reduceBEq, cond_true, cond_false] at hB33_
            subst hB33_
            refine W_ret ?_
            refine ⟨_, ⟨_, _, rfl, rfl, rfl⟩, ?_⟩
            exact ⟨false, _, _, rfl, hI, h⟩
        · replace h := h.2 hg29_
          refine Ops_pass rfl rfl ?_
          refine Ops_pass rfl rfl ?_
          refine Ops_pass rfl rfl ?_
          refine Ops_step (R_pick_false rfl rfl) rfl rfl ?_
          refine Ops_step (R_move rfl) rfl rfl ?_
          refine Ops_pass rfl rfl ?_
          refine Ops_step (R_pick_false rfl rfl) rfl rfl ?_
          refine Ops_step (R_assign rfl) rfl rfl ?_
          refine Ops_nil ?_
          refine then_n (hK27_ _ _ ?_)
          clear hK27_ K27_
          refine W_keepB [4] fun B34 hB34_ => ?_
          simp only [pickE, lookE, putE, zipE, args0, Nat.reduceAdd, Nat.zero_add, List.cons_append, List.nil_append, Nat.reduceBEq, cond_true, cond_false] at hB34_
          subst hB34_
          refine W_ret ?_
          refine ⟨_, ⟨_, _, rfl, rfl, rfl⟩, ?_⟩
          exact ⟨false, _, _, rfl, hI, h⟩
      · replace h := h.2 hg28_
        refine Ops_pass rfl rfl ?_
        refine Ops_pass rfl rfl ?_
        refine Ops_step (R_pick_false rfl rfl) rfl rfl ?_
        refine Ops_step (R_move rfl) rfl rfl ?_
        refine Ops_pass rfl rfl ?_
        refine Ops_pass rfl rfl ?_
        refine Ops_pass rfl rfl ?_
        refine Ops_step (R_pick_false rfl rfl) rfl rfl ?_
        refine Ops_step (R_move rfl) rfl rfl ?_
        refine Ops_pass rfl rfl ?_
        refine Ops_step (R_pick_false rfl rfl) rfl rfl ?_
        refine Ops_step (R_assign rfl) rfl rfl ?_
        refine Ops_nil ?_
        refine then_n (hK27_ _ _ ?_)
        clear hK27_ K27_
        refine W_keepB [4] fun B35 hB35_ => ?_
        simp only [pickE, lookE, putE, zipE, args0, Nat.reduceAdd, Nat.zero_add, List.cons_append, List.nil_append, Nat.reduceBEq, cond_true, cond_false] at hB35_
        subst hB35_
        refine W_ret ?_
        refine ⟨_, ⟨_, _, rfl, rfl, rfl⟩, ?_⟩
        exact ⟨false, _, _, rfl, hI, h⟩

end Go.Proofs.YtdnpdljnjoegiaaDoor
