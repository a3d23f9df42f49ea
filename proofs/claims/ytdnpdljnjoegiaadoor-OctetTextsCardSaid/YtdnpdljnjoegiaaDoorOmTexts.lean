/- What the walks of this seat show of OmTexts. -/
import Derived.Test.YtdnpdljnjoegiaaDoorOmTextsp
import Derived.Test.YtdnpdljnjoegiaaDoorOtV
import Derived.Test.YtdnpdljnjoegiaaDoorOtE
import Derived.Test.YtdnpdljnjoegiaaDoorProg
set_option linter.unusedVariables false
set_option linter.unusedSimpArgs false
namespace Go.Proofs.YtdnpdljnjoegiaaDoor
open Go Go.Sx Go.Lx
namespace TOmTexts
theorem hm : Tryd.prog.follows .mixedOrders = true := by kernel_rfl
theorem bd14 : bodied Tryd.prog 14 = true := by kernel_rfl
theorem bd15 : bodied Tryd.prog 15 = true := by kernel_rfl
theorem bd16 : bodied Tryd.prog 16 = true := by kernel_rfl
theorem bd18 : bodied Tryd.prog 18 = true := by kernel_rfl
theorem bd22 : bodied Tryd.prog 22 = true := by kernel_rfl
theorem bd23 : bodied Tryd.prog 23 = true := by kernel_rfl
theorem bd26 : bodied Tryd.prog 26 = true := by kernel_rfl
theorem bd49 : bodied Tryd.prog 49 = true := by kernel_rfl
theorem bd50 : bodied Tryd.prog 50 = true := by kernel_rfl
end TOmTexts
set_option maxHeartbeats 4000000 in
theorem sealskinlaw02_OctetTexts_ok {G : Gh} {w : World} (hS : St G w) (hg : GL G) {A0 : Option Addr} {c0 : Nat} {x0 : List UInt8} (hc0 : x0.length ≤ c0) (hs0 : Sl G A0 x0) {x1 : Int} {Q : Bool → Prop} (h : sealskinlaw02_OctetTexts x0 x1 Q) : Calls Tryd.prog 13 #[.slice A0 x0.length c0, vi x1] w fun e w2 => ∃ (r0 : Bool) (L H : Gh), e = .returned (.bool r0) ∧ Inv [] G w L H w2 ∧ Q r0 := by
  unfold sealskinlaw02_OctetTexts at h
  have hI := Inv.start (M := []) hS
  refine calls_W 60 Tryd.func13 rfl Tryd.ntmps13 rfl [.tmp 4] rfl ?_
  refine W_seq_k fun K1_ hK1_ => ?_
  refine W_region [some 4] rfl ?_
  refine Ops_step (R_assign rfl) rfl rfl ?_
  refine Ops_nil ?_
  refine then_n (hK1_ _ _ ?_)
  clear hK1_ K1_
  refine W_seq_k fun K2_ hK2_ => ?_
  refine W_seq_k fun K3_ hK3_ => ?_
  refine W_region [some 7, some 8, some 9] rfl ?_
  refine Ops_step (R_move rfl) rfl rfl ?_
  refine Ops_step (R_len Tryd.underlying22 rfl rfl) rfl rfl ?_
  refine Ops_step (R_gtr rfl rfl) rfl rfl ?_
  refine Ops_nil ?_
  refine then_n (hK3_ _ _ ?_)
  clear hK3_ K3_
  refine W_if rfl (fun hc4_ => ?_) (fun hc4_ => ?_)
  · replace h := h.1 hc4_
    refine W_seq_k fun K5_ hK5_ => ?_
    refine W_region [some 10, some 4] rfl ?_
    refine Ops_call (C_func TOmTexts.bd15 rfl) rfl rfl ?_
    refine (sealskinlaw02_awake_ok  hI.st (hg.up hI.le)  h).mono ?_
    rintro _ w6_ ⟨r6_0, L6_, H6_, rfl, hI6_, h⟩
    refine Exists.elim (hI.call hI6_ (by simp)) fun L60_ h6_ => ?_
    have hz6_ := hI.size
    replace hI := h6_.1
    have u6_ := h6_.2.1
    have hl6_ := h6_.2.2
    clear h6_
    clear hI6_ u6_ hl6_
    refine ⟨_, rfl, ?_⟩
    refine Ops_step (R_assign rfl) rfl rfl ?_
    refine Ops_nil ?_
    refine then_n (hK5_ _ _ ?_)
    clear hK5_ K5_
    refine W_keepB [4] fun B7 hB7_ => ?_
    simp only [pickE, lookE, putE, zipE, args0, Nat.reduceAdd, Nat.zero_add, List.cons_append, List.nil_append, Nat.reduceBEq, cond_true, cond_false] at hB7_
    subst hB7_
    refine W_ret ?_
    refine then_ret ?_
    clear hK2_ K2_
    refine ⟨_, ⟨_, _, rfl, rfl, rfl⟩, ?_⟩
    exact ⟨r6_0, _, _, rfl, hI, h⟩
  · replace h := h.2 hc4_
    refine W_skip ?_
    refine then_n (hK2_ _ _ ?_)
    clear hK2_ K2_
    refine W_seq_k fun K8_ hK8_ => ?_
    refine W_region [some 11, some 12, some 13, some 5] rfl ?_
    refine Ops_step (R_move rfl) rfl rfl ?_
    refine Ops_call (C_func TOmTexts.bd18 rfl) rfl rfl ?_
    refine (octet_PutBytes_ok (x0 := []) (x1 := x0) hI.st (hg.up hI.le) (Nat.le_refl 0) Sl.nil hc0 hs0 h).mono ?_
    rintro _ w9_ ⟨A9_0, c9_0, r9_0, L9_, H9_, rfl, hI9_, ho9_0, h⟩
    refine Exists.elim (hI.call hI9_ (by simp)) fun L90_ h9_ => ?_
    have hz9_ := hI.size
    replace hI := h9_.1
    have u9_ := h9_.2.1
    have hl9_ := h9_.2.2
    clear h9_
    replace hs0 := hs0.up u9_.hh
    replace ho9_0 := OwnS.backS ho9_0 hz9_ (Le.refl _)
    clear hI9_ u9_ hl9_
    refine ⟨_, rfl, ?_⟩
    refine Exists.elim (ho9_0.freeze hI) fun L10_ h10_ => Exists.elim h10_ fun H10_ h10_ => ?_
    replace hI := h10_.1
    have u10_ := h10_.2.1
    have hs10_ := h10_.2.2.1 (Le.no _)
    have hc10_ := ho9_0.cap
    replace hs0 := hs0.up u10_.hh
    clear h10_ u10_ ho9_0
    refine Ops_call (C_func TOmTexts.bd16 rfl) rfl rfl ?_
    refine (octet_Read_ok (x0 := r9_0) hI.st (hg.up hI.le) hc10_ (hs10_.up hI.sub) h).mono ?_
    rintro _ w11_ ⟨d11_0, r11_0, L11_, H11_, rfl, hI11_, hge_d11_0, hr11_0, h⟩
    have hge0_11 := hge_d11_0
    replace hge_d11_0 := Nat.le_trans hI.size hge_d11_0
    refine Exists.elim (hI.call hI11_ (by simp)) fun L110_ h11_ => ?_
    have hz11_ := hI.size
    replace hI := h11_.1
    have u11_ := h11_.2.1
    have hl11_ := h11_.2.2
    clear h11_
    replace hs0 := hs0.up u11_.hh
    replace hr11_0 := hr11_0.back hl11_ (Le.refl _)
    obtain ⟨l11_0_, hl11_0_, ht11_0⟩ := hr11_0
    obtain ⟨A11_0_1, c11_0_1, rfl, ⟨hc11_0_1, hs11_0_1⟩⟩ := hl11_0_
    clear hI11_ u11_ hl11_
    refine ⟨_, rfl, ?_⟩
    refine Ops_step (R_assign rfl) rfl rfl ?_
    refine Ops_nil ?_
    refine then_n (hK8_ _ _ ?_)
    clear hK8_ K8_
    refine W_keepB [0, 1, 5] fun B12 hB12_ => ?_
    simp only [pickE, lookE, putE, zipE, args0, Nat.reduceAdd, Nat.zero_add, List.cons_append, List.nil_append, Nat.reduceBEq, cond_true, cond_false] at hB12_
    subst hB12_
    refine W_seq_k fun K13_ hK13_ => ?_
    refine W_region [some 14, some 15, some 16, some 6] rfl ?_
    refine Ops_step (R_move rfl) rfl rfl ?_
    refine Ops_step (R_move rfl) rfl rfl ?_
    refine Ops_call (C_func TOmTexts.bd22 rfl) rfl rfl ?_
    refine (octet_Reader_Text_ok (x0 := r11_0) (x1 := x1) hI.st (hg.up hI.le) ⟨_, ⟨A11_0_1, c11_0_1, rfl, ⟨hc11_0_1, (hs11_0_1.up hI.sub)⟩⟩, ht11_0⟩ h).mono ?_
    rintro _ w14_ ⟨r14_0, y14_0, L14_, H14_, rfl, hI14_, hq14_0, h⟩
    refine Exists.elim (hI.call hI14_ (new1 hge_d11_0)) fun L140_ h14_ => ?_
    have hz14_ := hI.size
    replace hI := h14_.1
    have u14_ := h14_.2.1
    have hl14_ := h14_.2.2
    clear h14_
    replace hs0 := hs0.up u14_.hh
    replace hs11_0_1 := hs11_0_1.up u14_.ll
    clear ht11_0
    obtain ⟨l14_0_, hl14_0_, ht14_0⟩ := hq14_0
    obtain ⟨A14_0_1, c14_0_1, rfl, ⟨hc14_0_1, hs14_0_1⟩⟩ := hl14_0_
    clear hI14_ u14_ hl14_
    refine ⟨_, rfl, ?_⟩
    refine Ops_step (R_assign rfl) rfl rfl ?_
    refine Ops_nil ?_
    refine then_n (hK13_ _ _ ?_)
    clear hK13_ K13_
    refine W_seq_k fun K15_ hK15_ => ?_
    refine W_seq_k fun K16_ hK16_ => ?_
    refine W_region [some 17, some 18, some 19] rfl ?_
    refine Ops_step (R_move rfl) rfl rfl ?_
    refine Ops_call (C_func TOmTexts.bd26 rfl) rfl rfl ?_
    refine (octet_Reader_Err_ok (x0 := y14_0) hI.st (hg.up hI.le) ⟨_, ⟨A14_0_1, c14_0_1, rfl, ⟨hc14_0_1, hs14_0_1⟩⟩, ht14_0⟩ h).mono ?_
    rintro _ w17_ ⟨r17_0, L17_, H17_, rfl, hI17_, h⟩
    refine Exists.elim (hI.call hI17_ (by simp)) fun L170_ h17_ => ?_
    have hz17_ := hI.size
    replace hI := h17_.1
    have u17_ := h17_.2.1
    have hl17_ := h17_.2.2
    clear h17_
    replace hs0 := hs0.up u17_.hh
    clear hI17_ u17_ hl17_
    refine ⟨_, rfl, ?_⟩
    refine Ops_step (R_eql rfl rfl) rfl rfl ?_
    refine Ops_nil ?_
    refine then_n (hK16_ _ _ ?_)
    clear hK16_ K16_
    refine W_keepB [0, 1, 6, 19] fun B18 hB18_ => ?_
    simp only [pickE, lookE, putE, zipE, args0, Nat.reduceAdd, Nat.zero_add, List.cons_append, List.nil_append, Nat.reduceBEq, cond_true, cond_false] at hB18_
    subst hB18_
    refine W_if rfl (fun hc19_ => ?_) (fun hc19_ => ?_)
    · replace h := h.1 hc19_
      refine W_seq_k fun K20_ hK20_ => ?_
      refine W_region [some 20, some 21, some 22, some 23, some 24, some 25, some 26, some 27, some 28, some 29, some 30, some 31, some 32, some 33, some 34, some 35, some 36, some 37, some 4] rfl ?_
      refine Ops_step (R_move rfl) rfl rfl ?_
      refine Ops_step (R_move rfl) rfl rfl ?_
      refine Ops_step (X_bytesStr (bs := x0) Tryd.underlying22 Tryd.underlying5 Tryd.underlying9 rfl rfl (hs0.fz.rd hI.st)) rfl rfl ?_
      refine Ops_step (R_strEqB rfl rfl) rfl rfl ?_
      refine Ops_step (R_move rfl) rfl rfl ?_
      refine Ops_split 24 rfl (fun hg21_ => ?_) (fun hg21_ => ?_)
      · replace h := h.1 hg21_
        refine Ops_step (R_move rfl) rfl rfl ?_
        refine Ops_call (C_func TOmTexts.bd14 rfl) rfl rfl ?_
        refine (utf8_ValidString_ok (x0 := r14_0) hI.st (hg.up hI.le)  h).mono ?_
        rintro _ w22_ ⟨r22_0, L22_, H22_, rfl, hI22_, h⟩
        refine Exists.elim (hI.call hI22_ (by simp)) fun L220_ h22_ => ?_
        have hz22_ := hI.size
        replace hI := h22_.1
        have u22_ := h22_.2.1
        have hl22_ := h22_.2.2
        clear h22_
        clear hI22_ u22_ hl22_
        refine ⟨_, rfl, ?_⟩
        refine Ops_step (R_pick_true rfl rfl) rfl rfl ?_
        refine Ops_step (R_move rfl) rfl rfl ?_
        refine Ops_splitB 28 rfl (fun hg23_ => ?_) (fun hg23_ => ?_)
        · replace h := h.1 hg23_
          refine Ops_step (R_move rfl) rfl rfl ?_
          refine Ops_call (C_func TOmTexts.bd23 rfl) rfl rfl ?_
          refine (utf8_RuneCountInString_ok (x0 := r14_0) hI.st (hg.up hI.le)  h).mono ?_
          rintro _ w24_ ⟨r24_0, L24_, H24_, rfl, hI24_, h⟩
          refine Exists.elim (hI.call hI24_ (by simp)) fun L240_ h24_ => ?_
          have hz24_ := hI.size
          replace hI := h24_.1
          have u24_ := h24_.2.1
          have hl24_ := h24_.2.2
          clear h24_
          clear hI24_ u24_ hl24_
          refine ⟨_, rfl, ?_⟩
          refine Ops_step (R_move rfl) rfl rfl ?_
          refine Ops_step (R_max rfl rfl _root_.rfl) rfl rfl ?_
          refine Ops_step (R_leq rfl rfl) rfl rfl ?_
          refine Ops_step (R_pick_true rfl rfl) rfl rfl ?_
          refine Ops_step (R_move rfl) rfl rfl ?_
          refine Ops_split 35 rfl (fun hg25_ => ?_) (fun hg25_ => ?_)
          · replace h := h.1 hg25_
            refine Ops_call (C_func TOmTexts.bd15 rfl) rfl rfl ?_
            refine (sealskinlaw02_awake_ok  hI.st (hg.up hI.le)  h).mono ?_
            rintro _ w26_ ⟨r26_0, L26_, H26_, rfl, hI26_, h⟩
            refine Exists.elim (hI.call hI26_ (by simp)) fun L260_ h26_ => ?_
            have hz26_ := hI.size
            replace hI := h26_.1
            have u26_ := h26_.2.1
            have hl26_ := h26_.2.2
            clear h26_
            clear hI26_ u26_ hl26_
            refine ⟨_, rfl, ?_⟩
            refine Ops_step (R_pick_true rfl rfl) rfl rfl ?_
            refine Ops_step (R_assign rfl) rfl rfl ?_
            refine Ops_nil ?_
            refine then_n (hK20_ _ _ ?_)
            clear hK20_ K20_
            refine W_keepB [4] fun B27 hB27_ => ?_
            simp only [pickE, lookE, putE, zipE, args0, Nat.reduceAdd, Nat.zero_add, List.cons_append, List.nil_append, Nat.reduceBEq, cond_true, cond_false] at hB27_
            subst hB27_
            refine W_ret ?_
            refine then_ret ?_
            clear hK15_ K15_
            refine ⟨_, ⟨_, _, rfl, rfl, rfl⟩, ?_⟩
            exact ⟨r26_0, _, _, rfl, hI, h⟩
          · replace h := h.2 hg25_
            refine Ops_pass rfl rfl ?_
            refine Ops_step (R_pick_false rfl rfl) rfl rfl ?_
            refine Ops_step (R_assign rfl) rfl rfl ?_
            refine Ops_nil ?_
            refine then_n (hK20_ _ _ ?_)
            clear hK20_ K20_
            refine W_keepB [4] fun B28 hB28_ => ?_
            simp only [pickE, lookE, putE, zipE, args0, Nat.reduceAdd, Nat.zero_add, List.cons_append, List.nil_append, Nat.reduceBEq, cond_true, cond_false] at hB28_
            subst hB28_
            refine W_ret ?_
            refine then_ret ?_
            clear hK15_ K15_
            refine ⟨_, ⟨_, _, rfl, rfl, rfl⟩, ?_⟩
            exact ⟨false, _, _, rfl, hI, h⟩
        · replace h := h.2 hg23_
          refine Ops_pass rfl rfl ?_
          refine Ops_pass rfl rfl ?_
          refine Ops_pass rfl rfl ?_
          refine Ops_pass rfl rfl ?_
          refine Ops_pass rfl rfl ?_
          refine Ops_step (R_pick_false rfl rfl) rfl rfl ?_
          refine Ops_step (R_move rfl) rfl rfl ?_
          refine Ops_pass rfl rfl ?_
          refine Ops_step (R_pick_false rfl rfl) rfl rfl ?_
          refine Ops_step (R_assign rfl) rfl rfl ?_
          refine Ops_nil ?_
          refine then_n (hK20_ _ _ ?_)
          clear hK20_ K20_
          refine W_keepB [4] fun B29 hB29_ => ?_
          simp only [pickE, lookE, putE, zipE, args0, Nat.reduceAdd, Nat.zero_add, List.cons_append, List.nil_append, Nat.reduceBEq, cond_true, cond_false] at hB29_
          subst hB29_
          refine W_ret ?_
          refine then_ret ?_
          clear hK15_ K15_
          refine ⟨_, ⟨_, _, rfl, rfl, rfl⟩, ?_⟩
          exact ⟨false, _, _, rfl, hI, h⟩
      · replace h := h.2 hg21_
        refine Ops_pass rfl rfl ?_
        refine Ops_pass rfl rfl ?_
        refine Ops_step (R_pick_false rfl rfl) rfl rfl ?_
        refine Ops_step (R_move rfl) rfl rfl ?_
        refine Ops_pass rfl rfl ?_
        refine Ops_pass rfl rfl ?_
        refine Ops_pass rfl rfl ?_
        refine Ops_pass rfl rfl ?_
        refine Ops_pass rfl rfl ?_
        refine Ops_step (R_pick_false rfl rfl) rfl rfl ?_
        refine Ops_step (R_move rfl) rfl rfl ?_
        refine Ops_pass rfl rfl ?_
        refine Ops_step (R_pick_false rfl rfl) rfl rfl ?_
        refine Ops_step (R_assign rfl) rfl rfl ?_
        refine Ops_nil ?_
        refine then_n (hK20_ _ _ ?_)
        clear hK20_ K20_
        refine W_keepB [4] fun B30 hB30_ => ?_
        simp only [pickE, lookE, putE, zipE, args0, Nat.reduceAdd, Nat.zero_add, List.cons_append, List.nil_append, Nat.reduceBEq, cond_true, cond_false] at hB30_
        subst hB30_
        refine W_ret ?_
        refine then_ret ?_
        clear hK15_ K15_
        refine ⟨_, ⟨_, _, rfl, rfl, rfl⟩, ?_⟩
        exact ⟨false, _, _, rfl, hI, h⟩
    · replace h := h.2 hc19_
      refine W_skip ?_
      refine then_n (hK15_ _ _ ?_)
      clear hK15_ K15_
      refine W_seq_k fun K31_ hK31_ => ?_
      refine W_region [some 38, some 39, some 40, some 41, some 42, some 43, some 44, some 45, some 46, some 47, some 48, some 49, some 50, some 51, some 52, some 53, some 54, some 55, some 56, some 57, some 58, some 59, some 4] rfl ?_
      refine Ops_step (R_move rfl) rfl rfl ?_
      refine Ops_step (R_strEqB rfl rfl) rfl rfl ?_
      refine Ops_step (R_move rfl) rfl rfl ?_
      refine Ops_split 40 rfl (fun hg32_ => ?_) (fun hg32_ => ?_)
      · replace h := h.1 hg32_
        refine Ops_step (R_move rfl) rfl rfl ?_
        refine Ops_call (C_func TOmTexts.bd49 rfl) rfl rfl ?_
        refine (utf8_Valid_ok (x0 := x0) hI.st (hg.up hI.le) hc0 hs0 h).mono ?_
        rintro _ w33_ ⟨r33_0, L33_, H33_, rfl, hI33_, h⟩
        refine Exists.elim (hI.call hI33_ (by simp)) fun L330_ h33_ => ?_
        have hz33_ := hI.size
        replace hI := h33_.1
        have u33_ := h33_.2.1
        have hl33_ := h33_.2.2
        clear h33_
        replace hs0 := hs0.up u33_.hh
        clear hI33_ u33_ hl33_
        refine ⟨_, rfl, ?_⟩
        refine Ops_step (R_not rfl) rfl rfl ?_
        refine Ops_step (R_move rfl) rfl rfl ?_
        refine Ops_splitB 44 rfl (fun hg34_ => ?_) (fun hg34_ => ?_)
        · replace h := h.1 hg34_
          refine Ops_pass rfl rfl ?_
          refine Ops_pass rfl rfl ?_
          refine Ops_pass rfl rfl ?_
          refine Ops_pass rfl rfl ?_
          refine Ops_pass rfl rfl ?_
          refine Ops_step (R_pick_true rfl rfl) rfl rfl ?_
          refine Ops_step (R_move rfl) rfl rfl ?_
          refine Ops_pass rfl rfl ?_
          refine Ops_pass rfl rfl ?_
          refine Ops_pass rfl rfl ?_
          refine Ops_step (R_pick_true rfl rfl) rfl rfl ?_
          refine Ops_step (R_pick_true rfl rfl) rfl rfl ?_
          refine Ops_step (R_move rfl) rfl rfl ?_
          refine Ops_call (C_func TOmTexts.bd15 rfl) rfl rfl ?_
          refine (sealskinlaw02_awake_ok  hI.st (hg.up hI.le)  h).mono ?_
          rintro _ w35_ ⟨r35_0, L35_, H35_, rfl, hI35_, h⟩
          refine Exists.elim (hI.call hI35_ (by simp)) fun L350_ h35_ => ?_
          have hz35_ := hI.size
          replace hI := h35_.1
          have u35_ := h35_.2.1
          have hl35_ := h35_.2.2
          clear h35_
          clear hI35_ u35_ hl35_
          refine ⟨_, rfl, ?_⟩
          refine Ops_step (R_pick_true rfl rfl) rfl rfl ?_
          refine Ops_step (R_assign rfl) rfl rfl ?_
          refine Ops_nil ?_
          refine then_n (hK31_ _ _ ?_)
          clear hK31_ K31_
          refine W_keepB [4] fun B36 hB36_ => ?_
          simp only [pickE, lookE, putE, zipE, args0, Nat.reduceAdd, Nat.zero_add, List.cons_append, List.nil_append, Nat.reduceBEq, cond_true, cond_false] at hB36_
          subst hB36_
          refine W_ret ?_
          refine ⟨_, ⟨_, _, rfl, rfl, rfl⟩, ?_⟩
          exact ⟨r35_0, _, _, rfl, hI, h⟩
        · replace h := h.2 hg34_
          refine Ops_step (R_move rfl) rfl rfl ?_
          refine Ops_call (C_func TOmTexts.bd50 rfl) rfl rfl ?_
          refine (utf8_RuneCount_ok (x0 := x0) hI.st (hg.up hI.le) hc0 hs0 h).mono ?_
          rintro _ w37_ ⟨r37_0, L37_, H37_, rfl, hI37_, h⟩
          refine Exists.elim (hI.call hI37_ (by simp)) fun L370_ h37_ => ?_
          have hz37_ := hI.size
          replace hI := h37_.1
          have u37_ := h37_.2.1
          have hl37_ := h37_.2.2
          clear h37_
          replace hs0 := hs0.up u37_.hh
          clear hI37_ u37_ hl37_
          refine ⟨_, rfl, ?_⟩
          refine Ops_step (R_move rfl) rfl rfl ?_
          refine Ops_step (R_max rfl rfl _root_.rfl) rfl rfl ?_
          refine Ops_step (R_gtr rfl rfl) rfl rfl ?_
          refine Ops_step (R_pick_false rfl rfl) rfl rfl ?_
          refine Ops_step (R_move rfl) rfl rfl ?_
          refine Ops_split 51 rfl (fun hg38_ => ?_) (fun hg38_ => ?_)
          · replace h := h.1 hg38_
            refine Ops_pass rfl rfl ?_
            refine Ops_pass rfl rfl ?_
            refine Ops_pass rfl rfl ?_
            refine Ops_step (R_pick_true rfl rfl) rfl rfl ?_
            refine Ops_step (R_pick_true rfl rfl) rfl rfl ?_
            refine Ops_step (R_move rfl) rfl rfl ?_
            refine Ops_call (C_func TOmTexts.bd15 rfl) rfl rfl ?_
            refine (sealskinlaw02_awake_ok  hI.st (hg.up hI.le)  h).mono ?_
            rintro _ w39_ ⟨r39_0, L39_, H39_, rfl, hI39_, h⟩
            refine Exists.elim (hI.call hI39_ (by simp)) fun L390_ h39_ => ?_
            have hz39_ := hI.size
            replace hI := h39_.1
            have u39_ := h39_.2.1
            have hl39_ := h39_.2.2
            clear h39_
            clear hI39_ u39_ hl39_
            refine ⟨_, rfl, ?_⟩
            refine Ops_step (R_pick_true rfl rfl) rfl rfl ?_
            refine Ops_step (R_assign rfl) rfl rfl ?_
            refine Ops_nil ?_
            refine then_n (hK31_ _ _ ?_)
            clear hK31_ K31_
            refine W_keepB [4] fun B40 hB40_ => ?_
            simp only [pickE, lookE, putE, zipE, args0, Nat.reduceAdd, Nat.zero_add, List.cons_append, List.nil_append, Nat.reduceBEq, cond_true, cond_false] at hB40_
            subst hB40_
            refine W_ret ?_
            refine ⟨_, ⟨_, _, rfl, rfl, rfl⟩, ?_⟩
            exact ⟨r39_0, _, _, rfl, hI, h⟩
          · replace h := h.2 hg38_
            refine Ops_step (R_move rfl) rfl rfl ?_
            refine Ops_step (R_len Tryd.underlying22 rfl rfl) rfl rfl ?_
            refine Ops_step (R_gtr rfl rfl) rfl rfl ?_
            refine Ops_step (R_pick_false rfl rfl) rfl rfl ?_
            refine Ops_step (R_pick_true rfl rfl) rfl rfl ?_
            refine Ops_step (R_move rfl) rfl rfl ?_
            refine Ops_split 57 rfl (fun hg41_ => ?_) (fun hg41_ => ?_)
            · replace h := h.1 hg41_
              refine Ops_call (C_func TOmTexts.bd15 rfl) rfl rfl ?_
              refine (sealskinlaw02_awake_ok  hI.st (hg.up hI.le)  h).mono ?_
              rintro _ w42_ ⟨r42_0, L42_, H42_, rfl, hI42_, h⟩
              refine Exists.elim (hI.call hI42_ (by simp)) fun L420_ h42_ => ?_
              have hz42_ := hI.size
              replace hI := h42_.1
              have u42_ := h42_.2.1
              have hl42_ := h42_.2.2
              clear h42_
              clear hI42_ u42_ hl42_
              refine ⟨_, rfl, ?_⟩
              refine Ops_step (R_pick_true rfl rfl) rfl rfl ?_
              refine Ops_step (R_assign rfl) rfl rfl ?_
              refine Ops_nil ?_
              refine then_n (hK31_ _ _ ?_)
              clear hK31_ K31_
              refine W_keepB [4] fun B43 hB43_ => ?_
              simp only [pickE, lookE, putE, zipE, args0, Nat.reduceAdd, Nat.zero_add, List.cons_append, List.nil_append, Nat.reduceBEq, cond_true, cond_false] at hB43_
              subst hB43_
              refine W_ret ?_
              refine ⟨_, ⟨_, _, rfl, rfl, rfl⟩, ?_⟩
              exact ⟨r42_0, _, _, rfl, hI, h⟩
            · replace h := h.2 hg41_
              refine Ops_pass rfl rfl ?_
              refine Ops_step (R_pick_false rfl rfl) rfl rfl ?_
              refine Ops_step (R_assign rfl) rfl rfl ?_
              refine Ops_nil ?_
              refine then_n (hK31_ _ _ ?_)
              clear hK31_ K31_
              refine W_keepB [4] fun B44 hB44_ => ?_
              simp only [pickE, lookE, putE, zipE, args0, Nat.reduceAdd, Nat.zero_add, List.cons_append, List.nil_append, Nat.reduceBEq, cond_true, cond_false] at hB44_
              subst hB44_
              refine W_ret ?_
              refine ⟨_, ⟨_, _, rfl, rfl, rfl⟩, ?_⟩
              exact ⟨false, _, _, rfl, hI, h⟩
      · replace h := h.2 hg32_
        refine Ops_pass rfl rfl ?_
        refine Ops_pass rfl rfl ?_
        refine Ops_pass rfl rfl ?_
        refine Ops_pass rfl rfl ?_
        refine Ops_passU rfl rfl ?_
        refine Ops_passU rfl rfl ?_
        refine Ops_passU rfl rfl ?_
        refine Ops_passU rfl rfl ?_
        refine Ops_passU rfl rfl ?_
        refine Ops_pass rfl rfl ?_
        refine Ops_pass rfl rfl ?_
        refine Ops_passU rfl rfl ?_
        refine Ops_passU rfl rfl ?_
        refine Ops_passU rfl rfl ?_
        refine Ops_pass rfl rfl ?_
        refine Ops_step (R_pick_false rfl rfl) rfl rfl ?_
        refine Ops_step (R_move rfl) rfl rfl ?_
        refine Ops_pass rfl rfl ?_
        refine Ops_step (R_pick_false rfl rfl) rfl rfl ?_
        refine Ops_step (R_assign rfl) rfl rfl ?_
        refine Ops_nil ?_
        refine then_n (hK31_ _ _ ?_)
        clear hK31_ K31_
        refine W_keepB [4] fun B45 hB45_ => ?_
        simp only [pickE, lookE, putE, zipE, args0, Nat.reduceAdd, Nat.zero_add, List.cons_append, List.nil_append, Nat.reduceBEq, cond_true, cond_false] at hB45_
        subst hB45_
        refine W_ret ?_
        refine ⟨_, ⟨_, _, rfl, rfl, rfl⟩, ?_⟩
        exact ⟨false, _, _, rfl, hI, h⟩

end Go.Proofs.YtdnpdljnjoegiaaDoor
