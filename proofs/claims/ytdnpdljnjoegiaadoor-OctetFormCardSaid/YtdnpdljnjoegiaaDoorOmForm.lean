/- What the walks of this seat show of OmForm. -/
import Derived.Test.YtdnpdljnjoegiaaDoorOmFormp
import Derived.Test.YtdnpdljnjoegiaaDoorOtE
import Derived.Test.YtdnpdljnjoegiaaDoorProg
set_option linter.unusedVariables false
set_option linter.unusedSimpArgs false
namespace Go.Proofs.YtdnpdljnjoegiaaDoor
open Go Go.Sx Go.Lx
namespace TOmForm
theorem hm : Tryd.prog.follows .mixedOrders = true := by kernel_rfl
theorem bd15 : bodied Tryd.prog 15 = true := by kernel_rfl
theorem bd16 : bodied Tryd.prog 16 = true := by kernel_rfl
theorem bd18 : bodied Tryd.prog 18 = true := by kernel_rfl
theorem bd19 : bodied Tryd.prog 19 = true := by kernel_rfl
theorem bd20 : bodied Tryd.prog 20 = true := by kernel_rfl
theorem bd21 : bodied Tryd.prog 21 = true := by kernel_rfl
theorem bd24 : bodied Tryd.prog 24 = true := by kernel_rfl
theorem bd25 : bodied Tryd.prog 25 = true := by kernel_rfl
theorem bd26 : bodied Tryd.prog 26 = true := by kernel_rfl
theorem bd27 : bodied Tryd.prog 27 = true := by kernel_rfl
theorem bd28 : bodied Tryd.prog 28 = true := by kernel_rfl
theorem bd29 : bodied Tryd.prog 29 = true := by kernel_rfl
theorem el48 : Elem Tryd.prog 48 3 1 8 := Elem.of (by kernel_rfl)
theorem sz5 : sz Tryd.prog 5 = some 1 := by kernel_rfl
theorem zr3 : zr Tryd.prog 3 = some ([.int .i64 0]) := by kernel_rfl
end TOmForm
set_option maxHeartbeats 4000000 in
theorem sealskinlaw02_OctetForm_ok {G : Gh} {w : World} (hS : St G w) (hg : GL G) {A0 : Option Addr} {c0 : Nat} {x0 : List UInt8} (hc0 : x0.length ≤ c0) (hs0 : Sl G A0 x0) {Q : Bool → Prop} (h : sealskinlaw02_OctetForm x0 Q) : Calls Tryd.prog 6 #[.slice A0 x0.length c0] w fun e w2 => ∃ (r0 : Bool) (L H : Gh), e = .returned (.bool r0) ∧ Inv [] G w L H w2 ∧ Q r0 := by
  unfold sealskinlaw02_OctetForm at h
  have hI := Inv.start (M := []) hS
  refine calls_W 89 Tryd.func6 rfl Tryd.ntmps6 rfl [.tmp 2] rfl ?_
  refine W_seq_k fun K1_ hK1_ => ?_
  refine W_region [some 2] rfl ?_
  refine Ops_step (R_assign rfl) rfl rfl ?_
  refine Ops_nil ?_
  refine then_n (hK1_ _ _ ?_)
  clear hK1_ K1_
  refine W_seq_k fun K2_ hK2_ => ?_
  refine W_seq_k fun K3_ hK3_ => ?_
  refine W_region [some 11, some 12, some 13] rfl ?_
  refine Ops_step (R_move rfl) rfl rfl ?_
  refine Ops_step (R_len Tryd.underlying22 rfl rfl) rfl rfl ?_
  refine Ops_step (R_gtr rfl rfl) rfl rfl ?_
  refine Ops_nil ?_
  refine then_n (hK3_ _ _ ?_)
  clear hK3_ K3_
  refine W_if rfl (fun hc4_ => ?_) (fun hc4_ => ?_)
  · replace h := h.1 hc4_
    refine W_seq_k fun K5_ hK5_ => ?_
    refine W_region [some 14, some 2] rfl ?_
    refine Ops_call (C_func TOmForm.bd15 rfl) rfl rfl ?_
    refine (sealskinlaw02_awake_ok  hI.st (hg.up hI.le)  h).mono ?_
    rintro _ w6_ ⟨r6_0, L6_, H6_, rfl, hI6_, h⟩
    refine Exists.elim (hI.call hI6_ (by simp)) fun L60_ h6_ => ?_
    have hz6_ := hI.size
    replace hI := h6_.1
    have u6_ := h6_.2.1
    have hl6_ := h6_.2.2
    clear h6_
    clear hI6_ u6_ hl6_
    refine ⟨_, rfl, ?_⟩
    refine Ops_step (R_assign rfl) rfl rfl ?_
    refine Ops_nil ?_
    refine then_n (hK5_ _ _ ?_)
    clear hK5_ K5_
    refine W_ret ?_
    refine then_ret ?_
    clear hK2_ K2_
    refine ⟨_, ⟨_, _, rfl, rfl, rfl⟩, ?_⟩
    exact ⟨r6_0, _, _, rfl, hI, h⟩
  · replace h := h.2 hc4_
    refine W_skip ?_
    refine then_n (hK2_ _ _ ?_)
    clear hK2_ K2_
    refine W_seq_k fun K7_ hK7_ => ?_
    refine W_region [some 15, some 16, some 3] rfl ?_
    refine Ops_step (R_move rfl) rfl rfl ?_
    refine Ops_call (C_func TOmForm.bd16 rfl) rfl rfl ?_
    refine (octet_Read_ok (x0 := x0) hI.st (hg.up hI.le) hc0 hs0 h).mono ?_
    rintro _ w8_ ⟨d8_0, r8_0, L8_, H8_, rfl, hI8_, hge_d8_0, hr8_0, h⟩
    have hge0_8 := hge_d8_0
    replace hge_d8_0 := Nat.le_trans hI.size hge_d8_0
    refine Exists.elim (hI.call hI8_ (by simp)) fun L80_ h8_ => ?_
    have hz8_ := hI.size
    replace hI := h8_.1
    have u8_ := h8_.2.1
    have hl8_ := h8_.2.2
    clear h8_
    replace hs0 := hs0.up u8_.hh
    replace hr8_0 := hr8_0.back hl8_ (Le.refl _)
    obtain ⟨l8_0_, hl8_0_, ht8_0⟩ := hr8_0
    obtain ⟨A8_0_1, c8_0_1, rfl, ⟨hc8_0_1, hs8_0_1⟩⟩ := hl8_0_
    clear hI8_ u8_ hl8_
    refine ⟨_, rfl, ?_⟩
    refine Ops_step (R_assign rfl) rfl rfl ?_
    refine Ops_nil ?_
    refine then_n (hK7_ _ _ ?_)
    clear hK7_ K7_
    refine W_keepB [0, 3] fun B9 hB9_ => ?_
    simp only [pickE, lookE, putE, zipE, args0, Nat.reduceAdd, Nat.zero_add, List.cons_append, List.nil_append, Nat.reduceBEq, cond_true, cond_false] at hB9_
    subst hB9_
    refine W_seq_k fun K10_ hK10_ => ?_
    refine W_region [some 17, some 18, some 4] rfl ?_
    refine Ops_step (R_move rfl) rfl rfl ?_
    refine Ops_call (C_func TOmForm.bd20 rfl) rfl rfl ?_
    refine (octet_Reader_Number_ok (x0 := r8_0) hI.st (hg.up hI.le) ⟨_, ⟨A8_0_1, c8_0_1, rfl, ⟨hc8_0_1, (hs8_0_1.up hI.sub)⟩⟩, ht8_0⟩ h).mono ?_
    rintro _ w11_ ⟨r11_0, y11_0, L11_, H11_, rfl, hI11_, hq11_0, h⟩
    refine Exists.elim (hI.call hI11_ (new1 hge_d8_0)) fun L110_ h11_ => ?_
    have hz11_ := hI.size
    replace hI := h11_.1
    have u11_ := h11_.2.1
    have hl11_ := h11_.2.2
    clear h11_
    replace hs0 := hs0.up u11_.hh
    replace hs8_0_1 := hs8_0_1.up u11_.ll
    clear ht8_0
    obtain ⟨l11_0_, hl11_0_, ht11_0⟩ := hq11_0
    obtain ⟨A11_0_1, c11_0_1, rfl, ⟨hc11_0_1, hs11_0_1⟩⟩ := hl11_0_
    clear hI11_ u11_ hl11_
    refine ⟨_, rfl, ?_⟩
    refine Ops_step (R_assign rfl) rfl rfl ?_
    refine Ops_nil ?_
    refine then_n (hK10_ _ _ ?_)
    clear hK10_ K10_
    refine W_seq_k fun K12_ hK12_ => ?_
    refine Exists.elim h fun J13_ h => ?_
    have hr13_ := h.1
    replace h := h.2
    refine W_seq_join [0] [41] (fun vs w2 => ∃ (x41_13 : Bool) (L H : Gh), vs = [.bool x41_13] ∧ J13_ x41_13 ∧ Inv [] G w L H w2 ∧ Le L110_ L ∧ Le H11_ H ∧ True) (fun B13 hB13_ => ?_) (fun B13 hB13_ => ?_)
    · simp only [pickE, lookE, putE, zipE, args0, Nat.reduceAdd, Nat.zero_add, List.cons_append, List.nil_append, Nat.reduceBEq, cond_true, cond_false] at hB13_
      subst hB13_
      clear hr13_
      have hll13_ := Le.refl L110_
      have hhh13_ := Le.refl H11_
      refine W_region [some 19, some 20, some 21, some 22, some 23, some 24, some 25, some 26, some 27, some 28, some 29, some 30, some 31, some 32, some 33, some 34, some 35, some 36, some 37, some 38, some 39, some 40, some 41] rfl ?_
      refine Ops_step (R_move rfl) rfl rfl ?_
      refine Ops_call (C_func TOmForm.bd26 rfl) rfl rfl ?_
      refine (octet_Reader_Err_ok (x0 := y11_0) hI.st (hg.up hI.le) ⟨_, ⟨A11_0_1, c11_0_1, rfl, ⟨hc11_0_1, hs11_0_1⟩⟩, ht11_0⟩ h).mono ?_
      rintro _ w14_ ⟨r14_0, L14_, H14_, rfl, hI14_, h⟩
      refine Exists.elim (hI.call hI14_ (by simp)) fun L140_ h14_ => ?_
      have hz14_ := hI.size
      replace hI := h14_.1
      have u14_ := h14_.2.1
      have hl14_ := h14_.2.2
      clear h14_
      replace hs0 := hs0.up u14_.hh
      replace hs11_0_1 := hs11_0_1.up u14_.hh
      replace ht11_0 := ht11_0.up u14_ (by simp)
      replace hll13_ := hll13_.trans u14_.ll
      replace hhh13_ := hhh13_.trans u14_.hh
      clear hI14_ u14_ hl14_
      refine ⟨_, rfl, ?_⟩
      refine Ops_step (R_eql rfl rfl) rfl rfl ?_
      refine Ops_step (R_move rfl) rfl rfl ?_
      refine Ops_split 22 rfl (fun hg15_ => ?_) (fun hg15_ => ?_)
      · replace h := h.1 hg15_
        refine Ops_step (R_move rfl) rfl rfl ?_
        refine Ops_step (R_move rfl) rfl rfl ?_
        refine Ops_to (R_buildSlice TOmForm.el48 TOmForm.zr3 (by decide) (by decide) rfl rfl) rfl rfl ?_
        rintro _ w16_ ⟨b16_, rfl, hb16_, hB16_, hF16_⟩
        have ho16_ : OwnS w.heap.size 3 Gh.no H14_ _ (some ⟨b16_, 0, none⟩) 1 ([r11_0] : List Int) := OwnS.ofBlk hI.st hb16_ hB16_ (all2_sc' _) rfl (by have := hI.size; omega) (by show 1 ≤ maxLen; decide)
        replace hI := hI.fr0 hF16_
        replace ht11_0 := ht11_0.fr0 hF16_
        clear hF16_ hB16_
        refine Exists.elim (ho16_.lend hI.st (Le.no _)) fun Hb17_0_ hb17_0_ => ?_
        refine Ops_call (C_func TOmForm.bd19 rfl) rfl rfl ?_
        refine (octet_Put_ok (x0 := []) (x1 := ([r11_0] : List Int)) hb17_0_.1 (hg.up (hI.le.trans hb17_0_.2.1)) (Nat.le_refl 0) Sl.nil (Nat.le_refl _) hb17_0_.2.2 h).mono ?_
        rintro _ w17_ ⟨A17_0, c17_0, r17_0, L17_, H17_, rfl, hI17_, ho17_0, h⟩
        refine Exists.elim (hI.callB hb17_0_.2.1 hI17_ (by simp)) fun L170_ h17_ => Exists.elim h17_ fun H170_ h17_ => ?_
        have hz17_ := hI.size
        replace hI := h17_.1
        have u17_ := h17_.2.1
        have hl17_ := h17_.2.2.1
        have hh17_ := h17_.2.2.2
        clear h17_
        replace hs0 := hs0.up u17_.hh
        replace hs11_0_1 := hs11_0_1.up u17_.hh
        replace ht11_0 := ht11_0.up u17_ (by simp)
        replace hll13_ := hll13_.trans u17_.ll
        replace hhh13_ := hhh13_.trans u17_.hh
        replace ho17_0 := OwnS.backS ho17_0 hz17_ hh17_
        clear hI17_ u17_ hl17_
        refine ⟨_, rfl, ?_⟩
        refine Exists.elim (ho17_0.freeze hI) fun L18_ h18_ => Exists.elim h18_ fun H18_ h18_ => ?_
        replace hI := h18_.1
        have u18_ := h18_.2.1
        have hs18_ := h18_.2.2.1 (Le.no _)
        have hc18_ := ho17_0.cap
        replace hs0 := hs0.up u18_.hh
        replace hs11_0_1 := hs11_0_1.up u18_.hh
        replace ht11_0 := ht11_0.up u18_ (ht11_0.sep ho17_0 (by decide))
        replace hll13_ := hll13_.trans u18_.ll
        replace hhh13_ := hhh13_.trans u18_.hh
        clear h18_ u18_ ho17_0
        refine Ops_call (C_func TOmForm.bd29 rfl) rfl rfl ?_
        refine (bytes_HasPrefix_ok (x0 := x0) (x1 := r17_0) hI.st (hg.up hI.le) hc0 hs0 hc18_ (hs18_.up hI.sub) h).mono ?_
        rintro _ w19_ ⟨r19_0, L19_, H19_, rfl, hI19_, h⟩
        refine Exists.elim (hI.call hI19_ (by simp)) fun L190_ h19_ => ?_
        have hz19_ := hI.size
        replace hI := h19_.1
        have u19_ := h19_.2.1
        have hl19_ := h19_.2.2
        clear h19_
        replace hs0 := hs0.up u19_.hh
        replace hs11_0_1 := hs11_0_1.up u19_.hh
        replace ht11_0 := ht11_0.up u19_ (by simp)
        replace hll13_ := hll13_.trans u19_.ll
        replace hhh13_ := hhh13_.trans u19_.hh
        clear hI19_ u19_ hl19_
        refine ⟨_, rfl, ?_⟩
        refine Ops_step (R_not rfl) rfl rfl ?_
        refine Ops_step (R_pick_true rfl rfl) rfl rfl ?_
        refine Ops_step (R_move rfl) rfl rfl ?_
        refine Ops_splitB 30 rfl (fun hg20_ => ?_) (fun hg20_ => ?_)
        · replace h := h.1 hg20_
          refine Ops_pass rfl rfl ?_
          refine Ops_pass rfl rfl ?_
          refine Ops_pass rfl rfl ?_
          refine Ops_pass rfl rfl ?_
          refine Ops_passU rfl rfl ?_
          refine Ops_passU rfl rfl ?_
          refine Ops_passU rfl rfl ?_
          refine Ops_passU rfl rfl ?_
          refine Ops_passU rfl rfl ?_
          refine Ops_pass rfl rfl ?_
          refine Ops_step (R_pick_true rfl rfl) rfl rfl ?_
          refine Ops_nil ?_
          refine then_n ?_
          exact ⟨_, rfl, ⟨true, _, _, rfl, h, hI, hll13_, hhh13_, trivial⟩, ⟨rfl, trivial⟩⟩
        · replace h := h.2 hg20_
          refine Ops_step (R_move rfl) rfl rfl ?_
          refine Ops_call (C_func TOmForm.bd26 rfl) rfl rfl ?_
          refine (octet_Reader_Err_ok (x0 := y11_0) hI.st (hg.up hI.le) ⟨_, ⟨A11_0_1, c11_0_1, rfl, ⟨hc11_0_1, hs11_0_1⟩⟩, ht11_0⟩ h).mono ?_
          rintro _ w21_ ⟨r21_0, L21_, H21_, rfl, hI21_, h⟩
          refine Exists.elim (hI.call hI21_ (by simp)) fun L210_ h21_ => ?_
          have hz21_ := hI.size
          replace hI := h21_.1
          have u21_ := h21_.2.1
          have hl21_ := h21_.2.2
          clear h21_
          replace hs0 := hs0.up u21_.hh
          replace hs11_0_1 := hs11_0_1.up u21_.hh
          replace ht11_0 := ht11_0.up u21_ (by simp)
          replace hll13_ := hll13_.trans u21_.ll
          replace hhh13_ := hhh13_.trans u21_.hh
          clear hI21_ u21_ hl21_
          refine ⟨_, rfl, ?_⟩
          refine Ops_step (R_neq rfl rfl) rfl rfl ?_
          refine Ops_step (R_move rfl) rfl rfl ?_
          refine Ops_split 34 rfl (fun hg22_ => ?_) (fun hg22_ => ?_)
          · replace h := h.1 hg22_
            refine Ops_step (R_move rfl) rfl rfl ?_
            refine Ops_call (C_func TOmForm.bd25 rfl) rfl rfl ?_
            refine (octet_Reader_Left_ok (x0 := y11_0) hI.st (hg.up hI.le) ⟨_, ⟨A11_0_1, c11_0_1, rfl, ⟨hc11_0_1, hs11_0_1⟩⟩, ht11_0⟩ h).mono ?_
            rintro _ w23_ ⟨r23_0, L23_, H23_, rfl, hI23_, h⟩
            refine Exists.elim (hI.call hI23_ (by simp)) fun L230_ h23_ => ?_
            have hz23_ := hI.size
            replace hI := h23_.1
            have u23_ := h23_.2.1
            have hl23_ := h23_.2.2
            clear h23_
            replace hs0 := hs0.up u23_.hh
            replace hll13_ := hll13_.trans u23_.ll
            replace hhh13_ := hhh13_.trans u23_.hh
            clear hI23_ u23_ hl23_
            refine ⟨_, rfl, ?_⟩
            refine Ops_step (R_move rfl) rfl rfl ?_
            refine Ops_step (R_len Tryd.underlying22 rfl rfl) rfl rfl ?_
            refine Ops_step (R_neq rfl rfl) rfl rfl ?_
            refine Ops_step (R_pick_true rfl rfl) rfl rfl ?_
            refine Ops_step (R_pick_false rfl rfl) rfl rfl ?_
            refine Ops_nil ?_
            refine then_n ?_
            exact ⟨_, rfl, ⟨(decide (r23_0 ≠ (x0.length : Int))), _, _, rfl, h, hI, hll13_, hhh13_, trivial⟩, ⟨rfl, trivial⟩⟩
          · replace h := h.2 hg22_
            refine Ops_pass rfl rfl ?_
            refine Ops_pass rfl rfl ?_
            refine Ops_pass rfl rfl ?_
            refine Ops_pass rfl rfl ?_
            refine Ops_pass rfl rfl ?_
            refine Ops_step (R_pick_false rfl rfl) rfl rfl ?_
            refine Ops_step (R_pick_false rfl rfl) rfl rfl ?_
            refine Ops_nil ?_
            refine then_n ?_
            exact ⟨_, rfl, ⟨false, _, _, rfl, h, hI, hll13_, hhh13_, trivial⟩, ⟨rfl, trivial⟩⟩
      · replace h := h.2 hg15_
        refine Ops_pass rfl rfl ?_
        refine Ops_pass rfl rfl ?_
        refine Ops_pass rfl rfl ?_
        refine Ops_pass rfl rfl ?_
        refine Ops_pass rfl rfl ?_
        refine Ops_pass rfl rfl ?_
        refine Ops_step (R_pick_false rfl rfl) rfl rfl ?_
        refine Ops_step (R_move rfl) rfl rfl ?_
        refine Ops_step (R_move rfl) rfl rfl ?_
        refine Ops_call (C_func TOmForm.bd26 rfl) rfl rfl ?_
        refine (octet_Reader_Err_ok (x0 := y11_0) hI.st (hg.up hI.le) ⟨_, ⟨A11_0_1, c11_0_1, rfl, ⟨hc11_0_1, hs11_0_1⟩⟩, ht11_0⟩ h).mono ?_
        rintro _ w24_ ⟨r24_0, L24_, H24_, rfl, hI24_, h⟩
        refine Exists.elim (hI.call hI24_ (by simp)) fun L240_ h24_ => ?_
        have hz24_ := hI.size
        replace hI := h24_.1
        have u24_ := h24_.2.1
        have hl24_ := h24_.2.2
        clear h24_
        replace hs0 := hs0.up u24_.hh
        replace hs11_0_1 := hs11_0_1.up u24_.hh
        replace ht11_0 := ht11_0.up u24_ (by simp)
        replace hll13_ := hll13_.trans u24_.ll
        replace hhh13_ := hhh13_.trans u24_.hh
        clear hI24_ u24_ hl24_
        refine ⟨_, rfl, ?_⟩
        refine Ops_step (R_neq rfl rfl) rfl rfl ?_
        refine Ops_step (R_move rfl) rfl rfl ?_
        refine Ops_split 34 rfl (fun hg25_ => ?_) (fun hg25_ => ?_)
        · replace h := h.1 hg25_
          refine Ops_step (R_move rfl) rfl rfl ?_
          refine Ops_call (C_func TOmForm.bd25 rfl) rfl rfl ?_
          refine (octet_Reader_Left_ok (x0 := y11_0) hI.st (hg.up hI.le) ⟨_, ⟨A11_0_1, c11_0_1, rfl, ⟨hc11_0_1, hs11_0_1⟩⟩, ht11_0⟩ h).mono ?_
          rintro _ w26_ ⟨r26_0, L26_, H26_, rfl, hI26_, h⟩
          refine Exists.elim (hI.call hI26_ (by simp)) fun L260_ h26_ => ?_
          have hz26_ := hI.size
          replace hI := h26_.1
          have u26_ := h26_.2.1
          have hl26_ := h26_.2.2
          clear h26_
          replace hs0 := hs0.up u26_.hh
          replace hll13_ := hll13_.trans u26_.ll
          replace hhh13_ := hhh13_.trans u26_.hh
          clear hI26_ u26_ hl26_
          refine ⟨_, rfl, ?_⟩
          refine Ops_step (R_move rfl) rfl rfl ?_
          refine Ops_step (R_len Tryd.underlying22 rfl rfl) rfl rfl ?_
          refine Ops_step (R_neq rfl rfl) rfl rfl ?_
          refine Ops_step (R_pick_true rfl rfl) rfl rfl ?_
          refine Ops_step (R_pick_false rfl rfl) rfl rfl ?_
          refine Ops_nil ?_
          refine then_n ?_
          exact ⟨_, rfl, ⟨(decide (r26_0 ≠ (x0.length : Int))), _, _, rfl, h, hI, hll13_, hhh13_, trivial⟩, ⟨rfl, trivial⟩⟩
        · replace h := h.2 hg25_
          refine Ops_pass rfl rfl ?_
          refine Ops_pass rfl rfl ?_
          refine Ops_pass rfl rfl ?_
          refine Ops_pass rfl rfl ?_
          refine Ops_pass rfl rfl ?_
          refine Ops_step (R_pick_false rfl rfl) rfl rfl ?_
          refine Ops_step (R_pick_false rfl rfl) rfl rfl ?_
          refine Ops_nil ?_
          refine then_n ?_
          exact ⟨_, rfl, ⟨false, _, _, rfl, h, hI, hll13_, hhh13_, trivial⟩, ⟨rfl, trivial⟩⟩
    · simp only [pickE, lookE, putE, zipE, args0, Nat.reduceAdd, Nat.zero_add, List.cons_append, List.nil_append, Nat.reduceBEq, cond_true, cond_false] at hB13_
      subst hB13_
      clear h
      rintro _ w13_ ⟨x41_13, L13_, H13_, rfl, hJ13_, hI13_, hll13_, hhh13_, -⟩
      replace hI := hI13_
      clear hI13_
      have h := hr13_ x41_13 hJ13_
      clear hr13_ hJ13_
      replace hs0 := hs0.up hhh13_
      refine W_cond rfl (fun hc27_ => ?_) (fun hc27_ => ?_)
      · replace h := h.1 hc27_
        refine W_seq_k fun K28_ hK28_ => ?_
        refine W_region [some 2] rfl ?_
        refine Ops_step (R_assign rfl) rfl rfl ?_
        refine Ops_nil ?_
        refine then_n (hK28_ _ _ ?_)
        clear hK28_ K28_
        refine W_ret ?_
        refine then_ret ?_
        clear hK12_ K12_
        refine ⟨_, ⟨_, _, rfl, rfl, rfl⟩, ?_⟩
        exact ⟨false, _, _, rfl, hI, h⟩
      · replace h := h.2 hc27_
        refine W_skip ?_
        refine then_n (hK12_ _ _ ?_)
        clear hK12_ K12_
        refine W_seq_k fun K29_ hK29_ => ?_
        refine W_region [some 42, some 43, some 3] rfl ?_
        refine Ops_step (R_move rfl) rfl rfl ?_
        refine Ops_call (C_func TOmForm.bd16 rfl) rfl rfl ?_
        refine (octet_Read_ok (x0 := x0) hI.st (hg.up hI.le) hc0 hs0 h).mono ?_
        rintro _ w30_ ⟨d30_0, r30_0, L30_, H30_, rfl, hI30_, hge_d30_0, hr30_0, h⟩
        have hge0_30 := hge_d30_0
        replace hge_d30_0 := Nat.le_trans hI.size hge_d30_0
        refine Exists.elim (hI.call hI30_ (by simp)) fun L300_ h30_ => ?_
        have hz30_ := hI.size
        replace hI := h30_.1
        have u30_ := h30_.2.1
        have hl30_ := h30_.2.2
        clear h30_
        replace hs0 := hs0.up u30_.hh
        replace hr30_0 := hr30_0.back hl30_ (Le.refl _)
        obtain ⟨l30_0_, hl30_0_, ht30_0⟩ := hr30_0
        obtain ⟨A30_0_1, c30_0_1, rfl, ⟨hc30_0_1, hs30_0_1⟩⟩ := hl30_0_
        clear hI30_ u30_ hl30_
        refine ⟨_, rfl, ?_⟩
        refine Ops_step (R_assign rfl) rfl rfl ?_
        refine Ops_nil ?_
        refine then_n (hK29_ _ _ ?_)
        clear hK29_ K29_
        refine W_seq_k fun K31_ hK31_ => ?_
        refine W_seq_k fun K32_ hK32_ => ?_
        refine W_region [some 44, some 45, some 5] rfl ?_
        refine Ops_step (R_move rfl) rfl rfl ?_
        refine Ops_call (C_func TOmForm.bd21 rfl) rfl rfl ?_
        refine (octet_Reader_Bytes_ok (x0 := r30_0) (x1 := 32768) hI.st (hg.up hI.le) ⟨_, ⟨A30_0_1, c30_0_1, rfl, ⟨hc30_0_1, (hs30_0_1.up hI.sub)⟩⟩, ht30_0⟩ h).mono ?_
        rintro _ w33_ ⟨A33_0, c33_0, r33_0, y33_0, L33_, H33_, rfl, hI33_, ho33_0, hq33_0, h⟩
        refine Exists.elim (hI.call hI33_ (new1 hge_d30_0)) fun L330_ h33_ => ?_
        have hz33_ := hI.size
        replace hI := h33_.1
        have u33_ := h33_.2.1
        have hl33_ := h33_.2.2
        clear h33_
        replace hs0 := hs0.up u33_.hh
        replace hs30_0_1 := hs30_0_1.up u33_.ll
        replace ho33_0 := OwnS.backS ho33_0 hz33_ (Le.refl _)
        clear ht30_0
        obtain ⟨l33_0_, hl33_0_, ht33_0⟩ := hq33_0
        obtain ⟨A33_0_1, c33_0_1, rfl, ⟨hc33_0_1, hs33_0_1⟩⟩ := hl33_0_
        clear hI33_ u33_ hl33_
        refine ⟨_, rfl, ?_⟩
        refine Exists.elim (ho33_0.freeze hI) fun L34_ h34_ => Exists.elim h34_ fun H34_ h34_ => ?_
        replace hI := h34_.1
        have u34_ := h34_.2.1
        have hs34_ := h34_.2.2.1 (Le.no _)
        have hc34_ := ho33_0.cap
        replace hs0 := hs0.up u34_.hh
        replace hs33_0_1 := hs33_0_1.up u34_.hh
        replace ht33_0 := ht33_0.up u34_ (ht33_0.sep ho33_0 (by decide))
        clear h34_ u34_ ho33_0
        refine Ops_step (R_assign rfl) rfl rfl ?_
        refine Ops_nil ?_
        refine then_n (hK32_ _ _ ?_)
        clear hK32_ K32_
        refine Exists.elim h fun J35_ h => ?_
        have hr35_ := h.1
        replace h := h.2
        refine W_seq_join [0] [55] (fun vs w2 => ∃ (x55_35 : Bool) (L H : Gh), vs = [.bool x55_35] ∧ J35_ x55_35 ∧ Inv [] G w L H w2 ∧ Le L34_ L ∧ Le H34_ H ∧ True) (fun B35 hB35_ => ?_) (fun B35 hB35_ => ?_)
        · simp only [pickE, lookE, putE, zipE, args0, Nat.reduceAdd, Nat.zero_add, List.cons_append, List.nil_append, Nat.reduceBEq, cond_true, cond_false] at hB35_
          subst hB35_
          clear hr35_
          have hll35_ := Le.refl L34_
          have hhh35_ := Le.refl H34_
          refine W_region [some 46, some 47, some 48, some 49, some 50, some 51, some 52, some 53, some 54, some 55] rfl ?_
          refine Ops_step (R_move rfl) rfl rfl ?_
          refine Ops_call (C_func TOmForm.bd26 rfl) rfl rfl ?_
          refine (octet_Reader_Err_ok (x0 := y33_0) hI.st (hg.up hI.le) ⟨_, ⟨A33_0_1, c33_0_1, rfl, ⟨hc33_0_1, hs33_0_1⟩⟩, ht33_0⟩ h).mono ?_
          rintro _ w36_ ⟨r36_0, L36_, H36_, rfl, hI36_, h⟩
          refine Exists.elim (hI.call hI36_ (by simp)) fun L360_ h36_ => ?_
          have hz36_ := hI.size
          replace hI := h36_.1
          have u36_ := h36_.2.1
          have hl36_ := h36_.2.2
          clear h36_
          replace hs0 := hs0.up u36_.hh
          replace hs34_ := hs34_.up u36_.ll
          replace hll35_ := hll35_.trans u36_.ll
          replace hhh35_ := hhh35_.trans u36_.hh
          clear hI36_ u36_ hl36_
          refine ⟨_, rfl, ?_⟩
          refine Ops_step (R_eql rfl rfl) rfl rfl ?_
          refine Ops_step (R_move rfl) rfl rfl ?_
          refine Ops_split 49 rfl (fun hg37_ => ?_) (fun hg37_ => ?_)
          · replace h := h.1 hg37_
            refine Ops_step (R_move rfl) rfl rfl ?_
            refine Ops_step (R_move rfl) rfl rfl ?_
            refine Ops_call (C_func TOmForm.bd18 rfl) rfl rfl ?_
            refine (octet_PutBytes_ok (x0 := []) (x1 := r33_0) hI.st (hg.up hI.le) (Nat.le_refl 0) Sl.nil hc34_ (hs34_.up hI.sub) h).mono ?_
            rintro _ w38_ ⟨A38_0, c38_0, r38_0, L38_, H38_, rfl, hI38_, ho38_0, h⟩
            refine Exists.elim (hI.call hI38_ (by simp)) fun L380_ h38_ => ?_
            have hz38_ := hI.size
            replace hI := h38_.1
            have u38_ := h38_.2.1
            have hl38_ := h38_.2.2
            clear h38_
            replace hs0 := hs0.up u38_.hh
            replace hll35_ := hll35_.trans u38_.ll
            replace hhh35_ := hhh35_.trans u38_.hh
            replace ho38_0 := OwnS.backS ho38_0 hz38_ (Le.refl _)
            clear hI38_ u38_ hl38_
            refine ⟨_, rfl, ?_⟩
            refine Exists.elim (ho38_0.freeze hI) fun L39_ h39_ => Exists.elim h39_ fun H39_ h39_ => ?_
            replace hI := h39_.1
            have u39_ := h39_.2.1
            have hs39_ := h39_.2.2.1 (Le.no _)
            have hc39_ := ho38_0.cap
            replace hs0 := hs0.up u39_.hh
            replace hll35_ := hll35_.trans u39_.ll
            replace hhh35_ := hhh35_.trans u39_.hh
            clear h39_ u39_ ho38_0
            refine Ops_call (C_func TOmForm.bd29 rfl) rfl rfl ?_
            refine (bytes_HasPrefix_ok (x0 := x0) (x1 := r38_0) hI.st (hg.up hI.le) hc0 hs0 hc39_ (hs39_.up hI.sub) h).mono ?_
            rintro _ w40_ ⟨r40_0, L40_, H40_, rfl, hI40_, h⟩
            refine Exists.elim (hI.call hI40_ (by simp)) fun L400_ h40_ => ?_
            have hz40_ := hI.size
            replace hI := h40_.1
            have u40_ := h40_.2.1
            have hl40_ := h40_.2.2
            clear h40_
            replace hs0 := hs0.up u40_.hh
            replace hll35_ := hll35_.trans u40_.ll
            replace hhh35_ := hhh35_.trans u40_.hh
            clear hI40_ u40_ hl40_
            refine ⟨_, rfl, ?_⟩
            refine Ops_step (R_not rfl) rfl rfl ?_
            refine Ops_step (R_pick_true rfl rfl) rfl rfl ?_
            refine Ops_nil ?_
            refine then_n ?_
            exact ⟨_, rfl, ⟨(!r40_0), _, _, rfl, h, hI, hll35_, hhh35_, trivial⟩, ⟨rfl, trivial⟩⟩
          · replace h := h.2 hg37_
            refine Ops_pass rfl rfl ?_
            refine Ops_pass rfl rfl ?_
            refine Ops_pass rfl rfl ?_
            refine Ops_pass rfl rfl ?_
            refine Ops_pass rfl rfl ?_
            refine Ops_step (R_pick_false rfl rfl) rfl rfl ?_
            refine Ops_nil ?_
            refine then_n ?_
            exact ⟨_, rfl, ⟨false, _, _, rfl, h, hI, hll35_, hhh35_, trivial⟩, ⟨rfl, trivial⟩⟩
        · simp only [pickE, lookE, putE, zipE, args0, Nat.reduceAdd, Nat.zero_add, List.cons_append, List.nil_append, Nat.reduceBEq, cond_true, cond_false] at hB35_
          subst hB35_
          clear h
          rintro _ w35_ ⟨x55_35, L35_, H35_, rfl, hJ35_, hI35_, hll35_, hhh35_, -⟩
          replace hI := hI35_
          clear hI35_
          have h := hr35_ x55_35 hJ35_
          clear hr35_ hJ35_
          replace hs0 := hs0.up hhh35_
          refine W_cond rfl (fun hc41_ => ?_) (fun hc41_ => ?_)
          · replace h := h.1 hc41_
            refine W_seq_k fun K42_ hK42_ => ?_
            refine W_region [some 2] rfl ?_
            refine Ops_step (R_assign rfl) rfl rfl ?_
            refine Ops_nil ?_
            refine then_n (hK42_ _ _ ?_)
            clear hK42_ K42_
            refine W_ret ?_
            refine then_ret ?_
            clear hK31_ K31_
            refine ⟨_, ⟨_, _, rfl, rfl, rfl⟩, ?_⟩
            exact ⟨false, _, _, rfl, hI, h⟩
          · replace h := h.2 hc41_
            refine W_skip ?_
            refine then_n (hK31_ _ _ ?_)
            clear hK31_ K31_
            refine W_seq_k fun K43_ hK43_ => ?_
            refine W_region [some 57, some 58, some 56, some 59, some 60, some 61, some 6, some 7, some 8] rfl ?_
            refine Ops_step (R_move rfl) rfl rfl ?_
            refine Ops_call (C_func TOmForm.bd28 rfl) rfl rfl ?_
            refine (octet_Open_ok (x0 := x0) hI.st (hg.up hI.le) hc0 hs0 h).mono ?_
            rintro _ w44_ ⟨A44_0, c44_0, r44_0, r44_1, r44_2, L44_, H44_, rfl, hI44_, ho44_0, h⟩
            refine Exists.elim (hI.call hI44_ (by simp)) fun L440_ h44_ => ?_
            have hz44_ := hI.size
            replace hI := h44_.1
            have u44_ := h44_.2.1
            have hl44_ := h44_.2.2
            clear h44_
            replace hs0 := hs0.up u44_.hh
            replace ho44_0 := OwnS.backS ho44_0 hz44_ (Le.refl _)
            clear hI44_ u44_ hl44_
            refine ⟨_, rfl, ?_⟩
            refine Exists.elim (ho44_0.freeze hI) fun L45_ h45_ => Exists.elim h45_ fun H45_ h45_ => ?_
            replace hI := h45_.1
            have u45_ := h45_.2.1
            have hs45_ := h45_.2.2.1 (Le.no _)
            have hc45_ := ho44_0.cap
            replace hs0 := hs0.up u45_.hh
            clear h45_ u45_ ho44_0
            refine Ops_step (R_move rfl) rfl rfl ?_
            refine Ops_step (R_extract (v := .slice A44_0 r44_0.length c44_0) rfl rfl) rfl rfl ?_
            refine Ops_step (R_extract (v := vi r44_1) rfl rfl) rfl rfl ?_
            refine Ops_step (R_extract (v := vi r44_2) rfl rfl) rfl rfl ?_
            refine Ops_step (R_assign rfl) rfl rfl ?_
            refine Ops_step (R_assign rfl) rfl rfl ?_
            refine Ops_step (R_assign rfl) rfl rfl ?_
            refine Ops_nil ?_
            refine then_n (hK43_ _ _ ?_)
            clear hK43_ K43_
            refine W_keepB [0, 6, 7, 8] fun B46 hB46_ => ?_
            simp only [pickE, lookE, putE, zipE, args0, Nat.reduceAdd, Nat.zero_add, List.cons_append, List.nil_append, Nat.reduceBEq, cond_true, cond_false] at hB46_
            subst hB46_
            refine W_seq_k fun K47_ hK47_ => ?_
            refine W_seq_k fun K48_ hK48_ => ?_
            refine W_region [some 62, some 63] rfl ?_
            refine Ops_step (R_move rfl) rfl rfl ?_
            refine Ops_step (R_neq rfl rfl) rfl rfl ?_
            refine Ops_nil ?_
            refine then_n (hK48_ _ _ ?_)
            clear hK48_ K48_
            refine W_if rfl (fun hc49_ => ?_) (fun hc49_ => ?_)
            · replace h := h.1 hc49_
              refine W_seq_k fun K50_ hK50_ => ?_
              refine W_region [some 64, some 65, some 66, some 67, some 68, some 69, some 70, some 71, some 2] rfl ?_
              refine Ops_step (R_move rfl) rfl rfl ?_
              refine Ops_step (R_len Tryd.underlying22 rfl rfl) rfl rfl ?_
              refine Ops_step (R_move rfl) rfl rfl ?_
              have hk51_ := h.1
              replace h := h.2
              refine Ops_step (R_add rfl rfl (wI hk51_.1 hk51_.2)) rfl rfl ?_
              refine Ops_step (R_eql rfl rfl) rfl rfl ?_
              refine Ops_step (R_move rfl) rfl rfl ?_
              refine Ops_split 69 rfl (fun hg52_ => ?_) (fun hg52_ => ?_)
              · replace h := h.1 hg52_
                refine Ops_call (C_func TOmForm.bd15 rfl) rfl rfl ?_
                refine (sealskinlaw02_awake_ok  hI.st (hg.up hI.le)  h).mono ?_
                rintro _ w53_ ⟨r53_0, L53_, H53_, rfl, hI53_, h⟩
                refine Exists.elim (hI.call hI53_ (by simp)) fun L530_ h53_ => ?_
                have hz53_ := hI.size
                replace hI := h53_.1
                have u53_ := h53_.2.1
                have hl53_ := h53_.2.2
                clear h53_
                clear hI53_ u53_ hl53_
                refine ⟨_, rfl, ?_⟩
                refine Ops_step (R_pick_true rfl rfl) rfl rfl ?_
                refine Ops_step (R_assign rfl) rfl rfl ?_
                refine Ops_nil ?_
                refine then_n (hK50_ _ _ ?_)
                clear hK50_ K50_
                refine W_keepB [2] fun B54 hB54_ => ?_
                simp only [pickE, lookE, putE, zipE, args0, Nat.reduceAdd, Nat.zero_add, List.cons_append, List.nil_append, Nat.reduceBEq, cond_true, cond_false] at hB54_
                subst hB54_
                refine W_ret ?_
                refine then_ret ?_
                clear hK47_ K47_
                refine ⟨_, ⟨_, _, rfl, rfl, rfl⟩, ?_⟩
                exact ⟨r53_0, _, _, rfl, hI, h⟩
              · replace h := h.2 hg52_
                refine Ops_pass rfl rfl ?_
                refine Ops_step (R_pick_false rfl rfl) rfl rfl ?_
                refine Ops_step (R_assign rfl) rfl rfl ?_
                refine Ops_nil ?_
                refine then_n (hK50_ _ _ ?_)
                clear hK50_ K50_
                refine W_keepB [2] fun B55 hB55_ => ?_
                simp only [pickE, lookE, putE, zipE, args0, Nat.reduceAdd, Nat.zero_add, List.cons_append, List.nil_append, Nat.reduceBEq, cond_true, cond_false] at hB55_
                subst hB55_
                refine W_ret ?_
                refine then_ret ?_
                clear hK47_ K47_
                refine ⟨_, ⟨_, _, rfl, rfl, rfl⟩, ?_⟩
                exact ⟨false, _, _, rfl, hI, h⟩
            · replace h := h.2 hc49_
              refine W_skip ?_
              refine then_n (hK47_ _ _ ?_)
              clear hK47_ K47_
              refine W_seq_k fun K56_ hK56_ => ?_
              refine W_region [some 73, some 74, some 72, some 75, some 76, some 9, some 10] rfl ?_
              refine Ops_step (R_move rfl) rfl rfl ?_
              refine Ops_call (C_func TOmForm.bd27 rfl) rfl rfl ?_
              refine (octet_Seal_ok (x0 := r44_0) hI.st (hg.up hI.le) hc45_ (hs45_.up hI.sub) h).mono ?_
              rintro _ w57_ ⟨A57_0, c57_0, r57_0, r57_1, L57_, H57_, rfl, hI57_, ho57_0, h⟩
              refine Exists.elim (hI.call hI57_ (by simp)) fun L570_ h57_ => ?_
              have hz57_ := hI.size
              replace hI := h57_.1
              have u57_ := h57_.2.1
              have hl57_ := h57_.2.2
              clear h57_
              replace hs0 := hs0.up u57_.hh
              replace ho57_0 := OwnS.backS ho57_0 hz57_ (Le.refl _)
              clear hI57_ u57_ hl57_
              refine ⟨_, rfl, ?_⟩
              refine Exists.elim (ho57_0.freeze hI) fun L58_ h58_ => Exists.elim h58_ fun H58_ h58_ => ?_
              replace hI := h58_.1
              have u58_ := h58_.2.1
              have hs58_ := h58_.2.2.1 (Le.no _)
              have hc58_ := ho57_0.cap
              replace hs0 := hs0.up u58_.hh
              clear h58_ u58_ ho57_0
              refine Ops_step (R_move rfl) rfl rfl ?_
              refine Ops_step (R_extract (v := .slice A57_0 r57_0.length c57_0) rfl rfl) rfl rfl ?_
              refine Ops_step (R_extract (v := vi r57_1) rfl rfl) rfl rfl ?_
              refine Ops_step (R_assign rfl) rfl rfl ?_
              refine Ops_step (R_assign rfl) rfl rfl ?_
              refine Ops_nil ?_
              refine then_n (hK56_ _ _ ?_)
              clear hK56_ K56_
              refine W_keepB [0, 7, 9, 10] fun B59 hB59_ => ?_
              simp only [pickE, lookE, putE, zipE, args0, Nat.reduceAdd, Nat.zero_add, List.cons_append, List.nil_append, Nat.reduceBEq, cond_true, cond_false] at hB59_
              subst hB59_
              refine W_seq_k fun K60_ hK60_ => ?_
              refine W_region [some 77, some 78, some 79, some 80, some 81, some 82, some 83, some 84, some 85, some 86, some 87, some 88, some 2] rfl ?_
              refine Ops_step (R_move rfl) rfl rfl ?_
              refine Ops_step (R_eql rfl rfl) rfl rfl ?_
              refine Ops_step (R_move rfl) rfl rfl ?_
              refine Ops_split 79 rfl (fun hg61_ => ?_) (fun hg61_ => ?_)
              · replace h := h.1 hg61_
                refine Ops_step (R_move rfl) rfl rfl ?_
                refine Ops_step (R_move rfl) rfl rfl ?_
                refine Ops_step (R_move rfl) rfl rfl ?_
                have hk63_ := h.1
                replace h := h.2
                have hk64_ := h.1
                replace h := h.2
                refine Exists.elim (cut_ex (n := 1) hs0 rfl (by decide) hc0 (Int.le_refl 0) hk63_ hk64_) fun A62_ h62_ => Exists.elim h62_ fun c62_ h62_ => ?_
                have hr62_ := h62_.1
                have hc62_ := h62_.2.1
                have hs62_ := h62_.2.2
                clear h62_
                refine Ops_step (X_slice (xs := x0) Tryd.underlying22 TOmForm.sz5 rfl hr62_ hc0 rfl rfl (Int.le_refl 0) hk63_ hk64_) rfl rfl ?_
                clear hr62_
                refine Ops_call (C_func TOmForm.bd24 rfl) rfl rfl ?_
                refine (bytes_Equal_ok (x0 := r57_0) (x1 := (cut x0 0 r44_1)) hI.st (hg.up hI.le) hc58_ (hs58_.up hI.sub) hc62_ hs62_ h).mono ?_
                rintro _ w65_ ⟨r65_0, L65_, H65_, rfl, hI65_, h⟩
                refine Exists.elim (hI.call hI65_ (by simp)) fun L650_ h65_ => ?_
                have hz65_ := hI.size
                replace hI := h65_.1
                have u65_ := h65_.2.1
                have hl65_ := h65_.2.2
                clear h65_
                clear hI65_ u65_ hl65_
                refine ⟨_, rfl, ?_⟩
                refine Ops_step (R_pick_true rfl rfl) rfl rfl ?_
                refine Ops_step (R_move rfl) rfl rfl ?_
                refine Ops_splitB 86 rfl (fun hg66_ => ?_) (fun hg66_ => ?_)
                · replace h := h.1 hg66_
                  refine Ops_call (C_func TOmForm.bd15 rfl) rfl rfl ?_
                  refine (sealskinlaw02_awake_ok  hI.st (hg.up hI.le)  h).mono ?_
                  rintro _ w67_ ⟨r67_0, L67_, H67_, rfl, hI67_, h⟩
                  refine Exists.elim (hI.call hI67_ (by simp)) fun L670_ h67_ => ?_
                  have hz67_ := hI.size
                  replace hI := h67_.1
                  have u67_ := h67_.2.1
                  have hl67_ := h67_.2.2
                  clear h67_
                  clear hI67_ u67_ hl67_
                  refine ⟨_, rfl, ?_⟩
                  refine Ops_step (R_pick_true rfl rfl) rfl rfl ?_
                  refine Ops_step (R_assign rfl) rfl rfl ?_
                  refine Ops_nil ?_
                  refine then_n (hK60_ _ _ ?_)
                  clear hK60_ K60_
                  refine W_keepB [2] fun B68 hB68_ => ?_
                  simp only [pickE, lookE, putE, zipE, args0, Nat.reduceAdd, Nat.zero_add, List.cons_append, List.nil_append, Nat.reduceBEq, cond_true, cond_false] at hB68_
                  subst hB68_
                  refine W_ret ?_
                  refine ⟨_, ⟨_, _, rfl, rfl, rfl⟩, ?_⟩
                  exact ⟨r67_0, _, _, rfl, hI, h⟩
                · replace h := h.2 hg66_
                  refine Ops_pass rfl rfl ?_
                  refine Ops_step (R_pick_false rfl rfl) rfl rfl ?_
                  refine Ops_step (R_assign rfl) rfl rfl ?_
                  refine Ops_nil ?_
                  refine then_n (hK60_ _ _ ?_)
                  clear hK60_ K60_
                  refine W_keepB [2] fun B69 hB69_ => ?_
                  simp only [pickE, lookE, putE, zipE, args0, Nat.reduceAdd, Nat.zero_add, List.cons_append, List.nil_append, Nat.reduceBEq, cond_true, cond_false] at hB69_
                  subst hB69_
                  refine W_ret ?_
                  refine ⟨_, ⟨_, _, rfl, rfl, rfl⟩, ?_⟩
                  exact ⟨false, _, _, rfl, hI, h⟩
              · replace h := h.2 hg61_
                refine Ops_pass rfl rfl ?_
                refine Ops_pass rfl rfl ?_
                refine Ops_pass rfl rfl ?_
                refine Ops_pass rfl rfl ?_
                refine Ops_pass rfl rfl ?_
                refine Ops_step (R_pick_false rfl rfl) rfl rfl ?_
                refine Ops_step (R_move rfl) rfl rfl ?_
                refine Ops_pass rfl rfl ?_
                refine Ops_step (R_pick_false rfl rfl) rfl rfl ?_
                refine Ops_step (R_assign rfl) rfl rfl ?_
                refine Ops_nil ?_
                refine then_n (hK60_ _ _ ?_)
                clear hK60_ K60_
                refine W_keepB [2] fun B70 hB70_ => ?_
                simp only [pickE, lookE, putE, zipE, args0, Nat.reduceAdd, Nat.zero_add, List.cons_append, List.nil_append, Nat.reduceBEq, cond_true, cond_false] at hB70_
                subst hB70_
                refine W_ret ?_
                refine ⟨_, ⟨_, _, rfl, rfl, rfl⟩, ?_⟩
                exact ⟨false, _, _, rfl, hI, h⟩

end Go.Proofs.YtdnpdljnjoegiaaDoor
