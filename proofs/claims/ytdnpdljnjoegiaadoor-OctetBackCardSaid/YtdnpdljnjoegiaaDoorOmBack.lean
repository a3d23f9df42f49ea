/- What the walks of this seat show of OmBack. -/
import Derived.Test.YtdnpdljnjoegiaaDoorOmBackp
import Derived.Test.YtdnpdljnjoegiaaDoorOtE
import Derived.Test.YtdnpdljnjoegiaaDoorProg
set_option linter.unusedVariables false
set_option linter.unusedSimpArgs false
namespace Go.Proofs.YtdnpdljnjoegiaaDoor
open Go Go.Sx Go.Lx
namespace TOmBack
theorem hm : Tryd.prog.follows .mixedOrders = true := by kernel_rfl
theorem bd14 : bodied Tryd.prog 14 = true := by kernel_rfl
theorem bd15 : bodied Tryd.prog 15 = true := by kernel_rfl
theorem bd16 : bodied Tryd.prog 16 = true := by kernel_rfl
theorem bd17 : bodied Tryd.prog 17 = true := by kernel_rfl
theorem bd18 : bodied Tryd.prog 18 = true := by kernel_rfl
theorem bd19 : bodied Tryd.prog 19 = true := by kernel_rfl
theorem bd20 : bodied Tryd.prog 20 = true := by kernel_rfl
theorem bd21 : bodied Tryd.prog 21 = true := by kernel_rfl
theorem bd22 : bodied Tryd.prog 22 = true := by kernel_rfl
theorem bd23 : bodied Tryd.prog 23 = true := by kernel_rfl
theorem bd24 : bodied Tryd.prog 24 = true := by kernel_rfl
theorem bd25 : bodied Tryd.prog 25 = true := by kernel_rfl
theorem bd26 : bodied Tryd.prog 26 = true := by kernel_rfl
theorem el22 : Elem Tryd.prog 22 5 1 1 := Elem.of (by kernel_rfl)
theorem el48 : Elem Tryd.prog 48 3 1 8 := Elem.of (by kernel_rfl)
theorem zr3 : zr Tryd.prog 3 = some ([.int .i64 0]) := by kernel_rfl
end TOmBack
set_option maxHeartbeats 4000000 in
theorem sealskinlaw02_OctetBack_ok {G : Gh} {w : World} (hS : St G w) (hg : GL G) {x0 : Int} {A1 : Option Addr} {c1 : Nat} {x1 : List UInt8} (hc1 : x1.length ≤ c1) (hs1 : Sl G A1 x1) {x2 : Str} {A3 : Option Addr} {c3 : Nat} {x3 : List UInt8} (hc3 : x3.length ≤ c3) (hs3 : Sl G A3 x3) {Q : Bool → Prop} (h : sealskinlaw02_OctetBack x0 x1 x2 x3 Q) : Calls Tryd.prog 3 #[vi x0, .slice A1 x1.length c1, vs x2, .slice A3 x3.length c3] w fun e w2 => ∃ (r0 : Bool) (L H : Gh), e = .returned (.bool r0) ∧ Inv [] G w L H w2 ∧ Q r0 := by
  unfold sealskinlaw02_OctetBack at h
  have hI := Inv.start (M := []) hS
  refine calls_W 96 Tryd.func3 rfl Tryd.ntmps3 rfl [.tmp 8] rfl ?_
  refine W_seq_k fun K1_ hK1_ => ?_
  refine W_region [some 8] rfl ?_
  refine Ops_step (R_assign rfl) rfl rfl ?_
  refine Ops_nil ?_
  refine then_n (hK1_ _ _ ?_)
  clear hK1_ K1_
  refine W_seq_k fun K2_ hK2_ => ?_
  refine Exists.elim h fun J3_ h => ?_
  have hr3_ := h.1
  replace h := h.2
  refine W_seq_join [0, 1, 2, 3] [30] (fun vs w2 => ∃ (x30_3 : Bool) (L H : Gh), vs = [.bool x30_3] ∧ J3_ x30_3 ∧ Inv [] G w L H w2 ∧ Le Gh.no L ∧ Le G H ∧ True) (fun B3 hB3_ => ?_) (fun B3 hB3_ => ?_)
  · simp only [pickE, lookE, putE, zipE, args0, Nat.reduceAdd, Nat.zero_add, List.cons_append, List.nil_append, Nat.reduceBEq, cond_true, cond_false] at hB3_
    subst hB3_
    clear hr3_
    have hll3_ := Le.refl Gh.no
    have hhh3_ := Le.refl G
    refine W_region [some 13, some 14, some 15, some 16, some 17, some 18, some 19, some 20, some 21, some 22, some 23, some 24, some 25, some 26, some 27, some 28, some 29, some 30] rfl ?_
    refine Ops_step (R_move rfl) rfl rfl ?_
    refine Ops_step (R_len Tryd.underlying22 rfl rfl) rfl rfl ?_
    refine Ops_step (R_gtr rfl rfl) rfl rfl ?_
    refine Ops_step (R_move rfl) rfl rfl ?_
    refine Ops_split 16 rfl (fun hg4_ => ?_) (fun hg4_ => ?_)
    · replace h := h.1 hg4_
      refine Ops_pass rfl rfl ?_
      refine Ops_pass rfl rfl ?_
      refine Ops_pass rfl rfl ?_
      refine Ops_step (R_pick_true rfl rfl) rfl rfl ?_
      refine Ops_step (R_move rfl) rfl rfl ?_
      refine Ops_pass rfl rfl ?_
      refine Ops_pass rfl rfl ?_
      refine Ops_pass rfl rfl ?_
      refine Ops_step (R_pick_true rfl rfl) rfl rfl ?_
      refine Ops_step (R_move rfl) rfl rfl ?_
      refine Ops_pass rfl rfl ?_
      refine Ops_pass rfl rfl ?_
      refine Ops_pass rfl rfl ?_
      refine Ops_step (R_pick_true rfl rfl) rfl rfl ?_
      refine Ops_nil ?_
      refine then_n ?_
      exact ⟨_, rfl, ⟨true, _, _, rfl, h, hI, hll3_, hhh3_, trivial⟩, ⟨rfl, rfl, rfl, rfl, trivial⟩⟩
    · replace h := h.2 hg4_
      refine Ops_step (R_move rfl) rfl rfl ?_
      refine Ops_step (X_lenStr (b := x2) Tryd.underlying9 rfl rfl) rfl rfl ?_
      refine Ops_step (R_gtr rfl rfl) rfl rfl ?_
      refine Ops_step (R_pick_false rfl rfl) rfl rfl ?_
      refine Ops_step (R_move rfl) rfl rfl ?_
      refine Ops_split 21 rfl (fun hg5_ => ?_) (fun hg5_ => ?_)
      · replace h := h.1 hg5_
        refine Ops_pass rfl rfl ?_
        refine Ops_pass rfl rfl ?_
        refine Ops_pass rfl rfl ?_
        refine Ops_step (R_pick_true rfl rfl) rfl rfl ?_
        refine Ops_step (R_move rfl) rfl rfl ?_
        refine Ops_pass rfl rfl ?_
        refine Ops_pass rfl rfl ?_
        refine Ops_pass rfl rfl ?_
        refine Ops_step (R_pick_true rfl rfl) rfl rfl ?_
        refine Ops_nil ?_
        refine then_n ?_
        exact ⟨_, rfl, ⟨true, _, _, rfl, h, hI, hll3_, hhh3_, trivial⟩, ⟨rfl, rfl, rfl, rfl, trivial⟩⟩
      · replace h := h.2 hg5_
        refine Ops_step (R_move rfl) rfl rfl ?_
        refine Ops_step (R_len Tryd.underlying22 rfl rfl) rfl rfl ?_
        refine Ops_step (R_gtr rfl rfl) rfl rfl ?_
        refine Ops_step (R_pick_false rfl rfl) rfl rfl ?_
        refine Ops_step (R_move rfl) rfl rfl ?_
        refine Ops_split 26 rfl (fun hg6_ => ?_) (fun hg6_ => ?_)
        · replace h := h.1 hg6_
          refine Ops_pass rfl rfl ?_
          refine Ops_pass rfl rfl ?_
          refine Ops_pass rfl rfl ?_
          refine Ops_step (R_pick_true rfl rfl) rfl rfl ?_
          refine Ops_nil ?_
          refine then_n ?_
          exact ⟨_, rfl, ⟨true, _, _, rfl, h, hI, hll3_, hhh3_, trivial⟩, ⟨rfl, rfl, rfl, rfl, trivial⟩⟩
        · replace h := h.2 hg6_
          refine Ops_step (R_move rfl) rfl rfl ?_
          refine Ops_call (C_func TOmBack.bd14 rfl) rfl rfl ?_
          refine (utf8_ValidString_ok (x0 := x2) hI.st (hg.up hI.le)  h).mono ?_
          rintro _ w7_ ⟨r7_0, L7_, H7_, rfl, hI7_, h⟩
          refine Exists.elim (hI.call hI7_ (by simp)) fun L70_ h7_ => ?_
          have hz7_ := hI.size
          replace hI := h7_.1
          have u7_ := h7_.2.1
          have hl7_ := h7_.2.2
          clear h7_
          replace hs1 := hs1.up u7_.hh
          replace hs3 := hs3.up u7_.hh
          replace hll3_ := hll3_.trans u7_.ll
          replace hhh3_ := hhh3_.trans u7_.hh
          clear hI7_ u7_ hl7_
          refine ⟨_, rfl, ?_⟩
          refine Ops_step (R_not rfl) rfl rfl ?_
          refine Ops_step (R_pick_false rfl rfl) rfl rfl ?_
          refine Ops_nil ?_
          refine then_n ?_
          exact ⟨_, rfl, ⟨(!r7_0), _, _, rfl, h, hI, hll3_, hhh3_, trivial⟩, ⟨rfl, rfl, rfl, rfl, trivial⟩⟩
  · simp only [pickE, lookE, putE, zipE, args0, Nat.reduceAdd, Nat.zero_add, List.cons_append, List.nil_append, Nat.reduceBEq, cond_true, cond_false] at hB3_
    subst hB3_
    clear h
    rintro _ w3_ ⟨x30_3, L3_, H3_, rfl, hJ3_, hI3_, hll3_, hhh3_, -⟩
    replace hI := hI3_
    clear hI3_
    have h := hr3_ x30_3 hJ3_
    clear hr3_ hJ3_
    replace hs1 := hs1.up hhh3_
    replace hs3 := hs3.up hhh3_
    refine W_cond rfl (fun hc8_ => ?_) (fun hc8_ => ?_)
    · replace h := h.1 hc8_
      refine W_seq_k fun K9_ hK9_ => ?_
      refine W_region [some 31, some 8] rfl ?_
      refine Ops_call (C_func TOmBack.bd15 rfl) rfl rfl ?_
      refine (sealskinlaw02_awake_ok  hI.st (hg.up hI.le)  h).mono ?_
      rintro _ w10_ ⟨r10_0, L10_, H10_, rfl, hI10_, h⟩
      refine Exists.elim (hI.call hI10_ (by simp)) fun L100_ h10_ => ?_
      have hz10_ := hI.size
      replace hI := h10_.1
      have u10_ := h10_.2.1
      have hl10_ := h10_.2.2
      clear h10_
      clear hI10_ u10_ hl10_
      refine ⟨_, rfl, ?_⟩
      refine Ops_step (R_assign rfl) rfl rfl ?_
      refine Ops_nil ?_
      refine then_n (hK9_ _ _ ?_)
      clear hK9_ K9_
      refine W_keepB [8] fun B11 hB11_ => ?_
      simp only [pickE, lookE, putE, zipE, args0, Nat.reduceAdd, Nat.zero_add, List.cons_append, List.nil_append, Nat.reduceBEq, cond_true, cond_false] at hB11_
      subst hB11_
      refine W_ret ?_
      refine then_ret ?_
      clear hK2_ K2_
      refine ⟨_, ⟨_, _, rfl, rfl, rfl⟩, ?_⟩
      exact ⟨r10_0, _, _, rfl, hI, h⟩
    · replace h := h.2 hc8_
      refine W_skip ?_
      refine then_n (hK2_ _ _ ?_)
      clear hK2_ K2_
      refine W_seq_k fun K12_ hK12_ => ?_
      refine W_region [some 32, some 33, some 34, some 35, some 36, some 37, some 38, some 39, some 40, some 41, some 9] rfl ?_
      refine Ops_step (R_move rfl) rfl rfl ?_
      refine Ops_to (R_buildSlice TOmBack.el48 TOmBack.zr3 (by decide) (by decide) rfl rfl) rfl rfl ?_
      rintro _ w13_ ⟨b13_, rfl, hb13_, hB13_, hF13_⟩
      have ho13_ : OwnS w.heap.size 3 Gh.no H3_ _ (some ⟨b13_, 0, none⟩) 1 ([x0] : List Int) := OwnS.ofBlk hI.st hb13_ hB13_ (all2_sc' _) rfl (by have := hI.size; omega) (by show 1 ≤ maxLen; decide)
      replace hI := hI.fr0 hF13_
      clear hF13_ hB13_
      refine Exists.elim (ho13_.lend hI.st (Le.no _)) fun Hb14_0_ hb14_0_ => ?_
      refine Ops_call (C_func TOmBack.bd19 rfl) rfl rfl ?_
      refine (octet_Put_ok (x0 := []) (x1 := ([x0] : List Int)) hb14_0_.1 (hg.up (hI.le.trans hb14_0_.2.1)) (Nat.le_refl 0) Sl.nil (Nat.le_refl _) hb14_0_.2.2 h).mono ?_
      rintro _ w14_ ⟨A14_0, c14_0, r14_0, L14_, H14_, rfl, hI14_, ho14_0, h⟩
      refine Exists.elim (hI.callB hb14_0_.2.1 hI14_ (by simp)) fun L140_ h14_ => Exists.elim h14_ fun H140_ h14_ => ?_
      have hz14_ := hI.size
      replace hI := h14_.1
      have u14_ := h14_.2.1
      have hl14_ := h14_.2.2.1
      have hh14_ := h14_.2.2.2
      clear h14_
      replace hs1 := hs1.up u14_.hh
      replace hs3 := hs3.up u14_.hh
      replace ho14_0 := OwnS.backS ho14_0 hz14_ hh14_
      clear hI14_ u14_ hl14_
      refine ⟨_, rfl, ?_⟩
      refine Exists.elim (ho14_0.freeze hI) fun L15_ h15_ => Exists.elim h15_ fun H15_ h15_ => ?_
      replace hI := h15_.1
      have u15_ := h15_.2.1
      have hs15_ := h15_.2.2.1 (Le.no _)
      have hc15_ := ho14_0.cap
      replace hs1 := hs1.up u15_.hh
      replace hs3 := hs3.up u15_.hh
      clear h15_ u15_ ho14_0
      refine Ops_step (R_move rfl) rfl rfl ?_
      refine Ops_call (C_func TOmBack.bd18 rfl) rfl rfl ?_
      refine (octet_PutBytes_ok (x0 := r14_0) (x1 := x1) hI.st (hg.up hI.le) hc15_ (hs15_.up hI.sub) hc1 hs1 h).mono ?_
      rintro _ w16_ ⟨A16_0, c16_0, r16_0, L16_, H16_, rfl, hI16_, ho16_0, h⟩
      refine Exists.elim (hI.call hI16_ (by simp)) fun L160_ h16_ => ?_
      have hz16_ := hI.size
      replace hI := h16_.1
      have u16_ := h16_.2.1
      have hl16_ := h16_.2.2
      clear h16_
      replace hs1 := hs1.up u16_.hh
      replace hs3 := hs3.up u16_.hh
      replace ho16_0 := OwnS.backS ho16_0 hz16_ (Le.refl _)
      clear hI16_ u16_ hl16_
      refine ⟨_, rfl, ?_⟩
      refine Exists.elim (ho16_0.freeze hI) fun L17_ h17_ => Exists.elim h17_ fun H17_ h17_ => ?_
      replace hI := h17_.1
      have u17_ := h17_.2.1
      have hs17_ := h17_.2.2.1 (Le.no _)
      have hc17_ := ho16_0.cap
      replace hs1 := hs1.up u17_.hh
      replace hs3 := hs3.up u17_.hh
      clear h17_ u17_ ho16_0
      refine Ops_step (R_move rfl) rfl rfl ?_
      refine Ops_call (C_func TOmBack.bd17 rfl) rfl rfl ?_
      refine (octet_PutText_ok (x0 := r16_0) (x1 := x2) hI.st (hg.up hI.le) hc17_ (hs17_.up hI.sub) h).mono ?_
      rintro _ w18_ ⟨A18_0, c18_0, r18_0, L18_, H18_, rfl, hI18_, ho18_0, h⟩
      refine Exists.elim (hI.call hI18_ (by simp)) fun L180_ h18_ => ?_
      have hz18_ := hI.size
      replace hI := h18_.1
      have u18_ := h18_.2.1
      have hl18_ := h18_.2.2
      clear h18_
      replace hs1 := hs1.up u18_.hh
      replace hs3 := hs3.up u18_.hh
      replace ho18_0 := OwnS.backS ho18_0 hz18_ (Le.refl _)
      clear hI18_ u18_ hl18_
      refine ⟨_, rfl, ?_⟩
      refine Ops_step (R_move rfl) rfl rfl ?_
      have hk20_ := h.1
      replace h := h.2
      refine Ops_to (X_append (α := UInt8) (xs := r18_0) (ys := x3) TOmBack.el22 rfl rfl ho18_0 (Srcs.sc (Srcs.ofSl Tryd.underlying22 hs3 hI.st (by decide))) hI.st hk20_ (by decide) hI.size) rfl rfl ?_
      rintro _ w19_ ⟨A19_, c19_, rfl, ho19_, hF19_, hbk19_⟩
      clear hbk19_
      replace hI := hI.tok hF19_ ho18_0.out (ho18_0.new (Nat.le_refl _))
      clear hF19_ ho18_0
      refine Exists.elim (ho19_.lend hI.st (Le.no _)) fun Hb21_0_ hb21_0_ => ?_
      refine Ops_call (C_func TOmBack.bd16 rfl) rfl rfl ?_
      refine (octet_Read_ok (x0 := (r18_0 ++ x3)) hb21_0_.1 (hg.up (hI.le.trans hb21_0_.2.1)) ho19_.cap hb21_0_.2.2 h).mono ?_
      rintro _ w21_ ⟨d21_0, r21_0, L21_, H21_, rfl, hI21_, hge_d21_0, hr21_0, h⟩
      have hge0_21 := hge_d21_0
      replace hge_d21_0 := Nat.le_trans hI.size hge_d21_0
      refine Exists.elim (hI.callB hb21_0_.2.1 hI21_ (by simp)) fun L210_ h21_ => Exists.elim h21_ fun H210_ h21_ => ?_
      have hz21_ := hI.size
      replace hI := h21_.1
      have u21_ := h21_.2.1
      have hl21_ := h21_.2.2.1
      have hh21_ := h21_.2.2.2
      clear h21_
      replace hs1 := hs1.up u21_.hh
      replace hs3 := hs3.up u21_.hh
      replace hr21_0 := hr21_0.back hl21_ hh21_
      obtain ⟨l21_0_, hl21_0_, ht21_0⟩ := hr21_0
      obtain ⟨A21_0_1, c21_0_1, rfl, ⟨hc21_0_1, hs21_0_1⟩⟩ := hl21_0_
      clear hI21_ u21_ hl21_
      refine ⟨_, rfl, ?_⟩
      refine Ops_step (R_assign rfl) rfl rfl ?_
      refine Ops_nil ?_
      refine then_n (hK12_ _ _ ?_)
      clear hK12_ K12_
      refine W_keepB [0, 1, 2, 3, 9] fun B22 hB22_ => ?_
      simp only [pickE, lookE, putE, zipE, args0, Nat.reduceAdd, Nat.zero_add, List.cons_append, List.nil_append, Nat.reduceBEq, cond_true, cond_false] at hB22_
      subst hB22_
      refine W_seq_k fun K23_ hK23_ => ?_
      refine W_region [some 42, some 43, some 44, some 45, some 46, some 47, some 48, some 49, some 50, some 51, some 10, some 11, some 12] rfl ?_
      refine Ops_step (R_move rfl) rfl rfl ?_
      refine Ops_call (C_func TOmBack.bd20 rfl) rfl rfl ?_
      refine (octet_Reader_Number_ok (x0 := r21_0) hI.st (hg.up hI.le) ⟨_, ⟨A21_0_1, c21_0_1, rfl, ⟨hc21_0_1, (hs21_0_1.up hI.sub)⟩⟩, ht21_0⟩ h).mono ?_
      rintro _ w24_ ⟨r24_0, y24_0, L24_, H24_, rfl, hI24_, hq24_0, h⟩
      refine Exists.elim (hI.call hI24_ (new1 hge_d21_0)) fun L240_ h24_ => ?_
      have hz24_ := hI.size
      replace hI := h24_.1
      have u24_ := h24_.2.1
      have hl24_ := h24_.2.2
      clear h24_
      replace hs1 := hs1.up u24_.hh
      replace hs3 := hs3.up u24_.hh
      replace hs21_0_1 := hs21_0_1.up u24_.ll
      clear ht21_0
      obtain ⟨l24_0_, hl24_0_, ht24_0⟩ := hq24_0
      obtain ⟨A24_0_1, c24_0_1, rfl, ⟨hc24_0_1, hs24_0_1⟩⟩ := hl24_0_
      clear hI24_ u24_ hl24_
      refine ⟨_, rfl, ?_⟩
      refine Ops_step (R_move rfl) rfl rfl ?_
      refine Ops_step (R_move rfl) rfl rfl ?_
      refine Ops_step (R_len Tryd.underlying22 rfl rfl) rfl rfl ?_
      refine Ops_call (C_func TOmBack.bd21 rfl) rfl rfl ?_
      refine (octet_Reader_Bytes_ok (x0 := y24_0) (x1 := (x1.length : Int)) hI.st (hg.up hI.le) ⟨_, ⟨A24_0_1, c24_0_1, rfl, ⟨hc24_0_1, hs24_0_1⟩⟩, ht24_0⟩ h).mono ?_
      rintro _ w25_ ⟨A25_0, c25_0, r25_0, y25_0, L25_, H25_, rfl, hI25_, ho25_0, hq25_0, h⟩
      refine Exists.elim (hI.call hI25_ (new1 hge_d21_0)) fun L250_ h25_ => ?_
      have hz25_ := hI.size
      replace hI := h25_.1
      have u25_ := h25_.2.1
      have hl25_ := h25_.2.2
      clear h25_
      replace hs1 := hs1.up u25_.hh
      replace hs3 := hs3.up u25_.hh
      replace hs24_0_1 := hs24_0_1.up u25_.hh
      replace ho25_0 := OwnS.backS ho25_0 hz25_ (Le.refl _)
      clear ht24_0
      obtain ⟨l25_0_, hl25_0_, ht25_0⟩ := hq25_0
      obtain ⟨A25_0_1, c25_0_1, rfl, ⟨hc25_0_1, hs25_0_1⟩⟩ := hl25_0_
      clear hI25_ u25_ hl25_
      refine ⟨_, rfl, ?_⟩
      refine Exists.elim (ho25_0.freeze hI) fun L26_ h26_ => Exists.elim h26_ fun H26_ h26_ => ?_
      replace hI := h26_.1
      have u26_ := h26_.2.1
      have hs26_ := h26_.2.2.1 (Le.no _)
      have hc26_ := ho25_0.cap
      replace hs1 := hs1.up u26_.hh
      replace hs3 := hs3.up u26_.hh
      replace hs25_0_1 := hs25_0_1.up u26_.hh
      replace ht25_0 := ht25_0.up u26_ (ht25_0.sep ho25_0 (by decide))
      clear h26_ u26_ ho25_0
      refine Ops_step (R_move rfl) rfl rfl ?_
      refine Ops_step (R_move rfl) rfl rfl ?_
      refine Ops_call (C_func TOmBack.bd23 rfl) rfl rfl ?_
      refine (utf8_RuneCountInString_ok (x0 := x2) hI.st (hg.up hI.le)  h).mono ?_
      rintro _ w27_ ⟨r27_0, L27_, H27_, rfl, hI27_, h⟩
      refine Exists.elim (hI.call hI27_ (by simp)) fun L270_ h27_ => ?_
      have hz27_ := hI.size
      replace hI := h27_.1
      have u27_ := h27_.2.1
      have hl27_ := h27_.2.2
      clear h27_
      replace hs1 := hs1.up u27_.hh
      replace hs3 := hs3.up u27_.hh
      replace hs25_0_1 := hs25_0_1.up u27_.hh
      replace ht25_0 := ht25_0.up u27_ (by simp)
      replace hs26_ := hs26_.up u27_.ll
      clear hI27_ u27_ hl27_
      refine ⟨_, rfl, ?_⟩
      refine Ops_call (C_func TOmBack.bd22 rfl) rfl rfl ?_
      refine (octet_Reader_Text_ok (x0 := y25_0) (x1 := r27_0) hI.st (hg.up hI.le) ⟨_, ⟨A25_0_1, c25_0_1, rfl, ⟨hc25_0_1, hs25_0_1⟩⟩, ht25_0⟩ h).mono ?_
      rintro _ w28_ ⟨r28_0, y28_0, L28_, H28_, rfl, hI28_, hq28_0, h⟩
      refine Exists.elim (hI.call hI28_ (new1 hge_d21_0)) fun L280_ h28_ => ?_
      have hz28_ := hI.size
      replace hI := h28_.1
      have u28_ := h28_.2.1
      have hl28_ := h28_.2.2
      clear h28_
      replace hs1 := hs1.up u28_.hh
      replace hs3 := hs3.up u28_.hh
      replace hs25_0_1 := hs25_0_1.up u28_.hh
      replace hs26_ := hs26_.up u28_.ll
      clear ht25_0
      obtain ⟨l28_0_, hl28_0_, ht28_0⟩ := hq28_0
      obtain ⟨A28_0_1, c28_0_1, rfl, ⟨hc28_0_1, hs28_0_1⟩⟩ := hl28_0_
      clear hI28_ u28_ hl28_
      refine ⟨_, rfl, ?_⟩
      refine Ops_step (R_assign rfl) rfl rfl ?_
      refine Ops_step (R_assign rfl) rfl rfl ?_
      refine Ops_step (R_assign rfl) rfl rfl ?_
      refine Ops_nil ?_
      refine then_n (hK23_ _ _ ?_)
      clear hK23_ K23_
      refine W_keepB [0, 1, 2, 3, 9, 10, 11, 12] fun B29 hB29_ => ?_
      simp only [pickE, lookE, putE, zipE, args0, Nat.reduceAdd, Nat.zero_add, List.cons_append, List.nil_append, Nat.reduceBEq, cond_true, cond_false] at hB29_
      subst hB29_
      refine W_seq_k fun K30_ hK30_ => ?_
      refine W_seq_k fun K31_ hK31_ => ?_
      refine W_region [some 52, some 53, some 54] rfl ?_
      refine Ops_step (R_move rfl) rfl rfl ?_
      refine Ops_call (C_func TOmBack.bd23 rfl) rfl rfl ?_
      refine (utf8_RuneCountInString_ok (x0 := x2) hI.st (hg.up hI.le)  h).mono ?_
      rintro _ w32_ ⟨r32_0, L32_, H32_, rfl, hI32_, h⟩
      refine Exists.elim (hI.call hI32_ (by simp)) fun L320_ h32_ => ?_
      have hz32_ := hI.size
      replace hI := h32_.1
      have u32_ := h32_.2.1
      have hl32_ := h32_.2.2
      clear h32_
      replace hs1 := hs1.up u32_.hh
      replace hs3 := hs3.up u32_.hh
      replace hs26_ := hs26_.up u32_.ll
      replace hs28_0_1 := hs28_0_1.up u32_.hh
      replace ht28_0 := ht28_0.up u32_ (by simp)
      clear hI32_ u32_ hl32_
      refine ⟨_, rfl, ?_⟩
      refine Ops_step (R_gtr rfl rfl) rfl rfl ?_
      refine Ops_nil ?_
      refine then_n (hK31_ _ _ ?_)
      clear hK31_ K31_
      refine W_if rfl (fun hc33_ => ?_) (fun hc33_ => ?_)
      · replace h := h.1 hc33_
        refine W_seq_k fun K34_ hK34_ => ?_
        refine W_region [some 55, some 56, some 57, some 58, some 59, some 60, some 61, some 62, some 63, some 64, some 65, some 66, some 8] rfl ?_
        refine Ops_step (R_move rfl) rfl rfl ?_
        refine Ops_step (R_move rfl) rfl rfl ?_
        refine Ops_step (R_max rfl rfl _root_.rfl) rfl rfl ?_
        refine Ops_step (R_eql rfl rfl) rfl rfl ?_
        refine Ops_step (R_move rfl) rfl rfl ?_
        refine Ops_split 59 rfl (fun hg35_ => ?_) (fun hg35_ => ?_)
        · replace h := h.1 hg35_
          refine Ops_step (R_move rfl) rfl rfl ?_
          refine Ops_step (R_move rfl) rfl rfl ?_
          refine Ops_call (C_func TOmBack.bd24 rfl) rfl rfl ?_
          refine (bytes_Equal_ok (x0 := r25_0) (x1 := x1) hI.st (hg.up hI.le) hc26_ (hs26_.up hI.sub) hc1 hs1 h).mono ?_
          rintro _ w36_ ⟨r36_0, L36_, H36_, rfl, hI36_, h⟩
          refine Exists.elim (hI.call hI36_ (by simp)) fun L360_ h36_ => ?_
          have hz36_ := hI.size
          replace hI := h36_.1
          have u36_ := h36_.2.1
          have hl36_ := h36_.2.2
          clear h36_
          clear hI36_ u36_ hl36_
          refine ⟨_, rfl, ?_⟩
          refine Ops_step (R_pick_true rfl rfl) rfl rfl ?_
          refine Ops_step (R_move rfl) rfl rfl ?_
          refine Ops_splitB 64 rfl (fun hg37_ => ?_) (fun hg37_ => ?_)
          · replace h := h.1 hg37_
            refine Ops_call (C_func TOmBack.bd15 rfl) rfl rfl ?_
            refine (sealskinlaw02_awake_ok  hI.st (hg.up hI.le)  h).mono ?_
            rintro _ w38_ ⟨r38_0, L38_, H38_, rfl, hI38_, h⟩
            refine Exists.elim (hI.call hI38_ (by simp)) fun L380_ h38_ => ?_
            have hz38_ := hI.size
            replace hI := h38_.1
            have u38_ := h38_.2.1
            have hl38_ := h38_.2.2
            clear h38_
            clear hI38_ u38_ hl38_
            refine ⟨_, rfl, ?_⟩
            refine Ops_step (R_pick_true rfl rfl) rfl rfl ?_
            refine Ops_step (R_assign rfl) rfl rfl ?_
            refine Ops_nil ?_
            refine then_n (hK34_ _ _ ?_)
            clear hK34_ K34_
            refine W_keepB [8] fun B39 hB39_ => ?_
            simp only [pickE, lookE, putE, zipE, args0, Nat.reduceAdd, Nat.zero_add, List.cons_append, List.nil_append, Nat.reduceBEq, cond_true, cond_false] at hB39_
            subst hB39_
            refine W_ret ?_
            refine then_ret ?_
            clear hK30_ K30_
            refine ⟨_, ⟨_, _, rfl, rfl, rfl⟩, ?_⟩
            exact ⟨r38_0, _, _, rfl, hI, h⟩
          · replace h := h.2 hg37_
            refine Ops_pass rfl rfl ?_
            refine Ops_step (R_pick_false rfl rfl) rfl rfl ?_
            refine Ops_step (R_assign rfl) rfl rfl ?_
            refine Ops_nil ?_
            refine then_n (hK34_ _ _ ?_)
            clear hK34_ K34_
            refine W_keepB [8] fun B40 hB40_ => ?_
            simp only [pickE, lookE, putE, zipE, args0, Nat.reduceAdd, Nat.zero_add, List.cons_append, List.nil_append, Nat.reduceBEq, cond_true, cond_false] at hB40_
            subst hB40_
            refine W_ret ?_
            refine then_ret ?_
            clear hK30_ K30_
            refine ⟨_, ⟨_, _, rfl, rfl, rfl⟩, ?_⟩
            exact ⟨false, _, _, rfl, hI, h⟩
        · replace h := h.2 hg35_
          refine Ops_pass rfl rfl ?_
          refine Ops_pass rfl rfl ?_
          refine Ops_pass rfl rfl ?_
          refine Ops_step (R_pick_false rfl rfl) rfl rfl ?_
          refine Ops_step (R_move rfl) rfl rfl ?_
          refine Ops_pass rfl rfl ?_
          refine Ops_step (R_pick_false rfl rfl) rfl rfl ?_
          refine Ops_step (R_assign rfl) rfl rfl ?_
          refine Ops_nil ?_
          refine then_n (hK34_ _ _ ?_)
          clear hK34_ K34_
          refine W_keepB [8] fun B41 hB41_ => ?_
          simp only [pickE, lookE, putE, zipE, args0, Nat.reduceAdd, Nat.zero_add, List.cons_append, List.nil_append, Nat.reduceBEq, cond_true, cond_false] at hB41_
          subst hB41_
          refine W_ret ?_
          refine then_ret ?_
          clear hK30_ K30_
          refine ⟨_, ⟨_, _, rfl, rfl, rfl⟩, ?_⟩
          exact ⟨false, _, _, rfl, hI, h⟩
      · replace h := h.2 hc33_
        refine W_skip ?_
        refine then_n (hK30_ _ _ ?_)
        clear hK30_ K30_
        refine W_seq_k fun K42_ hK42_ => ?_
        refine W_region [some 67, some 68, some 69, some 70, some 71, some 72, some 73, some 74, some 75, some 76, some 77, some 78, some 79, some 80, some 81, some 82, some 83, some 84, some 85, some 86, some 87, some 88, some 89, some 90, some 91, some 92, some 93, some 94, some 95, some 8] rfl ?_
        refine Ops_step (R_move rfl) rfl rfl ?_
        refine Ops_step (R_move rfl) rfl rfl ?_
        refine Ops_step (R_max rfl rfl _root_.rfl) rfl rfl ?_
        refine Ops_step (R_eql rfl rfl) rfl rfl ?_
        refine Ops_step (R_move rfl) rfl rfl ?_
        refine Ops_split 71 rfl (fun hg43_ => ?_) (fun hg43_ => ?_)
        · replace h := h.1 hg43_
          refine Ops_step (R_move rfl) rfl rfl ?_
          refine Ops_step (R_move rfl) rfl rfl ?_
          refine Ops_call (C_func TOmBack.bd24 rfl) rfl rfl ?_
          refine (bytes_Equal_ok (x0 := r25_0) (x1 := x1) hI.st (hg.up hI.le) hc26_ (hs26_.up hI.sub) hc1 hs1 h).mono ?_
          rintro _ w44_ ⟨r44_0, L44_, H44_, rfl, hI44_, h⟩
          refine Exists.elim (hI.call hI44_ (by simp)) fun L440_ h44_ => ?_
          have hz44_ := hI.size
          replace hI := h44_.1
          have u44_ := h44_.2.1
          have hl44_ := h44_.2.2
          clear h44_
          replace hs3 := hs3.up u44_.hh
          replace hs28_0_1 := hs28_0_1.up u44_.hh
          replace ht28_0 := ht28_0.up u44_ (by simp)
          clear hI44_ u44_ hl44_
          refine ⟨_, rfl, ?_⟩
          refine Ops_step (R_pick_true rfl rfl) rfl rfl ?_
          refine Ops_step (R_move rfl) rfl rfl ?_
          refine Ops_splitB 76 rfl (fun hg45_ => ?_) (fun hg45_ => ?_)
          · replace h := h.1 hg45_
            refine Ops_step (R_move rfl) rfl rfl ?_
            refine Ops_step (R_move rfl) rfl rfl ?_
            refine Ops_step (R_strEqB rfl rfl) rfl rfl ?_
            refine Ops_step (R_pick_true rfl rfl) rfl rfl ?_
            refine Ops_step (R_move rfl) rfl rfl ?_
            refine Ops_split 81 rfl (fun hg46_ => ?_) (fun hg46_ => ?_)
            · replace h := h.1 hg46_
              refine Ops_step (R_move rfl) rfl rfl ?_
              refine Ops_call (C_func TOmBack.bd25 rfl) rfl rfl ?_
              refine (octet_Reader_Left_ok (x0 := y28_0) hI.st (hg.up hI.le) ⟨_, ⟨A28_0_1, c28_0_1, rfl, ⟨hc28_0_1, hs28_0_1⟩⟩, ht28_0⟩ h).mono ?_
              rintro _ w47_ ⟨r47_0, L47_, H47_, rfl, hI47_, h⟩
              refine Exists.elim (hI.call hI47_ (by simp)) fun L470_ h47_ => ?_
              have hz47_ := hI.size
              replace hI := h47_.1
              have u47_ := h47_.2.1
              have hl47_ := h47_.2.2
              clear h47_
              replace hs3 := hs3.up u47_.hh
              replace hs28_0_1 := hs28_0_1.up u47_.hh
              replace ht28_0 := ht28_0.up u47_ (by simp)
              clear hI47_ u47_ hl47_
              refine ⟨_, rfl, ?_⟩
              refine Ops_step (R_move rfl) rfl rfl ?_
              refine Ops_step (R_len Tryd.underlying22 rfl rfl) rfl rfl ?_
              refine Ops_step (R_eql rfl rfl) rfl rfl ?_
              refine Ops_step (R_pick_true rfl rfl) rfl rfl ?_
              refine Ops_step (R_move rfl) rfl rfl ?_
              refine Ops_split 88 rfl (fun hg48_ => ?_) (fun hg48_ => ?_)
              · replace h := h.1 hg48_
                refine Ops_step (R_move rfl) rfl rfl ?_
                refine Ops_call (C_func TOmBack.bd26 rfl) rfl rfl ?_
                refine (octet_Reader_Err_ok (x0 := y28_0) hI.st (hg.up hI.le) ⟨_, ⟨A28_0_1, c28_0_1, rfl, ⟨hc28_0_1, hs28_0_1⟩⟩, ht28_0⟩ h).mono ?_
                rintro _ w49_ ⟨r49_0, L49_, H49_, rfl, hI49_, h⟩
                refine Exists.elim (hI.call hI49_ (by simp)) fun L490_ h49_ => ?_
                have hz49_ := hI.size
                replace hI := h49_.1
                have u49_ := h49_.2.1
                have hl49_ := h49_.2.2
                clear h49_
                clear hI49_ u49_ hl49_
                refine ⟨_, rfl, ?_⟩
                refine Ops_step (R_eql rfl rfl) rfl rfl ?_
                refine Ops_step (R_pick_true rfl rfl) rfl rfl ?_
                refine Ops_step (R_move rfl) rfl rfl ?_
                refine Ops_split 93 rfl (fun hg50_ => ?_) (fun hg50_ => ?_)
                · replace h := h.1 hg50_
                  refine Ops_call (C_func TOmBack.bd15 rfl) rfl rfl ?_
                  refine (sealskinlaw02_awake_ok  hI.st (hg.up hI.le)  h).mono ?_
                  rintro _ w51_ ⟨r51_0, L51_, H51_, rfl, hI51_, h⟩
                  refine Exists.elim (hI.call hI51_ (by simp)) fun L510_ h51_ => ?_
                  have hz51_ := hI.size
                  replace hI := h51_.1
                  have u51_ := h51_.2.1
                  have hl51_ := h51_.2.2
                  clear h51_
                  clear hI51_ u51_ hl51_
                  refine ⟨_, rfl, ?_⟩
                  refine Ops_step (R_pick_true rfl rfl) rfl rfl ?_
                  refine Ops_step (R_assign rfl) rfl rfl ?_
                  refine Ops_nil ?_
                  refine then_n (hK42_ _ _ ?_)
                  clear hK42_ K42_
                  refine W_keepB [8] fun B52 hB52_ => ?_
                  simp only [pickE, lookE, putE, zipE, args0, Nat.reduceAdd, Nat.zero_add, List.cons_append, List.nil_append, Nat.reduceBEq, cond_true, cond_false] at hB52_
                  subst hB52_
                  refine W_ret ?_
                  refine ⟨_, ⟨_, _, rfl, rfl, rfl⟩, ?_⟩
                  exact ⟨r51_0, _, _, rfl, hI, h⟩
                · replace h := h.2 hg50_
                  refine Ops_pass rfl rfl ?_
                  refine Ops_step (R_pick_false rfl rfl) rfl rfl ?_
                  refine Ops_step (R_assign rfl) rfl rfl ?_
                  refine Ops_nil ?_
                  refine then_n (hK42_ _ _ ?_)
                  clear hK42_ K42_
                  refine W_keepB [8] fun B53 hB53_ => ?_
                  simp only [pickE, lookE, putE, zipE, args0, Nat.reduceAdd, Nat.zero_add, List.cons_append, List.nil_append, Nat.reduceBEq, cond_true, cond_false] at hB53_
                  subst hB53_
                  refine W_ret ?_
                  refine ⟨_, ⟨_, _, rfl, rfl, rfl⟩, ?_⟩
                  exact ⟨false, _, _, rfl, hI, h⟩
              · replace h := h.2 hg48_
                refine Ops_pass rfl rfl ?_
                refine Ops_pass rfl rfl ?_
                refine Ops_pass rfl rfl ?_
                refine Ops_step (R_pick_false rfl rfl) rfl rfl ?_
                refine Ops_step (R_move rfl) rfl rfl ?_
                refine Ops_pass rfl rfl ?_
                refine Ops_step (R_pick_false rfl rfl) rfl rfl ?_
                refine Ops_step (R_assign rfl) rfl rfl ?_
                refine Ops_nil ?_
                refine then_n (hK42_ _ _ ?_)
                clear hK42_ K42_
                refine W_keepB [8] fun B54 hB54_ => ?_
                simp only [pickE, lookE, putE, zipE, args0, Nat.reduceAdd, Nat.zero_add, List.cons_append, List.nil_append, Nat.reduceBEq, cond_true, cond_false] at hB54_
                subst hB54_
                refine W_ret ?_
                refine ⟨_, ⟨_, _, rfl, rfl, rfl⟩, ?_⟩
                exact ⟨false, _, _, rfl, hI, h⟩
            · replace h := h.2 hg46_
              refine Ops_pass rfl rfl ?_
              refine Ops_pass rfl rfl ?_
              refine Ops_pass rfl rfl ?_
              refine Ops_pass rfl rfl ?_
              refine Ops_pass rfl rfl ?_
              refine Ops_step (R_pick_false rfl rfl) rfl rfl ?_
              refine Ops_step (R_move rfl) rfl rfl ?_
              refine Ops_pass rfl rfl ?_
              refine Ops_pass rfl rfl ?_
              refine Ops_pass rfl rfl ?_
              refine Ops_step (R_pick_false rfl rfl) rfl rfl ?_
              refine Ops_step (R_move rfl) rfl rfl ?_
              refine Ops_pass rfl rfl ?_
              refine Ops_step (R_pick_false rfl rfl) rfl rfl ?_
              refine Ops_step (R_assign rfl) rfl rfl ?_
              refine Ops_nil ?_
              refine then_n (hK42_ _ _ ?_)
              clear hK42_ K42_
              refine W_keepB [8] fun B55 hB55_ => ?_
              simp only [pickE, lookE, putE, zipE, args0, Nat.reduceAdd, Nat.zero_add, List.cons_append, List.nil_append, Nat.reduceBEq, cond_true, cond_false] at hB55_
              subst hB55_
              refine W_ret ?_
              refine ⟨_, ⟨_, _, rfl, rfl, rfl⟩, ?_⟩
              exact ⟨false, _, _, rfl, hI, h⟩
          · replace h := h.2 hg45_
            refine Ops_pass rfl rfl ?_
            refine Ops_pass rfl rfl ?_
            refine Ops_pass rfl rfl ?_
            refine Ops_step (R_pick_false rfl rfl) rfl rfl ?_
            refine Ops_step (R_move rfl) rfl rfl ?_
            refine Ops_pass rfl rfl ?_
            refine Ops_pass rfl rfl ?_
            refine Ops_pass rfl rfl ?_
            refine Ops_pass rfl rfl ?_
            refine Ops_pass rfl rfl ?_
            refine Ops_step (R_pick_false rfl rfl) rfl rfl ?_
            refine Ops_step (R_move rfl) rfl rfl ?_
            refine Ops_pass rfl rfl ?_
            refine Ops_pass rfl rfl ?_
            refine Ops_pass rfl rfl ?_
            refine Ops_step (R_pick_false rfl rfl) rfl rfl ?_
            refine Ops_step (R_move rfl) rfl rfl ?_
            refine Ops_pass rfl rfl ?_
            refine Ops_step (R_pick_false rfl rfl) rfl rfl ?_
            refine Ops_step (R_assign rfl) rfl rfl ?_
            refine Ops_nil ?_
            refine then_n (hK42_ _ _ ?_)
            clear hK42_ K42_
            refine W_keepB [8] fun B56 hB56_ => ?_
            simp only [pickE, lookE, putE, zipE, args0, Nat.reduceAdd, Nat.zero_add, List.cons_append, List.nil_append, Nat.reduceBEq, cond_true, cond_false] at hB56_
            subst hB56_
            refine W_ret ?_
            refine ⟨_, ⟨_, _, rfl, rfl, rfl⟩, ?_⟩
            exact ⟨false, _, _, rfl, hI, h⟩
        · replace h := h.2 hg43_
          refine Ops_pass rfl rfl ?_
          refine Ops_pass rfl rfl ?_
          refine Ops_pass rfl rfl ?_
          refine Ops_step (R_pick_false rfl rfl) rfl rfl ?_
          refine Ops_step (R_move rfl) rfl rfl ?_
          refine Ops_pass rfl rfl ?_
          refine Ops_pass rfl rfl ?_
          refine Ops_pass rfl rfl ?_
          refine Ops_step (R_pick_false rfl rfl) rfl rfl ?_
          refine Ops_step (R_move rfl) rfl rfl ?_
          refine Ops_pass rfl rfl ?_
          refine Ops_pass rfl rfl ?_
          refine Ops_pass rfl rfl ?_
          refine Ops_pass rfl rfl ?_
          refine Ops_pass rfl rfl ?_
          refine Ops_step (R_pick_false rfl rfl) rfl rfl ?_
          refine Ops_step (R_move rfl) rfl rfl ?_
          refine Ops_pass rfl rfl ?_
          refine Ops_pass rfl rfl ?_
          refine Ops_pass rfl rfl ?_
          refine Ops_step (R_pick_false rfl rfl) rfl rfl ?_
          refine Ops_step (R_move rfl) rfl rfl ?_
          refine Ops_pass rfl rfl ?_
          refine Ops_step (R_pick_false rfl rfl) rfl rfl ?_
          refine Ops_step (R_assign rfl) rfl rfl ?_
          refine Ops_nil ?_
          refine then_n (hK42_ _ _ ?_)
          clear hK42_ K42_
          refine W_keepB [8] fun B57 hB57_ => ?_
          simp only [pickE, lookE, putE, zipE, args0, Nat.reduceAdd, Nat.zero_add, List.cons_append, List.nil_append, Nat.reduceBEq, cond_true, cond_false] at hB57_
          subst hB57_
          refine W_ret ?_
          refine ⟨_, ⟨_, _, rfl, rfl, rfl⟩, ?_⟩
          exact ⟨false, _, _, rfl, hI, h⟩

end Go.Proofs.YtdnpdljnjoegiaaDoor
