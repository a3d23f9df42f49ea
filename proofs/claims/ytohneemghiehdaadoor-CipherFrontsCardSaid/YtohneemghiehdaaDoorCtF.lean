/- What the walks of this seat show of CtF. -/
import Derived.Test.YtohneemghiehdaaDoorCtFp
import Derived.Test.YtohneemghiehdaaDoorCtB
import Derived.Test.YtohneemghiehdaaDoorCk
import Derived.Test.YtohneemghiehdaaDoorProg
set_option linter.unusedVariables false
set_option linter.unusedSimpArgs false
namespace Go.Proofs.YtohneemghiehdaaDoor
open Go Go.Sx Go.Lx
namespace TCtF
theorem hm : Tryd.prog.follows .mixedOrders = true := by kernel_rfl
theorem bd10 : bodied Tryd.prog 10 = true := by kernel_rfl
theorem bd11 : bodied Tryd.prog 11 = true := by kernel_rfl
theorem bd12 : bodied Tryd.prog 12 = true := by kernel_rfl
theorem bd20 : bodied Tryd.prog 20 = true := by kernel_rfl
theorem bd21 : bodied Tryd.prog 21 = true := by kernel_rfl
theorem el37 : Elem Tryd.prog 37 22 1 24 := Elem.of (by kernel_rfl)
theorem zr22 : zr Tryd.prog 22 = some ([.slice none 0 0]) := by kernel_rfl
end TCtF
set_option maxHeartbeats 4000000 in
theorem sealskinlaw08_CipherFronts_ok {G : Gh} {w : World} (hS : St G w) (hg : GL G) {A0 : Option Addr} {c0 : Nat} {x0 : List UInt8} (hc0 : x0.length ≤ c0) (hs0 : Sl G A0 x0) {x1 : BitVec 64} {A2 : Option Addr} {c2 : Nat} {x2 : List UInt8} (hc2 : x2.length ≤ c2) (hs2 : Sl G A2 x2) {A3 : Option Addr} {c3 : Nat} {x3 : List UInt8} (hc3 : x3.length ≤ c3) (hs3 : Sl G A3 x3) {Q : Bool → Prop} (h : sealskinlaw08_CipherFronts x0 x1 x2 x3 Q) : Calls Tryd.prog 9 #[.slice A0 x0.length c0, w64 x1, .slice A2 x2.length c2, .slice A3 x3.length c3] w fun e w2 => ∃ (r0 : Bool) (L H : Gh), e = .returned (.bool r0) ∧ Inv [] G w L H w2 ∧ Q r0 := by
  unfold sealskinlaw08_CipherFronts at h
  have hI := Inv.start (M := []) hS
  refine calls_W 68 Tryd.func9 rfl Tryd.ntmps9 rfl [.tmp 8] rfl ?_
  refine W_seq_k fun K1_ hK1_ => ?_
  refine W_region [some 8] rfl ?_
  refine Ops_step (R_assign rfl) rfl rfl ?_
  refine Ops_nil ?_
  refine then_n (hK1_ _ _ ?_)
  clear hK1_ K1_
  refine W_seq_k fun K2_ hK2_ => ?_
  refine W_seq_k fun K3_ hK3_ => ?_
  refine W_region [some 13, some 14, some 15, some 16, some 17] rfl ?_
  refine Ops_step (R_move rfl) rfl rfl ?_
  refine Ops_step (R_move rfl) rfl rfl ?_
  refine Ops_step (R_move rfl) rfl rfl ?_
  refine Ops_to (R_buildSlice TCtF.el37 TCtF.zr22 (by decide) (by decide) rfl rfl) rfl rfl ?_
  rintro _ w4_ ⟨b4_, rfl, hb4_, hB4_, hF4_⟩
  have ho4_ : OwnS w.heap.size 22 G G _ (some ⟨b4_, 0, none⟩) 3 ([x0, x2, x3] : List (List UInt8)) := OwnS.ofBlk (css := [[.slice A0 x0.length c0], [.slice A2 x2.length c2], [.slice A3 x3.length c3]]) hI.st hb4_ hB4_ (.cons ⟨A0, c0, rfl, hc0, hs0⟩ (.cons ⟨A2, c2, rfl, hc2, hs2⟩ (.cons ⟨A3, c3, rfl, hc3, hs3⟩ .nil))) rfl (by have := hI.size; omega) (by show 3 ≤ maxLen; decide)
  replace hI := hI.fr0 hF4_
  clear hF4_ hB4_
  refine Exists.elim (ho4_.lend hI.st (Le.refl _)) fun Hb5_0_ hb5_0_ => ?_
  refine Ops_call (C_func TCtF.bd10 rfl) rfl rfl ?_
  refine (sealskinlaw08_long_ok (x0 := ([x0, x2, x3] : List (List UInt8))) hb5_0_.1 (hg.up (hI.le.trans hb5_0_.2.1)) (Nat.le_refl _) hb5_0_.2.2 h).mono ?_
  rintro _ w5_ ⟨r5_0, L5_, H5_, rfl, hI5_, h⟩
  refine Exists.elim (hI.callB hb5_0_.2.1 hI5_ (by simp)) fun L50_ h5_ => Exists.elim h5_ fun H50_ h5_ => ?_
  have hz5_ := hI.size
  replace hI := h5_.1
  have u5_ := h5_.2.1
  have hl5_ := h5_.2.2.1
  have hh5_ := h5_.2.2.2
  clear h5_
  replace hs0 := hs0.up u5_.hh
  replace hs2 := hs2.up u5_.hh
  replace hs3 := hs3.up u5_.hh
  clear hI5_ u5_ hl5_
  refine ⟨_, rfl, ?_⟩
  refine Ops_nil ?_
  refine then_n (hK3_ _ _ ?_)
  clear hK3_ K3_
  refine W_cond rfl (fun hc6_ => ?_) (fun hc6_ => ?_)
  · replace h := h.1 hc6_
    refine W_seq_k fun K7_ hK7_ => ?_
    refine W_region [some 18, some 8] rfl ?_
    refine Ops_call (C_func TCtF.bd11 rfl) rfl rfl ?_
    refine (sealskinlaw08_awake_ok  hI.st (hg.up hI.le)  h).mono ?_
    rintro _ w8_ ⟨r8_0, L8_, H8_, rfl, hI8_, h⟩
    refine Exists.elim (hI.call hI8_ (by simp)) fun L80_ h8_ => ?_
    have hz8_ := hI.size
    replace hI := h8_.1
    have u8_ := h8_.2.1
    have hl8_ := h8_.2.2
    clear h8_
    clear hI8_ u8_ hl8_
    refine ⟨_, rfl, ?_⟩
    refine Ops_step (R_assign rfl) rfl rfl ?_
    refine Ops_nil ?_
    refine then_n (hK7_ _ _ ?_)
    clear hK7_ K7_
    refine W_keepB [8] fun B9 hB9_ => ?_
    simp only [pickE, lookE, putE, zipE, args0, Nat.reduceAdd, Nat.zero_add, List.cons_append, List.nil_append, Nat.reduceBEq, cond_true, cond_false] at hB9_
    subst hB9_
    refine W_ret ?_
    refine then_ret ?_
    clear hK2_ K2_
    refine ⟨_, ⟨_, _, rfl, rfl, rfl⟩, ?_⟩
    exact ⟨r8_0, _, _, rfl, hI, h⟩
  · replace h := h.2 hc6_
    refine W_skip ?_
    refine then_n (hK2_ _ _ ?_)
    clear hK2_ K2_
    refine W_keepB [0, 1, 2, 3] fun B10 hB10_ => ?_
    simp only [pickE, lookE, putE, zipE, args0, Nat.reduceAdd, Nat.zero_add, List.cons_append, List.nil_append, Nat.reduceBEq, cond_true, cond_false] at hB10_
    subst hB10_
    refine W_seq_k fun K11_ hK11_ => ?_
    refine W_region [some 20, some 21, some 22, some 23, some 19, some 24, some 25, some 9, some 10] rfl ?_
    refine Ops_step (R_move rfl) rfl rfl ?_
    refine Ops_step (R_move rfl) rfl rfl ?_
    refine Ops_step (R_move rfl) rfl rfl ?_
    refine Ops_call (C_func TCtF.bd12 rfl) rfl rfl ?_
    refine (cipher_Turn_ok (x0 := x0) (x1 := x1) (x2 := x2) hI.st (hg.up hI.le) hc0 hs0 hc2 hs2 h).mono ?_
    rintro _ w12_ ⟨A12_0, c12_0, r12_0, r12_1, L12_, H12_, rfl, hI12_, ho12_0, h⟩
    refine Exists.elim (hI.call hI12_ (by simp)) fun L120_ h12_ => ?_
    have hz12_ := hI.size
    replace hI := h12_.1
    have u12_ := h12_.2.1
    have hl12_ := h12_.2.2
    clear h12_
    replace hs0 := hs0.up u12_.hh
    replace hs2 := hs2.up u12_.hh
    replace hs3 := hs3.up u12_.hh
    replace ho12_0 := OwnS.backS ho12_0 hz12_ (Le.refl _)
    clear hI12_ u12_ hl12_
    refine ⟨_, rfl, ?_⟩
    refine Exists.elim (ho12_0.freeze hI) fun L13_ h13_ => Exists.elim h13_ fun H13_ h13_ => ?_
    replace hI := h13_.1
    have u13_ := h13_.2.1
    have hs13_ := h13_.2.2.1 (Le.no _)
    have hc13_ := ho12_0.cap
    replace hs0 := hs0.up u13_.hh
    replace hs2 := hs2.up u13_.hh
    replace hs3 := hs3.up u13_.hh
    clear h13_ u13_ ho12_0
    refine Ops_step (R_move rfl) rfl rfl ?_
    refine Ops_step (R_extract (v := .slice A12_0 r12_0.length c12_0) rfl rfl) rfl rfl ?_
    refine Ops_step (R_extract (v := vi r12_1) rfl rfl) rfl rfl ?_
    refine Ops_step (R_assign rfl) rfl rfl ?_
    refine Ops_step (R_assign rfl) rfl rfl ?_
    refine Ops_nil ?_
    refine then_n (hK11_ _ _ ?_)
    clear hK11_ K11_
    refine W_keepB [0, 1, 2, 3, 9, 10] fun B14 hB14_ => ?_
    simp only [pickE, lookE, putE, zipE, args0, Nat.reduceAdd, Nat.zero_add, List.cons_append, List.nil_append, Nat.reduceBEq, cond_true, cond_false] at hB14_
    subst hB14_
    refine W_seq_k fun K15_ hK15_ => ?_
    refine W_region [some 27, some 28, some 29, some 30, some 31, some 32, some 33, some 26, some 34, some 35, some 11, some 12] rfl ?_
    refine Ops_step (R_move rfl) rfl rfl ?_
    refine Ops_step (R_move rfl) rfl rfl ?_
    refine Ops_step (R_move rfl) rfl rfl ?_
    refine Ops_step (R_move rfl) rfl rfl ?_
    refine Ops_to (R_buildSlice TCtF.el37 TCtF.zr22 (by decide) (by decide) rfl rfl) rfl rfl ?_
    rintro _ w16_ ⟨b16_, rfl, hb16_, hB16_, hF16_⟩
    have ho16_ : OwnS w.heap.size 22 H13_ H13_ _ (some ⟨b16_, 0, none⟩) 2 ([x2, x3] : List (List UInt8)) := OwnS.ofBlk (css := [[.slice A2 x2.length c2], [.slice A3 x3.length c3]]) hI.st hb16_ hB16_ (.cons ⟨A2, c2, rfl, hc2, hs2⟩ (.cons ⟨A3, c3, rfl, hc3, hs3⟩ .nil)) rfl (by have := hI.size; omega) (by show 2 ≤ maxLen; decide)
    replace hI := hI.fr0 hF16_
    clear hF16_ hB16_
    refine Exists.elim (ho16_.lend hI.st (Le.refl _)) fun Hb17_0_ hb17_0_ => ?_
    refine Ops_call (C_func TCtF.bd20 rfl) rfl rfl ?_
    refine (slices_Concat_ok (x0 := ([x2, x3] : List (List UInt8))) hb17_0_.1 (hg.up (hI.le.trans hb17_0_.2.1)) (Nat.le_refl _) hb17_0_.2.2 h).mono ?_
    rintro _ w17_ ⟨A17_0, c17_0, r17_0, L17_, H17_, rfl, hI17_, hc17_0, hs17_0, h⟩
    refine Exists.elim (hI.callB hb17_0_.2.1 hI17_ (by simp)) fun L170_ h17_ => Exists.elim h17_ fun H170_ h17_ => ?_
    have hz17_ := hI.size
    replace hI := h17_.1
    have u17_ := h17_.2.1
    have hl17_ := h17_.2.2.1
    have hh17_ := h17_.2.2.2
    clear h17_
    replace hs0 := hs0.up u17_.hh
    replace hs2 := hs2.up u17_.hh
    replace hs3 := hs3.up u17_.hh
    replace hs13_ := hs13_.up u17_.ll
    replace hs17_0 := hs17_0.up hl17_
    clear hI17_ u17_ hl17_
    refine ⟨_, rfl, ?_⟩
    refine Ops_call (C_func TCtF.bd12 rfl) rfl rfl ?_
    refine (cipher_Turn_ok (x0 := x0) (x1 := x1) (x2 := r17_0) hI.st (hg.up hI.le) hc0 hs0 hc17_0 (hs17_0.up hI.sub) h).mono ?_
    rintro _ w18_ ⟨A18_0, c18_0, r18_0, r18_1, L18_, H18_, rfl, hI18_, ho18_0, h⟩
    refine Exists.elim (hI.call hI18_ (by simp)) fun L180_ h18_ => ?_
    have hz18_ := hI.size
    replace hI := h18_.1
    have u18_ := h18_.2.1
    have hl18_ := h18_.2.2
    clear h18_
    replace hs2 := hs2.up u18_.hh
    replace hs3 := hs3.up u18_.hh
    replace hs13_ := hs13_.up u18_.ll
    replace ho18_0 := OwnS.backS ho18_0 hz18_ (Le.refl _)
    clear hI18_ u18_ hl18_
    refine ⟨_, rfl, ?_⟩
    refine Exists.elim (ho18_0.freeze hI) fun L19_ h19_ => Exists.elim h19_ fun H19_ h19_ => ?_
    replace hI := h19_.1
    have u19_ := h19_.2.1
    have hs19_ := h19_.2.2.1 (Le.no _)
    have hc19_ := ho18_0.cap
    replace hs2 := hs2.up u19_.hh
    replace hs3 := hs3.up u19_.hh
    replace hs13_ := hs13_.up u19_.ll
    clear h19_ u19_ ho18_0
    refine Ops_step (R_move rfl) rfl rfl ?_
    refine Ops_step (R_extract (v := .slice A18_0 r18_0.length c18_0) rfl rfl) rfl rfl ?_
    refine Ops_step (R_extract (v := vi r18_1) rfl rfl) rfl rfl ?_
    refine Ops_step (R_assign rfl) rfl rfl ?_
    refine Ops_step (R_assign rfl) rfl rfl ?_
    refine Ops_nil ?_
    refine then_n (hK15_ _ _ ?_)
    clear hK15_ K15_
    refine W_keepB [2, 3, 9, 10, 11, 12] fun B20 hB20_ => ?_
    simp only [pickE, lookE, putE, zipE, args0, Nat.reduceAdd, Nat.zero_add, List.cons_append, List.nil_append, Nat.reduceBEq, cond_true, cond_false] at hB20_
    subst hB20_
    refine W_seq_k fun K21_ hK21_ => ?_
    refine W_region [some 36, some 37, some 38, some 39, some 40, some 41, some 42, some 43, some 44, some 45, some 46, some 47, some 48, some 49, some 50, some 51, some 52, some 53, some 54, some 55, some 56, some 57, some 58, some 59, some 60, some 61, some 62, some 63, some 64, some 65, some 66, some 67, some 8] rfl ?_
    refine Ops_step (R_move rfl) rfl rfl ?_
    refine Ops_step (R_move rfl) rfl rfl ?_
    refine Ops_step (R_eql rfl rfl) rfl rfl ?_
    refine Ops_step (R_move rfl) rfl rfl ?_
    refine Ops_split 39 rfl (fun hg22_ => ?_) (fun hg22_ => ?_)
    · replace h := h.1 hg22_
      refine Ops_step (R_move rfl) rfl rfl ?_
      refine Ops_step (R_move rfl) rfl rfl ?_
      refine Ops_call (C_func TCtF.bd21 rfl) rfl rfl ?_
      refine (bytes_HasPrefix_ok (x0 := r18_0) (x1 := r12_0) hI.st (hg.up hI.le) hc19_ (hs19_.up hI.sub) hc13_ (hs13_.up hI.sub) h).mono ?_
      rintro _ w23_ ⟨r23_0, L23_, H23_, rfl, hI23_, h⟩
      refine Exists.elim (hI.call hI23_ (by simp)) fun L230_ h23_ => ?_
      have hz23_ := hI.size
      replace hI := h23_.1
      have u23_ := h23_.2.1
      have hl23_ := h23_.2.2
      clear h23_
      replace hs2 := hs2.up u23_.hh
      replace hs3 := hs3.up u23_.hh
      replace hs13_ := hs13_.up u23_.ll
      replace hs19_ := hs19_.up u23_.ll
      clear hI23_ u23_ hl23_
      refine ⟨_, rfl, ?_⟩
      refine Ops_step (R_pick_true rfl rfl) rfl rfl ?_
      refine Ops_step (R_move rfl) rfl rfl ?_
      refine Ops_splitB 44 rfl (fun hg24_ => ?_) (fun hg24_ => ?_)
      · replace h := h.1 hg24_
        refine Ops_step (R_move rfl) rfl rfl ?_
        refine Ops_step (R_neq rfl rfl) rfl rfl ?_
        refine Ops_step (R_move rfl) rfl rfl ?_
        refine Ops_split 47 rfl (fun hg25_ => ?_) (fun hg25_ => ?_)
        · replace h := h.1 hg25_
          refine Ops_pass rfl rfl ?_
          refine Ops_pass rfl rfl ?_
          refine Ops_pass rfl rfl ?_
          refine Ops_pass rfl rfl ?_
          refine Ops_pass rfl rfl ?_
          refine Ops_pass rfl rfl ?_
          refine Ops_passU rfl rfl ?_
          refine Ops_passU rfl rfl ?_
          refine Ops_passU rfl rfl ?_
          refine Ops_passU rfl rfl ?_
          refine Ops_passU rfl rfl ?_
          refine Ops_passU rfl rfl ?_
          refine Ops_passU rfl rfl ?_
          refine Ops_passU rfl rfl ?_
          refine Ops_pass rfl rfl ?_
          refine Ops_step (R_pick_true rfl rfl) rfl rfl ?_
          refine Ops_step (R_pick_true rfl rfl) rfl rfl ?_
          refine Ops_step (R_move rfl) rfl rfl ?_
          refine Ops_call (C_func TCtF.bd11 rfl) rfl rfl ?_
          refine (sealskinlaw08_awake_ok  hI.st (hg.up hI.le)  h).mono ?_
          rintro _ w26_ ⟨r26_0, L26_, H26_, rfl, hI26_, h⟩
          refine Exists.elim (hI.call hI26_ (by simp)) fun L260_ h26_ => ?_
          have hz26_ := hI.size
          replace hI := h26_.1
          have u26_ := h26_.2.1
          have hl26_ := h26_.2.2
          clear h26_
          clear hI26_ u26_ hl26_
          refine ⟨_, rfl, ?_⟩
          refine Ops_step (R_pick_true rfl rfl) rfl rfl ?_
          refine Ops_step (R_assign rfl) rfl rfl ?_
          refine Ops_nil ?_
          refine then_n (hK21_ _ _ ?_)
          clear hK21_ K21_
          refine W_keepB [8] fun B27 hB27_ => ?_
          simp only [pickE, lookE, putE, zipE, args0, Nat.reduceAdd, Nat.zero_add, List.cons_append, List.nil_append, Nat.reduceBEq, cond_true, cond_false] at hB27_
          subst hB27_
          refine W_ret ?_
          refine ⟨_, ⟨_, _, rfl, rfl, rfl⟩, ?_⟩
          exact ⟨r26_0, _, _, rfl, hI, h⟩
        · replace h := h.2 hg25_
          refine Ops_step (R_move rfl) rfl rfl ?_
          refine Ops_step (R_len Tryd.underlying22 rfl rfl) rfl rfl ?_
          refine Ops_step (R_move rfl) rfl rfl ?_
          refine Ops_step (R_len Tryd.underlying22 rfl rfl) rfl rfl ?_
          refine Ops_step (R_eql rfl rfl) rfl rfl ?_
          refine Ops_step (R_move rfl) rfl rfl ?_
          refine Ops_split 53 rfl (fun hg28_ => ?_) (fun hg28_ => ?_)
          · replace h := h.1 hg28_
            refine Ops_step (R_move rfl) rfl rfl ?_
            refine Ops_step (R_len Tryd.underlying22 rfl rfl) rfl rfl ?_
            refine Ops_step (R_move rfl) rfl rfl ?_
            refine Ops_step (R_len Tryd.underlying22 rfl rfl) rfl rfl ?_
            refine Ops_step (R_move rfl) rfl rfl ?_
            refine Ops_step (R_len Tryd.underlying22 rfl rfl) rfl rfl ?_
            have hk29_ := h.1
            replace h := h.2
            refine Ops_step (R_add rfl rfl (wI hk29_.1 hk29_.2)) rfl rfl ?_
            refine Ops_step (R_eql rfl rfl) rfl rfl ?_
            refine Ops_step (R_pick_true rfl rfl) rfl rfl ?_
            refine Ops_step (R_pick_false rfl rfl) rfl rfl ?_
            refine Ops_step (R_pick_true rfl rfl) rfl rfl ?_
            refine Ops_step (R_move rfl) rfl rfl ?_
            refine Ops_split 65 rfl (fun hg30_ => ?_) (fun hg30_ => ?_)
            · replace h := h.1 hg30_
              refine Ops_call (C_func TCtF.bd11 rfl) rfl rfl ?_
              refine (sealskinlaw08_awake_ok  hI.st (hg.up hI.le)  h).mono ?_
              rintro _ w31_ ⟨r31_0, L31_, H31_, rfl, hI31_, h⟩
              refine Exists.elim (hI.call hI31_ (by simp)) fun L310_ h31_ => ?_
              have hz31_ := hI.size
              replace hI := h31_.1
              have u31_ := h31_.2.1
              have hl31_ := h31_.2.2
              clear h31_
              clear hI31_ u31_ hl31_
              refine ⟨_, rfl, ?_⟩
              refine Ops_step (R_pick_true rfl rfl) rfl rfl ?_
              refine Ops_step (R_assign rfl) rfl rfl ?_
              refine Ops_nil ?_
              refine then_n (hK21_ _ _ ?_)
              clear hK21_ K21_
              refine W_keepB [8] fun B32 hB32_ => ?_
              simp only [pickE, lookE, putE, zipE, args0, Nat.reduceAdd, Nat.zero_add, List.cons_append, List.nil_append, Nat.reduceBEq, cond_true, cond_false] at hB32_
              subst hB32_
              refine W_ret ?_
              refine ⟨_, ⟨_, _, rfl, rfl, rfl⟩, ?_⟩
              exact ⟨r31_0, _, _, rfl, hI, h⟩
            · replace h := h.2 hg30_
              refine Ops_pass rfl rfl ?_
              refine Ops_step (R_pick_false rfl rfl) rfl rfl ?_
              refine Ops_step (R_assign rfl) rfl rfl ?_
              refine Ops_nil ?_
              refine then_n (hK21_ _ _ ?_)
              clear hK21_ K21_
              refine W_keepB [8] fun B33 hB33_ => ?_
              simp only [pickE, lookE, putE, zipE, args0, Nat.reduceAdd, Nat.zero_add, List.cons_append, List.nil_append, Nat.reduceBEq, cond_true, cond_false] at hB33_
              subst hB33_
              refine W_ret ?_
              refine ⟨_, ⟨_, _, rfl, rfl, rfl⟩, ?_⟩
              exact ⟨false, _, _, rfl, hI, h⟩
          · replace h := h.2 hg28_
            refine Ops_pass rfl rfl ?_
            refine Ops_pass rfl rfl ?_
            refine Ops_pass rfl rfl ?_
            refine Ops_pass rfl rfl ?_
            refine Ops_pass rfl rfl ?_
            refine Ops_pass rfl rfl ?_
            refine Ops_pass rfl rfl ?_
            refine Ops_pass rfl rfl ?_
            refine Ops_step (R_pick_false rfl rfl) rfl rfl ?_
            refine Ops_step (R_pick_false rfl rfl) rfl rfl ?_
            refine Ops_step (R_pick_true rfl rfl) rfl rfl ?_
            refine Ops_step (R_move rfl) rfl rfl ?_
            refine Ops_pass rfl rfl ?_
            refine Ops_step (R_pick_false rfl rfl) rfl rfl ?_
            refine Ops_step (R_assign rfl) rfl rfl ?_
            refine Ops_nil ?_
            refine then_n (hK21_ _ _ ?_)
            clear hK21_ K21_
            refine W_keepB [8] fun B34 hB34_ => ?_
            simp only [pickE, lookE, putE, zipE, args0, Nat.reduceAdd, Nat.zero_add, List.cons_append, List.nil_append, Nat.reduceBEq, cond_true, cond_false] at hB34_
            subst hB34_
            refine W_ret ?_
            refine ⟨_, ⟨_, _, rfl, rfl, rfl⟩, ?_⟩
            exact ⟨false, _, _, rfl, hI, h⟩
      · replace h := h.2 hg24_
        refine Ops_pass rfl rfl ?_
        refine Ops_pass rfl rfl ?_
        refine Ops_pass rfl rfl ?_
        refine Ops_passU rfl rfl ?_
        refine Ops_passU rfl rfl ?_
        refine Ops_passU rfl rfl ?_
        refine Ops_passU rfl rfl ?_
        refine Ops_passU rfl rfl ?_
        refine Ops_passU rfl rfl ?_
        refine Ops_passU rfl rfl ?_
        refine Ops_passU rfl rfl ?_
        refine Ops_passU rfl rfl ?_
        refine Ops_passU rfl rfl ?_
        refine Ops_passU rfl rfl ?_
        refine Ops_passU rfl rfl ?_
        refine Ops_passU rfl rfl ?_
        refine Ops_passU rfl rfl ?_
        refine Ops_passU rfl rfl ?_
        refine Ops_pass rfl rfl ?_
        refine Ops_step (R_pick_false rfl rfl) rfl rfl ?_
        refine Ops_step (R_move rfl) rfl rfl ?_
        refine Ops_pass rfl rfl ?_
        refine Ops_step (R_pick_false rfl rfl) rfl rfl ?_
        refine Ops_step (R_assign rfl) rfl rfl ?_
        refine Ops_nil ?_
        refine then_n (hK21_ _ _ ?_)
        clear hK21_ K21_
        refine W_keepB [8] fun B35 hB35_ => ?_
        simp only [pickE, lookE, putE, zipE, args0, Nat.reduceAdd, Nat.zero_add, List.cons_append, List.nil_append, Nat.reduceBEq, cond_true, cond_false] at hB35_
        subst hB35_
        refine W_ret ?_
        refine ⟨_, ⟨_, _, rfl, rfl, rfl⟩, ?_⟩
        exact ⟨false, _, _, rfl, hI, h⟩
    · replace h := h.2 hg22_
      refine Ops_pass rfl rfl ?_
      refine Ops_pass rfl rfl ?_
      refine Ops_pass rfl rfl ?_
      refine Ops_step (R_pick_false rfl rfl) rfl rfl ?_
      refine Ops_step (R_move rfl) rfl rfl ?_
      refine Ops_pass rfl rfl ?_
      refine Ops_pass rfl rfl ?_
      refine Ops_pass rfl rfl ?_
      refine Ops_passU rfl rfl ?_
      refine Ops_passU rfl rfl ?_
      refine Ops_passU rfl rfl ?_
      refine Ops_passU rfl rfl ?_
      refine Ops_passU rfl rfl ?_
      refine Ops_passU rfl rfl ?_
      refine Ops_passU rfl rfl ?_
      refine Ops_passU rfl rfl ?_
      refine Ops_passU rfl rfl ?_
      refine Ops_passU rfl rfl ?_
      refine Ops_passU rfl rfl ?_
      refine Ops_passU rfl rfl ?_
      refine Ops_passU rfl rfl ?_
      refine Ops_passU rfl rfl ?_
      refine Ops_passU rfl rfl ?_
      refine Ops_pass rfl rfl ?_
      refine Ops_step (R_pick_false rfl rfl) rfl rfl ?_
      refine Ops_step (R_move rfl) rfl rfl ?_
      refine Ops_pass rfl rfl ?_
      refine Ops_step (R_pick_false rfl rfl) rfl rfl ?_
      refine Ops_step (R_assign rfl) rfl rfl ?_
      refine Ops_nil ?_
      refine then_n (hK21_ _ _ ?_)
      clear hK21_ K21_
      refine W_keepB [8] fun B36 hB36_ => ?_
      simp only [pickE, lookE, putE, zipE, args0, Nat.reduceAdd, Nat.zero_add, List.cons_append, List.nil_append, Nat.reduceBEq, cond_true, cond_false] at hB36_
      subst hB36_
      refine W_ret ?_
      refine ⟨_, ⟨_, _, rfl, rfl, rfl⟩, ?_⟩
      exact ⟨false, _, _, rfl, hI, h⟩

end Go.Proofs.YtohneemghiehdaaDoor
