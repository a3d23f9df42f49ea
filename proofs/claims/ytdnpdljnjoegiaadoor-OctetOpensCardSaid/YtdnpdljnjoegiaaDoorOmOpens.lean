/- What the walks of this seat show of OmOpens. -/
import Derived.Test.YtdnpdljnjoegiaaDoorOmOpensp
import Derived.Test.YtdnpdljnjoegiaaDoorOtD
import Derived.Test.YtdnpdljnjoegiaaDoorOtE
import Derived.Test.YtdnpdljnjoegiaaDoorProg
set_option linter.unusedVariables false
set_option linter.unusedSimpArgs false
namespace Go.Proofs.YtdnpdljnjoegiaaDoor
open Go Go.Sx Go.Lx
namespace TOmOpens
theorem hm : Tryd.prog.follows .mixedOrders = true := by kernel_rfl
theorem bd15 : bodied Tryd.prog 15 = true := by kernel_rfl
theorem bd24 : bodied Tryd.prog 24 = true := by kernel_rfl
theorem bd28 : bodied Tryd.prog 28 = true := by kernel_rfl
theorem bd31 : bodied Tryd.prog 31 = true := by kernel_rfl
theorem bd45 : bodied Tryd.prog 45 = true := by kernel_rfl
theorem bd46 : bodied Tryd.prog 46 = true := by kernel_rfl
theorem bd47 : bodied Tryd.prog 47 = true := by kernel_rfl
theorem bd48 : bodied Tryd.prog 48 = true := by kernel_rfl
end TOmOpens
set_option maxHeartbeats 4000000 in
theorem sealskinlaw02_OctetOpens_ok {G : Gh} {w : World} (hS : St G w) (hg : GL G) {A0 : Option Addr} {c0 : Nat} {x0 : List UInt8} (hc0 : x0.length ≤ c0) (hs0 : Sl G A0 x0) {Q : Bool → Prop} (h : sealskinlaw02_OctetOpens x0 Q) : Calls Tryd.prog 12 #[.slice A0 x0.length c0] w fun e w2 => ∃ (r0 : Bool) (L H : Gh), e = .returned (.bool r0) ∧ Inv [] G w L H w2 ∧ Q r0 := by
  unfold sealskinlaw02_OctetOpens at h
  have hI := Inv.start (M := []) hS
  refine calls_W 73 Tryd.func12 rfl Tryd.ntmps12 rfl [.tmp 2] rfl ?_
  refine W_seq_k fun K1_ hK1_ => ?_
  refine W_region [some 2] rfl ?_
  refine Ops_step (R_assign rfl) rfl rfl ?_
  refine Ops_nil ?_
  refine then_n (hK1_ _ _ ?_)
  clear hK1_ K1_
  refine W_seq_k fun K2_ hK2_ => ?_
  refine W_seq_k fun K3_ hK3_ => ?_
  refine W_region [some 14, some 15, some 16] rfl ?_
  refine Ops_step (R_move rfl) rfl rfl ?_
  refine Ops_step (R_len Tryd.underlying22 rfl rfl) rfl rfl ?_
  refine Ops_step (R_gtr rfl rfl) rfl rfl ?_
  refine Ops_nil ?_
  refine then_n (hK3_ _ _ ?_)
  clear hK3_ K3_
  refine W_if rfl (fun hc4_ => ?_) (fun hc4_ => ?_)
  · replace h := h.1 hc4_
    refine W_seq_k fun K5_ hK5_ => ?_
    refine W_region [some 17, some 2] rfl ?_
    refine Ops_call (C_func TOmOpens.bd15 rfl) rfl rfl ?_
    refine (sealskinlaw02_awake_ok  hI.st (hg.up hI.le)  h).mono ?_
    rintro _ w6_ ⟨r6_0, L6_, H6_, rfl, hI6_, h⟩
    refine Exists.elim (hI.call hI6_ (by simp)) fun L60_ h6_ => ?_
    have hz6_ := hI.size
    replace hI := h6_.1
    have u6_ := h6_.2.1
    have hl6_ := h6_.2.2
    clear h6_
    clear hI6_ u6_ hl6_
    refine ⟨_, rfl, ?_⟩
    refine Ops_step (R_assign rfl) rfl rfl ?_
    refine Ops_nil ?_
    refine then_n (hK5_ _ _ ?_)
    clear hK5_ K5_
    refine W_ret ?_
    refine then_ret ?_
    clear hK2_ K2_
    refine ⟨_, ⟨_, _, rfl, rfl, rfl⟩, ?_⟩
    exact ⟨r6_0, _, _, rfl, hI, h⟩
  · replace h := h.2 hc4_
    refine W_skip ?_
    refine then_n (hK2_ _ _ ?_)
    clear hK2_ K2_
    refine W_seq_k fun K7_ hK7_ => ?_
    refine W_region [some 18, some 19, some 3] rfl ?_
    refine Ops_step (R_move rfl) rfl rfl ?_
    refine Ops_call (C_func TOmOpens.bd31 rfl) rfl rfl ?_
    refine (slices_Clone_sl_byte_byte_ok (x0 := x0) hI.st (hg.up hI.le) hc0 hs0 h).mono ?_
    rintro _ w8_ ⟨A8_0, c8_0, r8_0, L8_, H8_, rfl, hI8_, ho8_0, h⟩
    refine Exists.elim (hI.call hI8_ (by simp)) fun L80_ h8_ => ?_
    have hz8_ := hI.size
    replace hI := h8_.1
    have u8_ := h8_.2.1
    have hl8_ := h8_.2.2
    clear h8_
    replace hs0 := hs0.up u8_.hh
    replace ho8_0 := OwnS.backS ho8_0 hz8_ (Le.refl _)
    clear hI8_ u8_ hl8_
    refine ⟨_, rfl, ?_⟩
    refine Exists.elim (ho8_0.freeze hI) fun L9_ h9_ => Exists.elim h9_ fun H9_ h9_ => ?_
    replace hI := h9_.1
    have u9_ := h9_.2.1
    have hs9_ := h9_.2.2.1 (Le.no _)
    have hc9_ := ho8_0.cap
    replace hs0 := hs0.up u9_.hh
    clear h9_ u9_ ho8_0
    refine Ops_step (R_assign rfl) rfl rfl ?_
    refine Ops_nil ?_
    refine then_n (hK7_ _ _ ?_)
    clear hK7_ K7_
    refine W_keepB [0, 3] fun B10 hB10_ => ?_
    simp only [pickE, lookE, putE, zipE, args0, Nat.reduceAdd, Nat.zero_add, List.cons_append, List.nil_append, Nat.reduceBEq, cond_true, cond_false] at hB10_
    subst hB10_
    refine W_seq_k fun K11_ hK11_ => ?_
    refine W_region [some 21, some 22, some 20, some 23, some 24, some 25, some 4, some 5, some 6] rfl ?_
    refine Ops_step (R_move rfl) rfl rfl ?_
    refine Ops_call (C_func TOmOpens.bd28 rfl) rfl rfl ?_
    refine (octet_Open_ok (x0 := r8_0) hI.st (hg.up hI.le) hc9_ (hs9_.up hI.sub) h).mono ?_
    rintro _ w12_ ⟨A12_0, c12_0, r12_0, r12_1, r12_2, L12_, H12_, rfl, hI12_, ho12_0, h⟩
    refine Exists.elim (hI.call hI12_ (by simp)) fun L120_ h12_ => ?_
    have hz12_ := hI.size
    replace hI := h12_.1
    have u12_ := h12_.2.1
    have hl12_ := h12_.2.2
    clear h12_
    replace hs0 := hs0.up u12_.hh
    replace hs9_ := hs9_.up u12_.ll
    replace ho12_0 := OwnS.backS ho12_0 hz12_ (Le.refl _)
    clear hI12_ u12_ hl12_
    refine ⟨_, rfl, ?_⟩
    refine Exists.elim (ho12_0.freeze hI) fun L13_ h13_ => Exists.elim h13_ fun H13_ h13_ => ?_
    replace hI := h13_.1
    have u13_ := h13_.2.1
    have hs13_ := h13_.2.2.1 (Le.no _)
    have hc13_ := ho12_0.cap
    replace hs0 := hs0.up u13_.hh
    replace hs9_ := hs9_.up u13_.ll
    clear h13_ u13_ ho12_0
    refine Ops_step (R_move rfl) rfl rfl ?_
    refine Ops_step (R_extract (v := .slice A12_0 r12_0.length c12_0) rfl rfl) rfl rfl ?_
    refine Ops_step (R_extract (v := vi r12_1) rfl rfl) rfl rfl ?_
    refine Ops_step (R_extract (v := vi r12_2) rfl rfl) rfl rfl ?_
    refine Ops_step (R_assign rfl) rfl rfl ?_
    refine Ops_step (R_assign rfl) rfl rfl ?_
    refine Ops_step (R_assign rfl) rfl rfl ?_
    refine Ops_nil ?_
    refine then_n (hK11_ _ _ ?_)
    clear hK11_ K11_
    refine W_keepB [0, 3, 4, 5, 6] fun B14 hB14_ => ?_
    simp only [pickE, lookE, putE, zipE, args0, Nat.reduceAdd, Nat.zero_add, List.cons_append, List.nil_append, Nat.reduceBEq, cond_true, cond_false] at hB14_
    subst hB14_
    refine W_seq_k fun K15_ hK15_ => ?_
    refine W_region [some 27, some 28, some 26, some 29, some 30, some 31, some 7, some 8, some 9] rfl ?_
    refine Ops_step (R_move rfl) rfl rfl ?_
    refine Ops_call (C_func TOmOpens.bd45 rfl) rfl rfl ?_
    refine (sealskinref02_Open_ok (x0 := x0) hI.st (hg.up hI.le) hc0 hs0 h).mono ?_
    rintro _ w16_ ⟨A16_0, c16_0, r16_0, r16_1, r16_2, L16_, H16_, rfl, hI16_, ho16_0, h⟩
    refine Exists.elim (hI.call hI16_ (by simp)) fun L160_ h16_ => ?_
    have hz16_ := hI.size
    replace hI := h16_.1
    have u16_ := h16_.2.1
    have hl16_ := h16_.2.2
    clear h16_
    replace hs0 := hs0.up u16_.hh
    replace hs9_ := hs9_.up u16_.ll
    replace hs13_ := hs13_.up u16_.ll
    replace ho16_0 := OwnS.backS ho16_0 hz16_ (Le.refl _)
    clear hI16_ u16_ hl16_
    refine ⟨_, rfl, ?_⟩
    refine Exists.elim (ho16_0.freeze hI) fun L17_ h17_ => Exists.elim h17_ fun H17_ h17_ => ?_
    replace hI := h17_.1
    have u17_ := h17_.2.1
    have hs17_ := h17_.2.2.1 (Le.no _)
    have hc17_ := ho16_0.cap
    replace hs0 := hs0.up u17_.hh
    replace hs9_ := hs9_.up u17_.ll
    replace hs13_ := hs13_.up u17_.ll
    clear h17_ u17_ ho16_0
    refine Ops_step (R_move rfl) rfl rfl ?_
    refine Ops_step (R_extract (v := .slice A16_0 r16_0.length c16_0) rfl rfl) rfl rfl ?_
    refine Ops_step (R_extract (v := vi r16_1) rfl rfl) rfl rfl ?_
    refine Ops_step (R_extract (v := vi r16_2) rfl rfl) rfl rfl ?_
    refine Ops_step (R_assign rfl) rfl rfl ?_
    refine Ops_step (R_assign rfl) rfl rfl ?_
    refine Ops_step (R_assign rfl) rfl rfl ?_
    refine Ops_nil ?_
    refine then_n (hK15_ _ _ ?_)
    clear hK15_ K15_
    refine W_keepB [0, 3, 4, 5, 6, 7, 8, 9] fun B18 hB18_ => ?_
    simp only [pickE, lookE, putE, zipE, args0, Nat.reduceAdd, Nat.zero_add, List.cons_append, List.nil_append, Nat.reduceBEq, cond_true, cond_false] at hB18_
    subst hB18_
    refine W_seq_k fun K19_ hK19_ => ?_
    refine W_region [some 33, some 34, some 32, some 35, some 36, some 10, some 11] rfl ?_
    refine Ops_step (R_move rfl) rfl rfl ?_
    refine Ops_call (C_func TOmOpens.bd46 rfl) rfl rfl ?_
    refine (octet_All_ok (x0 := r8_0) hI.st (hg.up hI.le) hc9_ (hs9_.up hI.sub) h).mono ?_
    rintro _ w20_ ⟨A20_0, c20_0, r20_0, r20_1, L20_, H20_, rfl, hI20_, ho20_0, h⟩
    refine Exists.elim (hI.call hI20_ (by simp)) fun L200_ h20_ => ?_
    have hz20_ := hI.size
    replace hI := h20_.1
    have u20_ := h20_.2.1
    have hl20_ := h20_.2.2
    clear h20_
    replace hs0 := hs0.up u20_.hh
    replace hs9_ := hs9_.up u20_.ll
    replace hs13_ := hs13_.up u20_.ll
    replace hs17_ := hs17_.up u20_.ll
    replace ho20_0 := OwnS.back ho20_0 hz20_ hl20_ (Le.refl _)
    clear hI20_ u20_ hl20_
    refine ⟨_, rfl, ?_⟩
    refine Exists.elim (ho20_0.freeze hI) fun L21_ h21_ => Exists.elim h21_ fun H21_ h21_ => ?_
    replace hI := h21_.1
    have u21_ := h21_.2.1
    have hs21_ := h21_.2.2.1 (Le.refl _)
    have hc21_ := ho20_0.cap
    replace hs0 := hs0.up u21_.hh
    replace hs9_ := hs9_.up u21_.ll
    replace hs13_ := hs13_.up u21_.ll
    replace hs17_ := hs17_.up u21_.ll
    clear h21_ u21_ ho20_0
    refine Ops_step (R_move rfl) rfl rfl ?_
    refine Ops_step (R_extract (v := .slice A20_0 r20_0.length c20_0) rfl rfl) rfl rfl ?_
    refine Ops_step (R_extract (v := vi r20_1) rfl rfl) rfl rfl ?_
    refine Ops_step (R_assign rfl) rfl rfl ?_
    refine Ops_step (R_assign rfl) rfl rfl ?_
    refine Ops_nil ?_
    refine then_n (hK19_ _ _ ?_)
    clear hK19_ K19_
    refine W_seq_k fun K22_ hK22_ => ?_
    refine W_region [some 38, some 39, some 37, some 40, some 41, some 12, some 13] rfl ?_
    refine Ops_step (R_move rfl) rfl rfl ?_
    refine Ops_call (C_func TOmOpens.bd47 rfl) rfl rfl ?_
    refine (sealskinref02_All_ok (x0 := x0) hI.st (hg.up hI.le) hc0 hs0 h).mono ?_
    rintro _ w23_ ⟨A23_0, c23_0, r23_0, r23_1, L23_, H23_, rfl, hI23_, ho23_0, h⟩
    refine Exists.elim (hI.call hI23_ (by simp)) fun L230_ h23_ => ?_
    have hz23_ := hI.size
    replace hI := h23_.1
    have u23_ := h23_.2.1
    have hl23_ := h23_.2.2
    clear h23_
    replace hs0 := hs0.up u23_.hh
    replace hs9_ := hs9_.up u23_.ll
    replace hs13_ := hs13_.up u23_.ll
    replace hs17_ := hs17_.up u23_.ll
    replace hs21_ := hs21_.up u23_.ll
    replace ho23_0 := OwnS.back ho23_0 hz23_ hl23_ (Le.refl _)
    clear hI23_ u23_ hl23_
    refine ⟨_, rfl, ?_⟩
    refine Exists.elim (ho23_0.freeze hI) fun L24_ h24_ => Exists.elim h24_ fun H24_ h24_ => ?_
    replace hI := h24_.1
    have u24_ := h24_.2.1
    have hs24_ := h24_.2.2.1 (Le.refl _)
    have hc24_ := ho23_0.cap
    replace hs0 := hs0.up u24_.hh
    replace hs9_ := hs9_.up u24_.ll
    replace hs13_ := hs13_.up u24_.ll
    replace hs17_ := hs17_.up u24_.ll
    replace hs21_ := hs21_.up u24_.ll
    clear h24_ u24_ ho23_0
    refine Ops_step (R_move rfl) rfl rfl ?_
    refine Ops_step (R_extract (v := .slice A23_0 r23_0.length c23_0) rfl rfl) rfl rfl ?_
    refine Ops_step (R_extract (v := vi r23_1) rfl rfl) rfl rfl ?_
    refine Ops_step (R_assign rfl) rfl rfl ?_
    refine Ops_step (R_assign rfl) rfl rfl ?_
    refine Ops_nil ?_
    refine then_n (hK22_ _ _ ?_)
    clear hK22_ K22_
    refine W_keepB [0, 3, 4, 5, 6, 7, 8, 9, 10, 11, 12, 13] fun B25 hB25_ => ?_
    simp only [pickE, lookE, putE, zipE, args0, Nat.reduceAdd, Nat.zero_add, List.cons_append, List.nil_append, Nat.reduceBEq, cond_true, cond_false] at hB25_
    subst hB25_
    refine W_seq_k fun K26_ hK26_ => ?_
    refine W_region [some 42, some 43, some 44, some 45, some 46, some 47, some 48, some 49, some 50, some 51, some 52, some 53, some 54, some 55, some 56, some 57, some 58, some 59, some 60, some 61, some 62, some 63, some 64, some 65, some 66, some 67, some 68, some 69, some 70, some 71, some 72, some 2] rfl ?_
    refine Ops_step (R_move rfl) rfl rfl ?_
    refine Ops_step (R_move rfl) rfl rfl ?_
    refine Ops_call (C_func TOmOpens.bd24 rfl) rfl rfl ?_
    refine (bytes_Equal_ok (x0 := r12_0) (x1 := r16_0) hI.st (hg.up hI.le) hc13_ (hs13_.up hI.sub) hc17_ (hs17_.up hI.sub) h).mono ?_
    rintro _ w27_ ⟨r27_0, L27_, H27_, rfl, hI27_, h⟩
    refine Exists.elim (hI.call hI27_ (by simp)) fun L270_ h27_ => ?_
    have hz27_ := hI.size
    replace hI := h27_.1
    have u27_ := h27_.2.1
    have hl27_ := h27_.2.2
    clear h27_
    replace hs0 := hs0.up u27_.hh
    replace hs9_ := hs9_.up u27_.ll
    replace hs21_ := hs21_.up u27_.ll
    replace hs24_ := hs24_.up u27_.ll
    clear hI27_ u27_ hl27_
    refine ⟨_, rfl, ?_⟩
    refine Ops_step (R_move rfl) rfl rfl ?_
    refine Ops_splitB 45 rfl (fun hg28_ => ?_) (fun hg28_ => ?_)
    · replace h := h.1 hg28_
      refine Ops_step (R_move rfl) rfl rfl ?_
      refine Ops_step (R_move rfl) rfl rfl ?_
      refine Ops_step (R_eql rfl rfl) rfl rfl ?_
      refine Ops_step (R_pick_true rfl rfl) rfl rfl ?_
      refine Ops_step (R_move rfl) rfl rfl ?_
      refine Ops_split 50 rfl (fun hg29_ => ?_) (fun hg29_ => ?_)
      · replace h := h.1 hg29_
        refine Ops_step (R_move rfl) rfl rfl ?_
        refine Ops_step (R_move rfl) rfl rfl ?_
        refine Ops_step (R_eql rfl rfl) rfl rfl ?_
        refine Ops_step (R_pick_true rfl rfl) rfl rfl ?_
        refine Ops_step (R_move rfl) rfl rfl ?_
        refine Ops_split 55 rfl (fun hg30_ => ?_) (fun hg30_ => ?_)
        · replace h := h.1 hg30_
          refine Ops_step (R_move rfl) rfl rfl ?_
          refine Ops_step (R_move rfl) rfl rfl ?_
          refine Ops_call (C_func TOmOpens.bd48 rfl) rfl rfl ?_
          refine (slices_EqualFunc_bytes_ok (x0 := r20_0) (x1 := r23_0) hI.st (hg.up hI.le) hc21_ (hs21_.up hI.sub) hc24_ (hs24_.up hI.sub) h).mono ?_
          rintro _ w31_ ⟨r31_0, L31_, H31_, rfl, hI31_, h⟩
          refine Exists.elim (hI.call hI31_ (by simp)) fun L310_ h31_ => ?_
          have hz31_ := hI.size
          replace hI := h31_.1
          have u31_ := h31_.2.1
          have hl31_ := h31_.2.2
          clear h31_
          replace hs0 := hs0.up u31_.hh
          replace hs9_ := hs9_.up u31_.ll
          clear hI31_ u31_ hl31_
          refine ⟨_, rfl, ?_⟩
          refine Ops_step (R_pick_true rfl rfl) rfl rfl ?_
          refine Ops_step (R_move rfl) rfl rfl ?_
          refine Ops_splitB 60 rfl (fun hg32_ => ?_) (fun hg32_ => ?_)
          · replace h := h.1 hg32_
            refine Ops_step (R_move rfl) rfl rfl ?_
            refine Ops_step (R_move rfl) rfl rfl ?_
            refine Ops_step (R_eql rfl rfl) rfl rfl ?_
            refine Ops_step (R_pick_true rfl rfl) rfl rfl ?_
            refine Ops_step (R_move rfl) rfl rfl ?_
            refine Ops_split 65 rfl (fun hg33_ => ?_) (fun hg33_ => ?_)
            · replace h := h.1 hg33_
              refine Ops_step (R_move rfl) rfl rfl ?_
              refine Ops_step (R_move rfl) rfl rfl ?_
              refine Ops_call (C_func TOmOpens.bd24 rfl) rfl rfl ?_
              refine (bytes_Equal_ok (x0 := r8_0) (x1 := x0) hI.st (hg.up hI.le) hc9_ (hs9_.up hI.sub) hc0 hs0 h).mono ?_
              rintro _ w34_ ⟨r34_0, L34_, H34_, rfl, hI34_, h⟩
              refine Exists.elim (hI.call hI34_ (by simp)) fun L340_ h34_ => ?_
              have hz34_ := hI.size
              replace hI := h34_.1
              have u34_ := h34_.2.1
              have hl34_ := h34_.2.2
              clear h34_
              clear hI34_ u34_ hl34_
              refine ⟨_, rfl, ?_⟩
              refine Ops_step (R_pick_true rfl rfl) rfl rfl ?_
              refine Ops_step (R_move rfl) rfl rfl ?_
              refine Ops_splitB 70 rfl (fun hg35_ => ?_) (fun hg35_ => ?_)
              · replace h := h.1 hg35_
                refine Ops_call (C_func TOmOpens.bd15 rfl) rfl rfl ?_
                refine (sealskinlaw02_awake_ok  hI.st (hg.up hI.le)  h).mono ?_
                rintro _ w36_ ⟨r36_0, L36_, H36_, rfl, hI36_, h⟩
                refine Exists.elim (hI.call hI36_ (by simp)) fun L360_ h36_ => ?_
                have hz36_ := hI.size
                replace hI := h36_.1
                have u36_ := h36_.2.1
                have hl36_ := h36_.2.2
                clear h36_
                clear hI36_ u36_ hl36_
                refine ⟨_, rfl, ?_⟩
                refine Ops_step (R_pick_true rfl rfl) rfl rfl ?_
                refine Ops_step (R_assign rfl) rfl rfl ?_
                refine Ops_nil ?_
                refine then_n (hK26_ _ _ ?_)
                clear hK26_ K26_
                refine W_keepB [2] fun B37 hB37_ => ?_
                simp only [pickE, lookE, putE, zipE, args0, Nat.reduceAdd, Nat.zero_add, List.cons_append, List.nil_append, Nat.reduceBEq, cond_true, cond_false] at hB37_
                subst hB37_
                refine W_ret ?_
                refine ⟨_, ⟨_, _, rfl, rfl, rfl⟩, ?_⟩
                exact ⟨r36_0, _, _, rfl, hI, h⟩
              · replace h := h.2 hg35_
                refine Ops_pass rfl rfl ?_
                refine Ops_step (R_pick_false rfl rfl) rfl rfl ?_
                refine Ops_step (R_assign rfl) rfl rfl ?_
                refine Ops_nil ?_
                refine then_n (hK26_ _ _ ?_)
                clear hK26_ K26_
                refine W_keepB [2] fun B38 hB38_ => ?_
                simp only [pickE, lookE, putE, zipE, args0, Nat.reduceAdd, Nat.zero_add, List.cons_append, List.nil_append, Nat.reduceBEq, cond_true, cond_false] at hB38_
                subst hB38_
                refine W_ret ?_
                refine ⟨_, ⟨_, _, rfl, rfl, rfl⟩, ?_⟩
                exact ⟨false, _, _, rfl, hI, h⟩
            · replace h := h.2 hg33_
              refine Ops_pass rfl rfl ?_
              refine Ops_pass rfl rfl ?_
              refine Ops_pass rfl rfl ?_
              refine Ops_step (R_pick_false rfl rfl) rfl rfl ?_
              refine Ops_step (R_move rfl) rfl rfl ?_
              refine Ops_pass rfl rfl ?_
              refine Ops_step (R_pick_false rfl rfl) rfl rfl ?_
              refine Ops_step (R_assign rfl) rfl rfl ?_
              refine Ops_nil ?_
              refine then_n (hK26_ _ _ ?_)
              clear hK26_ K26_
              refine W_keepB [2] fun B39 hB39_ => ?_
              simp only [pickE, lookE, putE, zipE, args0, Nat.reduceAdd, Nat.zero_add, List.cons_append, List.nil_append, Nat.reduceBEq, cond_true, cond_false] at hB39_
              subst hB39_
              refine W_ret ?_
              refine ⟨_, ⟨_, _, rfl, rfl, rfl⟩, ?_⟩
              exact ⟨false, _, _, rfl, hI, h⟩
          · replace h := h.2 hg32_
            refine Ops_pass rfl rfl ?_
            refine Ops_pass rfl rfl ?_
            refine Ops_pass rfl rfl ?_
            refine Ops_step (R_pick_false rfl rfl) rfl rfl ?_
            refine Ops_step (R_move rfl) rfl rfl ?_
            refine Ops_pass rfl rfl ?_
            refine Ops_pass rfl rfl ?_
            refine Ops_pass rfl rfl ?_
            refine Ops_step (R_pick_false rfl rfl) rfl rfl ?_
            refine Ops_step (R_move rfl) rfl rfl ?_
            refine Ops_pass rfl rfl ?_
            refine Ops_step (R_pick_false rfl rfl) rfl rfl ?_
            refine Ops_step (R_assign rfl) rfl rfl ?_
            refine Ops_nil ?_
            refine then_n (hK26_ _ _ ?_)
            clear hK26_ K26_
            refine W_keepB [2] fun B40 hB40_ => ?_
            simp only [pickE, lookE, putE, zipE, args0, Nat.reduceAdd, Nat.zero_add, List.cons_append, List.nil_append, Nat.reduceBEq, cond_true, cond_false] at hB40_
            subst hB40_
            refine W_ret ?_
            refine ⟨_, ⟨_, _, rfl, rfl, rfl⟩, ?_⟩
            exact ⟨false, _, _, rfl, hI, h⟩
        · replace h := h.2 hg30_
          refine Ops_pass rfl rfl ?_
          refine Ops_pass rfl rfl ?_
          refine Ops_pass rfl rfl ?_
          refine Ops_step (R_pick_false rfl rfl) rfl rfl ?_
          refine Ops_step (R_move rfl) rfl rfl ?_
          refine Ops_pass rfl rfl ?_
          refine Ops_pass rfl rfl ?_
          refine Ops_pass rfl rfl ?_
          refine Ops_step (R_pick_false rfl rfl) rfl rfl ?_
          refine Ops_step (R_move rfl) rfl rfl ?_
          refine Ops_pass rfl rfl ?_
          refine Ops_pass rfl rfl ?_
          refine Ops_pass rfl rfl ?_
          refine Ops_step (R_pick_false rfl rfl) rfl rfl ?_
          refine Ops_step (R_move rfl) rfl rfl ?_
          refine Ops_pass rfl rfl ?_
          refine Ops_step (R_pick_false rfl rfl) rfl rfl ?_
          refine Ops_step (R_assign rfl) rfl rfl ?_
          refine Ops_nil ?_
          refine then_n (hK26_ _ _ ?_)
          clear hK26_ K26_
          refine W_keepB [2] fun B41 hB41_ => ?_
          simp only [pickE, lookE, putE, zipE, args0, Nat.reduceAdd, Nat.zero_add, List.cons_append, List.nil_append, Nat.reduceBEq, cond_true, cond_false] at hB41_
          subst hB41_
          refine W_ret ?_
          refine ⟨_, ⟨_, _, rfl, rfl, rfl⟩, ?_⟩
          exact ⟨false, _, _, rfl, hI, h⟩
      · replace h := h.2 hg29_
        refine Ops_pass rfl rfl ?_
        refine Ops_pass rfl rfl ?_
        refine Ops_pass rfl rfl ?_
        refine Ops_step (R_pick_false rfl rfl) rfl rfl ?_
        refine Ops_step (R_move rfl) rfl rfl ?_
        refine Ops_pass rfl rfl ?_
        refine Ops_pass rfl rfl ?_
        refine Ops_pass rfl rfl ?_
        refine Ops_step (R_pick_false rfl rfl) rfl rfl ?_
        refine Ops_step (R_move rfl) rfl rfl ?_
        refine Ops_pass rfl rfl ?_
        refine Ops_pass rfl rfl ?_
        refine Ops_pass rfl rfl ?_
        refine Ops_step (R_pick_false rfl rfl) rfl rfl ?_
        refine Ops_step (R_move rfl) rfl rfl ?_
        refine Ops_pass rfl rfl ?_
        refine Ops_pass rfl rfl ?_
        refine Ops_pass rfl rfl ?_
        refine Ops_step (R_pick_false rfl rfl) rfl rfl ?_
        refine Ops_step (R_move rfl) rfl rfl ?_
        refine Ops_pass rfl rfl ?_
        refine Ops_step (R_pick_false rfl rfl) rfl rfl ?_
        refine Ops_step (R_assign rfl) rfl rfl ?_
        refine Ops_nil ?_
        refine then_n (hK26_ _ _ ?_)
        clear hK26_ K26_
        refine W_keepB [2] fun B42 hB42_ => ?_
        simp only [pickE, lookE, putE, zipE, args0, Nat.reduceAdd, Nat.zero_add, List.cons_append, List.nil_append, Nat.reduceBEq, cond_true, cond_false] at hB42_
        subst hB42_
        refine W_ret ?_
        refine ⟨_, ⟨_, _, rfl, rfl, rfl⟩, ?_⟩
        exact ⟨false, _, _, rfl, hI, h⟩
    · replace h := h.2 hg28_
      refine Ops_pass rfl rfl ?_
      refine Ops_pass rfl rfl ?_
      refine Ops_pass rfl rfl ?_
      refine Ops_step (R_pick_false rfl rfl) rfl rfl ?_
      refine Ops_step (R_move rfl) rfl rfl ?_
      refine Ops_pass rfl rfl ?_
      refine Ops_pass rfl rfl ?_
      refine Ops_pass rfl rfl ?_
      refine Ops_step (R_pick_false rfl rfl) rfl rfl ?_
      refine Ops_step (R_move rfl) rfl rfl ?_
      refine Ops_pass rfl rfl ?_
      refine Ops_pass rfl rfl ?_
      refine Ops_pass rfl rfl ?_
      refine Ops_step (R_pick_false rfl rfl) rfl rfl ?_
      refine Ops_step (R_move rfl) rfl rfl ?_
      refine Ops_pass rfl rfl ?_
      refine Ops_pass rfl rfl ?_
      refine Ops_pass rfl rfl ?_
      refine Ops_step (R_pick_false rfl rfl) rfl rfl ?_
      refine Ops_step (R_move rfl) rfl rfl ?_
      refine Ops_pass rfl rfl ?_
      refine Ops_pass rfl rfl ?_
      refine Ops_pass rfl rfl ?_
      refine Ops_step (R_pick_false rfl rfl) rfl rfl ?_
      refine Ops_step (R_move rfl) rfl rfl ?_
      refine Ops_pass rfl rfl ?_
      refine Ops_step (R_pick_false rfl rfl) rfl rfl ?_
      refine Ops_step (R_assign rfl) rfl rfl ?_
      refine Ops_nil ?_
      refine then_n (hK26_ _ _ ?_)
      clear hK26_ K26_
      refine W_keepB [2] fun B43 hB43_ => ?_
      simp only [pickE, lookE, putE, zipE, args0, Nat.reduceAdd, Nat.zero_add, List.cons_append, List.nil_append, Nat.reduceBEq, cond_true, cond_false] at hB43_
      subst hB43_
      refine W_ret ?_
      refine ⟨_, ⟨_, _, rfl, rfl, rfl⟩, ?_⟩
      exact ⟨false, _, _, rfl, hI, h⟩

end Go.Proofs.YtdnpdljnjoegiaaDoor
