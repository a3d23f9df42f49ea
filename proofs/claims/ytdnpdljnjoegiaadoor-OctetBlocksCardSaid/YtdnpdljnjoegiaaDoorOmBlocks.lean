/- What the walks of this seat show of OmBlocks. -/
import Derived.Test.YtdnpdljnjoegiaaDoorOmBlocksp
import Derived.Test.YtdnpdljnjoegiaaDoorOtD
import Derived.Test.YtdnpdljnjoegiaaDoorOtE
import Derived.Test.YtdnpdljnjoegiaaDoorProg
set_option linter.unusedVariables false
set_option linter.unusedSimpArgs false
namespace Go.Proofs.YtdnpdljnjoegiaaDoor
open Go Go.Sx Go.Lx
namespace TOmBlocks
theorem hm : Tryd.prog.follows .mixedOrders = true := by kernel_rfl
theorem bd15 : bodied Tryd.prog 15 = true := by kernel_rfl
theorem bd17 : bodied Tryd.prog 17 = true := by kernel_rfl
theorem bd18 : bodied Tryd.prog 18 = true := by kernel_rfl
theorem bd24 : bodied Tryd.prog 24 = true := by kernel_rfl
theorem bd27 : bodied Tryd.prog 27 = true := by kernel_rfl
theorem bd31 : bodied Tryd.prog 31 = true := by kernel_rfl
theorem bd33 : bodied Tryd.prog 33 = true := by kernel_rfl
theorem bd34 : bodied Tryd.prog 34 = true := by kernel_rfl
theorem bd35 : bodied Tryd.prog 35 = true := by kernel_rfl
theorem bd36 : bodied Tryd.prog 36 = true := by kernel_rfl
end TOmBlocks
set_option maxHeartbeats 4000000 in
theorem sealskinlaw02_OctetBlocks_ok {G : Gh} {w : World} (hS : St G w) (hg : GL G) {A0 : Option Addr} {c0 : Nat} {x0 : List UInt8} (hc0 : x0.length ≤ c0) (hs0 : Sl G A0 x0) {A1 : Option Addr} {c1 : Nat} {x1 : List UInt8} (hc1 : x1.length ≤ c1) (hs1 : Sl G A1 x1) {Q : Bool → Prop} (h : sealskinlaw02_OctetBlocks x0 x1 Q) : Calls Tryd.prog 9 #[.slice A0 x0.length c0, .slice A1 x1.length c1] w fun e w2 => ∃ (r0 : Bool) (L H : Gh), e = .returned (.bool r0) ∧ Inv [] G w L H w2 ∧ Q r0 := by
  unfold sealskinlaw02_OctetBlocks at h
  have hI := Inv.start (M := []) hS
  refine calls_W 75 Tryd.func9 rfl Tryd.ntmps9 rfl [.tmp 4] rfl ?_
  refine W_seq_k fun K1_ hK1_ => ?_
  refine W_region [some 4] rfl ?_
  refine Ops_step (R_assign rfl) rfl rfl ?_
  refine Ops_nil ?_
  refine then_n (hK1_ _ _ ?_)
  clear hK1_ K1_
  refine W_seq_k fun K2_ hK2_ => ?_
  refine Exists.elim h fun J3_ h => ?_
  have hr3_ := h.1
  replace h := h.2
  refine W_seq_join [0, 1] [18] (fun vs w2 => ∃ (x18_3 : Bool) (L H : Gh), vs = [.bool x18_3] ∧ J3_ x18_3 ∧ Inv [] G w L H w2 ∧ Le Gh.no L ∧ Le G H ∧ True) (fun B3 hB3_ => ?_) (fun B3 hB3_ => ?_)
  · simp only [pickE, lookE, putE, zipE, args0, Nat.reduceAdd, Nat.zero_add, List.cons_append, List.nil_append, Nat.reduceBEq, cond_true, cond_false] at hB3_
    subst hB3_
    clear hr3_
    have hll3_ := Le.refl Gh.no
    have hhh3_ := Le.refl G
    refine W_region [some 11, some 12, some 13, some 14, some 15, some 16, some 17, some 18] rfl ?_
    refine Ops_step (R_move rfl) rfl rfl ?_
    refine Ops_step (R_len Tryd.underlying22 rfl rfl) rfl rfl ?_
    refine Ops_step (R_gtr rfl rfl) rfl rfl ?_
    refine Ops_step (R_move rfl) rfl rfl ?_
    refine Ops_split 14 rfl (fun hg4_ => ?_) (fun hg4_ => ?_)
    · replace h := h.1 hg4_
      refine Ops_pass rfl rfl ?_
      refine Ops_pass rfl rfl ?_
      refine Ops_pass rfl rfl ?_
      refine Ops_step (R_pick_true rfl rfl) rfl rfl ?_
      refine Ops_nil ?_
      refine then_n ?_
      exact ⟨_, rfl, ⟨true, _, _, rfl, h, hI, hll3_, hhh3_, trivial⟩, ⟨rfl, rfl, trivial⟩⟩
    · replace h := h.2 hg4_
      refine Ops_step (R_move rfl) rfl rfl ?_
      refine Ops_step (R_len Tryd.underlying22 rfl rfl) rfl rfl ?_
      refine Ops_step (R_gtr rfl rfl) rfl rfl ?_
      refine Ops_step (R_pick_false rfl rfl) rfl rfl ?_
      refine Ops_nil ?_
      refine then_n ?_
      exact ⟨_, rfl, ⟨(decide ((x1.length : Int) > 32768)), _, _, rfl, h, hI, hll3_, hhh3_, trivial⟩, ⟨rfl, rfl, trivial⟩⟩
  · simp only [pickE, lookE, putE, zipE, args0, Nat.reduceAdd, Nat.zero_add, List.cons_append, List.nil_append, Nat.reduceBEq, cond_true, cond_false] at hB3_
    subst hB3_
    clear h
    rintro _ w3_ ⟨x18_3, L3_, H3_, rfl, hJ3_, hI3_, hll3_, hhh3_, -⟩
    replace hI := hI3_
    clear hI3_
    have h := hr3_ x18_3 hJ3_
    clear hr3_ hJ3_
    replace hs0 := hs0.up hhh3_
    replace hs1 := hs1.up hhh3_
    refine W_cond rfl (fun hc5_ => ?_) (fun hc5_ => ?_)
    · replace h := h.1 hc5_
      refine W_seq_k fun K6_ hK6_ => ?_
      refine W_region [some 19, some 4] rfl ?_
      refine Ops_call (C_func TOmBlocks.bd15 rfl) rfl rfl ?_
      refine (sealskinlaw02_awake_ok  hI.st (hg.up hI.le)  h).mono ?_
      rintro _ w7_ ⟨r7_0, L7_, H7_, rfl, hI7_, h⟩
      refine Exists.elim (hI.call hI7_ (by simp)) fun L70_ h7_ => ?_
      have hz7_ := hI.size
      replace hI := h7_.1
      have u7_ := h7_.2.1
      have hl7_ := h7_.2.2
      clear h7_
      clear hI7_ u7_ hl7_
      refine ⟨_, rfl, ?_⟩
      refine Ops_step (R_assign rfl) rfl rfl ?_
      refine Ops_nil ?_
      refine then_n (hK6_ _ _ ?_)
      clear hK6_ K6_
      refine W_ret ?_
      refine then_ret ?_
      clear hK2_ K2_
      refine ⟨_, ⟨_, _, rfl, rfl, rfl⟩, ?_⟩
      exact ⟨r7_0, _, _, rfl, hI, h⟩
    · replace h := h.2 hc5_
      refine W_skip ?_
      refine then_n (hK2_ _ _ ?_)
      clear hK2_ K2_
      refine W_seq_k fun K8_ hK8_ => ?_
      refine W_region [some 20, some 21, some 5] rfl ?_
      refine Ops_step (R_move rfl) rfl rfl ?_
      refine Ops_call (C_func TOmBlocks.bd31 rfl) rfl rfl ?_
      refine (slices_Clone_sl_byte_byte_ok (x0 := x1) hI.st (hg.up hI.le) hc1 hs1 h).mono ?_
      rintro _ w9_ ⟨A9_0, c9_0, r9_0, L9_, H9_, rfl, hI9_, ho9_0, h⟩
      refine Exists.elim (hI.call hI9_ (by simp)) fun L90_ h9_ => ?_
      have hz9_ := hI.size
      replace hI := h9_.1
      have u9_ := h9_.2.1
      have hl9_ := h9_.2.2
      clear h9_
      replace hs0 := hs0.up u9_.hh
      replace hs1 := hs1.up u9_.hh
      replace ho9_0 := OwnS.backS ho9_0 hz9_ (Le.refl _)
      clear hI9_ u9_ hl9_
      refine ⟨_, rfl, ?_⟩
      refine Exists.elim (ho9_0.freeze hI) fun L10_ h10_ => Exists.elim h10_ fun H10_ h10_ => ?_
      replace hI := h10_.1
      have u10_ := h10_.2.1
      have hs10_ := h10_.2.2.1 (Le.no _)
      have hc10_ := ho9_0.cap
      replace hs0 := hs0.up u10_.hh
      replace hs1 := hs1.up u10_.hh
      clear h10_ u10_ ho9_0
      refine Ops_step (R_assign rfl) rfl rfl ?_
      refine Ops_nil ?_
      refine then_n (hK8_ _ _ ?_)
      clear hK8_ K8_
      refine W_seq_k fun K11_ hK11_ => ?_
      refine W_region [some 23, some 24, some 22, some 25, some 26, some 6, some 7] rfl ?_
      refine Ops_step (R_move rfl) rfl rfl ?_
      refine Ops_call (C_func TOmBlocks.bd27 rfl) rfl rfl ?_
      refine (octet_Seal_ok (x0 := r9_0) hI.st (hg.up hI.le) hc10_ (hs10_.up hI.sub) h).mono ?_
      rintro _ w12_ ⟨A12_0, c12_0, r12_0, r12_1, L12_, H12_, rfl, hI12_, ho12_0, h⟩
      refine Exists.elim (hI.call hI12_ (by simp)) fun L120_ h12_ => ?_
      have hz12_ := hI.size
      replace hI := h12_.1
      have u12_ := h12_.2.1
      have hl12_ := h12_.2.2
      clear h12_
      replace hs0 := hs0.up u12_.hh
      replace hs1 := hs1.up u12_.hh
      replace hs10_ := hs10_.up u12_.ll
      replace ho12_0 := OwnS.backS ho12_0 hz12_ (Le.refl _)
      clear hI12_ u12_ hl12_
      refine ⟨_, rfl, ?_⟩
      refine Exists.elim (ho12_0.freeze hI) fun L13_ h13_ => Exists.elim h13_ fun H13_ h13_ => ?_
      replace hI := h13_.1
      have u13_ := h13_.2.1
      have hs13_ := h13_.2.2.1 (Le.no _)
      have hc13_ := ho12_0.cap
      replace hs0 := hs0.up u13_.hh
      replace hs1 := hs1.up u13_.hh
      replace hs10_ := hs10_.up u13_.ll
      clear h13_ u13_ ho12_0
      refine Ops_step (R_move rfl) rfl rfl ?_
      refine Ops_step (R_extract (v := .slice A12_0 r12_0.length c12_0) rfl rfl) rfl rfl ?_
      refine Ops_step (R_extract (v := vi r12_1) rfl rfl) rfl rfl ?_
      refine Ops_step (R_assign rfl) rfl rfl ?_
      refine Ops_step (R_assign rfl) rfl rfl ?_
      refine Ops_nil ?_
      refine then_n (hK11_ _ _ ?_)
      clear hK11_ K11_
      refine W_keepB [0, 1, 5, 6, 7] fun B14 hB14_ => ?_
      simp only [pickE, lookE, putE, zipE, args0, Nat.reduceAdd, Nat.zero_add, List.cons_append, List.nil_append, Nat.reduceBEq, cond_true, cond_false] at hB14_
      subst hB14_
      refine W_seq_k fun K15_ hK15_ => ?_
      refine W_region [some 28, some 29, some 27, some 30, some 31, some 8, some 9] rfl ?_
      refine Ops_step (R_move rfl) rfl rfl ?_
      refine Ops_call (C_func TOmBlocks.bd33 rfl) rfl rfl ?_
      refine (sealskinref02_Seal_ok (x0 := x1) hI.st (hg.up hI.le) hc1 hs1 h).mono ?_
      rintro _ w16_ ⟨A16_0, c16_0, r16_0, r16_1, L16_, H16_, rfl, hI16_, ho16_0, h⟩
      refine Exists.elim (hI.call hI16_ (by simp)) fun L160_ h16_ => ?_
      have hz16_ := hI.size
      replace hI := h16_.1
      have u16_ := h16_.2.1
      have hl16_ := h16_.2.2
      clear h16_
      replace hs0 := hs0.up u16_.hh
      replace hs1 := hs1.up u16_.hh
      replace hs10_ := hs10_.up u16_.ll
      replace hs13_ := hs13_.up u16_.ll
      replace ho16_0 := OwnS.backS ho16_0 hz16_ (Le.refl _)
      clear hI16_ u16_ hl16_
      refine ⟨_, rfl, ?_⟩
      refine Exists.elim (ho16_0.freeze hI) fun L17_ h17_ => Exists.elim h17_ fun H17_ h17_ => ?_
      replace hI := h17_.1
      have u17_ := h17_.2.1
      have hs17_ := h17_.2.2.1 (Le.no _)
      have hc17_ := ho16_0.cap
      replace hs0 := hs0.up u17_.hh
      replace hs1 := hs1.up u17_.hh
      replace hs10_ := hs10_.up u17_.ll
      replace hs13_ := hs13_.up u17_.ll
      clear h17_ u17_ ho16_0
      refine Ops_step (R_move rfl) rfl rfl ?_
      refine Ops_step (R_extract (v := .slice A16_0 r16_0.length c16_0) rfl rfl) rfl rfl ?_
      refine Ops_step (R_extract (v := vi r16_1) rfl rfl) rfl rfl ?_
      refine Ops_step (R_assign rfl) rfl rfl ?_
      refine Ops_step (R_assign rfl) rfl rfl ?_
      refine Ops_nil ?_
      refine then_n (hK15_ _ _ ?_)
      clear hK15_ K15_
      refine Exists.elim h fun J18_ h => ?_
      have hr18_ := h.1
      replace h := h.2
      refine W_seq_join [1, 5, 6, 7, 8, 9] [10] (fun vs w2 => ∃ (x10_18 : Bool) (L H : Gh), vs = [.bool x10_18] ∧ J18_ x10_18 ∧ Inv [] G w L H w2 ∧ Le L17_ L ∧ Le H17_ H ∧ True) (fun B18 hB18_ => ?_) (fun B18 hB18_ => ?_)
      · simp only [pickE, lookE, putE, zipE, args0, Nat.reduceAdd, Nat.zero_add, List.cons_append, List.nil_append, Nat.reduceBEq, cond_true, cond_false] at hB18_
        subst hB18_
        clear hr18_
        have hll18_ := Le.refl L17_
        have hhh18_ := Le.refl H17_
        refine W_region [some 32, some 33, some 34, some 35, some 36, some 37, some 38, some 39, some 40, some 41, some 42, some 43, some 44, some 45, some 46, some 47, some 48, some 10] rfl ?_
        refine Ops_step (R_move rfl) rfl rfl ?_
        refine Ops_step (R_move rfl) rfl rfl ?_
        refine Ops_call (C_func TOmBlocks.bd18 rfl) rfl rfl ?_
        refine (octet_PutBytes_ok (x0 := x0) (x1 := r9_0) hI.st (hg.up hI.le) hc0 hs0 hc10_ (hs10_.up hI.sub) h).mono ?_
        rintro _ w19_ ⟨A19_0, c19_0, r19_0, L19_, H19_, rfl, hI19_, ho19_0, h⟩
        refine Exists.elim (hI.call hI19_ (by simp)) fun L190_ h19_ => ?_
        have hz19_ := hI.size
        replace hI := h19_.1
        have u19_ := h19_.2.1
        have hl19_ := h19_.2.2
        clear h19_
        replace hs0 := hs0.up u19_.hh
        replace hs1 := hs1.up u19_.hh
        replace hs10_ := hs10_.up u19_.ll
        replace hs13_ := hs13_.up u19_.ll
        replace hs17_ := hs17_.up u19_.ll
        replace hll18_ := hll18_.trans u19_.ll
        replace hhh18_ := hhh18_.trans u19_.hh
        replace ho19_0 := OwnS.backS ho19_0 hz19_ (Le.refl _)
        clear hI19_ u19_ hl19_
        refine ⟨_, rfl, ?_⟩
        refine Exists.elim (ho19_0.freeze hI) fun L20_ h20_ => Exists.elim h20_ fun H20_ h20_ => ?_
        replace hI := h20_.1
        have u20_ := h20_.2.1
        have hs20_ := h20_.2.2.1 (Le.no _)
        have hc20_ := ho19_0.cap
        replace hs0 := hs0.up u20_.hh
        replace hs1 := hs1.up u20_.hh
        replace hs10_ := hs10_.up u20_.ll
        replace hs13_ := hs13_.up u20_.ll
        replace hs17_ := hs17_.up u20_.ll
        replace hll18_ := hll18_.trans u20_.ll
        replace hhh18_ := hhh18_.trans u20_.hh
        clear h20_ u20_ ho19_0
        refine Ops_step (R_move rfl) rfl rfl ?_
        refine Ops_step (R_move rfl) rfl rfl ?_
        refine Ops_call (C_func TOmBlocks.bd34 rfl) rfl rfl ?_
        refine (sealskinref02_PutBytes_ok (x0 := x0) (x1 := x1) hI.st (hg.up hI.le) hc0 hs0 hc1 hs1 h).mono ?_
        rintro _ w21_ ⟨A21_0, c21_0, r21_0, L21_, H21_, rfl, hI21_, ho21_0, h⟩
        refine Exists.elim (hI.call hI21_ (by simp)) fun L210_ h21_ => ?_
        have hz21_ := hI.size
        replace hI := h21_.1
        have u21_ := h21_.2.1
        have hl21_ := h21_.2.2
        clear h21_
        replace hs0 := hs0.up u21_.hh
        replace hs1 := hs1.up u21_.hh
        replace hs10_ := hs10_.up u21_.ll
        replace hs13_ := hs13_.up u21_.ll
        replace hs17_ := hs17_.up u21_.ll
        replace hll18_ := hll18_.trans u21_.ll
        replace hhh18_ := hhh18_.trans u21_.hh
        replace hs20_ := hs20_.up u21_.ll
        replace ho21_0 := OwnS.backS ho21_0 hz21_ (Le.refl _)
        clear hI21_ u21_ hl21_
        refine ⟨_, rfl, ?_⟩
        refine Exists.elim (ho21_0.freeze hI) fun L22_ h22_ => Exists.elim h22_ fun H22_ h22_ => ?_
        replace hI := h22_.1
        have u22_ := h22_.2.1
        have hs22_ := h22_.2.2.1 (Le.no _)
        have hc22_ := ho21_0.cap
        replace hs0 := hs0.up u22_.hh
        replace hs1 := hs1.up u22_.hh
        replace hs10_ := hs10_.up u22_.ll
        replace hs13_ := hs13_.up u22_.ll
        replace hs17_ := hs17_.up u22_.ll
        replace hll18_ := hll18_.trans u22_.ll
        replace hhh18_ := hhh18_.trans u22_.hh
        replace hs20_ := hs20_.up u22_.ll
        clear h22_ u22_ ho21_0
        refine Ops_call (C_func TOmBlocks.bd24 rfl) rfl rfl ?_
        refine (bytes_Equal_ok (x0 := r19_0) (x1 := r21_0) hI.st (hg.up hI.le) hc20_ (hs20_.up hI.sub) hc22_ (hs22_.up hI.sub) h).mono ?_
        rintro _ w23_ ⟨r23_0, L23_, H23_, rfl, hI23_, h⟩
        refine Exists.elim (hI.call hI23_ (by simp)) fun L230_ h23_ => ?_
        have hz23_ := hI.size
        replace hI := h23_.1
        have u23_ := h23_.2.1
        have hl23_ := h23_.2.2
        clear h23_
        replace hs0 := hs0.up u23_.hh
        replace hs1 := hs1.up u23_.hh
        replace hs10_ := hs10_.up u23_.ll
        replace hs13_ := hs13_.up u23_.ll
        replace hs17_ := hs17_.up u23_.ll
        replace hll18_ := hll18_.trans u23_.ll
        replace hhh18_ := hhh18_.trans u23_.hh
        clear hI23_ u23_ hl23_
        refine ⟨_, rfl, ?_⟩
        refine Ops_step (R_move rfl) rfl rfl ?_
        refine Ops_splitB 39 rfl (fun hg24_ => ?_) (fun hg24_ => ?_)
        · replace h := h.1 hg24_
          refine Ops_step (R_move rfl) rfl rfl ?_
          refine Ops_step (R_move rfl) rfl rfl ?_
          refine Ops_step (X_bytesStr (bs := x1) Tryd.underlying22 Tryd.underlying5 Tryd.underlying9 rfl rfl (hs1.fz.rd hI.st)) rfl rfl ?_
          refine Ops_call (C_func TOmBlocks.bd17 rfl) rfl rfl ?_
          refine (octet_PutText_ok (x0 := x0) (x1 := (Str.mk x1)) hI.st (hg.up hI.le) hc0 hs0 h).mono ?_
          rintro _ w25_ ⟨A25_0, c25_0, r25_0, L25_, H25_, rfl, hI25_, ho25_0, h⟩
          refine Exists.elim (hI.call hI25_ (by simp)) fun L250_ h25_ => ?_
          have hz25_ := hI.size
          replace hI := h25_.1
          have u25_ := h25_.2.1
          have hl25_ := h25_.2.2
          clear h25_
          replace hs0 := hs0.up u25_.hh
          replace hs1 := hs1.up u25_.hh
          replace hs10_ := hs10_.up u25_.ll
          replace hs13_ := hs13_.up u25_.ll
          replace hs17_ := hs17_.up u25_.ll
          replace hll18_ := hll18_.trans u25_.ll
          replace hhh18_ := hhh18_.trans u25_.hh
          replace ho25_0 := OwnS.backS ho25_0 hz25_ (Le.refl _)
          clear hI25_ u25_ hl25_
          refine ⟨_, rfl, ?_⟩
          refine Exists.elim (ho25_0.freeze hI) fun L26_ h26_ => Exists.elim h26_ fun H26_ h26_ => ?_
          replace hI := h26_.1
          have u26_ := h26_.2.1
          have hs26_ := h26_.2.2.1 (Le.no _)
          have hc26_ := ho25_0.cap
          replace hs0 := hs0.up u26_.hh
          replace hs1 := hs1.up u26_.hh
          replace hs10_ := hs10_.up u26_.ll
          replace hs13_ := hs13_.up u26_.ll
          replace hs17_ := hs17_.up u26_.ll
          replace hll18_ := hll18_.trans u26_.ll
          replace hhh18_ := hhh18_.trans u26_.hh
          clear h26_ u26_ ho25_0
          refine Ops_step (R_move rfl) rfl rfl ?_
          refine Ops_step (R_move rfl) rfl rfl ?_
          refine Ops_call (C_func TOmBlocks.bd34 rfl) rfl rfl ?_
          refine (sealskinref02_PutBytes_ok (x0 := x0) (x1 := x1) hI.st (hg.up hI.le) hc0 hs0 hc1 hs1 h).mono ?_
          rintro _ w27_ ⟨A27_0, c27_0, r27_0, L27_, H27_, rfl, hI27_, ho27_0, h⟩
          refine Exists.elim (hI.call hI27_ (by simp)) fun L270_ h27_ => ?_
          have hz27_ := hI.size
          replace hI := h27_.1
          have u27_ := h27_.2.1
          have hl27_ := h27_.2.2
          clear h27_
          replace hs1 := hs1.up u27_.hh
          replace hs10_ := hs10_.up u27_.ll
          replace hs13_ := hs13_.up u27_.ll
          replace hs17_ := hs17_.up u27_.ll
          replace hll18_ := hll18_.trans u27_.ll
          replace hhh18_ := hhh18_.trans u27_.hh
          replace hs26_ := hs26_.up u27_.ll
          replace ho27_0 := OwnS.backS ho27_0 hz27_ (Le.refl _)
          clear hI27_ u27_ hl27_
          refine ⟨_, rfl, ?_⟩
          refine Exists.elim (ho27_0.freeze hI) fun L28_ h28_ => Exists.elim h28_ fun H28_ h28_ => ?_
          replace hI := h28_.1
          have u28_ := h28_.2.1
          have hs28_ := h28_.2.2.1 (Le.no _)
          have hc28_ := ho27_0.cap
          replace hs1 := hs1.up u28_.hh
          replace hs10_ := hs10_.up u28_.ll
          replace hs13_ := hs13_.up u28_.ll
          replace hs17_ := hs17_.up u28_.ll
          replace hll18_ := hll18_.trans u28_.ll
          replace hhh18_ := hhh18_.trans u28_.hh
          replace hs26_ := hs26_.up u28_.ll
          clear h28_ u28_ ho27_0
          refine Ops_call (C_func TOmBlocks.bd24 rfl) rfl rfl ?_
          refine (bytes_Equal_ok (x0 := r25_0) (x1 := r27_0) hI.st (hg.up hI.le) hc26_ (hs26_.up hI.sub) hc28_ (hs28_.up hI.sub) h).mono ?_
          rintro _ w29_ ⟨r29_0, L29_, H29_, rfl, hI29_, h⟩
          refine Exists.elim (hI.call hI29_ (by simp)) fun L290_ h29_ => ?_
          have hz29_ := hI.size
          replace hI := h29_.1
          have u29_ := h29_.2.1
          have hl29_ := h29_.2.2
          clear h29_
          replace hs1 := hs1.up u29_.hh
          replace hs10_ := hs10_.up u29_.ll
          replace hs13_ := hs13_.up u29_.ll
          replace hs17_ := hs17_.up u29_.ll
          replace hll18_ := hll18_.trans u29_.ll
          replace hhh18_ := hhh18_.trans u29_.hh
          clear hI29_ u29_ hl29_
          refine ⟨_, rfl, ?_⟩
          refine Ops_step (R_pick_true rfl rfl) rfl rfl ?_
          refine Ops_step (R_assign rfl) rfl rfl ?_
          refine Ops_nil ?_
          refine then_n ?_
          exact ⟨_, rfl, ⟨r29_0, _, _, rfl, h, hI, hll18_, hhh18_, trivial⟩, ⟨rfl, rfl, rfl, rfl, rfl, rfl, trivial⟩⟩
        · replace h := h.2 hg24_
          refine Ops_pass rfl rfl ?_
          refine Ops_pass rfl rfl ?_
          refine Ops_pass rfl rfl ?_
          refine Ops_pass rfl rfl ?_
          refine Ops_pass rfl rfl ?_
          refine Ops_pass rfl rfl ?_
          refine Ops_pass rfl rfl ?_
          refine Ops_pass rfl rfl ?_
          refine Ops_step (R_pick_false rfl rfl) rfl rfl ?_
          refine Ops_step (R_assign rfl) rfl rfl ?_
          refine Ops_nil ?_
          refine then_n ?_
          exact ⟨_, rfl, ⟨false, _, _, rfl, h, hI, hll18_, hhh18_, trivial⟩, ⟨rfl, rfl, rfl, rfl, rfl, rfl, trivial⟩⟩
      · simp only [pickE, lookE, putE, zipE, args0, Nat.reduceAdd, Nat.zero_add, List.cons_append, List.nil_append, Nat.reduceBEq, cond_true, cond_false] at hB18_
        subst hB18_
        clear h
        rintro _ w18_ ⟨x10_18, L18_, H18_, rfl, hJ18_, hI18_, hll18_, hhh18_, -⟩
        replace hI := hI18_
        clear hI18_
        have h := hr18_ x10_18 hJ18_
        clear hr18_ hJ18_
        replace hs1 := hs1.up hhh18_
        replace hs10_ := hs10_.up hll18_
        replace hs13_ := hs13_.up hll18_
        replace hs17_ := hs17_.up hll18_
        refine W_seq_k fun K30_ hK30_ => ?_
        refine W_region [some 49, some 50, some 51, some 52, some 53, some 54, some 55, some 56, some 57, some 58, some 59, some 60, some 61, some 62, some 63, some 64, some 65, some 66, some 67, some 68, some 69, some 70, some 71, some 72, some 73, some 74, some 4] rfl ?_
        refine Ops_step (R_move rfl) rfl rfl ?_
        refine Ops_step (R_move rfl) rfl rfl ?_
        refine Ops_splitB 50 rfl (fun hg31_ => ?_) (fun hg31_ => ?_)
        · replace h := h.1 hg31_
          refine Ops_step (R_move rfl) rfl rfl ?_
          refine Ops_call (C_func TOmBlocks.bd35 rfl) rfl rfl ?_
          refine (octet_Sum_ok (x0 := x1) hI.st (hg.up hI.le) hc1 hs1 h).mono ?_
          rintro _ w32_ ⟨r32_0, L32_, H32_, rfl, hI32_, h⟩
          refine Exists.elim (hI.call hI32_ (by simp)) fun L320_ h32_ => ?_
          have hz32_ := hI.size
          replace hI := h32_.1
          have u32_ := h32_.2.1
          have hl32_ := h32_.2.2
          clear h32_
          replace hs1 := hs1.up u32_.hh
          replace hs10_ := hs10_.up u32_.ll
          replace hs13_ := hs13_.up u32_.ll
          replace hs17_ := hs17_.up u32_.ll
          clear hI32_ u32_ hl32_
          refine ⟨_, rfl, ?_⟩
          refine Ops_step (R_move rfl) rfl rfl ?_
          refine Ops_call (C_func TOmBlocks.bd36 rfl) rfl rfl ?_
          refine (sealskinref02_Sum_ok (x0 := x1) hI.st (hg.up hI.le) hc1 hs1 h).mono ?_
          rintro _ w33_ ⟨r33_0, L33_, H33_, rfl, hI33_, h⟩
          refine Exists.elim (hI.call hI33_ (by simp)) fun L330_ h33_ => ?_
          have hz33_ := hI.size
          replace hI := h33_.1
          have u33_ := h33_.2.1
          have hl33_ := h33_.2.2
          clear h33_
          replace hs1 := hs1.up u33_.hh
          replace hs10_ := hs10_.up u33_.ll
          replace hs13_ := hs13_.up u33_.ll
          replace hs17_ := hs17_.up u33_.ll
          clear hI33_ u33_ hl33_
          refine ⟨_, rfl, ?_⟩
          refine Ops_step (R_eql rfl rfl) rfl rfl ?_
          refine Ops_step (R_pick_true rfl rfl) rfl rfl ?_
          refine Ops_step (R_move rfl) rfl rfl ?_
          refine Ops_split 57 rfl (fun hg34_ => ?_) (fun hg34_ => ?_)
          · replace h := h.1 hg34_
            refine Ops_step (R_move rfl) rfl rfl ?_
            refine Ops_step (R_move rfl) rfl rfl ?_
            refine Ops_call (C_func TOmBlocks.bd24 rfl) rfl rfl ?_
            refine (bytes_Equal_ok (x0 := r12_0) (x1 := r16_0) hI.st (hg.up hI.le) hc13_ (hs13_.up hI.sub) hc17_ (hs17_.up hI.sub) h).mono ?_
            rintro _ w35_ ⟨r35_0, L35_, H35_, rfl, hI35_, h⟩
            refine Exists.elim (hI.call hI35_ (by simp)) fun L350_ h35_ => ?_
            have hz35_ := hI.size
            replace hI := h35_.1
            have u35_ := h35_.2.1
            have hl35_ := h35_.2.2
            clear h35_
            replace hs1 := hs1.up u35_.hh
            replace hs10_ := hs10_.up u35_.ll
            clear hI35_ u35_ hl35_
            refine ⟨_, rfl, ?_⟩
            refine Ops_step (R_pick_true rfl rfl) rfl rfl ?_
            refine Ops_step (R_move rfl) rfl rfl ?_
            refine Ops_splitB 62 rfl (fun hg36_ => ?_) (fun hg36_ => ?_)
            · replace h := h.1 hg36_
              refine Ops_step (R_move rfl) rfl rfl ?_
              refine Ops_step (R_move rfl) rfl rfl ?_
              refine Ops_step (R_eql rfl rfl) rfl rfl ?_
              refine Ops_step (R_pick_true rfl rfl) rfl rfl ?_
              refine Ops_step (R_move rfl) rfl rfl ?_
              refine Ops_split 67 rfl (fun hg37_ => ?_) (fun hg37_ => ?_)
              · replace h := h.1 hg37_
                refine Ops_step (R_move rfl) rfl rfl ?_
                refine Ops_step (R_move rfl) rfl rfl ?_
                refine Ops_call (C_func TOmBlocks.bd24 rfl) rfl rfl ?_
                refine (bytes_Equal_ok (x0 := r9_0) (x1 := x1) hI.st (hg.up hI.le) hc10_ (hs10_.up hI.sub) hc1 hs1 h).mono ?_
                rintro _ w38_ ⟨r38_0, L38_, H38_, rfl, hI38_, h⟩
                refine Exists.elim (hI.call hI38_ (by simp)) fun L380_ h38_ => ?_
                have hz38_ := hI.size
                replace hI := h38_.1
                have u38_ := h38_.2.1
                have hl38_ := h38_.2.2
                clear h38_
                clear hI38_ u38_ hl38_
                refine ⟨_, rfl, ?_⟩
                refine Ops_step (R_pick_true rfl rfl) rfl rfl ?_
                refine Ops_step (R_move rfl) rfl rfl ?_
                refine Ops_splitB 72 rfl (fun hg39_ => ?_) (fun hg39_ => ?_)
                · replace h := h.1 hg39_
                  refine Ops_call (C_func TOmBlocks.bd15 rfl) rfl rfl ?_
                  refine (sealskinlaw02_awake_ok  hI.st (hg.up hI.le)  h).mono ?_
                  rintro _ w40_ ⟨r40_0, L40_, H40_, rfl, hI40_, h⟩
                  refine Exists.elim (hI.call hI40_ (by simp)) fun L400_ h40_ => ?_
                  have hz40_ := hI.size
                  replace hI := h40_.1
                  have u40_ := h40_.2.1
                  have hl40_ := h40_.2.2
                  clear h40_
                  clear hI40_ u40_ hl40_
                  refine ⟨_, rfl, ?_⟩
                  refine Ops_step (R_pick_true rfl rfl) rfl rfl ?_
                  refine Ops_step (R_assign rfl) rfl rfl ?_
                  refine Ops_nil ?_
                  refine then_n (hK30_ _ _ ?_)
                  clear hK30_ K30_
                  refine W_keepB [4] fun B41 hB41_ => ?_
                  simp only [pickE, lookE, putE, zipE, args0, Nat.reduceAdd, Nat.zero_add, List.cons_append, List.nil_append, Nat.reduceBEq, cond_true, cond_false] at hB41_
                  subst hB41_
                  refine W_ret ?_
                  refine ⟨_, ⟨_, _, rfl, rfl, rfl⟩, ?_⟩
                  exact ⟨r40_0, _, _, rfl, hI, h⟩
                · replace h := h.2 hg39_
                  refine Ops_pass rfl rfl ?_
                  refine Ops_step (R_pick_false rfl rfl) rfl rfl ?_
                  refine Ops_step (R_assign rfl) rfl rfl ?_
                  refine Ops_nil ?_
                  refine then_n (hK30_ _ _ ?_)
                  clear hK30_ K30_
                  refine W_keepB [4] fun B42 hB42_ => ?_
                  simp only [pickE, lookE, putE, zipE, args0, Nat.reduceAdd, Nat.zero_add, List.cons_append, List.nil_append, Nat.reduceBEq, cond_true, cond_false] at hB42_
                  subst hB42_
                  refine W_ret ?_
                  refine ⟨_, ⟨_, _, rfl, rfl, rfl⟩, ?_⟩
                  exact ⟨false, _, _, rfl, hI, h⟩
              · replace h := h.2 hg37_
                refine Ops_pass rfl rfl ?_
                refine Ops_pass rfl rfl ?_
                refine Ops_pass rfl rfl ?_
                refine Ops_step (R_pick_false rfl rfl) rfl rfl ?_
                refine Ops_step (R_move rfl) rfl rfl ?_
                refine Ops_pass rfl rfl ?_
                refine Ops_step (R_pick_false rfl rfl) rfl rfl ?_
                refine Ops_step (R_assign rfl) rfl rfl ?_
                refine Ops_nil ?_
                refine then_n (hK30_ _ _ ?_)
                clear hK30_ K30_
                refine W_keepB [4] fun B43 hB43_ => ?_
                simp only [pickE, lookE, putE, zipE, args0, Nat.reduceAdd, Nat.zero_add, List.cons_append, List.nil_append, Nat.reduceBEq, cond_true, cond_false] at hB43_
                subst hB43_
                refine W_ret ?_
                refine ⟨_, ⟨_, _, rfl, rfl, rfl⟩, ?_⟩
                exact ⟨false, _, _, rfl, hI, h⟩
            · replace h := h.2 hg36_
              refine Ops_pass rfl rfl ?_
              refine Ops_pass rfl rfl ?_
              refine Ops_pass rfl rfl ?_
              refine Ops_step (R_pick_false rfl rfl) rfl rfl ?_
              refine Ops_step (R_move rfl) rfl rfl ?_
              refine Ops_pass rfl rfl ?_
              refine Ops_pass rfl rfl ?_
              refine Ops_pass rfl rfl ?_
              refine Ops_step (R_pick_false rfl rfl) rfl rfl ?_
              refine Ops_step (R_move rfl) rfl rfl ?_
              refine Ops_pass rfl rfl ?_
              refine Ops_step (R_pick_false rfl rfl) rfl rfl ?_
              refine Ops_step (R_assign rfl) rfl rfl ?_
              refine Ops_nil ?_
              refine then_n (hK30_ _ _ ?_)
              clear hK30_ K30_
              refine W_keepB [4] fun B44 hB44_ => ?_
              simp only [pickE, lookE, putE, zipE, args0, Nat.reduceAdd, Nat.zero_add, List.cons_append, List.nil_append, Nat.reduceBEq, cond_true, cond_false] at hB44_
              subst hB44_
              refine W_ret ?_
              refine ⟨_, ⟨_, _, rfl, rfl, rfl⟩, ?_⟩
              exact ⟨false, _, _, rfl, hI, h⟩
          · replace h := h.2 hg34_
            refine Ops_pass rfl rfl ?_
            refine Ops_pass rfl rfl ?_
            refine Ops_pass rfl rfl ?_
            refine Ops_step (R_pick_false rfl rfl) rfl rfl ?_
            refine Ops_step (R_move rfl) rfl rfl ?_
            refine Ops_pass rfl rfl ?_
            refine Ops_pass rfl rfl ?_
            refine Ops_pass rfl rfl ?_
            refine Ops_step (R_pick_false rfl rfl) rfl rfl ?_
            refine Ops_step (R_move rfl) rfl rfl ?_
            refine Ops_pass rfl rfl ?_
            refine Ops_pass rfl rfl ?_
            refine Ops_pass rfl rfl ?_
            refine Ops_step (R_pick_false rfl rfl) rfl rfl ?_
            refine Ops_step (R_move rfl) rfl rfl ?_
            refine Ops_pass rfl rfl ?_
            refine Ops_step (R_pick_false rfl rfl) rfl rfl ?_
            refine Ops_step (R_assign rfl) rfl rfl ?_
            refine Ops_nil ?_
            refine then_n (hK30_ _ _ ?_)
            clear hK30_ K30_
            refine W_keepB [4] fun B45 hB45_ => ?_
            simp only [pickE, lookE, putE, zipE, args0, Nat.reduceAdd, Nat.zero_add, List.cons_append, List.nil_append, Nat.reduceBEq, cond_true, cond_false] at hB45_
            subst hB45_
            refine W_ret ?_
            refine ⟨_, ⟨_, _, rfl, rfl, rfl⟩, ?_⟩
            exact ⟨false, _, _, rfl, hI, h⟩
        · replace h := h.2 hg31_
          refine Ops_pass rfl rfl ?_
          refine Ops_pass rfl rfl ?_
          refine Ops_pass rfl rfl ?_
          refine Ops_pass rfl rfl ?_
          refine Ops_pass rfl rfl ?_
          refine Ops_step (R_pick_false rfl rfl) rfl rfl ?_
          refine Ops_step (R_move rfl) rfl rfl ?_
          refine Ops_pass rfl rfl ?_
          refine Ops_pass rfl rfl ?_
          refine Ops_pass rfl rfl ?_
          refine Ops_step (R_pick_false rfl rfl) rfl rfl ?_
          refine Ops_step (R_move rfl) rfl rfl ?_
          refine Ops_pass rfl rfl ?_
          refine Ops_pass rfl rfl ?_
          refine Ops_pass rfl rfl ?_
          refine Ops_step (R_pick_false rfl rfl) rfl rfl ?_
          refine Ops_step (R_move rfl) rfl rfl ?_
          refine Ops_pass rfl rfl ?_
          refine Ops_pass rfl rfl ?_
          refine Ops_pass rfl rfl ?_
          refine Ops_step (R_pick_false rfl rfl) rfl rfl ?_
          refine Ops_step (R_move rfl) rfl rfl ?_
          refine Ops_pass rfl rfl ?_
          refine Ops_step (R_pick_false rfl rfl) rfl rfl ?_
          refine Ops_step (R_assign rfl) rfl rfl ?_
          refine Ops_nil ?_
          refine then_n (hK30_ _ _ ?_)
          clear hK30_ K30_
          refine W_keepB [4] fun B46 hB46_ => ?_
          simp only [pickE, lookE, putE, zipE, args0, Nat.reduceAdd, Nat.zero_add, List.cons_append, List.nil_append, Nat.reduceBEq, cond_true, cond_false] at hB46_
          subst hB46_
          refine W_ret ?_
          refine ⟨_, ⟨_, _, rfl, rfl, rfl⟩, ?_⟩
          exact ⟨false, _, _, rfl, hI, h⟩

end Go.Proofs.YtdnpdljnjoegiaaDoor
