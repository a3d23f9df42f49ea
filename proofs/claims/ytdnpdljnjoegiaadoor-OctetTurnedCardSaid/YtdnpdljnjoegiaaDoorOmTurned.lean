/- What the walks of this seat show of OmTurned. -/
import Derived.Test.YtdnpdljnjoegiaaDoorOmTurnedp
import Derived.Test.YtdnpdljnjoegiaaDoorOtE
import Derived.Test.YtdnpdljnjoegiaaDoorProg
set_option linter.unusedVariables false
set_option linter.unusedSimpArgs false
namespace Go.Proofs.YtdnpdljnjoegiaaDoor
open Go Go.Sx Go.Lx
namespace TOmTurned
theorem hm : Tryd.prog.follows .mixedOrders = true := by kernel_rfl
theorem ag5 : aggB Tryd.prog 5 = some false := by kernel_rfl
theorem bd15 : bodied Tryd.prog 15 = true := by kernel_rfl
theorem bd27 : bodied Tryd.prog 27 = true := by kernel_rfl
theorem bd28 : bodied Tryd.prog 28 = true := by kernel_rfl
theorem sz5 : sz Tryd.prog 5 = some 1 := by kernel_rfl
end TOmTurned
set_option maxHeartbeats 4000000 in
theorem sealskinlaw02_OctetTurned_ok {G : Gh} {w : World} (hS : St G w) (hg : GL G) {A0 : Option Addr} {c0 : Nat} {x0 : List UInt8} (hc0 : x0.length ≤ c0) (hs0 : Sl G A0 x0) {x1 : Int} {x2 : Int} {Q : Bool → Prop} (h : sealskinlaw02_OctetTurned x0 x1 x2 Q) : Calls Tryd.prog 4 #[.slice A0 x0.length c0, vi x1, vi x2] w fun e w2 => ∃ (r0 : Bool) (L H : Gh), e = .returned (.bool r0) ∧ Inv [] G w L H w2 ∧ Q r0 := by
  unfold sealskinlaw02_OctetTurned at h
  have hI := Inv.start (M := []) hS
  refine calls_W 66 Tryd.func4 rfl Tryd.ntmps4 rfl [.tmp 6] rfl ?_
  refine W_seq_k fun K1_ hK1_ => ?_
  refine W_region [some 6] rfl ?_
  refine Ops_step (R_assign rfl) rfl rfl ?_
  refine Ops_nil ?_
  refine then_n (hK1_ _ _ ?_)
  clear hK1_ K1_
  refine W_seq_k fun K2_ hK2_ => ?_
  refine W_region [some 13, some 14, some 12, some 15, some 16, some 7, some 8] rfl ?_
  refine Ops_step (R_move rfl) rfl rfl ?_
  refine Ops_call (C_func TOmTurned.bd27 rfl) rfl rfl ?_
  refine (octet_Seal_ok (x0 := x0) hI.st (hg.up hI.le) hc0 hs0 h).mono ?_
  rintro _ w3_ ⟨A3_0, c3_0, r3_0, r3_1, L3_, H3_, rfl, hI3_, ho3_0, h⟩
  refine Exists.elim (hI.call hI3_ (by simp)) fun L30_ h3_ => ?_
  have hz3_ := hI.size
  replace hI := h3_.1
  have u3_ := h3_.2.1
  have hl3_ := h3_.2.2
  clear h3_
  replace hs0 := hs0.up u3_.hh
  replace ho3_0 := OwnS.backS ho3_0 hz3_ (Le.refl _)
  clear hI3_ u3_ hl3_
  refine ⟨_, rfl, ?_⟩
  refine Ops_step (R_move rfl) rfl rfl ?_
  refine Ops_step (R_extract (v := .slice A3_0 r3_0.length c3_0) rfl rfl) rfl rfl ?_
  refine Ops_step (R_extract (v := vi r3_1) rfl rfl) rfl rfl ?_
  refine Ops_step (R_assign rfl) rfl rfl ?_
  refine Ops_step (R_assign rfl) rfl rfl ?_
  refine Ops_nil ?_
  refine then_n (hK2_ _ _ ?_)
  clear hK2_ K2_
  refine W_keepB [0, 1, 2, 7, 8] fun B4 hB4_ => ?_
  simp only [pickE, lookE, putE, zipE, args0, Nat.reduceAdd, Nat.zero_add, List.cons_append, List.nil_append, Nat.reduceBEq, cond_true, cond_false] at hB4_
  subst hB4_
  refine W_seq_k fun K5_ hK5_ => ?_
  refine W_seq_k fun K6_ hK6_ => ?_
  refine W_region [some 17, some 18] rfl ?_
  refine Ops_step (R_move rfl) rfl rfl ?_
  refine Ops_step (R_neq rfl rfl) rfl rfl ?_
  refine Ops_nil ?_
  refine then_n (hK6_ _ _ ?_)
  clear hK6_ K6_
  refine W_if rfl (fun hc7_ => ?_) (fun hc7_ => ?_)
  · replace h := h.1 hc7_
    refine W_seq_k fun K8_ hK8_ => ?_
    refine W_region [some 19, some 20, some 21, some 22, some 23, some 24, some 25, some 26, some 27, some 28, some 6] rfl ?_
    refine Ops_step (R_move rfl) rfl rfl ?_
    refine Ops_step (R_eql rfl rfl) rfl rfl ?_
    refine Ops_step (R_move rfl) rfl rfl ?_
    refine Ops_split 21 rfl (fun hg9_ => ?_) (fun hg9_ => ?_)
    · replace h := h.1 hg9_
      refine Ops_step (R_move rfl) rfl rfl ?_
      refine Ops_step (R_len Tryd.underlying22 rfl rfl) rfl rfl ?_
      refine Ops_step (R_gtr rfl rfl) rfl rfl ?_
      refine Ops_step (R_pick_true rfl rfl) rfl rfl ?_
      refine Ops_step (R_move rfl) rfl rfl ?_
      refine Ops_split 26 rfl (fun hg10_ => ?_) (fun hg10_ => ?_)
      · replace h := h.1 hg10_
        refine Ops_call (C_func TOmTurned.bd15 rfl) rfl rfl ?_
        refine (sealskinlaw02_awake_ok  hI.st (hg.up hI.le)  h).mono ?_
        rintro _ w11_ ⟨r11_0, L11_, H11_, rfl, hI11_, h⟩
        refine Exists.elim (hI.call hI11_ (by simp)) fun L110_ h11_ => ?_
        have hz11_ := hI.size
        replace hI := h11_.1
        have u11_ := h11_.2.1
        have hl11_ := h11_.2.2
        clear h11_
        clear hI11_ u11_ hl11_
        refine ⟨_, rfl, ?_⟩
        refine Ops_step (R_pick_true rfl rfl) rfl rfl ?_
        refine Ops_step (R_assign rfl) rfl rfl ?_
        refine Ops_nil ?_
        refine then_n (hK8_ _ _ ?_)
        clear hK8_ K8_
        refine W_keepB [6] fun B12 hB12_ => ?_
        simp only [pickE, lookE, putE, zipE, args0, Nat.reduceAdd, Nat.zero_add, List.cons_append, List.nil_append, Nat.reduceBEq, cond_true, cond_false] at hB12_
        subst hB12_
        refine W_ret ?_
        refine then_ret ?_
        clear hK5_ K5_
        refine ⟨_, ⟨_, _, rfl, rfl, rfl⟩, ?_⟩
        exact ⟨r11_0, _, _, rfl, hI, h⟩
      · replace h := h.2 hg10_
        refine Ops_pass rfl rfl ?_
        refine Ops_step (R_pick_false rfl rfl) rfl rfl ?_
        refine Ops_step (R_assign rfl) rfl rfl ?_
        refine Ops_nil ?_
        refine then_n (hK8_ _ _ ?_)
        clear hK8_ K8_
        refine W_keepB [6] fun B13 hB13_ => ?_
        simp only [pickE, lookE, putE, zipE, args0, Nat.reduceAdd, Nat.zero_add, List.cons_append, List.nil_append, Nat.reduceBEq, cond_true, cond_false] at hB13_
        subst hB13_
        refine W_ret ?_
        refine then_ret ?_
        clear hK5_ K5_
        refine ⟨_, ⟨_, _, rfl, rfl, rfl⟩, ?_⟩
        exact ⟨false, _, _, rfl, hI, h⟩
    · replace h := h.2 hg9_
      refine Ops_pass rfl rfl ?_
      refine Ops_pass rfl rfl ?_
      refine Ops_pass rfl rfl ?_
      refine Ops_step (R_pick_false rfl rfl) rfl rfl ?_
      refine Ops_step (R_move rfl) rfl rfl ?_
      refine Ops_pass rfl rfl ?_
      refine Ops_step (R_pick_false rfl rfl) rfl rfl ?_
      refine Ops_step (R_assign rfl) rfl rfl ?_
      refine Ops_nil ?_
      refine then_n (hK8_ _ _ ?_)
      clear hK8_ K8_
      refine W_keepB [6] fun B14 hB14_ => ?_
      simp only [pickE, lookE, putE, zipE, args0, Nat.reduceAdd, Nat.zero_add, List.cons_append, List.nil_append, Nat.reduceBEq, cond_true, cond_false] at hB14_
      subst hB14_
      refine W_ret ?_
      refine then_ret ?_
      clear hK5_ K5_
      refine ⟨_, ⟨_, _, rfl, rfl, rfl⟩, ?_⟩
      exact ⟨false, _, _, rfl, hI, h⟩
  · replace h := h.2 hc7_
    refine W_skip ?_
    refine then_n (hK5_ _ _ ?_)
    clear hK5_ K5_
    refine W_seq_k fun K15_ hK15_ => ?_
    refine W_seq_k fun K16_ hK16_ => ?_
    refine W_region [some 29, some 30, some 31] rfl ?_
    refine Ops_step (R_move rfl) rfl rfl ?_
    refine Ops_step (R_len Tryd.underlying22 rfl rfl) rfl rfl ?_
    refine Ops_step (R_lss rfl rfl) rfl rfl ?_
    refine Ops_nil ?_
    refine then_n (hK16_ _ _ ?_)
    clear hK16_ K16_
    refine W_keepB [1, 2, 7, 31] fun B17 hB17_ => ?_
    simp only [pickE, lookE, putE, zipE, args0, Nat.reduceAdd, Nat.zero_add, List.cons_append, List.nil_append, Nat.reduceBEq, cond_true, cond_false] at hB17_
    subst hB17_
    refine W_if rfl (fun hc18_ => ?_) (fun hc18_ => ?_)
    · replace h := h.1 hc18_
      refine W_seq_k fun K19_ hK19_ => ?_
      refine W_region [some 6] rfl ?_
      refine Ops_step (R_assign rfl) rfl rfl ?_
      refine Ops_nil ?_
      refine then_n (hK19_ _ _ ?_)
      clear hK19_ K19_
      refine W_ret ?_
      refine then_ret ?_
      clear hK15_ K15_
      refine ⟨_, ⟨_, _, rfl, rfl, rfl⟩, ?_⟩
      exact ⟨false, _, _, rfl, hI, h⟩
    · replace h := h.2 hc18_
      refine W_skip ?_
      refine then_n (hK15_ _ _ ?_)
      clear hK15_ K15_
      refine W_seq_k fun K20_ hK20_ => ?_
      refine W_region [some 32, some 33, some 34, some 35, some 36, some 37, some 38, some 39, some 40, some 41, some 42, some 43, some 44, some 45, some 46, some 47, some 48, none] rfl ?_
      refine Ops_step (R_move rfl) rfl rfl ?_
      refine Ops_step (R_move rfl) rfl rfl ?_
      refine Ops_step (R_conv Tryd.underlying3 Tryd.underlying40 rfl (cI_64 _)) rfl rfl ?_
      refine Ops_step (R_move rfl) rfl rfl ?_
      refine Ops_step (R_len Tryd.underlying22 rfl rfl) rfl rfl ?_
      refine Ops_step (R_conv Tryd.underlying3 Tryd.underlying40 rfl (cI_64 _)) rfl rfl ?_
      have hk21_ := h.1
      replace h := h.2
      refine Ops_step (R_rem rfl rfl hk21_ (rem64 (BitVec.ofInt 64 x1) (BitVec.ofInt 64 (r3_0.length : Int)))) rfl rfl ?_
      have hk22_ := h.1
      replace h := h.2
      refine Ops_step (R_conv Tryd.underlying40 Tryd.underlying3 rfl (c64_I _ hk22_)) rfl rfl ?_
      refine Exists.elim h fun x23_ h => ?_
      have hx23_ := h.1
      replace h := h.2
      have ha23_ := (ho3_0.atS hx23_).1
      refine Ops_step (R_indexSl Tryd.underlying22 TOmTurned.sz5 rfl rfl hx23_.1 hx23_.lt ha23_) rfl rfl ?_
      refine Ops_step (R_load TOmTurned.ag5 rfl (ho3_0.atS hx23_).2) rfl rfl ?_
      refine Ops_step (R_move rfl) rfl rfl ?_
      refine Ops_step (R_conv Tryd.underlying3 Tryd.underlying40 rfl (cI_64 _)) rfl rfl ?_
      refine Ops_step (R_rem rfl rfl (by decide) (rem64 (BitVec.ofInt 64 x2) (255#64))) rfl rfl ?_
      refine Ops_step (R_add rfl rfl (add64 (1#64) ((BitVec.ofInt 64 x2) % (255#64)))) rfl rfl ?_
      refine Ops_step (R_conv Tryd.underlying40 Tryd.underlying5 rfl (c64_8 _)) rfl rfl ?_
      refine Ops_step (R_xor rfl rfl (xor8 x23_ (UInt8.ofBitVec (((1#64) + ((BitVec.ofInt 64 x2) % (255#64))).setWidth 8)))) rfl rfl ?_
      refine Exists.elim h fun x24_ h => ?_
      have hx24_ := h.1
      replace h := h.2
      have ha24_ := (ho3_0.atS hx24_).1
      refine Ops_step (R_indexSl Tryd.underlying22 TOmTurned.sz5 rfl rfl hx24_.1 hx24_.lt ha24_) rfl rfl ?_
      refine Ops_to0 (X_storeOwn TOmTurned.sz5 rfl rfl ho3_0 hx24_) rfl ?_
      rintro _ w25_ ⟨ho25_, hF25_⟩
      replace hI := hI.tok hF25_ ho3_0.out (ho3_0.new (Nat.le_refl _))
      clear hF25_ ho3_0
      have hpl25_ : (put r3_0 (((BitVec.ofInt 64 x1) % (BitVec.ofInt 64 (r3_0.length : Int))).toNat : Int) (x23_ ^^^ (UInt8.ofBitVec (((1#64) + ((BitVec.ofInt 64 x2) % (255#64))).setWidth 8)))).length = r3_0.length := by simp only [put, List.length_set]
      refine Ops_re 7 (v := .slice A3_0 r3_0.length c3_0) (v' := .slice A3_0 (put r3_0 (((BitVec.ofInt 64 x1) % (BitVec.ofInt 64 (r3_0.length : Int))).toNat : Int) (x23_ ^^^ (UInt8.ofBitVec (((1#64) + ((BitVec.ofInt 64 x2) % (255#64))).setWidth 8)))).length c3_0) rfl (by rw [hpl25_]) ?_
      refine Ops_re 32 (v := .slice A3_0 r3_0.length c3_0) (v' := .slice A3_0 (put r3_0 (((BitVec.ofInt 64 x1) % (BitVec.ofInt 64 (r3_0.length : Int))).toNat : Int) (x23_ ^^^ (UInt8.ofBitVec (((1#64) + ((BitVec.ofInt 64 x2) % (255#64))).setWidth 8)))).length c3_0) rfl (by rw [hpl25_]) ?_
      refine Ops_re 35 (v := .slice A3_0 r3_0.length c3_0) (v' := .slice A3_0 (put r3_0 (((BitVec.ofInt 64 x1) % (BitVec.ofInt 64 (r3_0.length : Int))).toNat : Int) (x23_ ^^^ (UInt8.ofBitVec (((1#64) + ((BitVec.ofInt 64 x2) % (255#64))).setWidth 8)))).length c3_0) rfl (by rw [hpl25_]) ?_
      refine Ops_nil ?_
      refine then_n (hK20_ _ _ ?_)
      clear hK20_ K20_
      refine W_keepB [7] fun B26 hB26_ => ?_
      simp only [pickE, lookE, putE, zipE, args0, Nat.reduceAdd, Nat.zero_add, List.cons_append, List.nil_append, Nat.reduceBEq, cond_true, cond_false] at hB26_
      subst hB26_
      refine W_seq_k fun K27_ hK27_ => ?_
      refine W_region [some 50, some 51, some 49, some 52, some 53, some 54, some 9, some 10, some 11] rfl ?_
      refine Ops_step (R_move rfl) rfl rfl ?_
      refine Exists.elim (ho25_.lend hI.st (Le.no _)) fun Hb28_0_ hb28_0_ => ?_
      refine Ops_call (C_func TOmTurned.bd28 rfl) rfl rfl ?_
      refine (octet_Open_ok (x0 := (put r3_0 (((BitVec.ofInt 64 x1) % (BitVec.ofInt 64 (r3_0.length : Int))).toNat : Int) (x23_ ^^^ (UInt8.ofBitVec (((1#64) + ((BitVec.ofInt 64 x2) % (255#64))).setWidth 8))))) hb28_0_.1 (hg.up (hI.le.trans hb28_0_.2.1)) ho25_.cap hb28_0_.2.2 h).mono ?_
      have hlo28_0_ho25_ := ho25_.lt
      rintro _ w28_ ⟨A28_0, c28_0, r28_0, r28_1, r28_2, L28_, H28_, rfl, hI28_, ho28_0, h⟩
      refine Exists.elim (hI.callB hb28_0_.2.1 hI28_ (by simp)) fun L280_ h28_ => Exists.elim h28_ fun H280_ h28_ => ?_
      have hz28_ := hI.size
      replace hI := h28_.1
      have u28_ := h28_.2.1
      have hl28_ := h28_.2.2.1
      have hh28_ := h28_.2.2.2
      clear h28_
      replace ho25_ := ho25_.up (Le.refl _) u28_ (by simp)
      have hsp28_0_ho25_ : ∀ i ∈ bk A28_0 c28_0, i ∉ bk A3_0 c3_0 := sep_new ho28_0.off hlo28_0_ho25_
      replace ho28_0 := OwnS.backS ho28_0 hz28_ hh28_
      clear hI28_ u28_ hl28_
      refine ⟨_, rfl, ?_⟩
      refine Exists.elim (ho28_0.freeze hI) fun L29_ h29_ => Exists.elim h29_ fun H29_ h29_ => ?_
      replace hI := h29_.1
      have u29_ := h29_.2.1
      have hs29_ := h29_.2.2.1 (Le.no _)
      have hc29_ := ho28_0.cap
      replace ho25_ := ho25_.up (Le.refl _) u29_ (sep_sym hsp28_0_ho25_)
      clear h29_ u29_ ho28_0
      refine Ops_step (R_move rfl) rfl rfl ?_
      refine Ops_step (R_extract (v := .slice A28_0 r28_0.length c28_0) rfl rfl) rfl rfl ?_
      refine Ops_step (R_extract (v := vi r28_1) rfl rfl) rfl rfl ?_
      refine Ops_step (R_extract (v := vi r28_2) rfl rfl) rfl rfl ?_
      refine Ops_step (R_assign rfl) rfl rfl ?_
      refine Ops_step (R_assign rfl) rfl rfl ?_
      refine Ops_step (R_assign rfl) rfl rfl ?_
      refine Ops_nil ?_
      refine then_n (hK27_ _ _ ?_)
      clear hK27_ K27_
      refine W_keepB [7, 10, 11] fun B30 hB30_ => ?_
      simp only [pickE, lookE, putE, zipE, args0, Nat.reduceAdd, Nat.zero_add, List.cons_append, List.nil_append, Nat.reduceBEq, cond_true, cond_false] at hB30_
      subst hB30_
      refine W_seq_k fun K31_ hK31_ => ?_
      refine W_region [some 55, some 56, some 57, some 58, some 59, some 60, some 61, some 62, some 63, some 64, some 65, some 6] rfl ?_
      refine Ops_step (R_move rfl) rfl rfl ?_
      refine Ops_step (R_neq rfl rfl) rfl rfl ?_
      refine Ops_step (R_move rfl) rfl rfl ?_
      refine Ops_split 57 rfl (fun hg32_ => ?_) (fun hg32_ => ?_)
      · replace h := h.1 hg32_
        refine Ops_pass rfl rfl ?_
        refine Ops_pass rfl rfl ?_
        refine Ops_pass rfl rfl ?_
        refine Ops_pass rfl rfl ?_
        refine Ops_step (R_pick_true rfl rfl) rfl rfl ?_
        refine Ops_step (R_move rfl) rfl rfl ?_
        refine Ops_call (C_func TOmTurned.bd15 rfl) rfl rfl ?_
        refine (sealskinlaw02_awake_ok  hI.st (hg.up hI.le)  h).mono ?_
        rintro _ w33_ ⟨r33_0, L33_, H33_, rfl, hI33_, h⟩
        refine Exists.elim (hI.call hI33_ (by simp)) fun L330_ h33_ => ?_
        have hz33_ := hI.size
        replace hI := h33_.1
        have u33_ := h33_.2.1
        have hl33_ := h33_.2.2
        clear h33_
        clear hI33_ u33_ hl33_
        refine ⟨_, rfl, ?_⟩
        refine Ops_step (R_pick_true rfl rfl) rfl rfl ?_
        refine Ops_step (R_assign rfl) rfl rfl ?_
        refine Ops_nil ?_
        refine then_n (hK31_ _ _ ?_)
        clear hK31_ K31_
        refine W_keepB [6] fun B34 hB34_ => ?_
        simp only [pickE, lookE, putE, zipE, args0, Nat.reduceAdd, Nat.zero_add, List.cons_append, List.nil_append, Nat.reduceBEq, cond_true, cond_false] at hB34_
        subst hB34_
        refine W_ret ?_
        refine ⟨_, ⟨_, _, rfl, rfl, rfl⟩, ?_⟩
        exact ⟨r33_0, _, _, rfl, hI, h⟩
      · replace h := h.2 hg32_
        refine Ops_step (R_move rfl) rfl rfl ?_
        refine Ops_step (R_move rfl) rfl rfl ?_
        refine Ops_step (R_len Tryd.underlying22 rfl rfl) rfl rfl ?_
        refine Ops_step (R_neq rfl rfl) rfl rfl ?_
        refine Ops_step (R_pick_false rfl rfl) rfl rfl ?_
        refine Ops_step (R_move rfl) rfl rfl ?_
        refine Ops_split 63 rfl (fun hg35_ => ?_) (fun hg35_ => ?_)
        · replace h := h.1 hg35_
          refine Ops_call (C_func TOmTurned.bd15 rfl) rfl rfl ?_
          refine (sealskinlaw02_awake_ok  hI.st (hg.up hI.le)  h).mono ?_
          rintro _ w36_ ⟨r36_0, L36_, H36_, rfl, hI36_, h⟩
          refine Exists.elim (hI.call hI36_ (by simp)) fun L360_ h36_ => ?_
          have hz36_ := hI.size
          replace hI := h36_.1
          have u36_ := h36_.2.1
          have hl36_ := h36_.2.2
          clear h36_
          clear hI36_ u36_ hl36_
          refine ⟨_, rfl, ?_⟩
          refine Ops_step (R_pick_true rfl rfl) rfl rfl ?_
          refine Ops_step (R_assign rfl) rfl rfl ?_
          refine Ops_nil ?_
          refine then_n (hK31_ _ _ ?_)
          clear hK31_ K31_
          refine W_keepB [6] fun B37 hB37_ => ?_
          simp only [pickE, lookE, putE, zipE, args0, Nat.reduceAdd, Nat.zero_add, List.cons_append, List.nil_append, Nat.reduceBEq, cond_true, cond_false] at hB37_
          subst hB37_
          refine W_ret ?_
          refine ⟨_, ⟨_, _, rfl, rfl, rfl⟩, ?_⟩
          exact ⟨r36_0, _, _, rfl, hI, h⟩
        · replace h := h.2 hg35_
          refine Ops_pass rfl rfl ?_
          refine Ops_step (R_pick_false rfl rfl) rfl rfl ?_
          refine Ops_step (R_assign rfl) rfl rfl ?_
          refine Ops_nil ?_
          refine then_n (hK31_ _ _ ?_)
          clear hK31_ K31_
          refine W_keepB [6] fun B38 hB38_ => ?_
          simp only [pickE, lookE, putE, zipE, args0, Nat.reduceAdd, Nat.zero_add, List.cons_append, List.nil_append, Nat.reduceBEq, cond_true, cond_false] at hB38_
          subst hB38_
          refine W_ret ?_
          refine ⟨_, ⟨_, _, rfl, rfl, rfl⟩, ?_⟩
          exact ⟨false, _, _, rfl, hI, h⟩

end Go.Proofs.YtdnpdljnjoegiaaDoor
