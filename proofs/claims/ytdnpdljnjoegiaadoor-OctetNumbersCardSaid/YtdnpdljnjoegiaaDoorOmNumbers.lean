/- What the walks of this seat show of OmNumbers. -/
import Derived.Test.YtdnpdljnjoegiaaDoorOmNumbersp
import Derived.Test.YtdnpdljnjoegiaaDoorOtD
import Derived.Test.YtdnpdljnjoegiaaDoorOtE
import Derived.Test.YtdnpdljnjoegiaaDoorProg
set_option linter.unusedVariables false
set_option linter.unusedSimpArgs false
namespace Go.Proofs.YtdnpdljnjoegiaaDoor
open Go Go.Sx Go.Lx
namespace TOmNumbers
theorem hm : Tryd.prog.follows .mixedOrders = true := by kernel_rfl
theorem ag5 : aggB Tryd.prog 5 = some false := by kernel_rfl
theorem bd15 : bodied Tryd.prog 15 = true := by kernel_rfl
theorem bd19 : bodied Tryd.prog 19 = true := by kernel_rfl
theorem bd24 : bodied Tryd.prog 24 = true := by kernel_rfl
theorem bd31 : bodied Tryd.prog 31 = true := by kernel_rfl
theorem bd32 : bodied Tryd.prog 32 = true := by kernel_rfl
theorem sz5 : sz Tryd.prog 5 = some 1 := by kernel_rfl
end TOmNumbers
set_option maxHeartbeats 4000000 in
theorem sealskinlaw02_OctetNumbers_ok {G : Gh} {w : World} (hS : St G w) (hg : GL G) {A0 : Option Addr} {c0 : Nat} {x0 : List UInt8} (hc0 : x0.length ≤ c0) (hs0 : Sl G A0 x0) {A1 : Option Addr} {c1 : Nat} {x1 : List Int} (hc1 : x1.length ≤ c1) (hs1 : Sl G A1 x1) {Q : Bool → Prop} (h : sealskinlaw02_OctetNumbers x0 x1 Q) : Calls Tryd.prog 8 #[.slice A0 x0.length c0, .slice A1 x1.length c1] w fun e w2 => ∃ (r0 : Bool) (L H : Gh), e = .returned (.bool r0) ∧ Inv [] G w L H w2 ∧ Q r0 := by
  unfold sealskinlaw02_OctetNumbers at h
  have hI := Inv.start (M := []) hS
  refine calls_W 49 Tryd.func8 rfl Tryd.ntmps8 rfl [.tmp 4] rfl ?_
  refine W_seq_k fun K1_ hK1_ => ?_
  refine W_region [some 4] rfl ?_
  refine Ops_step (R_assign rfl) rfl rfl ?_
  refine Ops_nil ?_
  refine then_n (hK1_ _ _ ?_)
  clear hK1_ K1_
  refine W_seq_k fun K2_ hK2_ => ?_
  refine Exists.elim h fun J3_ h => ?_
  have hr3_ := h.1
  replace h := h.2
  refine W_seq_join [0, 1] [16] (fun vs w2 => ∃ (x16_3 : Bool) (L H : Gh), vs = [.bool x16_3] ∧ J3_ x16_3 ∧ Inv [] G w L H w2 ∧ Le Gh.no L ∧ Le G H ∧ True) (fun B3 hB3_ => ?_) (fun B3 hB3_ => ?_)
  · simp only [pickE, lookE, putE, zipE, args0, Nat.reduceAdd, Nat.zero_add, List.cons_append, List.nil_append, Nat.reduceBEq, cond_true, cond_false] at hB3_
    subst hB3_
    clear hr3_
    have hll3_ := Le.refl Gh.no
    have hhh3_ := Le.refl G
    refine W_region [some 9, some 10, some 11, some 12, some 13, some 14, some 15, some 16] rfl ?_
    refine Ops_step (R_move rfl) rfl rfl ?_
    refine Ops_step (R_len Tryd.underlying22 rfl rfl) rfl rfl ?_
    refine Ops_step (R_gtr rfl rfl) rfl rfl ?_
    refine Ops_step (R_move rfl) rfl rfl ?_
    refine Ops_split 12 rfl (fun hg4_ => ?_) (fun hg4_ => ?_)
    · replace h := h.1 hg4_
      refine Ops_pass rfl rfl ?_
      refine Ops_pass rfl rfl ?_
      refine Ops_pass rfl rfl ?_
      refine Ops_step (R_pick_true rfl rfl) rfl rfl ?_
      refine Ops_nil ?_
      refine then_n ?_
      exact ⟨_, rfl, ⟨true, _, _, rfl, h, hI, hll3_, hhh3_, trivial⟩, ⟨rfl, rfl, trivial⟩⟩
    · replace h := h.2 hg4_
      refine Ops_step (R_move rfl) rfl rfl ?_
      refine Ops_step (R_len Tryd.underlying48 rfl rfl) rfl rfl ?_
      refine Ops_step (R_gtr rfl rfl) rfl rfl ?_
      refine Ops_step (R_pick_false rfl rfl) rfl rfl ?_
      refine Ops_nil ?_
      refine then_n ?_
      exact ⟨_, rfl, ⟨(decide ((x1.length : Int) > 1000)), _, _, rfl, h, hI, hll3_, hhh3_, trivial⟩, ⟨rfl, rfl, trivial⟩⟩
  · simp only [pickE, lookE, putE, zipE, args0, Nat.reduceAdd, Nat.zero_add, List.cons_append, List.nil_append, Nat.reduceBEq, cond_true, cond_false] at hB3_
    subst hB3_
    clear h
    rintro _ w3_ ⟨x16_3, L3_, H3_, rfl, hJ3_, hI3_, hll3_, hhh3_, -⟩
    replace hI := hI3_
    clear hI3_
    have h := hr3_ x16_3 hJ3_
    clear hr3_ hJ3_
    replace hs0 := hs0.up hhh3_
    replace hs1 := hs1.up hhh3_
    refine W_cond rfl (fun hc5_ => ?_) (fun hc5_ => ?_)
    · replace h := h.1 hc5_
      refine W_seq_k fun K6_ hK6_ => ?_
      refine W_region [some 17, some 4] rfl ?_
      refine Ops_call (C_func TOmNumbers.bd15 rfl) rfl rfl ?_
      refine (sealskinlaw02_awake_ok  hI.st (hg.up hI.le)  h).mono ?_
      rintro _ w7_ ⟨r7_0, L7_, H7_, rfl, hI7_, h⟩
      refine Exists.elim (hI.call hI7_ (by simp)) fun L70_ h7_ => ?_
      have hz7_ := hI.size
      replace hI := h7_.1
      have u7_ := h7_.2.1
      have hl7_ := h7_.2.2
      clear h7_
      clear hI7_ u7_ hl7_
      refine ⟨_, rfl, ?_⟩
      refine Ops_step (R_assign rfl) rfl rfl ?_
      refine Ops_nil ?_
      refine then_n (hK6_ _ _ ?_)
      clear hK6_ K6_
      refine W_ret ?_
      refine then_ret ?_
      clear hK2_ K2_
      refine ⟨_, ⟨_, _, rfl, rfl, rfl⟩, ?_⟩
      exact ⟨r7_0, _, _, rfl, hI, h⟩
    · replace h := h.2 hc5_
      refine W_skip ?_
      refine then_n (hK2_ _ _ ?_)
      clear hK2_ K2_
      refine W_seq_k fun K8_ hK8_ => ?_
      refine W_region [some 18, some 19, some 5] rfl ?_
      refine Ops_step (R_move rfl) rfl rfl ?_
      refine Ops_call (C_func TOmNumbers.bd31 rfl) rfl rfl ?_
      refine (slices_Clone_sl_byte_byte_ok (x0 := x0) hI.st (hg.up hI.le) hc0 hs0 h).mono ?_
      rintro _ w9_ ⟨A9_0, c9_0, r9_0, L9_, H9_, rfl, hI9_, ho9_0, h⟩
      refine Exists.elim (hI.call hI9_ (by simp)) fun L90_ h9_ => ?_
      have hz9_ := hI.size
      replace hI := h9_.1
      have u9_ := h9_.2.1
      have hl9_ := h9_.2.2
      clear h9_
      replace hs0 := hs0.up u9_.hh
      replace hs1 := hs1.up u9_.hh
      replace ho9_0 := OwnS.backS ho9_0 hz9_ (Le.refl _)
      clear hI9_ u9_ hl9_
      refine ⟨_, rfl, ?_⟩
      refine Exists.elim (ho9_0.freeze hI) fun L10_ h10_ => Exists.elim h10_ fun H10_ h10_ => ?_
      replace hI := h10_.1
      have u10_ := h10_.2.1
      have hs10_ := h10_.2.2.1 (Le.no _)
      have hc10_ := ho9_0.cap
      replace hs0 := hs0.up u10_.hh
      replace hs1 := hs1.up u10_.hh
      clear h10_ u10_ ho9_0
      refine Ops_step (R_assign rfl) rfl rfl ?_
      refine Ops_nil ?_
      refine then_n (hK8_ _ _ ?_)
      clear hK8_ K8_
      refine W_seq_k fun K11_ hK11_ => ?_
      refine W_region [some 20, some 21, some 22, some 6] rfl ?_
      refine Ops_step (R_move rfl) rfl rfl ?_
      refine Ops_step (R_move rfl) rfl rfl ?_
      refine Ops_call (C_func TOmNumbers.bd19 rfl) rfl rfl ?_
      refine (octet_Put_ok (x0 := r9_0) (x1 := x1) hI.st (hg.up hI.le) hc10_ (hs10_.up hI.sub) hc1 hs1 h).mono ?_
      rintro _ w12_ ⟨A12_0, c12_0, r12_0, L12_, H12_, rfl, hI12_, ho12_0, h⟩
      refine Exists.elim (hI.call hI12_ (by simp)) fun L120_ h12_ => ?_
      have hz12_ := hI.size
      replace hI := h12_.1
      have u12_ := h12_.2.1
      have hl12_ := h12_.2.2
      clear h12_
      replace hs0 := hs0.up u12_.hh
      replace hs1 := hs1.up u12_.hh
      replace hs10_ := hs10_.up u12_.ll
      replace ho12_0 := OwnS.backS ho12_0 hz12_ (Le.refl _)
      clear hI12_ u12_ hl12_
      refine ⟨_, rfl, ?_⟩
      refine Ops_step (R_assign rfl) rfl rfl ?_
      refine Ops_nil ?_
      refine then_n (hK11_ _ _ ?_)
      clear hK11_ K11_
      refine W_keepB [0, 1, 5, 6] fun B13 hB13_ => ?_
      simp only [pickE, lookE, putE, zipE, args0, Nat.reduceAdd, Nat.zero_add, List.cons_append, List.nil_append, Nat.reduceBEq, cond_true, cond_false] at hB13_
      subst hB13_
      refine W_seq_k fun K14_ hK14_ => ?_
      refine W_region [some 23, some 24, some 25, some 26, some 27, some 7] rfl ?_
      refine Ops_step (R_move rfl) rfl rfl ?_
      refine Ops_step (R_move rfl) rfl rfl ?_
      refine Ops_step (R_move rfl) rfl rfl ?_
      refine Ops_call (C_func TOmNumbers.bd32 rfl) rfl rfl ?_
      refine (sealskinref02_Put_ok (x0 := x0) (x1 := x1) hI.st (hg.up hI.le) hc0 hs0 hc1 hs1 h).mono ?_
      have hlo15_0_ho12_0 := ho12_0.lt
      rintro _ w15_ ⟨A15_0, c15_0, r15_0, L15_, H15_, rfl, hI15_, ho15_0, h⟩
      refine Exists.elim (hI.call hI15_ (by simp)) fun L150_ h15_ => ?_
      have hz15_ := hI.size
      replace hI := h15_.1
      have u15_ := h15_.2.1
      have hl15_ := h15_.2.2
      clear h15_
      replace hs0 := hs0.up u15_.hh
      replace hs10_ := hs10_.up u15_.ll
      replace ho12_0 := ho12_0.up (Le.refl _) u15_ (by simp)
      have hsp15_0_ho12_0 : ∀ i ∈ bk A15_0 c15_0, i ∉ bk A12_0 c12_0 := sep_new ho15_0.off hlo15_0_ho12_0
      replace ho15_0 := OwnS.backS ho15_0 hz15_ (Le.refl _)
      clear hI15_ u15_ hl15_
      refine ⟨_, rfl, ?_⟩
      refine Exists.elim (ho15_0.freeze hI) fun L16_ h16_ => Exists.elim h16_ fun H16_ h16_ => ?_
      replace hI := h16_.1
      have u16_ := h16_.2.1
      have hs16_ := h16_.2.2.1 (Le.no _)
      have hc16_ := ho15_0.cap
      replace hs0 := hs0.up u16_.hh
      replace hs10_ := hs10_.up u16_.ll
      replace ho12_0 := ho12_0.up (Le.refl _) u16_ (sep_sym hsp15_0_ho12_0)
      clear h16_ u16_ ho15_0
      refine Exists.elim (ho12_0.lend hI.st (Le.no _)) fun Hb17_0_ hb17_0_ => ?_
      refine Ops_call (C_func TOmNumbers.bd24 rfl) rfl rfl ?_
      refine (bytes_Equal_ok (x0 := r12_0) (x1 := r15_0) hb17_0_.1 (hg.up (hI.le.trans hb17_0_.2.1)) ho12_0.cap hb17_0_.2.2 hc16_ ((hs16_.up hI.sub).up hb17_0_.2.1) h).mono ?_
      rintro _ w17_ ⟨r17_0, L17_, H17_, rfl, hI17_, h⟩
      refine Exists.elim (hI.callB hb17_0_.2.1 hI17_ (by simp)) fun L170_ h17_ => Exists.elim h17_ fun H170_ h17_ => ?_
      have hz17_ := hI.size
      replace hI := h17_.1
      have u17_ := h17_.2.1
      have hl17_ := h17_.2.2.1
      have hh17_ := h17_.2.2.2
      clear h17_
      replace hs0 := hs0.up u17_.hh
      replace hs10_ := hs10_.up u17_.ll
      replace ho12_0 := ho12_0.up (Le.refl _) u17_ (by simp)
      clear hI17_ u17_ hl17_
      refine ⟨_, rfl, ?_⟩
      refine Ops_step (R_assign rfl) rfl rfl ?_
      refine Ops_nil ?_
      refine then_n (hK14_ _ _ ?_)
      clear hK14_ K14_
      refine W_keepB [0, 5, 6, 7] fun B18 hB18_ => ?_
      simp only [pickE, lookE, putE, zipE, args0, Nat.reduceAdd, Nat.zero_add, List.cons_append, List.nil_append, Nat.reduceBEq, cond_true, cond_false] at hB18_
      subst hB18_
      refine Exists.elim h fun J19_ h => ?_
      have hr19_ := h.1
      replace h := h.2
      refine W_seq_join [0, 5, 7] [] (fun vs w2 => ∃  (L H : Gh), vs = [] ∧ J19_ ∧ Inv [] G w L H w2 ∧ Le L170_ L ∧ Le H170_ H ∧ True) (fun B19 hB19_ => ?_) (fun B19 hB19_ => ?_)
      · simp only [pickE, lookE, putE, zipE, args0, Nat.reduceAdd, Nat.zero_add, List.cons_append, List.nil_append, Nat.reduceBEq, cond_true, cond_false] at hB19_
        subst hB19_
        clear hr19_
        have hll19_ := Le.refl L170_
        have hhh19_ := Le.refl H170_
        refine W_seq_k fun K20_ hK20_ => ?_
        refine W_region [some 28, some 29, some 30] rfl ?_
        refine Ops_step (R_move rfl) rfl rfl ?_
        refine Ops_step (R_len Tryd.underlying22 rfl rfl) rfl rfl ?_
        refine Ops_step (R_move rfl) rfl rfl ?_
        refine Ops_nil ?_
        refine then_n (hK20_ _ _ ?_)
        clear hK20_ K20_
        refine W_block ?_
        refine Exists.elim h fun I21_ h => Exists.elim h fun n21_ h => ?_
        have h0_ := h.1
        have hs21_ := h.2
        clear h
        refine W_loopB [0, 5, 7, 29] [6, 30] (fun m vs w2 => ∃ (x6_21 : List UInt8) (A6_21 : Option Addr) (c6_21 : Nat) (x30_21 : Int) (L H : Gh), vs = [.slice A6_21 x6_21.length c6_21, vi x30_21] ∧ I21_ m x6_21 x30_21 ∧ Inv [] G w L H w2 ∧ Le L170_ L ∧ Le H170_ H ∧ OwnS w.heap.size 5 Gh.no H w2 A6_21 c6_21 x6_21 ∧ True) n21_ _ rfl ⟨r12_0, A12_0, c12_0, 0, _, _, rfl, h0_, hI, Le.refl _, Le.refl _, ho12_0, trivial⟩ fun B21 hB21_ => ?_
        clear h0_
        simp only [pickE, lookE, putE, zipE, args0, Nat.reduceAdd, Nat.zero_add, List.cons_append, List.nil_append, Nat.reduceBEq, cond_true, cond_false] at hB21_
        subst hB21_
        rintro m21_ _ w21_ ⟨x6_21, A6_21, c6_21, x30_21, L21_, H21_, rfl, hJ21_, hI21_, hll21_, hhh21_, ho6_21, -⟩
        replace hI := hI21_
        clear hI21_
        have h := hs21_ m21_ x6_21 x30_21 hJ21_
        clear hs21_ hJ21_
        replace hs0 := hs0.up hhh21_
        replace hs10_ := hs10_.up hll21_
        replace hll19_ := hll19_.trans hll21_
        replace hhh19_ := hhh19_.trans hhh21_
        refine W_seq_k fun K22_ hK22_ => ?_
        refine W_region [some 31] rfl ?_
        refine Ops_step (R_lss rfl rfl) rfl rfl ?_
        refine Ops_nil ?_
        refine then_n (hK22_ _ _ ?_)
        clear hK22_ K22_
        refine W_seq_k fun K23_ hK23_ => ?_
        refine W_if rfl (fun hc24_ => ?_) (fun hc24_ => ?_)
        · replace h := h.1 hc24_
          refine W_skip ?_
          refine then_n (hK23_ _ _ ?_)
          clear hK23_ K23_
          refine W_seq_k fun K25_ hK25_ => ?_
          refine W_block ?_
          refine W_seq_k fun K26_ hK26_ => ?_
          refine W_region [some 32, some 8] rfl ?_
          refine Ops_step (R_move rfl) rfl rfl ?_
          refine Ops_step (R_assign rfl) rfl rfl ?_
          refine Ops_nil ?_
          refine then_n (hK26_ _ _ ?_)
          clear hK26_ K26_
          refine W_region [some 33, some 34, some 35, some 36, some 37, some 38, none] rfl ?_
          refine Ops_step (R_move rfl) rfl rfl ?_
          refine Ops_step (R_move rfl) rfl rfl ?_
          refine Exists.elim h fun x27_ h => ?_
          have hx27_ := h.1
          replace h := h.2
          have ha27_ := (ho6_21.atS hx27_).1
          refine Ops_step (R_indexSl Tryd.underlying22 TOmNumbers.sz5 rfl rfl hx27_.1 hx27_.lt ha27_) rfl rfl ?_
          refine Ops_step (R_load TOmNumbers.ag5 rfl (ho6_21.atS hx27_).2) rfl rfl ?_
          refine Ops_step (R_xor rfl rfl (xor8 x27_ (255 : UInt8))) rfl rfl ?_
          refine Exists.elim h fun x28_ h => ?_
          have hx28_ := h.1
          replace h := h.2
          have ha28_ := (ho6_21.atS hx28_).1
          refine Ops_step (R_indexSl Tryd.underlying22 TOmNumbers.sz5 rfl rfl hx28_.1 hx28_.lt ha28_) rfl rfl ?_
          refine Ops_to0 (X_storeOwn TOmNumbers.sz5 rfl rfl ho6_21 hx28_) rfl ?_
          rintro _ w29_ ⟨ho29_, hF29_⟩
          replace hI := hI.tok hF29_ ho6_21.out (ho6_21.new (Nat.le_refl _))
          clear hF29_ ho6_21
          have hpl29_ : (put x6_21 x30_21 (x27_ ^^^ (255 : UInt8))).length = x6_21.length := by simp only [put, List.length_set]
          refine Ops_re 6 (v := .slice A6_21 x6_21.length c6_21) (v' := .slice A6_21 (put x6_21 x30_21 (x27_ ^^^ (255 : UInt8))).length c6_21) rfl (by rw [hpl29_]) ?_
          refine Ops_re 33 (v := .slice A6_21 x6_21.length c6_21) (v' := .slice A6_21 (put x6_21 x30_21 (x27_ ^^^ (255 : UInt8))).length c6_21) rfl (by rw [hpl29_]) ?_
          refine Ops_nil ?_
          refine block_n ?_
          refine then_n (hK25_ _ _ ?_)
          clear hK25_ K25_
          refine W_keepB [0, 5, 6, 7, 29, 30] fun B30 hB30_ => ?_
          simp only [pickE, lookE, putE, zipE, args0, Nat.reduceAdd, Nat.zero_add, List.cons_append, List.nil_append, Nat.reduceBEq, cond_true, cond_false] at hB30_
          subst hB30_
          refine W_region [some 39, some 30] rfl ?_
          have hk31_ := h.1
          replace h := h.2
          refine Ops_step (R_add rfl rfl (wI hk31_.1 hk31_.2)) rfl rfl ?_
          refine Ops_step (R_move rfl) rfl rfl ?_
          refine Ops_nil ?_
          refine then_n ?_
          exact h.elim fun m_ h => ⟨m_, _, h.1, rfl, ⟨(put x6_21 x30_21 (x27_ ^^^ (255 : UInt8))), A6_21, c6_21, (x30_21 + 1), _, _, rfl, h.2, hI, hll21_, hhh21_, ho29_, trivial⟩, ⟨rfl, rfl, rfl, rfl, trivial⟩⟩
        · replace h := h.2 hc24_
          refine W_exit ?_
          refine then_exit ?_
          clear hK23_ K23_
          refine then_exit ?_
          refine block_exit ?_
          refine then_n ?_
          exact ⟨_, rfl, ⟨_, _, rfl, h, hI, hll19_, hhh19_, trivial⟩, ⟨rfl, rfl, rfl, trivial⟩⟩
      · simp only [pickE, lookE, putE, zipE, args0, Nat.reduceAdd, Nat.zero_add, List.cons_append, List.nil_append, Nat.reduceBEq, cond_true, cond_false] at hB19_
        subst hB19_
        clear h
        rintro _ w19_ ⟨L19_, H19_, rfl, hJ19_, hI19_, hll19_, hhh19_, -⟩
        replace hI := hI19_
        clear hI19_
        have h := hr19_ hJ19_
        clear hr19_ hJ19_
        replace hs0 := hs0.up hhh19_
        replace hs10_ := hs10_.up hll19_
        refine W_seq_k fun K32_ hK32_ => ?_
        refine W_region [some 40, some 41, some 42, some 43, some 44, some 45, some 46, some 47, some 48, some 4] rfl ?_
        refine Ops_step (R_move rfl) rfl rfl ?_
        refine Ops_step (R_move rfl) rfl rfl ?_
        refine Ops_splitB 41 rfl (fun hg33_ => ?_) (fun hg33_ => ?_)
        · replace h := h.1 hg33_
          refine Ops_step (R_move rfl) rfl rfl ?_
          refine Ops_step (R_move rfl) rfl rfl ?_
          refine Ops_call (C_func TOmNumbers.bd24 rfl) rfl rfl ?_
          refine (bytes_Equal_ok (x0 := r9_0) (x1 := x0) hI.st (hg.up hI.le) hc10_ (hs10_.up hI.sub) hc0 hs0 h).mono ?_
          rintro _ w34_ ⟨r34_0, L34_, H34_, rfl, hI34_, h⟩
          refine Exists.elim (hI.call hI34_ (by simp)) fun L340_ h34_ => ?_
          have hz34_ := hI.size
          replace hI := h34_.1
          have u34_ := h34_.2.1
          have hl34_ := h34_.2.2
          clear h34_
          clear hI34_ u34_ hl34_
          refine ⟨_, rfl, ?_⟩
          refine Ops_step (R_pick_true rfl rfl) rfl rfl ?_
          refine Ops_step (R_move rfl) rfl rfl ?_
          refine Ops_splitB 46 rfl (fun hg35_ => ?_) (fun hg35_ => ?_)
          · replace h := h.1 hg35_
            refine Ops_call (C_func TOmNumbers.bd15 rfl) rfl rfl ?_
            refine (sealskinlaw02_awake_ok  hI.st (hg.up hI.le)  h).mono ?_
            rintro _ w36_ ⟨r36_0, L36_, H36_, rfl, hI36_, h⟩
            refine Exists.elim (hI.call hI36_ (by simp)) fun L360_ h36_ => ?_
            have hz36_ := hI.size
            replace hI := h36_.1
            have u36_ := h36_.2.1
            have hl36_ := h36_.2.2
            clear h36_
            clear hI36_ u36_ hl36_
            refine ⟨_, rfl, ?_⟩
            refine Ops_step (R_pick_true rfl rfl) rfl rfl ?_
            refine Ops_step (R_assign rfl) rfl rfl ?_
            refine Ops_nil ?_
            refine then_n (hK32_ _ _ ?_)
            clear hK32_ K32_
            refine W_keepB [4] fun B37 hB37_ => ?_
            simp only [pickE, lookE, putE, zipE, args0, Nat.reduceAdd, Nat.zero_add, List.cons_append, List.nil_append, Nat.reduceBEq, cond_true, cond_false] at hB37_
            subst hB37_
            refine W_ret ?_
            refine ⟨_, ⟨_, _, rfl, rfl, rfl⟩, ?_⟩
            exact ⟨r36_0, _, _, rfl, hI, h⟩
          · replace h := h.2 hg35_
            refine Ops_pass rfl rfl ?_
            refine Ops_step (R_pick_false rfl rfl) rfl rfl ?_
            refine Ops_step (R_assign rfl) rfl rfl ?_
            refine Ops_nil ?_
            refine then_n (hK32_ _ _ ?_)
            clear hK32_ K32_
            refine W_keepB [4] fun B38 hB38_ => ?_
            simp only [pickE, lookE, putE, zipE, args0, Nat.reduceAdd, Nat.zero_add, List.cons_append, List.nil_append, Nat.reduceBEq, cond_true, cond_false] at hB38_
            subst hB38_
            refine W_ret ?_
            refine ⟨_, ⟨_, _, rfl, rfl, rfl⟩, ?_⟩
            exact ⟨false, _, _, rfl, hI, h⟩
        · replace h := h.2 hg33_
          refine Ops_pass rfl rfl ?_
          refine Ops_pass rfl rfl ?_
          refine Ops_pass rfl rfl ?_
          refine Ops_step (R_pick_false rfl rfl) rfl rfl ?_
          refine Ops_step (R_move rfl) rfl rfl ?_
          refine Ops_pass rfl rfl ?_
          refine Ops_step (R_pick_false rfl rfl) rfl rfl ?_
          refine Ops_step (R_assign rfl) rfl rfl ?_
          refine Ops_nil ?_
          refine then_n (hK32_ _ _ ?_)
          clear hK32_ K32_
          refine W_keepB [4] fun B39 hB39_ => ?_
          simp only [pickE, lookE, putE, zipE, args0, Nat.reduceAdd, Nat.zero_add, List.cons_append, List.nil_append, Nat.reduceBEq, cond_true, cond_false] at hB39_
          subst hB39_
          refine W_ret ?_
          refine ⟨_, ⟨_, _, rfl, rfl, rfl⟩, ?_⟩
          exact ⟨false, _, _, rfl, hI, h⟩

end Go.Proofs.YtdnpdljnjoegiaaDoor
