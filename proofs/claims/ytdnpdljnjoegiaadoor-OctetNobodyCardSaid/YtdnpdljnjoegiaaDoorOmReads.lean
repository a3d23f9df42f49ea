/- What the walks of this seat show of OmReads. -/
import Derived.Test.YtdnpdljnjoegiaaDoorOmReadsp
import Derived.Test.YtdnpdljnjoegiaaDoorOtD
import Derived.Test.YtdnpdljnjoegiaaDoorOtE
import Derived.Test.YtdnpdljnjoegiaaDoorProg
set_option linter.unusedVariables false
set_option linter.unusedSimpArgs false
namespace Go.Lx
open Go Go.Sx
instance : Rp sealskinlaw02_Ask where
  n := 3
  cs := fun G x l => l = [vi x.Op_, vi x.Lo_, vi x.Hi_]
  mono := fun hl e => e
  len := fun e => by rw [e]; rfl
  one := fun e => by rw [e]; rfl
end Go.Lx
namespace Go.Proofs.YtdnpdljnjoegiaaDoor
open Go Go.Sx Go.Lx
namespace TOmReads
theorem hm : Tryd.prog.follows .mixedOrders = true := by kernel_rfl
theorem ag3 : aggB Tryd.prog 3 = some false := by kernel_rfl
theorem ag35 : aggB Tryd.prog 35 = some false := by kernel_rfl
theorem ag5 : aggB Tryd.prog 5 = some false := by kernel_rfl
theorem ag54 : aggB Tryd.prog 54 = some true := by kernel_rfl
theorem bd15 : bodied Tryd.prog 15 = true := by kernel_rfl
theorem bd16 : bodied Tryd.prog 16 = true := by kernel_rfl
theorem bd20 : bodied Tryd.prog 20 = true := by kernel_rfl
theorem bd21 : bodied Tryd.prog 21 = true := by kernel_rfl
theorem bd22 : bodied Tryd.prog 22 = true := by kernel_rfl
theorem bd24 : bodied Tryd.prog 24 = true := by kernel_rfl
theorem bd25 : bodied Tryd.prog 25 = true := by kernel_rfl
theorem bd26 : bodied Tryd.prog 26 = true := by kernel_rfl
theorem bd31 : bodied Tryd.prog 31 = true := by kernel_rfl
theorem bd37 : bodied Tryd.prog 37 = true := by kernel_rfl
theorem bd38 : bodied Tryd.prog 38 = true := by kernel_rfl
theorem bd39 : bodied Tryd.prog 39 = true := by kernel_rfl
theorem bd40 : bodied Tryd.prog 40 = true := by kernel_rfl
theorem bd41 : bodied Tryd.prog 41 = true := by kernel_rfl
theorem bd42 : bodied Tryd.prog 42 = true := by kernel_rfl
theorem bd43 : bodied Tryd.prog 43 = true := by kernel_rfl
theorem bd44 : bodied Tryd.prog 44 = true := by kernel_rfl
theorem fo54_0 : offB Tryd.prog 54 0 = some 0 := by kernel_rfl
theorem fo54_1 : offB Tryd.prog 54 1 = some 1 := by kernel_rfl
theorem fo54_2 : offB Tryd.prog 54 2 = some 2 := by kernel_rfl
theorem fo65_2 : offB Tryd.prog 65 2 = some 2 := by kernel_rfl
theorem pl65 : partPl Tryd.prog 65 = some [(0, 1), (1, 1), (2, 1)] := by kernel_rfl
theorem sz5 : sz Tryd.prog 5 = some 1 := by kernel_rfl
theorem sz54 : sz Tryd.prog 54 = some 3 := by kernel_rfl
theorem zr54 : zr Tryd.prog 54 = some ([.int .i64 0] ++ [.int .i64 0] ++ [.int .i64 0]) := by kernel_rfl
theorem zr65 : zr Tryd.prog 65 = some ([.slice none 0 0] ++ [.int .i64 0] ++ [.int .i64 0]) := by kernel_rfl
end TOmReads
set_option maxHeartbeats 4000000 in
theorem sealskinlaw02_OctetReads_ok {G : Gh} {w : World} (hS : St G w) (hg : GL G) {A0 : Option Addr} {c0 : Nat} {x0 : List UInt8} (hc0 : x0.length ≤ c0) (hs0 : Sl G A0 x0) {A1 : Option Addr} {c1 : Nat} {x1 : List sealskinlaw02_Ask} (hc1 : x1.length ≤ c1) (hs1 : Sl G A1 x1) {Q : Bool → Prop} (h : sealskinlaw02_OctetReads x0 x1 Q) : Calls Tryd.prog 11 #[.slice A0 x0.length c0, .slice A1 x1.length c1] w fun e w2 => ∃ (r0 : Bool) (L H : Gh), e = .returned (.bool r0) ∧ Inv [] G w L H w2 ∧ Q r0 := by
  unfold sealskinlaw02_OctetReads at h
  have hI := Inv.start (M := []) hS
  refine calls_W 140 Tryd.func11 rfl Tryd.ntmps11 rfl [.tmp 4] rfl ?_
  refine W_seq_k fun K1_ hK1_ => ?_
  refine W_region [some 4] rfl ?_
  refine Ops_step (R_assign rfl) rfl rfl ?_
  refine Ops_nil ?_
  refine then_n (hK1_ _ _ ?_)
  clear hK1_ K1_
  refine W_seq_k fun K2_ hK2_ => ?_
  refine Exists.elim h fun J3_ h => ?_
  have hr3_ := h.1
  replace h := h.2
  refine W_seq_join [0, 1] [21] (fun vs w2 => ∃ (x21_3 : Bool) (L H : Gh), vs = [.bool x21_3] ∧ J3_ x21_3 ∧ Inv [] G w L H w2 ∧ Le Gh.no L ∧ Le G H ∧ True) (fun B3 hB3_ => ?_) (fun B3 hB3_ => ?_)
  · simp only [pickE, lookE, putE, zipE, args0, Nat.reduceAdd, Nat.zero_add, List.cons_append, List.nil_append, Nat.reduceBEq, cond_true, cond_false] at hB3_
    subst hB3_
    clear hr3_
    have hll3_ := Le.refl Gh.no
    have hhh3_ := Le.refl G
    refine W_region [some 14, some 15, some 16, some 17, some 18, some 19, some 20, some 21] rfl ?_
    refine Ops_step (R_move rfl) rfl rfl ?_
    refine Ops_step (R_len Tryd.underlying22 rfl rfl) rfl rfl ?_
    refine Ops_step (R_gtr rfl rfl) rfl rfl ?_
    refine Ops_step (R_move rfl) rfl rfl ?_
    refine Ops_split 17 rfl (fun hg4_ => ?_) (fun hg4_ => ?_)
    · replace h := h.1 hg4_
      refine Ops_pass rfl rfl ?_
      refine Ops_pass rfl rfl ?_
      refine Ops_pass rfl rfl ?_
      refine Ops_step (R_pick_true rfl rfl) rfl rfl ?_
      refine Ops_nil ?_
      refine then_n ?_
      exact ⟨_, rfl, ⟨true, _, _, rfl, h, hI, hll3_, hhh3_, trivial⟩, ⟨rfl, rfl, trivial⟩⟩
    · replace h := h.2 hg4_
      refine Ops_step (R_move rfl) rfl rfl ?_
      refine Ops_step (R_len Tryd.underlying62 rfl rfl) rfl rfl ?_
      refine Ops_step (R_gtr rfl rfl) rfl rfl ?_
      refine Ops_step (R_pick_false rfl rfl) rfl rfl ?_
      refine Ops_nil ?_
      refine then_n ?_
      exact ⟨_, rfl, ⟨(decide ((x1.length : Int) > 1000)), _, _, rfl, h, hI, hll3_, hhh3_, trivial⟩, ⟨rfl, rfl, trivial⟩⟩
  · simp only [pickE, lookE, putE, zipE, args0, Nat.reduceAdd, Nat.zero_add, List.cons_append, List.nil_append, Nat.reduceBEq, cond_true, cond_false] at hB3_
    subst hB3_
    clear h
    rintro _ w3_ ⟨x21_3, L3_, H3_, rfl, hJ3_, hI3_, hll3_, hhh3_, -⟩
    replace hI := hI3_
    clear hI3_
    have h := hr3_ x21_3 hJ3_
    clear hr3_ hJ3_
    replace hs0 := hs0.up hhh3_
    replace hs1 := hs1.up hhh3_
    refine W_cond rfl (fun hc5_ => ?_) (fun hc5_ => ?_)
    · replace h := h.1 hc5_
      refine W_seq_k fun K6_ hK6_ => ?_
      refine W_region [some 22, some 4] rfl ?_
      refine Ops_call (C_func TOmReads.bd15 rfl) rfl rfl ?_
      refine (sealskinlaw02_awake_ok  hI.st (hg.up hI.le)  h).mono ?_
      rintro _ w7_ ⟨r7_0, L7_, H7_, rfl, hI7_, h⟩
      refine Exists.elim (hI.call hI7_ (by simp)) fun L70_ h7_ => ?_
      have hz7_ := hI.size
      replace hI := h7_.1
      have u7_ := h7_.2.1
      have hl7_ := h7_.2.2
      clear h7_
      clear hI7_ u7_ hl7_
      refine ⟨_, rfl, ?_⟩
      refine Ops_step (R_assign rfl) rfl rfl ?_
      refine Ops_nil ?_
      refine then_n (hK6_ _ _ ?_)
      clear hK6_ K6_
      refine W_ret ?_
      refine then_ret ?_
      clear hK2_ K2_
      refine ⟨_, ⟨_, _, rfl, rfl, rfl⟩, ?_⟩
      exact ⟨r7_0, _, _, rfl, hI, h⟩
    · replace h := h.2 hc5_
      refine W_skip ?_
      refine then_n (hK2_ _ _ ?_)
      clear hK2_ K2_
      refine W_seq_k fun K8_ hK8_ => ?_
      refine W_region [some 23, some 24, some 5] rfl ?_
      refine Ops_step (R_move rfl) rfl rfl ?_
      refine Ops_call (C_func TOmReads.bd31 rfl) rfl rfl ?_
      refine (slices_Clone_sl_byte_byte_ok (x0 := x0) hI.st (hg.up hI.le) hc0 hs0 h).mono ?_
      rintro _ w9_ ⟨A9_0, c9_0, r9_0, L9_, H9_, rfl, hI9_, ho9_0, h⟩
      refine Exists.elim (hI.call hI9_ (by simp)) fun L90_ h9_ => ?_
      have hz9_ := hI.size
      replace hI := h9_.1
      have u9_ := h9_.2.1
      have hl9_ := h9_.2.2
      clear h9_
      replace hs0 := hs0.up u9_.hh
      replace hs1 := hs1.up u9_.hh
      replace ho9_0 := OwnS.backS ho9_0 hz9_ (Le.refl _)
      clear hI9_ u9_ hl9_
      refine ⟨_, rfl, ?_⟩
      refine Ops_step (R_assign rfl) rfl rfl ?_
      refine Ops_nil ?_
      refine then_n (hK8_ _ _ ?_)
      clear hK8_ K8_
      refine W_seq_k fun K10_ hK10_ => ?_
      refine W_region [some 25, some 26, some 27, some 28, some 29, some 6, some 7] rfl ?_
      refine Ops_step (R_move rfl) rfl rfl ?_
      refine Exists.elim (ho9_0.lend hI.st (Le.no _)) fun Hb11_0_ hb11_0_ => ?_
      refine Ops_call (C_func TOmReads.bd16 rfl) rfl rfl ?_
      refine (octet_Read_ok (x0 := r9_0) hb11_0_.1 (hg.up (hI.le.trans hb11_0_.2.1)) ho9_0.cap hb11_0_.2.2 h).mono ?_
      rintro _ w11_ ⟨d11_0, r11_0, L11_, H11_, rfl, hI11_, hge_d11_0, hr11_0, h⟩
      have hge0_11 := hge_d11_0
      replace hge_d11_0 := Nat.le_trans hI.size hge_d11_0
      refine Exists.elim (hI.callB hb11_0_.2.1 hI11_ (by simp)) fun L110_ h11_ => Exists.elim h11_ fun H110_ h11_ => ?_
      have hz11_ := hI.size
      replace hI := h11_.1
      have u11_ := h11_.2.1
      have hl11_ := h11_.2.2.1
      have hh11_ := h11_.2.2.2
      clear h11_
      replace hs0 := hs0.up u11_.hh
      replace hs1 := hs1.up u11_.hh
      replace ho9_0 := ho9_0.up (Le.refl _) u11_ (by simp)
      replace hr11_0 := hr11_0.back hl11_ hh11_
      obtain ⟨l11_0_, hl11_0_, ht11_0⟩ := hr11_0
      obtain ⟨A11_0_1, c11_0_1, rfl, ⟨hc11_0_1, hs11_0_1⟩⟩ := hl11_0_
      clear hI11_ u11_ hl11_
      refine ⟨_, rfl, ?_⟩
      refine Ops_step (R_move rfl) rfl rfl ?_
      refine Ops_step (R_build (pl := [(0, 1)]) (cs := [.slice A0 x0.length c0, vi 0, vi 0]) TOmReads.zr65 TOmReads.pl65 rfl rfl rfl) rfl rfl ?_
      have hI0_ := hI
      refine Ops_to (R_box rfl) rfl rfl ?_
      rintro _ w12_ ⟨b12_, rfl, hb12_, hB12_, hF12_⟩
      replace hI := hI.fr0 hF12_
      replace ho9_0 := ho9_0.fr0 hF12_
      replace ht11_0 := ht11_0.fr0 hF12_
      have ht12_ : Tok H110_ _ b12_ 65 ([.slice A0 x0.length c0, vi 0, vi 0]) := ⟨hB12_.to rfl, Out.ge hI0_.st (Nat.le_of_eq hb12_.symm)⟩
      have hge_b12_ : w.heap.size ≤ b12_ := hb12_ ▸ hI0_.size
      clear hB12_ hb12_ hI0_ hF12_
      refine Ops_step (R_assign rfl) rfl rfl ?_
      refine Ops_step (R_assign rfl) rfl rfl ?_
      refine Ops_nil ?_
      refine then_n (hK10_ _ _ ?_)
      clear hK10_ K10_
      refine W_keepB [1, 5, 6, 7] fun B13 hB13_ => ?_
      simp only [pickE, lookE, putE, zipE, args0, Nat.reduceAdd, Nat.zero_add, List.cons_append, List.nil_append, Nat.reduceBEq, cond_true, cond_false] at hB13_
      subst hB13_
      refine Exists.elim h fun J14_ h => ?_
      have hr14_ := h.1
      replace h := h.2
      refine W_seq_join [1, 6, 7] [] (fun vs w2 => ∃  (L H : Gh), vs = [] ∧ J14_ ∧ Inv [] G w L H w2 ∧ Le L110_ L ∧ Le H110_ H ∧ Tok H w2 d11_0 58 ([.slice A11_0_1 r11_0.source_.b_.length c11_0_1, vi r11_0.source_.at_, vi r11_0.source_.err_, .bool r11_0.source_.made_]) ∧ Tok H w2 b12_ 65 ([.slice A0 x0.length c0, vi 0, vi 0]) ∧ True) (fun B14 hB14_ => ?_) (fun B14 hB14_ => ?_)
      · simp only [pickE, lookE, putE, zipE, args0, Nat.reduceAdd, Nat.zero_add, List.cons_append, List.nil_append, Nat.reduceBEq, cond_true, cond_false] at hB14_
        subst hB14_
        clear hr14_
        have hll14_ := Le.refl L110_
        have hhh14_ := Le.refl H110_
        refine W_seq_k fun K15_ hK15_ => ?_
        refine W_region [some 30, some 31, some 32] rfl ?_
        refine Ops_step (R_move rfl) rfl rfl ?_
        refine Ops_step (R_len Tryd.underlying22 rfl rfl) rfl rfl ?_
        refine Ops_step (R_move rfl) rfl rfl ?_
        refine Ops_nil ?_
        refine then_n (hK15_ _ _ ?_)
        clear hK15_ K15_
        refine W_block ?_
        refine Exists.elim h fun I16_ h => Exists.elim h fun n16_ h => ?_
        have h0_ := h.1
        have hs16_ := h.2
        clear h
        refine W_loopB [1, 6, 7, 31] [5, 32] (fun m vs w2 => ∃ (x5_16 : List UInt8) (A5_16 : Option Addr) (c5_16 : Nat) (x32_16 : Int) (L H : Gh), vs = [.slice A5_16 x5_16.length c5_16, vi x32_16] ∧ I16_ m x5_16 x32_16 ∧ Inv [] G w L H w2 ∧ Le L110_ L ∧ Le H110_ H ∧ OwnS w.heap.size 5 Gh.no H w2 A5_16 c5_16 x5_16 ∧ Tok H w2 d11_0 58 ([.slice A11_0_1 r11_0.source_.b_.length c11_0_1, vi r11_0.source_.at_, vi r11_0.source_.err_, .bool r11_0.source_.made_]) ∧ Tok H w2 b12_ 65 ([.slice A0 x0.length c0, vi 0, vi 0]) ∧ True) n16_ _ rfl ⟨r9_0, A9_0, c9_0, 0, _, _, rfl, h0_, hI, Le.refl _, Le.refl _, ho9_0, ht11_0, ht12_, trivial⟩ fun B16 hB16_ => ?_
        clear h0_
        simp only [pickE, lookE, putE, zipE, args0, Nat.reduceAdd, Nat.zero_add, List.cons_append, List.nil_append, Nat.reduceBEq, cond_true, cond_false] at hB16_
        subst hB16_
        clear ht11_0
        clear ht12_
        rintro m16_ _ w16_ ⟨x5_16, A5_16, c5_16, x32_16, L16_, H16_, rfl, hJ16_, hI16_, hll16_, hhh16_, ho5_16, ht11_0, ht12_, -⟩
        replace hI := hI16_
        clear hI16_
        have h := hs16_ m16_ x5_16 x32_16 hJ16_
        clear hs16_ hJ16_
        replace hs0 := hs0.up hhh16_
        replace hs1 := hs1.up hhh16_
        replace hs11_0_1 := hs11_0_1.up hll16_
        replace hll14_ := hll14_.trans hll16_
        replace hhh14_ := hhh14_.trans hhh16_
        refine W_seq_k fun K17_ hK17_ => ?_
        refine W_region [some 33] rfl ?_
        refine Ops_step (R_lss rfl rfl) rfl rfl ?_
        refine Ops_nil ?_
        refine then_n (hK17_ _ _ ?_)
        clear hK17_ K17_
        refine W_seq_k fun K18_ hK18_ => ?_
        refine W_if rfl (fun hc19_ => ?_) (fun hc19_ => ?_)
        · replace h := h.1 hc19_
          refine W_skip ?_
          refine then_n (hK18_ _ _ ?_)
          clear hK18_ K18_
          refine W_seq_k fun K20_ hK20_ => ?_
          refine W_block ?_
          refine W_seq_k fun K21_ hK21_ => ?_
          refine W_region [some 34, some 8] rfl ?_
          refine Ops_step (R_move rfl) rfl rfl ?_
          refine Ops_step (R_assign rfl) rfl rfl ?_
          refine Ops_nil ?_
          refine then_n (hK21_ _ _ ?_)
          clear hK21_ K21_
          refine W_region [some 35, some 36, some 37, some 38, some 39, some 40, none] rfl ?_
          refine Ops_step (R_move rfl) rfl rfl ?_
          refine Ops_step (R_move rfl) rfl rfl ?_
          refine Exists.elim h fun x22_ h => ?_
          have hx22_ := h.1
          replace h := h.2
          have ha22_ := (ho5_16.atS hx22_).1
          refine Ops_step (R_indexSl Tryd.underlying22 TOmReads.sz5 rfl rfl hx22_.1 hx22_.lt ha22_) rfl rfl ?_
          refine Ops_step (R_load TOmReads.ag5 rfl (ho5_16.atS hx22_).2) rfl rfl ?_
          refine Ops_step (R_xor rfl rfl (xor8 x22_ (255 : UInt8))) rfl rfl ?_
          refine Exists.elim h fun x23_ h => ?_
          have hx23_ := h.1
          replace h := h.2
          have ha23_ := (ho5_16.atS hx23_).1
          refine Ops_step (R_indexSl Tryd.underlying22 TOmReads.sz5 rfl rfl hx23_.1 hx23_.lt ha23_) rfl rfl ?_
          refine Ops_to0 (X_storeOwn TOmReads.sz5 rfl rfl ho5_16 hx23_) rfl ?_
          rintro _ w24_ ⟨ho24_, hF24_⟩
          replace hI := hI.tok hF24_ ho5_16.out (ho5_16.new (Nat.le_refl _))
          replace ht11_0 := ht11_0.fr hF24_ (ht11_0.sep ho5_16 (by decide))
          replace ht12_ := ht12_.fr hF24_ (ht12_.sep ho5_16 (by decide))
          clear hF24_ ho5_16
          have hpl24_ : (put x5_16 x32_16 (x22_ ^^^ (255 : UInt8))).length = x5_16.length := by simp only [put, List.length_set]
          refine Ops_re 5 (v := .slice A5_16 x5_16.length c5_16) (v' := .slice A5_16 (put x5_16 x32_16 (x22_ ^^^ (255 : UInt8))).length c5_16) rfl (by rw [hpl24_]) ?_
          refine Ops_re 35 (v := .slice A5_16 x5_16.length c5_16) (v' := .slice A5_16 (put x5_16 x32_16 (x22_ ^^^ (255 : UInt8))).length c5_16) rfl (by rw [hpl24_]) ?_
          refine Ops_nil ?_
          refine block_n ?_
          refine then_n (hK20_ _ _ ?_)
          clear hK20_ K20_
          refine W_keepB [1, 5, 6, 7, 31, 32] fun B25 hB25_ => ?_
          simp only [pickE, lookE, putE, zipE, args0, Nat.reduceAdd, Nat.zero_add, List.cons_append, List.nil_append, Nat.reduceBEq, cond_true, cond_false] at hB25_
          subst hB25_
          refine W_region [some 41, some 32] rfl ?_
          have hk26_ := h.1
          replace h := h.2
          refine Ops_step (R_add rfl rfl (wI hk26_.1 hk26_.2)) rfl rfl ?_
          refine Ops_step (R_move rfl) rfl rfl ?_
          refine Ops_nil ?_
          refine then_n ?_
          exact h.elim fun m_ h => ⟨m_, _, h.1, rfl, ⟨(put x5_16 x32_16 (x22_ ^^^ (255 : UInt8))), A5_16, c5_16, (x32_16 + 1), _, _, rfl, h.2, hI, hll16_, hhh16_, ho24_, ht11_0, ht12_, trivial⟩, ⟨rfl, rfl, rfl, rfl, trivial⟩⟩
        · replace h := h.2 hc19_
          refine W_exit ?_
          refine then_exit ?_
          clear hK18_ K18_
          refine then_exit ?_
          refine block_exit ?_
          refine then_n ?_
          exact ⟨_, rfl, ⟨_, _, rfl, h, hI, hll14_, hhh14_, ht11_0, ht12_, trivial⟩, ⟨rfl, rfl, rfl, trivial⟩⟩
      · simp only [pickE, lookE, putE, zipE, args0, Nat.reduceAdd, Nat.zero_add, List.cons_append, List.nil_append, Nat.reduceBEq, cond_true, cond_false] at hB14_
        subst hB14_
        clear h
        clear ht11_0
        clear ht12_
        rintro _ w14_ ⟨L14_, H14_, rfl, hJ14_, hI14_, hll14_, hhh14_, ht11_0, ht12_, -⟩
        replace hI := hI14_
        clear hI14_
        have h := hr14_ hJ14_
        clear hr14_ hJ14_
        replace hs0 := hs0.up hhh14_
        replace hs1 := hs1.up hhh14_
        replace hs11_0_1 := hs11_0_1.up hll14_
        refine Exists.elim h fun J27_ h => ?_
        have hr27_ := h.1
        replace h := h.2
        refine W_seq_join [6, 7] [] (fun vs w2 => ∃ (yd11_0_27 : octet_Reader) (yb12__27 : sealskinref02_Reader) (L H : Gh), vs = [] ∧ J27_ yd11_0_27 yb12__27 ∧ Inv [] G w L H w2 ∧ Le L14_ L ∧ Le H14_ H ∧ Ob 58 H H w2 d11_0 yd11_0_27 ∧ Ob 65 H H w2 b12_ yb12__27 ∧ True) (fun B27 hB27_ => ?_) (fun B27 hB27_ => ?_)
        · simp only [pickE, lookE, putE, zipE, args0, Nat.reduceAdd, Nat.zero_add, List.cons_append, List.nil_append, Nat.reduceBEq, cond_true, cond_false] at hB27_
          subst hB27_
          clear hr27_
          have hll27_ := Le.refl L14_
          have hhh27_ := Le.refl H14_
          refine W_seq_k fun K28_ hK28_ => ?_
          refine W_region [some 42, some 43, some 44] rfl ?_
          refine Ops_step (R_move rfl) rfl rfl ?_
          refine Ops_step (R_len Tryd.underlying62 rfl rfl) rfl rfl ?_
          refine Ops_step (R_move rfl) rfl rfl ?_
          refine Ops_nil ?_
          refine then_n (hK28_ _ _ ?_)
          clear hK28_ K28_
          refine W_block ?_
          refine Exists.elim h fun I29_ h => Exists.elim h fun n29_ h => ?_
          have h0_ := h.1
          have hs29_ := h.2
          clear h
          refine W_loopB [6, 7, 42, 43] [44] (fun m vs w2 => ∃ (x44_29 : Int) (yb12__29 : sealskinref02_Reader) (yd11_0_29 : octet_Reader) (L H : Gh), vs = [vi x44_29] ∧ I29_ m x44_29 yb12__29 yd11_0_29 ∧ Inv [] G w L H w2 ∧ Le L14_ L ∧ Le H14_ H ∧ Ob 65 H H w2 b12_ yb12__29 ∧ Ob 58 H H w2 d11_0 yd11_0_29 ∧ True) n29_ _ rfl ⟨0, (sealskinref02_Reader.mk x0 0 0), r11_0, _, _, rfl, h0_, hI, Le.refl _, Le.refl _, ⟨_, ⟨A0, c0, rfl, ⟨hc0, hs0⟩⟩, ht12_⟩, ⟨_, ⟨A11_0_1, c11_0_1, rfl, ⟨hc11_0_1, (hs11_0_1.up hI.sub)⟩⟩, ht11_0⟩, trivial⟩ fun B29 hB29_ => ?_
          clear h0_
          simp only [pickE, lookE, putE, zipE, args0, Nat.reduceAdd, Nat.zero_add, List.cons_append, List.nil_append, Nat.reduceBEq, cond_true, cond_false] at hB29_
          subst hB29_
          rintro m29_ _ w29_ ⟨x44_29, yb12__29, yd11_0_29, L29_, H29_, rfl, hJ29_, hI29_, hll29_, hhh29_, hqb12__29, hqd11_0_29, -⟩
          replace hI := hI29_
          clear hI29_
          have h := hs29_ m29_ x44_29 yb12__29 yd11_0_29 hJ29_
          clear hs29_ hJ29_
          replace hs0 := hs0.up hhh29_
          replace hs1 := hs1.up hhh29_
          replace hs11_0_1 := hs11_0_1.up hll29_
          replace hll27_ := hll27_.trans hll29_
          replace hhh27_ := hhh27_.trans hhh29_
          obtain ⟨lb12__29_, hlb12__29_, htb12__29⟩ := hqb12__29
          obtain ⟨Ab12__29_1, cb12__29_1, rfl, ⟨hcb12__29_1, hsb12__29_1⟩⟩ := hlb12__29_
          obtain ⟨ld11_0_29_, hld11_0_29_, htd11_0_29⟩ := hqd11_0_29
          obtain ⟨Ad11_0_29_1, cd11_0_29_1, rfl, ⟨hcd11_0_29_1, hsd11_0_29_1⟩⟩ := hld11_0_29_
          refine W_seq_k fun K30_ hK30_ => ?_
          refine W_region [some 45] rfl ?_
          refine Ops_step (R_lss rfl rfl) rfl rfl ?_
          refine Ops_nil ?_
          refine then_n (hK30_ _ _ ?_)
          clear hK30_ K30_
          refine W_seq_k fun K31_ hK31_ => ?_
          refine W_if rfl (fun hc32_ => ?_) (fun hc32_ => ?_)
          · replace h := h.1 hc32_
            refine W_skip ?_
            refine then_n (hK31_ _ _ ?_)
            clear hK31_ K31_
            refine Exists.elim h fun J33_ h => ?_
            have hr33_ := h.1
            replace h := h.2
            refine W_seq_join [6, 7, 42, 43, 44] [] (fun vs w2 => ∃ (yd11_0_33 : octet_Reader) (yb12__33 : sealskinref02_Reader) (L H : Gh), vs = [] ∧ J33_ yd11_0_33 yb12__33 ∧ Inv [] G w L H w2 ∧ Le L29_ L ∧ Le H29_ H ∧ Ob 58 H H w2 d11_0 yd11_0_33 ∧ Ob 65 H H w2 b12_ yb12__33 ∧ True) (fun B33 hB33_ => ?_) (fun B33 hB33_ => ?_)
            · simp only [pickE, lookE, putE, zipE, args0, Nat.reduceAdd, Nat.zero_add, List.cons_append, List.nil_append, Nat.reduceBEq, cond_true, cond_false] at hB33_
              subst hB33_
              clear hr33_
              have hll33_ := Le.refl L29_
              have hhh33_ := Le.refl H29_
              refine W_block ?_
              refine W_seq_k fun K34_ hK34_ => ?_
              refine W_region [some 46, some 47, some 10, none] rfl ?_
              refine Exists.elim h fun x35_ h => ?_
              have hx35_ := h.1
              replace h := h.2
              have ha35_ := (Sl.atN (n := 3) rfl (by decide) hs1 hx35_).1
              refine Exists.elim (Sl.atN (n := 3) rfl (by decide) hs1 hx35_).2 fun l35_ hA35_ => ?_
              have hr35_ := hA35_.1
              have hg35_ := hA35_.2
              clear hA35_
              refine Ops_step (R_indexSl Tryd.underlying62 TOmReads.sz54 rfl rfl hx35_.1 hx35_.lt ha35_) rfl rfl ?_
              replace hr35_ : l35_ = [vi x35_.Op_, vi x35_.Lo_, vi x35_.Hi_] := hr35_
              subst hr35_
              refine Ops_step (R_loadCs (cs := [vi x35_.Op_, vi x35_.Lo_, vi x35_.Hi_]) TOmReads.ag54 TOmReads.sz54 rfl (fun j_ v_ hv_ => hI.st _ _ (hg35_ j_ v_ hv_))) rfl rfl ?_
              have hI0_ := hI
              refine Ops_to (R_alloc TOmReads.zr54) rfl rfl ?_
              rintro _ w36_ ⟨b36_, rfl, hb36_, hB36_, hF36_⟩
              replace hI := hI.fr0 hF36_
              replace htb12__29 := htb12__29.fr0 hF36_
              replace htd11_0_29 := htd11_0_29.fr0 hF36_
              have ht36_ : Tok H29_ _ b36_ 54 ([vi 0, vi 0, vi 0]) := ⟨hB36_.to rfl, Out.ge hI0_.st (Nat.le_of_eq hb36_.symm)⟩
              have hge_b36_ : w.heap.size ≤ b36_ := hb36_ ▸ hI0_.size
              clear hB36_ hb36_ hI0_ hF36_
              refine Ops_to0 (R_storeN TOmReads.sz54 rfl rfl rfl ht36_.blk (by decide) rfl) rfl ?_
              rintro _ w37_ ⟨hB37_, hF37_⟩
              replace hI := hI.tok hF37_ (out1 ht36_.out) (new1 hge_b36_)
              replace htb12__29 := htb12__29.fr hF37_ (htb12__29.apart ht36_ (by decide))
              replace htd11_0_29 := htd11_0_29.fr hF37_ (htd11_0_29.apart ht36_ (by decide))
              replace ht36_ : Tok H29_ _ b36_ 54 ([vi x35_.Op_, vi x35_.Lo_, vi x35_.Hi_]) := ⟨hB37_, ht36_.out⟩
              clear hF37_ hB37_
              refine Ops_nil ?_
              refine then_n (hK34_ _ _ ?_)
              clear hK34_ K34_
              refine W_seq_k fun K38_ hK38_ => ?_
              refine W_region [some 11] rfl ?_
              refine Ops_step (R_assign rfl) rfl rfl ?_
              refine Ops_nil ?_
              refine then_n (hK38_ _ _ ?_)
              clear hK38_ K38_
              refine Exists.elim h fun J39_ h => ?_
              have hr39_ := h.1
              replace h := h.2
              refine W_seq_join [6, 7, 42, 43, 44] [11] (fun vs w2 => ∃ (x11_39 : Bool) (yd11_0_39 : octet_Reader) (yb12__39 : sealskinref02_Reader) (L H : Gh), vs = [.bool x11_39] ∧ J39_ x11_39 yd11_0_39 yb12__39 ∧ Inv [] G w L H w2 ∧ Le L29_ L ∧ Le H29_ H ∧ Ob 58 H H w2 d11_0 yd11_0_39 ∧ Ob 65 H H w2 b12_ yb12__39 ∧ True) (fun B39 hB39_ => ?_) (fun B39 hB39_ => ?_)
              · simp only [pickE, lookE, putE, zipE, args0, Nat.reduceAdd, Nat.zero_add, List.cons_append, List.nil_append, Nat.reduceBEq, cond_true, cond_false] at hB39_
                subst hB39_
                clear hr39_
                have hll39_ := Le.refl L29_
                have hhh39_ := Le.refl H29_
                refine W_seq_k fun K40_ hK40_ => ?_
                refine W_region [some 48, some 49, some 50] rfl ?_
                refine Ops_step (R_fieldAddr TOmReads.fo54_0 rfl) rfl rfl ?_
                refine Ops_step (R_loadB (v := vi x35_.Op_) TOmReads.ag3 rfl ht36_.blk rfl) rfl rfl ?_
                refine Ops_step (R_and rfl rfl (andI_wrap _ _)) rfl rfl ?_
                refine Ops_nil ?_
                refine then_n (hK40_ _ _ ?_)
                clear hK40_ K40_
                refine W_keepB [6, 7, 10, 42, 43, 44, 50] fun B41 hB41_ => ?_
                simp only [pickE, lookE, putE, zipE, args0, Nat.reduceAdd, Nat.zero_add, List.cons_append, List.nil_append, Nat.reduceBEq, cond_true, cond_false] at hB41_
                subst hB41_
                refine W_block ?_
                refine W_seq_k fun K42_ hK42_ => ?_
                refine W_region [some 61, some 60] rfl ?_
                refine Ops_step (R_eql rfl rfl) rfl rfl ?_
                refine Ops_step (R_assign rfl) rfl rfl ?_
                refine Ops_nil ?_
                refine then_n (hK42_ _ _ ?_)
                clear hK42_ K42_
                refine W_if rfl (fun hc43_ => ?_) (fun hc43_ => ?_)
                · replace h := h.1 hc43_
                  refine W_region [some 62, some 63, some 64, some 65, some 66, some 11] rfl ?_
                  refine Ops_step (R_move rfl) rfl rfl ?_
                  refine Ops_call (C_func TOmReads.bd20 rfl) rfl rfl ?_
                  refine (octet_Reader_Number_ok (x0 := yd11_0_29) hI.st (hg.up hI.le) ⟨_, ⟨Ad11_0_29_1, cd11_0_29_1, rfl, ⟨hcd11_0_29_1, hsd11_0_29_1⟩⟩, htd11_0_29⟩ h).mono ?_
                  rintro _ w44_ ⟨r44_0, y44_0, L44_, H44_, rfl, hI44_, hq44_0, h⟩
                  refine Exists.elim (hI.call hI44_ (new1 hge_d11_0)) fun L440_ h44_ => ?_
                  have hz44_ := hI.size
                  replace hI := h44_.1
                  have u44_ := h44_.2.1
                  have hl44_ := h44_.2.2
                  clear h44_
                  replace hs1 := hs1.up u44_.hh
                  replace hll27_ := hll27_.trans u44_.ll
                  replace hhh27_ := hhh27_.trans u44_.hh
                  replace hsb12__29_1 := hsb12__29_1.up u44_.hh
                  replace htb12__29 := htb12__29.up u44_ (htb12__29.apart htd11_0_29 (by decide))
                  replace hsd11_0_29_1 := hsd11_0_29_1.up u44_.hh
                  replace hll29_ := hll29_.trans u44_.ll
                  replace hhh29_ := hhh29_.trans u44_.hh
                  replace hll33_ := hll33_.trans u44_.ll
                  replace hhh33_ := hhh33_.trans u44_.hh
                  replace hll39_ := hll39_.trans u44_.ll
                  replace hhh39_ := hhh39_.trans u44_.hh
                  clear htd11_0_29
                  obtain ⟨l44_0_, hl44_0_, ht44_0⟩ := hq44_0
                  obtain ⟨A44_0_1, c44_0_1, rfl, ⟨hc44_0_1, hs44_0_1⟩⟩ := hl44_0_
                  clear hI44_ u44_ hl44_
                  refine ⟨_, rfl, ?_⟩
                  refine Ops_step (R_move rfl) rfl rfl ?_
                  refine Ops_call (C_func TOmReads.bd39 rfl) rfl rfl ?_
                  refine (sealskinref02_Reader_Number_ok (x0 := yb12__29) hI.st (hg.up hI.le) ⟨_, ⟨Ab12__29_1, cb12__29_1, rfl, ⟨hcb12__29_1, hsb12__29_1⟩⟩, htb12__29⟩ h).mono ?_
                  rintro _ w45_ ⟨r45_0, y45_0, L45_, H45_, rfl, hI45_, hq45_0, h⟩
                  refine Exists.elim (hI.call hI45_ (new1 hge_b12_)) fun L450_ h45_ => ?_
                  have hz45_ := hI.size
                  replace hI := h45_.1
                  have u45_ := h45_.2.1
                  have hl45_ := h45_.2.2
                  clear h45_
                  replace hs1 := hs1.up u45_.hh
                  replace hll27_ := hll27_.trans u45_.ll
                  replace hhh27_ := hhh27_.trans u45_.hh
                  replace hsb12__29_1 := hsb12__29_1.up u45_.hh
                  replace hll29_ := hll29_.trans u45_.ll
                  replace hhh29_ := hhh29_.trans u45_.hh
                  replace hll33_ := hll33_.trans u45_.ll
                  replace hhh33_ := hhh33_.trans u45_.hh
                  replace hll39_ := hll39_.trans u45_.ll
                  replace hhh39_ := hhh39_.trans u45_.hh
                  replace hs44_0_1 := hs44_0_1.up u45_.hh
                  replace ht44_0 := ht44_0.up u45_ (ht44_0.apart htb12__29 (by decide))
                  clear htb12__29
                  obtain ⟨l45_0_, hl45_0_, ht45_0⟩ := hq45_0
                  obtain ⟨A45_0_1, c45_0_1, rfl, ⟨hc45_0_1, hs45_0_1⟩⟩ := hl45_0_
                  clear hI45_ u45_ hl45_
                  refine ⟨_, rfl, ?_⟩
                  refine Ops_step (R_eql rfl rfl) rfl rfl ?_
                  refine Ops_step (R_assign rfl) rfl rfl ?_
                  refine Ops_nil ?_
                  refine block_n ?_
                  refine then_n ?_
                  exact ⟨_, rfl, ⟨(decide (r44_0 = r45_0)), y44_0, y45_0, _, _, rfl, h, hI, hll39_, hhh39_, ⟨_, ⟨A44_0_1, c44_0_1, rfl, ⟨hc44_0_1, hs44_0_1⟩⟩, ht44_0⟩, ⟨_, ⟨A45_0_1, c45_0_1, rfl, ⟨hc45_0_1, hs45_0_1⟩⟩, ht45_0⟩, trivial⟩, ⟨rfl, rfl, rfl, rfl, rfl, trivial⟩⟩
                · replace h := h.2 hc43_
                  refine W_seq_k fun K46_ hK46_ => ?_
                  refine W_region [some 68, some 67] rfl ?_
                  refine Ops_step (R_eql rfl rfl) rfl rfl ?_
                  refine Ops_step (R_assign rfl) rfl rfl ?_
                  refine Ops_nil ?_
                  refine then_n (hK46_ _ _ ?_)
                  clear hK46_ K46_
                  refine W_if rfl (fun hc47_ => ?_) (fun hc47_ => ?_)
                  · replace h := h.1 hc47_
                    refine W_drawF [some 69, some 70, some 71, some 72, some 73, some 74, some 75, some 76, some 77, some 78, some 79, some 80, some 81, some 11] [(0, true), (1, true), (2, true), (3, true), (4, true), (6, true), (7, true), (8, true), (9, true), (10, true), (5, false), (11, false), (12, true), (13, true)] TOmReads.hm rfl (by kernel_rfl) fun ops48_ w48_ hops48_ hF48_ => ?_
                    replace hI := hI.fr0 hF48_
                    replace htb12__29 := htb12__29.fr0 hF48_
                    replace htd11_0_29 := htd11_0_29.fr0 hF48_
                    replace ht36_ := ht36_.fr0 hF48_
                    clear hF48_
                    refine HS_pure (fun w_ => R_move rfl) rfl rfl ?_
                    refine HS_pure (fun w_ => R_fieldAddr TOmReads.fo54_1 rfl) rfl rfl ?_
                    refine HS_loadB (v := vi x35_.Lo_) TOmReads.ag3 rfl ht36_.blk rfl rfl rfl ?_
                    refine HS_pure (fun w_ => R_fieldAddr TOmReads.fo54_2 rfl) rfl rfl ?_
                    refine HS_loadB (v := vi x35_.Hi_) TOmReads.ag3 rfl ht36_.blk rfl rfl rfl ?_
                    refine HS_pure (fun w_ => R_move rfl) rfl rfl ?_
                    refine HS_pure (fun w_ => R_fieldAddr TOmReads.fo54_1 rfl) rfl rfl ?_
                    refine HS_loadB (v := vi x35_.Lo_) TOmReads.ag3 rfl ht36_.blk rfl rfl rfl ?_
                    refine HS_pure (fun w_ => R_fieldAddr TOmReads.fo54_2 rfl) rfl rfl ?_
                    refine HS_loadB (v := vi x35_.Hi_) TOmReads.ag3 rfl ht36_.blk rfl rfl rfl ?_
                    refine HS_call [10, 8] _ rfl (by rw [hops48_]; kernel_rfl) (C_func TOmReads.bd37 rfl) rfl rfl ?_
                    refine (octet_Reader_Within_ok (x0 := yd11_0_29) (x1 := x35_.Lo_) (x2 := x35_.Hi_) hI.st (hg.up hI.le) ⟨_, ⟨Ad11_0_29_1, cd11_0_29_1, rfl, ⟨hcd11_0_29_1, hsd11_0_29_1⟩⟩, htd11_0_29⟩ h).mono ?_
                    rintro _ w49_ ⟨r49_0, y49_0, L49_, H49_, rfl, hI49_, hq49_0, h⟩
                    refine Exists.elim (hI.call hI49_ (new1 hge_d11_0)) fun L490_ h49_ => ?_
                    have hz49_ := hI.size
                    replace hI := h49_.1
                    have u49_ := h49_.2.1
                    have hl49_ := h49_.2.2
                    clear h49_
                    replace hs1 := hs1.up u49_.hh
                    replace hll27_ := hll27_.trans u49_.ll
                    replace hhh27_ := hhh27_.trans u49_.hh
                    replace hsb12__29_1 := hsb12__29_1.up u49_.hh
                    replace htb12__29 := htb12__29.up u49_ (htb12__29.apart htd11_0_29 (by decide))
                    replace hsd11_0_29_1 := hsd11_0_29_1.up u49_.hh
                    replace hll29_ := hll29_.trans u49_.ll
                    replace hhh29_ := hhh29_.trans u49_.hh
                    replace hll33_ := hll33_.trans u49_.ll
                    replace hhh33_ := hhh33_.trans u49_.hh
                    replace ht36_ := ht36_.up u49_ (ht36_.apart htd11_0_29 (by decide))
                    replace hll39_ := hll39_.trans u49_.ll
                    replace hhh39_ := hhh39_.trans u49_.hh
                    clear htd11_0_29
                    obtain ⟨l49_0_, hl49_0_, ht49_0⟩ := hq49_0
                    obtain ⟨A49_0_1, c49_0_1, rfl, ⟨hc49_0_1, hs49_0_1⟩⟩ := hl49_0_
                    clear hI49_ u49_ hl49_
                    refine ⟨_, rfl, ⟨(ht36_.blk.at_ rfl), (ht36_.blk.at_ rfl), trivial⟩, ?_⟩
                    refine HS_call [] _ rfl (by rw [hops48_]; kernel_rfl) (C_func TOmReads.bd40 rfl) rfl rfl ?_
                    refine (sealskinref02_Reader_Within_ok (x0 := yb12__29) (x1 := x35_.Lo_) (x2 := x35_.Hi_) hI.st (hg.up hI.le) ⟨_, ⟨Ab12__29_1, cb12__29_1, rfl, ⟨hcb12__29_1, hsb12__29_1⟩⟩, htb12__29⟩ h).mono ?_
                    rintro _ w50_ ⟨r50_0, y50_0, L50_, H50_, rfl, hI50_, hq50_0, h⟩
                    refine Exists.elim (hI.call hI50_ (new1 hge_b12_)) fun L500_ h50_ => ?_
                    have hz50_ := hI.size
                    replace hI := h50_.1
                    have u50_ := h50_.2.1
                    have hl50_ := h50_.2.2
                    clear h50_
                    replace hs1 := hs1.up u50_.hh
                    replace hll27_ := hll27_.trans u50_.ll
                    replace hhh27_ := hhh27_.trans u50_.hh
                    replace hsb12__29_1 := hsb12__29_1.up u50_.hh
                    replace hll29_ := hll29_.trans u50_.ll
                    replace hhh29_ := hhh29_.trans u50_.hh
                    replace hll33_ := hll33_.trans u50_.ll
                    replace hhh33_ := hhh33_.trans u50_.hh
                    replace ht36_ := ht36_.up u50_ (ht36_.apart htb12__29 (by decide))
                    replace hll39_ := hll39_.trans u50_.ll
                    replace hhh39_ := hhh39_.trans u50_.hh
                    replace hs49_0_1 := hs49_0_1.up u50_.hh
                    replace ht49_0 := ht49_0.up u50_ (ht49_0.apart htb12__29 (by decide))
                    clear htb12__29
                    obtain ⟨l50_0_, hl50_0_, ht50_0⟩ := hq50_0
                    obtain ⟨A50_0_1, c50_0_1, rfl, ⟨hc50_0_1, hs50_0_1⟩⟩ := hl50_0_
                    clear hI50_ u50_ hl50_
                    refine ⟨_, rfl, trivial, ?_⟩
                    refine HS_pure (fun w_ => R_eql rfl rfl) rfl rfl ?_
                    refine HS_pure (fun w_ => R_assign rfl) rfl rfl ?_
                    refine HS_nil ?_
                    clear hops48_
                    refine block_n ?_
                    refine then_n ?_
                    exact ⟨_, rfl, ⟨(decide (r49_0 = r50_0)), y49_0, y50_0, _, _, rfl, h, hI, hll39_, hhh39_, ⟨_, ⟨A49_0_1, c49_0_1, rfl, ⟨hc49_0_1, hs49_0_1⟩⟩, ht49_0⟩, ⟨_, ⟨A50_0_1, c50_0_1, rfl, ⟨hc50_0_1, hs50_0_1⟩⟩, ht50_0⟩, trivial⟩, ⟨rfl, rfl, rfl, rfl, rfl, trivial⟩⟩
                  · replace h := h.2 hc47_
                    refine W_seq_k fun K51_ hK51_ => ?_
                    refine W_region [some 83, some 82] rfl ?_
                    refine Ops_step (R_eql rfl rfl) rfl rfl ?_
                    refine Ops_step (R_assign rfl) rfl rfl ?_
                    refine Ops_nil ?_
                    refine then_n (hK51_ _ _ ?_)
                    clear hK51_ K51_
                    refine W_keepB [6, 7, 10, 42, 43, 44, 82] fun B52 hB52_ => ?_
                    simp only [pickE, lookE, putE, zipE, args0, Nat.reduceAdd, Nat.zero_add, List.cons_append, List.nil_append, Nat.reduceBEq, cond_true, cond_false] at hB52_
                    subst hB52_
                    refine W_if rfl (fun hc53_ => ?_) (fun hc53_ => ?_)
                    · replace h := h.1 hc53_
                      refine W_seq_k fun K54_ hK54_ => ?_
                      refine W_region [some 84, some 85, some 86, some 87, some 12] rfl ?_
                      refine Ops_step (R_move rfl) rfl rfl ?_
                      refine Ops_step (R_fieldAddr TOmReads.fo54_2 rfl) rfl rfl ?_
                      refine Ops_step (R_loadB (v := vi x35_.Hi_) TOmReads.ag3 rfl ht36_.blk rfl) rfl rfl ?_
                      refine Ops_call (C_func TOmReads.bd21 rfl) rfl rfl ?_
                      refine (octet_Reader_Bytes_ok (x0 := yd11_0_29) (x1 := x35_.Hi_) hI.st (hg.up hI.le) ⟨_, ⟨Ad11_0_29_1, cd11_0_29_1, rfl, ⟨hcd11_0_29_1, hsd11_0_29_1⟩⟩, htd11_0_29⟩ h).mono ?_
                      rintro _ w55_ ⟨A55_0, c55_0, r55_0, y55_0, L55_, H55_, rfl, hI55_, ho55_0, hq55_0, h⟩
                      refine Exists.elim (hI.call hI55_ (new1 hge_d11_0)) fun L550_ h55_ => ?_
                      have hz55_ := hI.size
                      replace hI := h55_.1
                      have u55_ := h55_.2.1
                      have hl55_ := h55_.2.2
                      clear h55_
                      replace hs1 := hs1.up u55_.hh
                      replace hll27_ := hll27_.trans u55_.ll
                      replace hhh27_ := hhh27_.trans u55_.hh
                      replace hsb12__29_1 := hsb12__29_1.up u55_.hh
                      replace htb12__29 := htb12__29.up u55_ (htb12__29.apart htd11_0_29 (by decide))
                      replace hsd11_0_29_1 := hsd11_0_29_1.up u55_.hh
                      replace hll29_ := hll29_.trans u55_.ll
                      replace hhh29_ := hhh29_.trans u55_.hh
                      replace hll33_ := hll33_.trans u55_.ll
                      replace hhh33_ := hhh33_.trans u55_.hh
                      replace ht36_ := ht36_.up u55_ (ht36_.apart htd11_0_29 (by decide))
                      replace hll39_ := hll39_.trans u55_.ll
                      replace hhh39_ := hhh39_.trans u55_.hh
                      replace ho55_0 := OwnS.backS ho55_0 hz55_ (Le.refl _)
                      clear htd11_0_29
                      obtain ⟨l55_0_, hl55_0_, ht55_0⟩ := hq55_0
                      obtain ⟨A55_0_1, c55_0_1, rfl, ⟨hc55_0_1, hs55_0_1⟩⟩ := hl55_0_
                      clear hI55_ u55_ hl55_
                      refine ⟨_, rfl, ?_⟩
                      refine Ops_step (R_assign rfl) rfl rfl ?_
                      refine Ops_nil ?_
                      refine then_n (hK54_ _ _ ?_)
                      clear hK54_ K54_
                      refine W_seq_k fun K56_ hK56_ => ?_
                      refine W_region [some 88, some 89, some 90, some 91, some 92, some 93, some 11] rfl ?_
                      refine Ops_step (R_move rfl) rfl rfl ?_
                      refine Ops_step (R_move rfl) rfl rfl ?_
                      refine Ops_step (R_fieldAddr TOmReads.fo54_2 rfl) rfl rfl ?_
                      refine Ops_step (R_loadB (v := vi x35_.Hi_) TOmReads.ag3 rfl ht36_.blk rfl) rfl rfl ?_
                      refine Ops_call (C_func TOmReads.bd41 rfl) rfl rfl ?_
                      refine (sealskinref02_Reader_Bytes_ok (x0 := yb12__29) (x1 := x35_.Hi_) hI.st (hg.up hI.le) ⟨_, ⟨Ab12__29_1, cb12__29_1, rfl, ⟨hcb12__29_1, hsb12__29_1⟩⟩, htb12__29⟩ h).mono ?_
                      have hlo57_0_ho55_0 := ho55_0.lt
                      rintro _ w57_ ⟨A57_0, c57_0, r57_0, y57_0, L57_, H57_, rfl, hI57_, ho57_0, hq57_0, h⟩
                      refine Exists.elim (hI.call hI57_ (new1 hge_b12_)) fun L570_ h57_ => ?_
                      have hz57_ := hI.size
                      replace hI := h57_.1
                      have u57_ := h57_.2.1
                      have hl57_ := h57_.2.2
                      clear h57_
                      replace hs1 := hs1.up u57_.hh
                      replace hll27_ := hll27_.trans u57_.ll
                      replace hhh27_ := hhh27_.trans u57_.hh
                      replace hsb12__29_1 := hsb12__29_1.up u57_.hh
                      replace hll29_ := hll29_.trans u57_.ll
                      replace hhh29_ := hhh29_.trans u57_.hh
                      replace hll33_ := hll33_.trans u57_.ll
                      replace hhh33_ := hhh33_.trans u57_.hh
                      replace hll39_ := hll39_.trans u57_.ll
                      replace hhh39_ := hhh39_.trans u57_.hh
                      replace ho55_0 := ho55_0.up (Le.refl _) u57_ (ho55_0.ne htb12__29.blk (by decide))
                      replace hs55_0_1 := hs55_0_1.up u57_.hh
                      replace ht55_0 := ht55_0.up u57_ (ht55_0.apart htb12__29 (by decide))
                      have hsp57_0_ho55_0 : ∀ i ∈ bk A57_0 c57_0, i ∉ bk A55_0 c55_0 := sep_new ho57_0.off hlo57_0_ho55_0
                      replace ho57_0 := OwnS.backS ho57_0 hz57_ (Le.refl _)
                      clear htb12__29
                      obtain ⟨l57_0_, hl57_0_, ht57_0⟩ := hq57_0
                      obtain ⟨A57_0_1, c57_0_1, rfl, ⟨hc57_0_1, hs57_0_1⟩⟩ := hl57_0_
                      clear hI57_ u57_ hl57_
                      refine ⟨_, rfl, ?_⟩
                      refine Exists.elim (ho57_0.freeze hI) fun L58_ h58_ => Exists.elim h58_ fun H58_ h58_ => ?_
                      replace hI := h58_.1
                      have u58_ := h58_.2.1
                      have hs58_ := h58_.2.2.1 (Le.no _)
                      have hc58_ := ho57_0.cap
                      replace hs1 := hs1.up u58_.hh
                      replace hll27_ := hll27_.trans u58_.ll
                      replace hhh27_ := hhh27_.trans u58_.hh
                      replace hll29_ := hll29_.trans u58_.ll
                      replace hhh29_ := hhh29_.trans u58_.hh
                      replace hll33_ := hll33_.trans u58_.ll
                      replace hhh33_ := hhh33_.trans u58_.hh
                      replace hll39_ := hll39_.trans u58_.ll
                      replace hhh39_ := hhh39_.trans u58_.hh
                      replace ho55_0 := ho55_0.up (Le.refl _) u58_ (sep_sym hsp57_0_ho55_0)
                      replace hs55_0_1 := hs55_0_1.up u58_.hh
                      replace ht55_0 := ht55_0.up u58_ (ht55_0.sep ho57_0 (by decide))
                      replace hs57_0_1 := hs57_0_1.up u58_.hh
                      replace ht57_0 := ht57_0.up u58_ (ht57_0.sep ho57_0 (by decide))
                      clear h58_ u58_ ho57_0
                      refine Exists.elim (ho55_0.lend hI.st (Le.no _)) fun Hb59_0_ hb59_0_ => ?_
                      refine Ops_call (C_func TOmReads.bd24 rfl) rfl rfl ?_
                      refine (bytes_Equal_ok (x0 := r55_0) (x1 := r57_0) hb59_0_.1 (hg.up (hI.le.trans hb59_0_.2.1)) ho55_0.cap hb59_0_.2.2 hc58_ ((hs58_.up hI.sub).up hb59_0_.2.1) h).mono ?_
                      rintro _ w59_ ⟨r59_0, L59_, H59_, rfl, hI59_, h⟩
                      refine Exists.elim (hI.callB hb59_0_.2.1 hI59_ (by simp)) fun L590_ h59_ => Exists.elim h59_ fun H590_ h59_ => ?_
                      have hz59_ := hI.size
                      replace hI := h59_.1
                      have u59_ := h59_.2.1
                      have hl59_ := h59_.2.2.1
                      have hh59_ := h59_.2.2.2
                      clear h59_
                      replace hs1 := hs1.up u59_.hh
                      replace hll27_ := hll27_.trans u59_.ll
                      replace hhh27_ := hhh27_.trans u59_.hh
                      replace hll29_ := hll29_.trans u59_.ll
                      replace hhh29_ := hhh29_.trans u59_.hh
                      replace hll33_ := hll33_.trans u59_.ll
                      replace hhh33_ := hhh33_.trans u59_.hh
                      replace hll39_ := hll39_.trans u59_.ll
                      replace hhh39_ := hhh39_.trans u59_.hh
                      replace ho55_0 := ho55_0.up (Le.refl _) u59_ (by simp)
                      replace hs55_0_1 := hs55_0_1.up u59_.hh
                      replace ht55_0 := ht55_0.up u59_ (by simp)
                      replace hs57_0_1 := hs57_0_1.up u59_.hh
                      replace ht57_0 := ht57_0.up u59_ (by simp)
                      clear hI59_ u59_ hl59_
                      refine ⟨_, rfl, ?_⟩
                      refine Ops_step (R_assign rfl) rfl rfl ?_
                      refine Ops_nil ?_
                      refine then_n (hK56_ _ _ ?_)
                      clear hK56_ K56_
                      refine W_keepB [6, 7, 11, 12, 42, 43, 44] fun B60 hB60_ => ?_
                      simp only [pickE, lookE, putE, zipE, args0, Nat.reduceAdd, Nat.zero_add, List.cons_append, List.nil_append, Nat.reduceBEq, cond_true, cond_false] at hB60_
                      subst hB60_
                      refine W_seq_k fun K61_ hK61_ => ?_
                      refine W_region [some 94, some 95, some 96] rfl ?_
                      refine Ops_step (R_move rfl) rfl rfl ?_
                      refine Ops_step (R_len Tryd.underlying22 rfl rfl) rfl rfl ?_
                      refine Ops_step (R_move rfl) rfl rfl ?_
                      refine Ops_nil ?_
                      refine then_n (hK61_ _ _ ?_)
                      clear hK61_ K61_
                      refine W_block ?_
                      refine Exists.elim h fun I62_ h => Exists.elim h fun n62_ h => ?_
                      have h0_ := h.1
                      have hs62_ := h.2
                      clear h
                      refine W_loopB [6, 7, 11, 42, 43, 44, 95] [12, 96] (fun m vs w2 => ∃ (x12_62 : List UInt8) (A12_62 : Option Addr) (c12_62 : Nat) (x96_62 : Int) (L H : Gh), vs = [.slice A12_62 x12_62.length c12_62, vi x96_62] ∧ I62_ m x12_62 x96_62 ∧ Inv [] G w L H w2 ∧ Le L590_ L ∧ Le H590_ H ∧ OwnS w.heap.size 5 Gh.no H w2 A12_62 c12_62 x12_62 ∧ Tok H w2 d11_0 58 ([.slice A55_0_1 y55_0.source_.b_.length c55_0_1, vi y55_0.source_.at_, vi y55_0.source_.err_, .bool y55_0.source_.made_]) ∧ Tok H w2 b12_ 65 ([.slice A57_0_1 y57_0.B_.length c57_0_1, vi y57_0.At_, vi y57_0.E_]) ∧ True) n62_ _ rfl ⟨r55_0, A55_0, c55_0, 0, _, _, rfl, h0_, hI, Le.refl _, Le.refl _, ho55_0, ht55_0, ht57_0, trivial⟩ fun B62 hB62_ => ?_
                      clear h0_
                      simp only [pickE, lookE, putE, zipE, args0, Nat.reduceAdd, Nat.zero_add, List.cons_append, List.nil_append, Nat.reduceBEq, cond_true, cond_false] at hB62_
                      subst hB62_
                      clear ht55_0
                      clear ht57_0
                      rintro m62_ _ w62_ ⟨x12_62, A12_62, c12_62, x96_62, L62_, H62_, rfl, hJ62_, hI62_, hll62_, hhh62_, ho12_62, ht55_0, ht57_0, -⟩
                      replace hI := hI62_
                      clear hI62_
                      have h := hs62_ m62_ x12_62 x96_62 hJ62_
                      clear hs62_ hJ62_
                      replace hs1 := hs1.up hhh62_
                      replace hll27_ := hll27_.trans hll62_
                      replace hhh27_ := hhh27_.trans hhh62_
                      replace hll29_ := hll29_.trans hll62_
                      replace hhh29_ := hhh29_.trans hhh62_
                      replace hll33_ := hll33_.trans hll62_
                      replace hhh33_ := hhh33_.trans hhh62_
                      replace hll39_ := hll39_.trans hll62_
                      replace hhh39_ := hhh39_.trans hhh62_
                      replace hs55_0_1 := hs55_0_1.up hhh62_
                      replace hs57_0_1 := hs57_0_1.up hhh62_
                      refine W_seq_k fun K63_ hK63_ => ?_
                      refine W_region [some 97] rfl ?_
                      refine Ops_step (R_lss rfl rfl) rfl rfl ?_
                      refine Ops_nil ?_
                      refine then_n (hK63_ _ _ ?_)
                      clear hK63_ K63_
                      refine W_seq_k fun K64_ hK64_ => ?_
                      refine W_if rfl (fun hc65_ => ?_) (fun hc65_ => ?_)
                      · replace h := h.1 hc65_
                        refine W_skip ?_
                        refine then_n (hK64_ _ _ ?_)
                        clear hK64_ K64_
                        refine W_seq_k fun K66_ hK66_ => ?_
                        refine W_block ?_
                        refine W_seq_k fun K67_ hK67_ => ?_
                        refine W_region [some 98, some 13] rfl ?_
                        refine Ops_step (R_move rfl) rfl rfl ?_
                        refine Ops_step (R_assign rfl) rfl rfl ?_
                        refine Ops_nil ?_
                        refine then_n (hK67_ _ _ ?_)
                        clear hK67_ K67_
                        refine W_region [some 99, some 100, some 101, some 102, some 103, some 104, none] rfl ?_
                        refine Ops_step (R_move rfl) rfl rfl ?_
                        refine Ops_step (R_move rfl) rfl rfl ?_
                        refine Exists.elim h fun x68_ h => ?_
                        have hx68_ := h.1
                        replace h := h.2
                        have ha68_ := (ho12_62.atS hx68_).1
                        refine Ops_step (R_indexSl Tryd.underlying22 TOmReads.sz5 rfl rfl hx68_.1 hx68_.lt ha68_) rfl rfl ?_
                        refine Ops_step (R_load TOmReads.ag5 rfl (ho12_62.atS hx68_).2) rfl rfl ?_
                        refine Ops_step (R_xor rfl rfl (xor8 x68_ (255 : UInt8))) rfl rfl ?_
                        refine Exists.elim h fun x69_ h => ?_
                        have hx69_ := h.1
                        replace h := h.2
                        have ha69_ := (ho12_62.atS hx69_).1
                        refine Ops_step (R_indexSl Tryd.underlying22 TOmReads.sz5 rfl rfl hx69_.1 hx69_.lt ha69_) rfl rfl ?_
                        refine Ops_to0 (X_storeOwn TOmReads.sz5 rfl rfl ho12_62 hx69_) rfl ?_
                        rintro _ w70_ ⟨ho70_, hF70_⟩
                        replace hI := hI.tok hF70_ ho12_62.out (ho12_62.new (Nat.le_refl _))
                        replace ht55_0 := ht55_0.fr hF70_ (ht55_0.sep ho12_62 (by decide))
                        replace ht57_0 := ht57_0.fr hF70_ (ht57_0.sep ho12_62 (by decide))
                        clear hF70_ ho12_62
                        have hpl70_ : (put x12_62 x96_62 (x68_ ^^^ (255 : UInt8))).length = x12_62.length := by simp only [put, List.length_set]
                        refine Ops_re 12 (v := .slice A12_62 x12_62.length c12_62) (v' := .slice A12_62 (put x12_62 x96_62 (x68_ ^^^ (255 : UInt8))).length c12_62) rfl (by rw [hpl70_]) ?_
                        refine Ops_re 99 (v := .slice A12_62 x12_62.length c12_62) (v' := .slice A12_62 (put x12_62 x96_62 (x68_ ^^^ (255 : UInt8))).length c12_62) rfl (by rw [hpl70_]) ?_
                        refine Ops_nil ?_
                        refine block_n ?_
                        refine then_n (hK66_ _ _ ?_)
                        clear hK66_ K66_
                        refine W_keepB [6, 7, 11, 12, 42, 43, 44, 95, 96] fun B71 hB71_ => ?_
                        simp only [pickE, lookE, putE, zipE, args0, Nat.reduceAdd, Nat.zero_add, List.cons_append, List.nil_append, Nat.reduceBEq, cond_true, cond_false] at hB71_
                        subst hB71_
                        refine W_region [some 105, some 96] rfl ?_
                        have hk72_ := h.1
                        replace h := h.2
                        refine Ops_step (R_add rfl rfl (wI hk72_.1 hk72_.2)) rfl rfl ?_
                        refine Ops_step (R_move rfl) rfl rfl ?_
                        refine Ops_nil ?_
                        refine then_n ?_
                        exact h.elim fun m_ h => ⟨m_, _, h.1, rfl, ⟨(put x12_62 x96_62 (x68_ ^^^ (255 : UInt8))), A12_62, c12_62, (x96_62 + 1), _, _, rfl, h.2, hI, hll62_, hhh62_, ho70_, ht55_0, ht57_0, trivial⟩, ⟨rfl, rfl, rfl, rfl, rfl, rfl, rfl, trivial⟩⟩
                      · replace h := h.2 hc65_
                        refine W_exit ?_
                        refine then_exit ?_
                        clear hK64_ K64_
                        refine then_exit ?_
                        refine block_exit ?_
                        refine block_n ?_
                        refine then_n ?_
                        exact ⟨_, rfl, ⟨r59_0, y55_0, y57_0, _, _, rfl, h, hI, hll39_, hhh39_, ⟨_, ⟨A55_0_1, c55_0_1, rfl, ⟨hc55_0_1, hs55_0_1⟩⟩, ht55_0⟩, ⟨_, ⟨A57_0_1, c57_0_1, rfl, ⟨hc57_0_1, hs57_0_1⟩⟩, ht57_0⟩, trivial⟩, ⟨rfl, rfl, rfl, rfl, rfl, trivial⟩⟩
                    · replace h := h.2 hc53_
                      refine W_drawF [some 51, some 52, some 53, some 54, some 55, some 56, some 57, some 58, some 59, some 11] [(0, true), (1, true), (2, true), (4, true), (5, true), (6, true), (3, false), (7, false), (8, true), (9, true)] TOmReads.hm rfl (by kernel_rfl) fun ops73_ w73_ hops73_ hF73_ => ?_
                      replace hI := hI.fr0 hF73_
                      replace htb12__29 := htb12__29.fr0 hF73_
                      replace htd11_0_29 := htd11_0_29.fr0 hF73_
                      replace ht36_ := ht36_.fr0 hF73_
                      clear hF73_
                      refine HS_pure (fun w_ => R_move rfl) rfl rfl ?_
                      refine HS_pure (fun w_ => R_fieldAddr TOmReads.fo54_2 rfl) rfl rfl ?_
                      refine HS_loadB (v := vi x35_.Hi_) TOmReads.ag3 rfl ht36_.blk rfl rfl rfl ?_
                      refine HS_pure (fun w_ => R_move rfl) rfl rfl ?_
                      refine HS_pure (fun w_ => R_fieldAddr TOmReads.fo54_2 rfl) rfl rfl ?_
                      refine HS_loadB (v := vi x35_.Hi_) TOmReads.ag3 rfl ht36_.blk rfl rfl rfl ?_
                      refine HS_call [6] _ rfl (by rw [hops73_]; kernel_rfl) (C_func TOmReads.bd22 rfl) rfl rfl ?_
                      refine (octet_Reader_Text_ok (x0 := yd11_0_29) (x1 := x35_.Hi_) hI.st (hg.up hI.le) ⟨_, ⟨Ad11_0_29_1, cd11_0_29_1, rfl, ⟨hcd11_0_29_1, hsd11_0_29_1⟩⟩, htd11_0_29⟩ h).mono ?_
                      rintro _ w74_ ⟨r74_0, y74_0, L74_, H74_, rfl, hI74_, hq74_0, h⟩
                      refine Exists.elim (hI.call hI74_ (new1 hge_d11_0)) fun L740_ h74_ => ?_
                      have hz74_ := hI.size
                      replace hI := h74_.1
                      have u74_ := h74_.2.1
                      have hl74_ := h74_.2.2
                      clear h74_
                      replace hs1 := hs1.up u74_.hh
                      replace hll27_ := hll27_.trans u74_.ll
                      replace hhh27_ := hhh27_.trans u74_.hh
                      replace hsb12__29_1 := hsb12__29_1.up u74_.hh
                      replace htb12__29 := htb12__29.up u74_ (htb12__29.apart htd11_0_29 (by decide))
                      replace hsd11_0_29_1 := hsd11_0_29_1.up u74_.hh
                      replace hll29_ := hll29_.trans u74_.ll
                      replace hhh29_ := hhh29_.trans u74_.hh
                      replace hll33_ := hll33_.trans u74_.ll
                      replace hhh33_ := hhh33_.trans u74_.hh
                      replace ht36_ := ht36_.up u74_ (ht36_.apart htd11_0_29 (by decide))
                      replace hll39_ := hll39_.trans u74_.ll
                      replace hhh39_ := hhh39_.trans u74_.hh
                      clear htd11_0_29
                      obtain ⟨l74_0_, hl74_0_, ht74_0⟩ := hq74_0
                      obtain ⟨A74_0_1, c74_0_1, rfl, ⟨hc74_0_1, hs74_0_1⟩⟩ := hl74_0_
                      clear hI74_ u74_ hl74_
                      refine ⟨_, rfl, ⟨(ht36_.blk.at_ rfl), trivial⟩, ?_⟩
                      refine HS_call [] _ rfl (by rw [hops73_]; kernel_rfl) (C_func TOmReads.bd42 rfl) rfl rfl ?_
                      refine (sealskinref02_Reader_Text_ok (x0 := yb12__29) (x1 := x35_.Hi_) hI.st (hg.up hI.le) ⟨_, ⟨Ab12__29_1, cb12__29_1, rfl, ⟨hcb12__29_1, hsb12__29_1⟩⟩, htb12__29⟩ h).mono ?_
                      rintro _ w75_ ⟨r75_0, y75_0, L75_, H75_, rfl, hI75_, hq75_0, h⟩
                      refine Exists.elim (hI.call hI75_ (new1 hge_b12_)) fun L750_ h75_ => ?_
                      have hz75_ := hI.size
                      replace hI := h75_.1
                      have u75_ := h75_.2.1
                      have hl75_ := h75_.2.2
                      clear h75_
                      replace hs1 := hs1.up u75_.hh
                      replace hll27_ := hll27_.trans u75_.ll
                      replace hhh27_ := hhh27_.trans u75_.hh
                      replace hsb12__29_1 := hsb12__29_1.up u75_.hh
                      replace hll29_ := hll29_.trans u75_.ll
                      replace hhh29_ := hhh29_.trans u75_.hh
                      replace hll33_ := hll33_.trans u75_.ll
                      replace hhh33_ := hhh33_.trans u75_.hh
                      replace ht36_ := ht36_.up u75_ (ht36_.apart htb12__29 (by decide))
                      replace hll39_ := hll39_.trans u75_.ll
                      replace hhh39_ := hhh39_.trans u75_.hh
                      replace hs74_0_1 := hs74_0_1.up u75_.hh
                      replace ht74_0 := ht74_0.up u75_ (ht74_0.apart htb12__29 (by decide))
                      clear htb12__29
                      obtain ⟨l75_0_, hl75_0_, ht75_0⟩ := hq75_0
                      obtain ⟨A75_0_1, c75_0_1, rfl, ⟨hc75_0_1, hs75_0_1⟩⟩ := hl75_0_
                      clear hI75_ u75_ hl75_
                      refine ⟨_, rfl, trivial, ?_⟩
                      refine HS_pure (fun w_ => R_strEqB rfl rfl) rfl rfl ?_
                      refine HS_pure (fun w_ => R_assign rfl) rfl rfl ?_
                      refine HS_nil ?_
                      clear hops73_
                      refine block_n ?_
                      refine then_n ?_
                      exact ⟨_, rfl, ⟨(decide (r74_0.b = r75_0.b)), y74_0, y75_0, _, _, rfl, h, hI, hll39_, hhh39_, ⟨_, ⟨A74_0_1, c74_0_1, rfl, ⟨hc74_0_1, hs74_0_1⟩⟩, ht74_0⟩, ⟨_, ⟨A75_0_1, c75_0_1, rfl, ⟨hc75_0_1, hs75_0_1⟩⟩, ht75_0⟩, trivial⟩, ⟨rfl, rfl, rfl, rfl, rfl, trivial⟩⟩
              · simp only [pickE, lookE, putE, zipE, args0, Nat.reduceAdd, Nat.zero_add, List.cons_append, List.nil_append, Nat.reduceBEq, cond_true, cond_false] at hB39_
                subst hB39_
                clear h
                rintro _ w39_ ⟨x11_39, yd11_0_39, yb12__39, L39_, H39_, rfl, hJ39_, hI39_, hll39_, hhh39_, hqd11_0_39, hqb12__39, -⟩
                replace hI := hI39_
                clear hI39_
                have h := hr39_ x11_39 yd11_0_39 yb12__39 hJ39_
                clear hr39_ hJ39_
                replace hs1 := hs1.up hhh39_
                replace hll27_ := hll27_.trans hll39_
                replace hhh27_ := hhh27_.trans hhh39_
                replace hsb12__29_1 := hsb12__29_1.up hhh39_
                replace hsd11_0_29_1 := hsd11_0_29_1.up hhh39_
                replace hll29_ := hll29_.trans hll39_
                replace hhh29_ := hhh29_.trans hhh39_
                replace hll33_ := hll33_.trans hll39_
                replace hhh33_ := hhh33_.trans hhh39_
                obtain ⟨ld11_0_39_, hld11_0_39_, htd11_0_39⟩ := hqd11_0_39
                obtain ⟨Ad11_0_39_1, cd11_0_39_1, rfl, ⟨hcd11_0_39_1, hsd11_0_39_1⟩⟩ := hld11_0_39_
                obtain ⟨lb12__39_, hlb12__39_, htb12__39⟩ := hqb12__39
                obtain ⟨Ab12__39_1, cb12__39_1, rfl, ⟨hcb12__39_1, hsb12__39_1⟩⟩ := hlb12__39_
                refine Exists.elim h fun J76_ h => ?_
                have hr76_ := h.1
                replace h := h.2
                refine W_seq_join [6, 7, 42, 43, 44] [130] (fun vs w2 => ∃ (x130_76 : Bool) (L H : Gh), vs = [.bool x130_76] ∧ J76_ x130_76 ∧ Inv [] G w L H w2 ∧ Le L39_ L ∧ Le H39_ H ∧ Tok H w2 d11_0 58 ([.slice Ad11_0_39_1 yd11_0_39.source_.b_.length cd11_0_39_1, vi yd11_0_39.source_.at_, vi yd11_0_39.source_.err_, .bool yd11_0_39.source_.made_]) ∧ Tok H w2 b12_ 65 ([.slice Ab12__39_1 yb12__39.B_.length cb12__39_1, vi yb12__39.At_, vi yb12__39.E_]) ∧ True) (fun B76 hB76_ => ?_) (fun B76 hB76_ => ?_)
                · simp only [pickE, lookE, putE, zipE, args0, Nat.reduceAdd, Nat.zero_add, List.cons_append, List.nil_append, Nat.reduceBEq, cond_true, cond_false] at hB76_
                  subst hB76_
                  clear hr76_
                  have hll76_ := Le.refl L39_
                  have hhh76_ := Le.refl H39_
                  refine W_drawF [some 106, some 107, some 108, some 109, some 110, some 111, some 112, some 113, some 114, some 115, some 116, some 117, some 118, some 119, some 120, some 121, some 122, some 123, some 124, some 125, some 126, some 127, some 128, some 129, some 130] [(0, true), (1, true), (2, true), (3, true), (5, true), (4, false), (6, false), (7, true), (8, true), (9, true), (10, true), (12, true), (13, true), (14, true), (15, true), (11, false), (16, true), (17, true), (18, true), (19, true), (21, true), (20, false), (22, false), (23, true), (24, true)] TOmReads.hm rfl (by kernel_rfl) fun ops77_ w77_ hops77_ hF77_ => ?_
                  replace hI := hI.fr0 hF77_
                  replace htd11_0_39 := htd11_0_39.fr0 hF77_
                  replace htb12__39 := htb12__39.fr0 hF77_
                  clear hF77_
                  refine HS_pure (fun w_ => R_move rfl) rfl rfl ?_
                  refine HS_pure (fun w_ => R_not rfl) rfl rfl ?_
                  refine HS_pure (fun w_ => R_move rfl) rfl rfl ?_
                  refine HS_splitB 108 rfl (fun hg78_ => ?_) (fun hg78_ => ?_)
                  · replace h := h.1 hg78_
                    refine HS_pass rfl rfl ?_
                    refine HS_pass rfl rfl ?_
                    refine HS_passL rfl rfl ?_
                    refine HS_passL rfl rfl ?_
                    refine HS_pass rfl rfl ?_
                    refine HS_pure (fun w_ => R_pick_true rfl rfl) rfl rfl ?_
                    refine HS_pure (fun w_ => R_move rfl) rfl rfl ?_
                    refine HS_pass rfl rfl ?_
                    refine HS_pass rfl rfl ?_
                    refine HS_pass rfl rfl ?_
                    refine HS_pass rfl rfl ?_
                    refine HS_pass rfl rfl ?_
                    refine HS_passL rfl rfl ?_
                    refine HS_pass rfl rfl ?_
                    refine HS_pure (fun w_ => R_pick_true rfl rfl) rfl rfl ?_
                    refine HS_pure (fun w_ => R_move rfl) rfl rfl ?_
                    refine HS_pass rfl rfl ?_
                    refine HS_pass rfl rfl ?_
                    refine HS_passL rfl rfl ?_
                    refine HS_passL rfl rfl ?_
                    refine HS_pass rfl rfl ?_
                    refine HS_pure (fun w_ => R_pick_true rfl rfl) rfl rfl ?_
                    refine HS_nil ?_
                    clear hops77_
                    refine then_n ?_
                    exact ⟨_, rfl, ⟨true, _, _, rfl, h, hI, hll76_, hhh76_, htd11_0_39, htb12__39, trivial⟩, ⟨rfl, rfl, rfl, rfl, rfl, trivial⟩⟩
                  · replace h := h.2 hg78_
                    refine HS_pure (fun w_ => R_move rfl) rfl rfl ?_
                    refine HS_pure (fun w_ => R_move rfl) rfl rfl ?_
                    refine HS_call [] _ rfl (by rw [hops77_]; kernel_rfl) (C_func TOmReads.bd25 rfl) rfl rfl ?_
                    refine (octet_Reader_Left_ok (x0 := yd11_0_39) hI.st (hg.up hI.le) ⟨_, ⟨Ad11_0_39_1, cd11_0_39_1, rfl, ⟨hcd11_0_39_1, hsd11_0_39_1⟩⟩, htd11_0_39⟩ h).mono ?_
                    rintro _ w79_ ⟨r79_0, L79_, H79_, rfl, hI79_, h⟩
                    refine Exists.elim (hI.call hI79_ (by simp)) fun L790_ h79_ => ?_
                    have hz79_ := hI.size
                    replace hI := h79_.1
                    have u79_ := h79_.2.1
                    have hl79_ := h79_.2.2
                    clear h79_
                    replace hs1 := hs1.up u79_.hh
                    replace hll27_ := hll27_.trans u79_.ll
                    replace hhh27_ := hhh27_.trans u79_.hh
                    replace hll29_ := hll29_.trans u79_.ll
                    replace hhh29_ := hhh29_.trans u79_.hh
                    replace hll33_ := hll33_.trans u79_.ll
                    replace hhh33_ := hhh33_.trans u79_.hh
                    replace hsd11_0_39_1 := hsd11_0_39_1.up u79_.hh
                    replace htd11_0_39 := htd11_0_39.up u79_ (by simp)
                    replace hsb12__39_1 := hsb12__39_1.up u79_.hh
                    replace htb12__39 := htb12__39.up u79_ (by simp)
                    replace hll76_ := hll76_.trans u79_.ll
                    replace hhh76_ := hhh76_.trans u79_.hh
                    clear hI79_ u79_ hl79_
                    refine ⟨_, rfl, trivial, ?_⟩
                    refine HS_call [] _ rfl (by rw [hops77_]; kernel_rfl) (C_func TOmReads.bd43 rfl) rfl rfl ?_
                    refine (sealskinref02_Reader_Left_ok (x0 := yb12__39) hI.st (hg.up hI.le) ⟨_, ⟨Ab12__39_1, cb12__39_1, rfl, ⟨hcb12__39_1, hsb12__39_1⟩⟩, htb12__39⟩ h).mono ?_
                    rintro _ w80_ ⟨r80_0, L80_, H80_, rfl, hI80_, h⟩
                    refine Exists.elim (hI.call hI80_ (by simp)) fun L800_ h80_ => ?_
                    have hz80_ := hI.size
                    replace hI := h80_.1
                    have u80_ := h80_.2.1
                    have hl80_ := h80_.2.2
                    clear h80_
                    replace hs1 := hs1.up u80_.hh
                    replace hll27_ := hll27_.trans u80_.ll
                    replace hhh27_ := hhh27_.trans u80_.hh
                    replace hll29_ := hll29_.trans u80_.ll
                    replace hhh29_ := hhh29_.trans u80_.hh
                    replace hll33_ := hll33_.trans u80_.ll
                    replace hhh33_ := hhh33_.trans u80_.hh
                    replace hsd11_0_39_1 := hsd11_0_39_1.up u80_.hh
                    replace htd11_0_39 := htd11_0_39.up u80_ (by simp)
                    replace hsb12__39_1 := hsb12__39_1.up u80_.hh
                    replace htb12__39 := htb12__39.up u80_ (by simp)
                    replace hll76_ := hll76_.trans u80_.ll
                    replace hhh76_ := hhh76_.trans u80_.hh
                    clear hI80_ u80_ hl80_
                    refine ⟨_, rfl, trivial, ?_⟩
                    refine HS_pure (fun w_ => R_neq rfl rfl) rfl rfl ?_
                    refine HS_pure (fun w_ => R_pick_false rfl rfl) rfl rfl ?_
                    refine HS_pure (fun w_ => R_move rfl) rfl rfl ?_
                    refine HS_split 115 rfl (fun hg81_ => ?_) (fun hg81_ => ?_)
                    · replace h := h.1 hg81_
                      refine HS_pass rfl rfl ?_
                      refine HS_pass rfl rfl ?_
                      refine HS_pass rfl rfl ?_
                      refine HS_pass rfl rfl ?_
                      refine HS_pass rfl rfl ?_
                      refine HS_passL rfl rfl ?_
                      refine HS_pass rfl rfl ?_
                      refine HS_pure (fun w_ => R_pick_true rfl rfl) rfl rfl ?_
                      refine HS_pure (fun w_ => R_move rfl) rfl rfl ?_
                      refine HS_pass rfl rfl ?_
                      refine HS_pass rfl rfl ?_
                      refine HS_passL rfl rfl ?_
                      refine HS_passL rfl rfl ?_
                      refine HS_pass rfl rfl ?_
                      refine HS_pure (fun w_ => R_pick_true rfl rfl) rfl rfl ?_
                      refine HS_nil ?_
                      clear hops77_
                      refine then_n ?_
                      exact ⟨_, rfl, ⟨true, _, _, rfl, h, hI, hll76_, hhh76_, htd11_0_39, htb12__39, trivial⟩, ⟨rfl, rfl, rfl, rfl, rfl, trivial⟩⟩
                    · replace h := h.2 hg81_
                      refine HS_pure (fun w_ => R_move rfl) rfl rfl ?_
                      refine HS_pure (fun w_ => R_move rfl) rfl rfl ?_
                      refine HS_pure (fun w_ => R_nilCheck rfl) rfl rfl ?_
                      refine HS_pure (fun w_ => R_fieldAddr TOmReads.fo65_2 rfl) rfl rfl ?_
                      refine HS_loadB (v := vi yb12__39.E_) TOmReads.ag35 rfl htb12__39.blk rfl rfl rfl ?_
                      refine HS_call [15] _ rfl (by rw [hops77_]; kernel_rfl) (C_func TOmReads.bd26 rfl) rfl rfl ?_
                      refine (octet_Reader_Err_ok (x0 := yd11_0_39) hI.st (hg.up hI.le) ⟨_, ⟨Ad11_0_39_1, cd11_0_39_1, rfl, ⟨hcd11_0_39_1, hsd11_0_39_1⟩⟩, htd11_0_39⟩ h).mono ?_
                      rintro _ w82_ ⟨r82_0, L82_, H82_, rfl, hI82_, h⟩
                      refine Exists.elim (hI.call hI82_ (by simp)) fun L820_ h82_ => ?_
                      have hz82_ := hI.size
                      replace hI := h82_.1
                      have u82_ := h82_.2.1
                      have hl82_ := h82_.2.2
                      clear h82_
                      replace hs1 := hs1.up u82_.hh
                      replace hll27_ := hll27_.trans u82_.ll
                      replace hhh27_ := hhh27_.trans u82_.hh
                      replace hll29_ := hll29_.trans u82_.ll
                      replace hhh29_ := hhh29_.trans u82_.hh
                      replace hll33_ := hll33_.trans u82_.ll
                      replace hhh33_ := hhh33_.trans u82_.hh
                      replace hsd11_0_39_1 := hsd11_0_39_1.up u82_.hh
                      replace htd11_0_39 := htd11_0_39.up u82_ (by simp)
                      replace hsb12__39_1 := hsb12__39_1.up u82_.hh
                      replace htb12__39 := htb12__39.up u82_ (by simp)
                      replace hll76_ := hll76_.trans u82_.ll
                      replace hhh76_ := hhh76_.trans u82_.hh
                      clear hI82_ u82_ hl82_
                      refine ⟨_, rfl, ⟨(htb12__39.blk.at_ rfl), trivial⟩, ?_⟩
                      refine HS_pure (fun w_ => R_neq rfl rfl) rfl rfl ?_
                      refine HS_pure (fun w_ => R_pick_false rfl rfl) rfl rfl ?_
                      refine HS_pure (fun w_ => R_move rfl) rfl rfl ?_
                      refine HS_split 124 rfl (fun hg83_ => ?_) (fun hg83_ => ?_)
                      · replace h := h.1 hg83_
                        refine HS_pass rfl rfl ?_
                        refine HS_pass rfl rfl ?_
                        refine HS_passL rfl rfl ?_
                        refine HS_passL rfl rfl ?_
                        refine HS_pass rfl rfl ?_
                        refine HS_pure (fun w_ => R_pick_true rfl rfl) rfl rfl ?_
                        refine HS_nil ?_
                        clear hops77_
                        refine then_n ?_
                        exact ⟨_, rfl, ⟨true, _, _, rfl, h, hI, hll76_, hhh76_, htd11_0_39, htb12__39, trivial⟩, ⟨rfl, rfl, rfl, rfl, rfl, trivial⟩⟩
                      · replace h := h.2 hg83_
                        refine HS_pure (fun w_ => R_move rfl) rfl rfl ?_
                        refine HS_pure (fun w_ => R_move rfl) rfl rfl ?_
                        refine HS_call [] _ rfl (by rw [hops77_]; kernel_rfl) (C_func TOmReads.bd38 rfl) rfl rfl ?_
                        refine (octet_Reader_End_ok (x0 := yd11_0_39) hI.st (hg.up hI.le) ⟨_, ⟨Ad11_0_39_1, cd11_0_39_1, rfl, ⟨hcd11_0_39_1, hsd11_0_39_1⟩⟩, htd11_0_39⟩ h).mono ?_
                        rintro _ w84_ ⟨r84_0, L84_, H84_, rfl, hI84_, h⟩
                        refine Exists.elim (hI.call hI84_ (by simp)) fun L840_ h84_ => ?_
                        have hz84_ := hI.size
                        replace hI := h84_.1
                        have u84_ := h84_.2.1
                        have hl84_ := h84_.2.2
                        clear h84_
                        replace hs1 := hs1.up u84_.hh
                        replace hll27_ := hll27_.trans u84_.ll
                        replace hhh27_ := hhh27_.trans u84_.hh
                        replace hll29_ := hll29_.trans u84_.ll
                        replace hhh29_ := hhh29_.trans u84_.hh
                        replace hll33_ := hll33_.trans u84_.ll
                        replace hhh33_ := hhh33_.trans u84_.hh
                        replace hsd11_0_39_1 := hsd11_0_39_1.up u84_.hh
                        replace htd11_0_39 := htd11_0_39.up u84_ (by simp)
                        replace hsb12__39_1 := hsb12__39_1.up u84_.hh
                        replace htb12__39 := htb12__39.up u84_ (by simp)
                        replace hll76_ := hll76_.trans u84_.ll
                        replace hhh76_ := hhh76_.trans u84_.hh
                        clear hI84_ u84_ hl84_
                        refine ⟨_, rfl, trivial, ?_⟩
                        refine HS_call [] _ rfl (by rw [hops77_]; kernel_rfl) (C_func TOmReads.bd44 rfl) rfl rfl ?_
                        refine (sealskinref02_Reader_End_ok (x0 := yb12__39) hI.st (hg.up hI.le) ⟨_, ⟨Ab12__39_1, cb12__39_1, rfl, ⟨hcb12__39_1, hsb12__39_1⟩⟩, htb12__39⟩ h).mono ?_
                        rintro _ w85_ ⟨r85_0, L85_, H85_, rfl, hI85_, h⟩
                        refine Exists.elim (hI.call hI85_ (by simp)) fun L850_ h85_ => ?_
                        have hz85_ := hI.size
                        replace hI := h85_.1
                        have u85_ := h85_.2.1
                        have hl85_ := h85_.2.2
                        clear h85_
                        replace hs1 := hs1.up u85_.hh
                        replace hll27_ := hll27_.trans u85_.ll
                        replace hhh27_ := hhh27_.trans u85_.hh
                        replace hll29_ := hll29_.trans u85_.ll
                        replace hhh29_ := hhh29_.trans u85_.hh
                        replace hll33_ := hll33_.trans u85_.ll
                        replace hhh33_ := hhh33_.trans u85_.hh
                        replace hsd11_0_39_1 := hsd11_0_39_1.up u85_.hh
                        replace htd11_0_39 := htd11_0_39.up u85_ (by simp)
                        replace hsb12__39_1 := hsb12__39_1.up u85_.hh
                        replace htb12__39 := htb12__39.up u85_ (by simp)
                        replace hll76_ := hll76_.trans u85_.ll
                        replace hhh76_ := hhh76_.trans u85_.hh
                        clear hI85_ u85_ hl85_
                        refine ⟨_, rfl, trivial, ?_⟩
                        refine HS_pure (fun w_ => R_neq rfl rfl) rfl rfl ?_
                        refine HS_pure (fun w_ => R_pick_false rfl rfl) rfl rfl ?_
                        refine HS_nil ?_
                        clear hops77_
                        refine then_n ?_
                        exact ⟨_, rfl, ⟨(decide (r84_0 ≠ r85_0)), _, _, rfl, h, hI, hll76_, hhh76_, htd11_0_39, htb12__39, trivial⟩, ⟨rfl, rfl, rfl, rfl, rfl, trivial⟩⟩
                · simp only [pickE, lookE, putE, zipE, args0, Nat.reduceAdd, Nat.zero_add, List.cons_append, List.nil_append, Nat.reduceBEq, cond_true, cond_false] at hB76_
                  subst hB76_
                  clear h
                  clear htd11_0_39
                  clear htb12__39
                  rintro _ w76_ ⟨x130_76, L76_, H76_, rfl, hJ76_, hI76_, hll76_, hhh76_, htd11_0_39, htb12__39, -⟩
                  replace hI := hI76_
                  clear hI76_
                  have h := hr76_ x130_76 hJ76_
                  clear hr76_ hJ76_
                  replace hs1 := hs1.up hhh76_
                  replace hll27_ := hll27_.trans hll76_
                  replace hhh27_ := hhh27_.trans hhh76_
                  replace hll29_ := hll29_.trans hll76_
                  replace hhh29_ := hhh29_.trans hhh76_
                  replace hll33_ := hll33_.trans hll76_
                  replace hhh33_ := hhh33_.trans hhh76_
                  replace hsd11_0_39_1 := hsd11_0_39_1.up hhh76_
                  replace hsb12__39_1 := hsb12__39_1.up hhh76_
                  refine W_cond rfl (fun hc86_ => ?_) (fun hc86_ => ?_)
                  · replace h := h.1 hc86_
                    refine W_seq_k fun K87_ hK87_ => ?_
                    refine W_region [some 4] rfl ?_
                    refine Ops_step (R_assign rfl) rfl rfl ?_
                    refine Ops_nil ?_
                    refine then_n (hK87_ _ _ ?_)
                    clear hK87_ K87_
                    refine W_keepB [4] fun B88 hB88_ => ?_
                    simp only [pickE, lookE, putE, zipE, args0, Nat.reduceAdd, Nat.zero_add, List.cons_append, List.nil_append, Nat.reduceBEq, cond_true, cond_false] at hB88_
                    subst hB88_
                    refine W_ret ?_
                    refine block_ret ?_
                    refine then_ret ?_
                    refine then_ret ?_
                    refine block_ret ?_
                    refine then_ret ?_
                    refine ⟨_, ⟨_, _, rfl, rfl, rfl⟩, ?_⟩
                    exact ⟨false, _, _, rfl, hI, h⟩
                  · replace h := h.2 hc86_
                    refine W_skip ?_
                    refine block_n ?_
                    refine then_n ?_
                    exact ⟨_, rfl, ⟨yd11_0_39, yb12__39, _, _, rfl, h, hI, hll33_, hhh33_, ⟨_, ⟨Ad11_0_39_1, cd11_0_39_1, rfl, ⟨hcd11_0_39_1, hsd11_0_39_1⟩⟩, htd11_0_39⟩, ⟨_, ⟨Ab12__39_1, cb12__39_1, rfl, ⟨hcb12__39_1, hsb12__39_1⟩⟩, htb12__39⟩, trivial⟩, ⟨rfl, rfl, rfl, rfl, rfl, trivial⟩⟩
            · simp only [pickE, lookE, putE, zipE, args0, Nat.reduceAdd, Nat.zero_add, List.cons_append, List.nil_append, Nat.reduceBEq, cond_true, cond_false] at hB33_
              subst hB33_
              clear h
              rintro _ w33_ ⟨yd11_0_33, yb12__33, L33_, H33_, rfl, hJ33_, hI33_, hll33_, hhh33_, hqd11_0_33, hqb12__33, -⟩
              replace hI := hI33_
              clear hI33_
              have h := hr33_ yd11_0_33 yb12__33 hJ33_
              clear hr33_ hJ33_
              replace hs1 := hs1.up hhh33_
              replace hll27_ := hll27_.trans hll33_
              replace hhh27_ := hhh27_.trans hhh33_
              replace hsb12__29_1 := hsb12__29_1.up hhh33_
              replace hsd11_0_29_1 := hsd11_0_29_1.up hhh33_
              replace hll29_ := hll29_.trans hll33_
              replace hhh29_ := hhh29_.trans hhh33_
              obtain ⟨ld11_0_33_, hld11_0_33_, htd11_0_33⟩ := hqd11_0_33
              obtain ⟨Ad11_0_33_1, cd11_0_33_1, rfl, ⟨hcd11_0_33_1, hsd11_0_33_1⟩⟩ := hld11_0_33_
              obtain ⟨lb12__33_, hlb12__33_, htb12__33⟩ := hqb12__33
              obtain ⟨Ab12__33_1, cb12__33_1, rfl, ⟨hcb12__33_1, hsb12__33_1⟩⟩ := hlb12__33_
              refine W_region [some 131, some 44] rfl ?_
              have hk89_ := h.1
              replace h := h.2
              refine Ops_step (R_add rfl rfl (wI hk89_.1 hk89_.2)) rfl rfl ?_
              refine Ops_step (R_move rfl) rfl rfl ?_
              refine Ops_nil ?_
              refine then_n ?_
              exact h.elim fun m_ h => ⟨m_, _, h.1, rfl, ⟨(x44_29 + 1), yb12__33, yd11_0_33, _, _, rfl, h.2, hI, hll29_, hhh29_, ⟨_, ⟨Ab12__33_1, cb12__33_1, rfl, ⟨hcb12__33_1, hsb12__33_1⟩⟩, htb12__33⟩, ⟨_, ⟨Ad11_0_33_1, cd11_0_33_1, rfl, ⟨hcd11_0_33_1, hsd11_0_33_1⟩⟩, htd11_0_33⟩, trivial⟩, ⟨rfl, rfl, rfl, rfl, trivial⟩⟩
          · replace h := h.2 hc32_
            refine W_exit ?_
            refine then_exit ?_
            clear hK31_ K31_
            refine then_exit ?_
            refine block_exit ?_
            refine then_n ?_
            exact ⟨_, rfl, ⟨yd11_0_29, yb12__29, _, _, rfl, h, hI, hll27_, hhh27_, ⟨_, ⟨Ad11_0_29_1, cd11_0_29_1, rfl, ⟨hcd11_0_29_1, hsd11_0_29_1⟩⟩, htd11_0_29⟩, ⟨_, ⟨Ab12__29_1, cb12__29_1, rfl, ⟨hcb12__29_1, hsb12__29_1⟩⟩, htb12__29⟩, trivial⟩, ⟨rfl, rfl, trivial⟩⟩
        · simp only [pickE, lookE, putE, zipE, args0, Nat.reduceAdd, Nat.zero_add, List.cons_append, List.nil_append, Nat.reduceBEq, cond_true, cond_false] at hB27_
          subst hB27_
          clear h
          rintro _ w27_ ⟨yd11_0_27, yb12__27, L27_, H27_, rfl, hJ27_, hI27_, hll27_, hhh27_, hqd11_0_27, hqb12__27, -⟩
          replace hI := hI27_
          clear hI27_
          have h := hr27_ yd11_0_27 yb12__27 hJ27_
          clear hr27_ hJ27_
          replace hs0 := hs0.up hhh27_
          replace hs11_0_1 := hs11_0_1.up hll27_
          obtain ⟨ld11_0_27_, hld11_0_27_, htd11_0_27⟩ := hqd11_0_27
          obtain ⟨Ad11_0_27_1, cd11_0_27_1, rfl, ⟨hcd11_0_27_1, hsd11_0_27_1⟩⟩ := hld11_0_27_
          obtain ⟨lb12__27_, hlb12__27_, htb12__27⟩ := hqb12__27
          obtain ⟨Ab12__27_1, cb12__27_1, rfl, ⟨hcb12__27_1, hsb12__27_1⟩⟩ := hlb12__27_
          refine W_seq_k fun K90_ hK90_ => ?_
          refine W_region [some 132, some 133, some 134, some 135, some 136, some 137, some 138, some 139, some 4] rfl ?_
          refine Ops_step (R_move rfl) rfl rfl ?_
          refine Ops_call (C_func TOmReads.bd38 rfl) rfl rfl ?_
          refine (octet_Reader_End_ok (x0 := yd11_0_27) hI.st (hg.up hI.le) ⟨_, ⟨Ad11_0_27_1, cd11_0_27_1, rfl, ⟨hcd11_0_27_1, hsd11_0_27_1⟩⟩, htd11_0_27⟩ h).mono ?_
          rintro _ w91_ ⟨r91_0, L91_, H91_, rfl, hI91_, h⟩
          refine Exists.elim (hI.call hI91_ (by simp)) fun L910_ h91_ => ?_
          have hz91_ := hI.size
          replace hI := h91_.1
          have u91_ := h91_.2.1
          have hl91_ := h91_.2.2
          clear h91_
          replace hsb12__27_1 := hsb12__27_1.up u91_.hh
          replace htb12__27 := htb12__27.up u91_ (by simp)
          clear hI91_ u91_ hl91_
          refine ⟨_, rfl, ?_⟩
          refine Ops_step (R_move rfl) rfl rfl ?_
          refine Ops_call (C_func TOmReads.bd44 rfl) rfl rfl ?_
          refine (sealskinref02_Reader_End_ok (x0 := yb12__27) hI.st (hg.up hI.le) ⟨_, ⟨Ab12__27_1, cb12__27_1, rfl, ⟨hcb12__27_1, hsb12__27_1⟩⟩, htb12__27⟩ h).mono ?_
          rintro _ w92_ ⟨r92_0, L92_, H92_, rfl, hI92_, h⟩
          refine Exists.elim (hI.call hI92_ (by simp)) fun L920_ h92_ => ?_
          have hz92_ := hI.size
          replace hI := h92_.1
          have u92_ := h92_.2.1
          have hl92_ := h92_.2.2
          clear h92_
          clear hI92_ u92_ hl92_
          refine ⟨_, rfl, ?_⟩
          refine Ops_step (R_eql rfl rfl) rfl rfl ?_
          refine Ops_step (R_move rfl) rfl rfl ?_
          refine Ops_split 137 rfl (fun hg93_ => ?_) (fun hg93_ => ?_)
          · replace h := h.1 hg93_
            refine Ops_call (C_func TOmReads.bd15 rfl) rfl rfl ?_
            refine (sealskinlaw02_awake_ok  hI.st (hg.up hI.le)  h).mono ?_
            rintro _ w94_ ⟨r94_0, L94_, H94_, rfl, hI94_, h⟩
            refine Exists.elim (hI.call hI94_ (by simp)) fun L940_ h94_ => ?_
            have hz94_ := hI.size
            replace hI := h94_.1
            have u94_ := h94_.2.1
            have hl94_ := h94_.2.2
            clear h94_
            clear hI94_ u94_ hl94_
            refine ⟨_, rfl, ?_⟩
            refine Ops_step (R_pick_true rfl rfl) rfl rfl ?_
            refine Ops_step (R_assign rfl) rfl rfl ?_
            refine Ops_nil ?_
            refine then_n (hK90_ _ _ ?_)
            clear hK90_ K90_
            refine W_keepB [4] fun B95 hB95_ => ?_
            simp only [pickE, lookE, putE, zipE, args0, Nat.reduceAdd, Nat.zero_add, List.cons_append, List.nil_append, Nat.reduceBEq, cond_true, cond_false] at hB95_
            subst hB95_
            refine W_ret ?_
            refine ⟨_, ⟨_, _, rfl, rfl, rfl⟩, ?_⟩
            exact ⟨r94_0, _, _, rfl, hI, h⟩
          · replace h := h.2 hg93_
            refine Ops_pass rfl rfl ?_
            refine Ops_step (R_pick_false rfl rfl) rfl rfl ?_
            refine Ops_step (R_assign rfl) rfl rfl ?_
            refine Ops_nil ?_
            refine then_n (hK90_ _ _ ?_)
            clear hK90_ K90_
            refine W_keepB [4] fun B96 hB96_ => ?_
            simp only [pickE, lookE, putE, zipE, args0, Nat.reduceAdd, Nat.zero_add, List.cons_append, List.nil_append, Nat.reduceBEq, cond_true, cond_false] at hB96_
            subst hB96_
            refine W_ret ?_
            refine ⟨_, ⟨_, _, rfl, rfl, rfl⟩, ?_⟩
            exact ⟨false, _, _, rfl, hI, h⟩

end Go.Proofs.YtdnpdljnjoegiaaDoor
