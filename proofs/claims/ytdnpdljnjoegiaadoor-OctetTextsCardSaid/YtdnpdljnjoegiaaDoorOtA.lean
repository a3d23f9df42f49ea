/- What the walks of this seat show of OtA. -/
import Derived.Test.YtdnpdljnjoegiaaDoorOtAp
import Derived.Test.YtdnpdljnjoegiaaDoorOb
import Derived.Test.YtdnpdljnjoegiaaDoorProg
set_option linter.unusedVariables false
set_option linter.unusedSimpArgs false
namespace Go.Proofs.YtdnpdljnjoegiaaDoor
open Go Go.Sx Go.Lx
namespace TOtA
theorem hm : Tryd.prog.follows .mixedOrders = true := by kernel_rfl
theorem ag3 : aggB Tryd.prog 3 = some false := by kernel_rfl
theorem ag5 : aggB Tryd.prog 5 = some false := by kernel_rfl
theorem bd18 : bodied Tryd.prog 18 = true := by kernel_rfl
theorem bd19 : bodied Tryd.prog 19 = true := by kernel_rfl
theorem bd35 : bodied Tryd.prog 35 = true := by kernel_rfl
theorem el22 : Elem Tryd.prog 22 5 1 1 := Elem.of (by kernel_rfl)
theorem el48 : Elem Tryd.prog 48 3 1 8 := Elem.of (by kernel_rfl)
theorem sz3 : sz Tryd.prog 3 = some 1 := by kernel_rfl
theorem sz5 : sz Tryd.prog 5 = some 1 := by kernel_rfl
theorem zr3 : zr Tryd.prog 3 = some ([.int .i64 0]) := by kernel_rfl
theorem zr5 : zr Tryd.prog 5 = some ([.int .u8 0]) := by kernel_rfl
end TOtA
set_option maxHeartbeats 4000000 in
theorem octet_Put_ok {G : Gh} {w : World} (hS : St G w) (hg : GL G) {A0 : Option Addr} {c0 : Nat} {x0 : List UInt8} (hc0 : x0.length ≤ c0) (hs0 : Sl G A0 x0) {A1 : Option Addr} {c1 : Nat} {x1 : List Int} (hc1 : x1.length ≤ c1) (hs1 : Sl G A1 x1) {Q : (List UInt8) → Prop} (h : octet_Put x0 x1 Q) : Calls Tryd.prog 19 #[.slice A0 x0.length c0, .slice A1 x1.length c1] w fun e w2 => ∃ (A0 : Option Addr) (c0 : Nat) (r0 : List UInt8) (L H : Gh), e = .returned (.slice A0 r0.length c0) ∧ Inv [] G w L H w2 ∧ OwnS w.heap.size 5 L H w2 A0 c0 r0 ∧ Q r0 := by
  unfold octet_Put at h
  have hI := Inv.start (M := []) hS
  refine calls_W 39 Tryd.func19 rfl Tryd.ntmps19 rfl [.tmp 4] rfl ?_
  refine W_seq_k fun K1_ hK1_ => ?_
  refine W_region [some 4] rfl ?_
  refine Ops_step (R_assign rfl) rfl rfl ?_
  refine Ops_nil ?_
  refine then_n (hK1_ _ _ ?_)
  clear hK1_ K1_
  refine W_seq_k fun K2_ hK2_ => ?_
  refine W_region [some 9, some 10, some 11, some 12, some 13, some 14, some 15, some 16, some 17, some 5] rfl ?_
  refine Ops_step (R_move rfl) rfl rfl ?_
  refine Ops_step (R_len Tryd.underlying22 rfl rfl) rfl rfl ?_
  refine Ops_step (R_move rfl) rfl rfl ?_
  refine Ops_step (R_len Tryd.underlying48 rfl rfl) rfl rfl ?_
  have hk3_ := h.1
  replace h := h.2
  refine Ops_step (R_mul rfl rfl (wI hk3_.1 hk3_.2)) rfl rfl ?_
  have hk4_ := h.1
  replace h := h.2
  refine Ops_step (R_add rfl rfl (wI hk4_.1 hk4_.2)) rfl rfl ?_
  have hk6_ := h.1
  replace h := h.2
  have hk7_ := h.1
  replace h := h.2
  refine Ops_to (X_make0 (α := UInt8) (Eg := Gh.no) (B := _) TOtA.el22 rfl rfl hk6_ hI.st hk7_ (by decide) (Nat.le_refl _)) rfl rfl ?_
  rintro _ w5_ ⟨A5_, c5_, rfl, ho5_, hF5_⟩
  replace ho5_ := ho5_.le hI.size
  replace hI := hI.fr0 hF5_
  clear hF5_
  refine Ops_step (R_move rfl) rfl rfl ?_
  have hk9_ := h.1
  replace h := h.2
  refine Ops_to (X_append (α := UInt8) (xs := ([] : List UInt8)) (ys := x0) TOtA.el22 rfl rfl ho5_ (Srcs.sc (Srcs.ofSl Tryd.underlying22 hs0 hI.st (by decide))) hI.st hk9_ (by decide) hI.size) rfl rfl ?_
  rintro _ w8_ ⟨A8_, c8_, rfl, ho8_, hF8_, hbk8_⟩
  clear hbk8_
  replace hI := hI.tok hF8_ ho5_.out (ho5_.new (Nat.le_refl _))
  clear hF8_ ho5_
  refine Ops_step (R_assign rfl) rfl rfl ?_
  refine Ops_nil ?_
  refine then_n (hK2_ _ _ ?_)
  clear hK2_ K2_
  refine W_keepB [1, 5] fun B10 hB10_ => ?_
  simp only [pickE, lookE, putE, zipE, args0, Nat.reduceAdd, Nat.zero_add, List.cons_append, List.nil_append, Nat.reduceBEq, cond_true, cond_false] at hB10_
  subst hB10_
  refine Exists.elim h fun J11_ h => ?_
  have hr11_ := h.1
  replace h := h.2
  refine W_seq_join [] [5] (fun vs w2 => ∃ (x5_11 : List UInt8) (A5_11 : Option Addr) (c5_11 : Nat) (L H : Gh), vs = [.slice A5_11 x5_11.length c5_11] ∧ J11_ x5_11 ∧ Inv [] G w L H w2 ∧ Le Gh.no L ∧ Le G H ∧ OwnS w.heap.size 5 Gh.no H w2 A5_11 c5_11 x5_11 ∧ True) (fun B11 hB11_ => ?_) (fun B11 hB11_ => ?_)
  · simp only [pickE, lookE, putE, zipE, args0, Nat.reduceAdd, Nat.zero_add, List.cons_append, List.nil_append, Nat.reduceBEq, cond_true, cond_false] at hB11_
    subst hB11_
    clear hr11_
    have hll11_ := Le.refl Gh.no
    have hhh11_ := Le.refl G
    refine W_seq_k fun K12_ hK12_ => ?_
    refine W_region [some 18, some 19, some 20] rfl ?_
    refine Ops_step (R_move rfl) rfl rfl ?_
    refine Ops_step (R_len Tryd.underlying48 rfl rfl) rfl rfl ?_
    refine Ops_step (R_move rfl) rfl rfl ?_
    refine Ops_nil ?_
    refine then_n (hK12_ _ _ ?_)
    clear hK12_ K12_
    refine W_block ?_
    refine Exists.elim h fun I13_ h => Exists.elim h fun n13_ h => ?_
    have h0_ := h.1
    have hs13_ := h.2
    clear h
    refine W_loopB [18, 19] [5, 20] (fun m vs w2 => ∃ (x5_13 : List UInt8) (A5_13 : Option Addr) (c5_13 : Nat) (x20_13 : Int) (L H : Gh), vs = [.slice A5_13 x5_13.length c5_13, vi x20_13] ∧ I13_ m x5_13 x20_13 ∧ Inv [] G w L H w2 ∧ Le Gh.no L ∧ Le G H ∧ OwnS w.heap.size 5 Gh.no H w2 A5_13 c5_13 x5_13 ∧ True) n13_ _ rfl ⟨(([] : List UInt8) ++ x0), A8_, c8_, 0, _, _, rfl, h0_, hI, Le.refl _, Le.refl _, ho8_, trivial⟩ fun B13 hB13_ => ?_
    clear h0_
    simp only [pickE, lookE, putE, zipE, args0, Nat.reduceAdd, Nat.zero_add, List.cons_append, List.nil_append, Nat.reduceBEq, cond_true, cond_false] at hB13_
    subst hB13_
    rintro m13_ _ w13_ ⟨x5_13, A5_13, c5_13, x20_13, L13_, H13_, rfl, hJ13_, hI13_, hll13_, hhh13_, ho5_13, -⟩
    replace hI := hI13_
    clear hI13_
    have h := hs13_ m13_ x5_13 x20_13 hJ13_
    clear hs13_ hJ13_
    replace hs1 := hs1.up hhh13_
    replace hll11_ := hll11_.trans hll13_
    replace hhh11_ := hhh11_.trans hhh13_
    refine W_seq_k fun K14_ hK14_ => ?_
    refine W_region [some 21] rfl ?_
    refine Ops_step (R_lss rfl rfl) rfl rfl ?_
    refine Ops_nil ?_
    refine then_n (hK14_ _ _ ?_)
    clear hK14_ K14_
    refine W_seq_k fun K15_ hK15_ => ?_
    refine W_if rfl (fun hc16_ => ?_) (fun hc16_ => ?_)
    · replace h := h.1 hc16_
      refine W_skip ?_
      refine then_n (hK15_ _ _ ?_)
      clear hK15_ K15_
      refine Exists.elim h fun J17_ h => ?_
      have hr17_ := h.1
      replace h := h.2
      refine W_seq_join [18, 19, 20] [5] (fun vs w2 => ∃ (x5_17 : List UInt8) (A5_17 : Option Addr) (c5_17 : Nat) (L H : Gh), vs = [.slice A5_17 x5_17.length c5_17] ∧ J17_ x5_17 ∧ Inv [] G w L H w2 ∧ Le L13_ L ∧ Le H13_ H ∧ OwnS w.heap.size 5 Gh.no H w2 A5_17 c5_17 x5_17 ∧ True) (fun B17 hB17_ => ?_) (fun B17 hB17_ => ?_)
      · simp only [pickE, lookE, putE, zipE, args0, Nat.reduceAdd, Nat.zero_add, List.cons_append, List.nil_append, Nat.reduceBEq, cond_true, cond_false] at hB17_
        subst hB17_
        clear hr17_
        have hll17_ := Le.refl L13_
        have hhh17_ := Le.refl H13_
        refine W_block ?_
        refine W_seq_k fun K18_ hK18_ => ?_
        refine W_region [some 22, some 23, some 7] rfl ?_
        refine Exists.elim h fun x19_ h => ?_
        have hx19_ := h.1
        replace h := h.2
        have ha19_ := (hs1.atS hx19_).1
        have hg19_ := (hs1.atS hx19_).2
        refine Ops_step (R_indexSl Tryd.underlying48 TOtA.sz3 rfl rfl hx19_.1 hx19_.lt ha19_) rfl rfl ?_
        refine Ops_step (R_load TOtA.ag3 rfl (hI.st _ _ hg19_)) rfl rfl ?_
        refine Ops_step (R_assign rfl) rfl rfl ?_
        refine Ops_nil ?_
        refine then_n (hK18_ _ _ ?_)
        clear hK18_ K18_
        refine W_seq_k fun K20_ hK20_ => ?_
        refine W_region [some 8] rfl ?_
        refine Ops_step (R_assign rfl) rfl rfl ?_
        refine Ops_nil ?_
        refine then_n (hK20_ _ _ ?_)
        clear hK20_ K20_
        refine W_block ?_
        refine Exists.elim h fun I21_ h => Exists.elim h fun n21_ h => ?_
        have h0_ := h.1
        have hs21_ := h.2
        clear h
        refine W_loopB [7, 18, 19, 20] [5, 8] (fun m vs w2 => ∃ (x5_21 : List UInt8) (A5_21 : Option Addr) (c5_21 : Nat) (x8_21 : Int) (L H : Gh), vs = [.slice A5_21 x5_21.length c5_21, vi x8_21] ∧ I21_ m x5_21 x8_21 ∧ Inv [] G w L H w2 ∧ Le L13_ L ∧ Le H13_ H ∧ OwnS w.heap.size 5 Gh.no H w2 A5_21 c5_21 x5_21 ∧ True) n21_ _ rfl ⟨x5_13, A5_13, c5_13, 7, _, _, rfl, h0_, hI, Le.refl _, Le.refl _, ho5_13, trivial⟩ fun B21 hB21_ => ?_
        clear h0_
        simp only [pickE, lookE, putE, zipE, args0, Nat.reduceAdd, Nat.zero_add, List.cons_append, List.nil_append, Nat.reduceBEq, cond_true, cond_false] at hB21_
        subst hB21_
        rintro m21_ _ w21_ ⟨x5_21, A5_21, c5_21, x8_21, L21_, H21_, rfl, hJ21_, hI21_, hll21_, hhh21_, ho5_21, -⟩
        replace hI := hI21_
        clear hI21_
        have h := hs21_ m21_ x5_21 x8_21 hJ21_
        clear hs21_ hJ21_
        replace hs1 := hs1.up hhh21_
        replace hll11_ := hll11_.trans hll21_
        replace hhh11_ := hhh11_.trans hhh21_
        replace hll13_ := hll13_.trans hll21_
        replace hhh13_ := hhh13_.trans hhh21_
        replace hll17_ := hll17_.trans hll21_
        replace hhh17_ := hhh17_.trans hhh21_
        refine W_seq_k fun K22_ hK22_ => ?_
        refine W_seq_k fun K23_ hK23_ => ?_
        refine W_region [some 24, some 25] rfl ?_
        refine Ops_step (R_move rfl) rfl rfl ?_
        refine Ops_step (R_geq rfl rfl) rfl rfl ?_
        refine Ops_nil ?_
        refine then_n (hK23_ _ _ ?_)
        clear hK23_ K23_
        refine W_if rfl (fun hc24_ => ?_) (fun hc24_ => ?_)
        · replace h := h.1 hc24_
          refine W_skip ?_
          refine then_n (hK22_ _ _ ?_)
          clear hK22_ K22_
          refine W_seq_k fun K25_ hK25_ => ?_
          refine W_block ?_
          refine W_region [some 28, some 29, some 30, some 31, some 32, some 33, some 34, some 35, some 36, some 5] rfl ?_
          refine Ops_step (R_move rfl) rfl rfl ?_
          refine Ops_step (R_move rfl) rfl rfl ?_
          refine Ops_step (R_max rfl rfl _root_.rfl) rfl rfl ?_
          refine Ops_step (R_move rfl) rfl rfl ?_
          have hk26_ := h.1
          replace h := h.2
          refine Ops_step (R_mul rfl rfl (wI hk26_.1 hk26_.2)) rfl rfl ?_
          have hk27_ := h.1
          replace h := h.2
          refine Ops_step (R_shr rfl rfl (Int.not_lt.2 hk27_) (c := shrI (max x19_ 0) (8 * x8_21)) _root_.rfl) rfl rfl ?_
          refine Ops_step (R_conv Tryd.underlying3 Tryd.underlying5 rfl (cI_8 _)) rfl rfl ?_
          have hlo28_ho5_21 := ho5_21.lt
          refine Ops_to (R_buildSlice TOtA.el22 TOtA.zr5 (by decide) (by decide) rfl rfl) rfl rfl ?_
          rintro _ w28_ ⟨b28_, rfl, hb28_, hB28_, hF28_⟩
          have ho28_ : OwnS w.heap.size 5 Gh.no H21_ _ (some ⟨b28_, 0, none⟩) 1 ([(UInt8.ofBitVec (BitVec.ofInt 8 (shrI (max x19_ 0) (8 * x8_21))))] : List UInt8) := OwnS.ofBlk hI.st hb28_ hB28_ (all2_sc' _) rfl (by have := hI.size; omega) (by show 1 ≤ maxLen; decide)
          replace hI := hI.fr0 hF28_
          replace ho5_21 := ho5_21.fr0 hF28_
          clear hF28_ hB28_
          have hsp28_ho5_21 : ∀ i ∈ bk (some ⟨b28_, 0, none⟩) 1, i ∉ bk A5_21 c5_21 := sep_new (fun i_ hi_ => by have := (bk_of hi_).1; simp only [blkOf, List.mem_singleton] at this; omega) hlo28_ho5_21
          have hk30_ := h.1
          replace h := h.2
          refine Ops_to (X_append (α := UInt8) (xs := x5_21) (ys := ([(UInt8.ofBitVec (BitVec.ofInt 8 (shrI (max x19_ 0) (8 * x8_21))))] : List UInt8)) TOtA.el22 rfl rfl ho5_21 (Srcs.sc (Srcs.ofOwn Tryd.underlying22 ho28_ (by decide))) hI.st hk30_ (by decide) hI.size) rfl rfl ?_
          rintro _ w29_ ⟨A29_, c29_, rfl, ho29_, hF29_, hbk29_⟩
          clear hbk29_
          replace hI := hI.tok hF29_ ho5_21.out (ho5_21.new (Nat.le_refl _))
          clear hF29_ ho5_21
          refine Ops_step (R_assign rfl) rfl rfl ?_
          refine Ops_nil ?_
          refine block_n ?_
          refine then_n (hK25_ _ _ ?_)
          clear hK25_ K25_
          refine W_keepB [5, 7, 8, 18, 19, 20] fun B31 hB31_ => ?_
          simp only [pickE, lookE, putE, zipE, args0, Nat.reduceAdd, Nat.zero_add, List.cons_append, List.nil_append, Nat.reduceBEq, cond_true, cond_false] at hB31_
          subst hB31_
          refine W_region [some 26, some 27, some 8] rfl ?_
          refine Ops_step (R_move rfl) rfl rfl ?_
          have hk32_ := h.1
          replace h := h.2
          refine Ops_step (R_sub rfl rfl (wI hk32_.1 hk32_.2)) rfl rfl ?_
          refine Ops_step (R_assign rfl) rfl rfl ?_
          refine Ops_nil ?_
          refine then_n ?_
          exact h.elim fun m_ h => ⟨m_, _, h.1, rfl, ⟨(x5_21 ++ ([(UInt8.ofBitVec (BitVec.ofInt 8 (shrI (max x19_ 0) (8 * x8_21))))] : List UInt8)), A29_, c29_, (x8_21 - 1), _, _, rfl, h.2, hI, hll21_, hhh21_, ho29_, trivial⟩, ⟨rfl, rfl, rfl, rfl, trivial⟩⟩
        · replace h := h.2 hc24_
          refine W_exit ?_
          refine then_exit ?_
          clear hK22_ K22_
          refine then_exit ?_
          refine block_exit ?_
          refine block_n ?_
          refine then_n ?_
          exact ⟨_, rfl, ⟨x5_21, A5_21, c5_21, _, _, rfl, h, hI, hll17_, hhh17_, ho5_21, trivial⟩, ⟨rfl, rfl, rfl, trivial⟩⟩
      · simp only [pickE, lookE, putE, zipE, args0, Nat.reduceAdd, Nat.zero_add, List.cons_append, List.nil_append, Nat.reduceBEq, cond_true, cond_false] at hB17_
        subst hB17_
        clear h
        rintro _ w17_ ⟨x5_17, A5_17, c5_17, L17_, H17_, rfl, hJ17_, hI17_, hll17_, hhh17_, ho5_17, -⟩
        replace hI := hI17_
        clear hI17_
        have h := hr17_ x5_17 hJ17_
        clear hr17_ hJ17_
        replace hs1 := hs1.up hhh17_
        replace hll11_ := hll11_.trans hll17_
        replace hhh11_ := hhh11_.trans hhh17_
        replace hll13_ := hll13_.trans hll17_
        replace hhh13_ := hhh13_.trans hhh17_
        refine W_region [some 37, some 20] rfl ?_
        have hk33_ := h.1
        replace h := h.2
        refine Ops_step (R_add rfl rfl (wI hk33_.1 hk33_.2)) rfl rfl ?_
        refine Ops_step (R_move rfl) rfl rfl ?_
        refine Ops_nil ?_
        refine then_n ?_
        exact h.elim fun m_ h => ⟨m_, _, h.1, rfl, ⟨x5_17, A5_17, c5_17, (x20_13 + 1), _, _, rfl, h.2, hI, hll13_, hhh13_, ho5_17, trivial⟩, ⟨rfl, rfl, trivial⟩⟩
    · replace h := h.2 hc16_
      refine W_exit ?_
      refine then_exit ?_
      clear hK15_ K15_
      refine then_exit ?_
      refine block_exit ?_
      refine then_n ?_
      exact ⟨_, rfl, ⟨x5_13, A5_13, c5_13, _, _, rfl, h, hI, hll11_, hhh11_, ho5_13, trivial⟩, trivial⟩
  · simp only [pickE, lookE, putE, zipE, args0, Nat.reduceAdd, Nat.zero_add, List.cons_append, List.nil_append, Nat.reduceBEq, cond_true, cond_false] at hB11_
    subst hB11_
    clear h
    rintro _ w11_ ⟨x5_11, A5_11, c5_11, L11_, H11_, rfl, hJ11_, hI11_, hll11_, hhh11_, ho5_11, -⟩
    replace hI := hI11_
    clear hI11_
    have h := hr11_ x5_11 hJ11_
    clear hr11_ hJ11_
    refine W_seq_k fun K34_ hK34_ => ?_
    refine W_region [some 38, some 4] rfl ?_
    refine Ops_step (R_move rfl) rfl rfl ?_
    refine Ops_step (R_assign rfl) rfl rfl ?_
    refine Ops_nil ?_
    refine then_n (hK34_ _ _ ?_)
    clear hK34_ K34_
    refine W_ret ?_
    refine ⟨_, ⟨_, _, rfl, rfl, rfl⟩, ?_⟩
    exact ⟨A5_11, c5_11, x5_11, _, _, rfl, hI, (ho5_11.hl (Le.no _)), h⟩

set_option maxHeartbeats 4000000 in
theorem octet_Sum_ok {G : Gh} {w : World} (hS : St G w) (hg : GL G) {A0 : Option Addr} {c0 : Nat} {x0 : List UInt8} (hc0 : x0.length ≤ c0) (hs0 : Sl G A0 x0) {Q : (BitVec 32) → Prop} (h : octet_Sum x0 Q) : Calls Tryd.prog 35 #[.slice A0 x0.length c0] w fun e w2 => ∃ (r0 : BitVec 32) (L H : Gh), e = .returned (w32 r0) ∧ Inv [] G w L H w2 ∧ Q r0 := by
  unfold octet_Sum at h
  have hI := Inv.start (M := []) hS
  refine calls_W 30 Tryd.func35 rfl Tryd.ntmps35 rfl [.tmp 2] rfl ?_
  refine W_seq_k fun K1_ hK1_ => ?_
  refine W_region [some 2] rfl ?_
  refine Ops_step (R_assign rfl) rfl rfl ?_
  refine Ops_nil ?_
  refine then_n (hK1_ _ _ ?_)
  clear hK1_ K1_
  refine W_seq_k fun K2_ hK2_ => ?_
  refine W_region [some 3] rfl ?_
  refine Ops_step (R_assign rfl) rfl rfl ?_
  refine Ops_nil ?_
  refine then_n (hK2_ _ _ ?_)
  clear hK2_ K2_
  refine Exists.elim h fun J3_ h => ?_
  have hr3_ := h.1
  replace h := h.2
  refine W_seq_join [] [3] (fun vs w2 => ∃ (x3_3 : BitVec 32) (L H : Gh), vs = [w32 x3_3] ∧ J3_ x3_3 ∧ Inv [] G w L H w2 ∧ Le Gh.no L ∧ Le G H ∧ True) (fun B3 hB3_ => ?_) (fun B3 hB3_ => ?_)
  · simp only [pickE, lookE, putE, zipE, args0, Nat.reduceAdd, Nat.zero_add, List.cons_append, List.nil_append, Nat.reduceBEq, cond_true, cond_false] at hB3_
    subst hB3_
    clear hr3_
    have hll3_ := Le.refl Gh.no
    have hhh3_ := Le.refl G
    refine W_seq_k fun K4_ hK4_ => ?_
    refine W_region [some 7, some 8, some 9] rfl ?_
    refine Ops_step (R_move rfl) rfl rfl ?_
    refine Ops_step (R_len Tryd.underlying22 rfl rfl) rfl rfl ?_
    refine Ops_step (R_move rfl) rfl rfl ?_
    refine Ops_nil ?_
    refine then_n (hK4_ _ _ ?_)
    clear hK4_ K4_
    refine W_block ?_
    refine Exists.elim h fun I5_ h => Exists.elim h fun n5_ h => ?_
    have h0_ := h.1
    have hs5_ := h.2
    clear h
    refine W_loopB [7, 8] [3, 9] (fun m vs w2 => ∃ (x3_5 : BitVec 32) (x9_5 : Int) (L H : Gh), vs = [w32 x3_5, vi x9_5] ∧ I5_ m x3_5 x9_5 ∧ Inv [] G w L H w2 ∧ Le Gh.no L ∧ Le G H ∧ True) n5_ _ rfl ⟨(4294967295#32), 0, _, _, rfl, h0_, hI, Le.refl _, Le.refl _, trivial⟩ fun B5 hB5_ => ?_
    clear h0_
    simp only [pickE, lookE, putE, zipE, args0, Nat.reduceAdd, Nat.zero_add, List.cons_append, List.nil_append, Nat.reduceBEq, cond_true, cond_false] at hB5_
    subst hB5_
    rintro m5_ _ w5_ ⟨x3_5, x9_5, L5_, H5_, rfl, hJ5_, hI5_, hll5_, hhh5_, -⟩
    replace hI := hI5_
    clear hI5_
    have h := hs5_ m5_ x3_5 x9_5 hJ5_
    clear hs5_ hJ5_
    replace hs0 := hs0.up hhh5_
    replace hll3_ := hll3_.trans hll5_
    replace hhh3_ := hhh3_.trans hhh5_
    refine W_seq_k fun K6_ hK6_ => ?_
    refine W_region [some 10] rfl ?_
    refine Ops_step (R_lss rfl rfl) rfl rfl ?_
    refine Ops_nil ?_
    refine then_n (hK6_ _ _ ?_)
    clear hK6_ K6_
    refine W_seq_k fun K7_ hK7_ => ?_
    refine W_if rfl (fun hc8_ => ?_) (fun hc8_ => ?_)
    · replace h := h.1 hc8_
      refine W_skip ?_
      refine then_n (hK7_ _ _ ?_)
      clear hK7_ K7_
      refine Exists.elim h fun J9_ h => ?_
      have hr9_ := h.1
      replace h := h.2
      refine W_seq_join [7, 8, 9] [3] (fun vs w2 => ∃ (x3_9 : BitVec 32) (L H : Gh), vs = [w32 x3_9] ∧ J9_ x3_9 ∧ Inv [] G w L H w2 ∧ Le L5_ L ∧ Le H5_ H ∧ True) (fun B9 hB9_ => ?_) (fun B9 hB9_ => ?_)
      · simp only [pickE, lookE, putE, zipE, args0, Nat.reduceAdd, Nat.zero_add, List.cons_append, List.nil_append, Nat.reduceBEq, cond_true, cond_false] at hB9_
        subst hB9_
        clear hr9_
        have hll9_ := Le.refl L5_
        have hhh9_ := Le.refl H5_
        refine W_block ?_
        refine W_seq_k fun K10_ hK10_ => ?_
        refine W_region [some 11, some 12, some 5] rfl ?_
        refine Exists.elim h fun x11_ h => ?_
        have hx11_ := h.1
        replace h := h.2
        have ha11_ := (hs0.atS hx11_).1
        have hg11_ := (hs0.atS hx11_).2
        refine Ops_step (R_indexSl Tryd.underlying22 TOtA.sz5 rfl rfl hx11_.1 hx11_.lt ha11_) rfl rfl ?_
        refine Ops_step (R_load TOtA.ag5 rfl (hI.st _ _ hg11_)) rfl rfl ?_
        refine Ops_step (R_assign rfl) rfl rfl ?_
        refine Ops_nil ?_
        refine then_n (hK10_ _ _ ?_)
        clear hK10_ K10_
        refine W_seq_k fun K12_ hK12_ => ?_
        refine W_region [some 13, some 14, some 15, some 16, some 17, some 3] rfl ?_
        refine Ops_step (R_move rfl) rfl rfl ?_
        refine Ops_step (R_move rfl) rfl rfl ?_
        refine Ops_step (R_conv Tryd.underlying5 Tryd.underlying51 rfl (c8_32 _)) rfl rfl ?_
        refine Ops_step (R_shl rfl rfl (by decide) (shl32 (x11_.toBitVec.setWidth 32) 24 (by decide))) rfl rfl ?_
        refine Ops_step (R_xor rfl rfl (xor32 x3_5 ((x11_.toBitVec.setWidth 32) <<< (24 : Nat)))) rfl rfl ?_
        refine Ops_step (R_assign rfl) rfl rfl ?_
        refine Ops_nil ?_
        refine then_n (hK12_ _ _ ?_)
        clear hK12_ K12_
        refine W_keepB [3, 7, 8, 9] fun B13 hB13_ => ?_
        simp only [pickE, lookE, putE, zipE, args0, Nat.reduceAdd, Nat.zero_add, List.cons_append, List.nil_append, Nat.reduceBEq, cond_true, cond_false] at hB13_
        subst hB13_
        refine W_seq_k fun K14_ hK14_ => ?_
        refine W_region [some 18] rfl ?_
        refine Ops_step (R_move rfl) rfl rfl ?_
        refine Ops_nil ?_
        refine then_n (hK14_ _ _ ?_)
        clear hK14_ K14_
        refine W_block ?_
        refine Exists.elim h fun I15_ h => Exists.elim h fun n15_ h => ?_
        have h0_ := h.1
        have hs15_ := h.2
        clear h
        refine W_loopB [7, 8, 9] [3, 18] (fun m vs w2 => ∃ (x3_15 : BitVec 32) (x18_15 : Int) (L H : Gh), vs = [w32 x3_15, vi x18_15] ∧ I15_ m x3_15 x18_15 ∧ Inv [] G w L H w2 ∧ Le L5_ L ∧ Le H5_ H ∧ True) n15_ _ rfl ⟨(x3_5 ^^^ ((x11_.toBitVec.setWidth 32) <<< (24 : Nat))), 0, _, _, rfl, h0_, hI, Le.refl _, Le.refl _, trivial⟩ fun B15 hB15_ => ?_
        clear h0_
        simp only [pickE, lookE, putE, zipE, args0, Nat.reduceAdd, Nat.zero_add, List.cons_append, List.nil_append, Nat.reduceBEq, cond_true, cond_false] at hB15_
        subst hB15_
        rintro m15_ _ w15_ ⟨x3_15, x18_15, L15_, H15_, rfl, hJ15_, hI15_, hll15_, hhh15_, -⟩
        replace hI := hI15_
        clear hI15_
        have h := hs15_ m15_ x3_15 x18_15 hJ15_
        clear hs15_ hJ15_
        replace hs0 := hs0.up hhh15_
        replace hll3_ := hll3_.trans hll15_
        replace hhh3_ := hhh3_.trans hhh15_
        replace hll5_ := hll5_.trans hll15_
        replace hhh5_ := hhh5_.trans hhh15_
        replace hll9_ := hll9_.trans hll15_
        replace hhh9_ := hhh9_.trans hhh15_
        refine W_seq_k fun K16_ hK16_ => ?_
        refine W_region [some 19] rfl ?_
        refine Ops_step (R_lss rfl rfl) rfl rfl ?_
        refine Ops_nil ?_
        refine then_n (hK16_ _ _ ?_)
        clear hK16_ K16_
        refine W_seq_k fun K17_ hK17_ => ?_
        refine W_if rfl (fun hc18_ => ?_) (fun hc18_ => ?_)
        · replace h := h.1 hc18_
          refine W_skip ?_
          refine then_n (hK17_ _ _ ?_)
          clear hK17_ K17_
          refine W_seq_k fun K19_ hK19_ => ?_
          refine W_block ?_
          refine W_seq_k fun K20_ hK20_ => ?_
          refine W_region [some 20, some 21, some 6] rfl ?_
          refine Ops_step (R_move rfl) rfl rfl ?_
          refine Ops_step (R_shr rfl rfl (by decide) (shr32 x3_15 31 (by decide))) rfl rfl ?_
          refine Ops_step (R_assign rfl) rfl rfl ?_
          refine Ops_nil ?_
          refine then_n (hK20_ _ _ ?_)
          clear hK20_ K20_
          refine W_region [some 22, some 23, some 24, some 25, some 26, some 3] rfl ?_
          refine Ops_step (R_move rfl) rfl rfl ?_
          refine Ops_step (R_shl rfl rfl (by decide) (shl32 x3_15 1 (by decide))) rfl rfl ?_
          refine Ops_step (R_move rfl) rfl rfl ?_
          refine Ops_step (R_mul rfl rfl (mul32 (x3_15 >>> (31 : Nat)) (2168537515#32))) rfl rfl ?_
          refine Ops_step (R_xor rfl rfl (xor32 (x3_15 <<< (1 : Nat)) ((x3_15 >>> (31 : Nat)) * (2168537515#32)))) rfl rfl ?_
          refine Ops_step (R_assign rfl) rfl rfl ?_
          refine Ops_nil ?_
          refine block_n ?_
          refine then_n (hK19_ _ _ ?_)
          clear hK19_ K19_
          refine W_keepB [3, 7, 8, 9, 18] fun B21 hB21_ => ?_
          simp only [pickE, lookE, putE, zipE, args0, Nat.reduceAdd, Nat.zero_add, List.cons_append, List.nil_append, Nat.reduceBEq, cond_true, cond_false] at hB21_
          subst hB21_
          refine W_region [some 27, some 18] rfl ?_
          have hk22_ := h.1
          replace h := h.2
          refine Ops_step (R_add rfl rfl (wI hk22_.1 hk22_.2)) rfl rfl ?_
          refine Ops_step (R_move rfl) rfl rfl ?_
          refine Ops_nil ?_
          refine then_n ?_
          exact h.elim fun m_ h => ⟨m_, _, h.1, rfl, ⟨((x3_15 <<< (1 : Nat)) ^^^ ((x3_15 >>> (31 : Nat)) * (2168537515#32))), (x18_15 + 1), _, _, rfl, h.2, hI, hll15_, hhh15_, trivial⟩, ⟨rfl, rfl, rfl, trivial⟩⟩
        · replace h := h.2 hc18_
          refine W_exit ?_
          refine then_exit ?_
          clear hK17_ K17_
          refine then_exit ?_
          refine block_exit ?_
          refine block_n ?_
          refine then_n ?_
          exact ⟨_, rfl, ⟨x3_15, _, _, rfl, h, hI, hll9_, hhh9_, trivial⟩, ⟨rfl, rfl, rfl, trivial⟩⟩
      · simp only [pickE, lookE, putE, zipE, args0, Nat.reduceAdd, Nat.zero_add, List.cons_append, List.nil_append, Nat.reduceBEq, cond_true, cond_false] at hB9_
        subst hB9_
        clear h
        rintro _ w9_ ⟨x3_9, L9_, H9_, rfl, hJ9_, hI9_, hll9_, hhh9_, -⟩
        replace hI := hI9_
        clear hI9_
        have h := hr9_ x3_9 hJ9_
        clear hr9_ hJ9_
        replace hs0 := hs0.up hhh9_
        replace hll3_ := hll3_.trans hll9_
        replace hhh3_ := hhh3_.trans hhh9_
        replace hll5_ := hll5_.trans hll9_
        replace hhh5_ := hhh5_.trans hhh9_
        refine W_region [some 28, some 9] rfl ?_
        have hk23_ := h.1
        replace h := h.2
        refine Ops_step (R_add rfl rfl (wI hk23_.1 hk23_.2)) rfl rfl ?_
        refine Ops_step (R_move rfl) rfl rfl ?_
        refine Ops_nil ?_
        refine then_n ?_
        exact h.elim fun m_ h => ⟨m_, _, h.1, rfl, ⟨x3_9, (x9_5 + 1), _, _, rfl, h.2, hI, hll5_, hhh5_, trivial⟩, ⟨rfl, rfl, trivial⟩⟩
    · replace h := h.2 hc8_
      refine W_exit ?_
      refine then_exit ?_
      clear hK7_ K7_
      refine then_exit ?_
      refine block_exit ?_
      refine then_n ?_
      exact ⟨_, rfl, ⟨x3_5, _, _, rfl, h, hI, hll3_, hhh3_, trivial⟩, trivial⟩
  · simp only [pickE, lookE, putE, zipE, args0, Nat.reduceAdd, Nat.zero_add, List.cons_append, List.nil_append, Nat.reduceBEq, cond_true, cond_false] at hB3_
    subst hB3_
    clear h
    rintro _ w3_ ⟨x3_3, L3_, H3_, rfl, hJ3_, hI3_, hll3_, hhh3_, -⟩
    replace hI := hI3_
    clear hI3_
    have h := hr3_ x3_3 hJ3_
    clear hr3_ hJ3_
    refine W_seq_k fun K24_ hK24_ => ?_
    refine W_region [some 29, some 2] rfl ?_
    refine Ops_step (R_move rfl) rfl rfl ?_
    refine Ops_step (R_assign rfl) rfl rfl ?_
    refine Ops_nil ?_
    refine then_n (hK24_ _ _ ?_)
    clear hK24_ K24_
    refine W_ret ?_
    refine ⟨_, ⟨_, _, rfl, rfl, rfl⟩, ?_⟩
    exact ⟨x3_3, _, _, rfl, hI, h⟩

set_option maxHeartbeats 4000000 in
theorem octet_PutBytes_ok {G : Gh} {w : World} (hS : St G w) (hg : GL G) {A0 : Option Addr} {c0 : Nat} {x0 : List UInt8} (hc0 : x0.length ≤ c0) (hs0 : Sl G A0 x0) {A1 : Option Addr} {c1 : Nat} {x1 : List UInt8} (hc1 : x1.length ≤ c1) (hs1 : Sl G A1 x1) {Q : (List UInt8) → Prop} (h : octet_PutBytes x0 x1 Q) : Calls Tryd.prog 18 #[.slice A0 x0.length c0, .slice A1 x1.length c1] w fun e w2 => ∃ (A0 : Option Addr) (c0 : Nat) (r0 : List UInt8) (L H : Gh), e = .returned (.slice A0 r0.length c0) ∧ Inv [] G w L H w2 ∧ OwnS w.heap.size 5 L H w2 A0 c0 r0 ∧ Q r0 := by
  unfold octet_PutBytes at h
  have hI := Inv.start (M := []) hS
  refine calls_W 12 Tryd.func18 rfl Tryd.ntmps18 rfl [.tmp 4] rfl ?_
  refine W_seq_k fun K1_ hK1_ => ?_
  refine W_region [some 4] rfl ?_
  refine Ops_step (R_assign rfl) rfl rfl ?_
  refine Ops_nil ?_
  refine then_n (hK1_ _ _ ?_)
  clear hK1_ K1_
  refine W_seq_k fun K2_ hK2_ => ?_
  refine W_region [some 5, some 6, some 7, some 8, some 9, some 10, some 11, some 4] rfl ?_
  refine Ops_step (R_move rfl) rfl rfl ?_
  refine Ops_step (R_move rfl) rfl rfl ?_
  refine Ops_step (R_len Tryd.underlying22 rfl rfl) rfl rfl ?_
  refine Ops_to (R_buildSlice TOtA.el48 TOtA.zr3 (by decide) (by decide) rfl rfl) rfl rfl ?_
  rintro _ w3_ ⟨b3_, rfl, hb3_, hB3_, hF3_⟩
  have ho3_ : OwnS w.heap.size 3 Gh.no G _ (some ⟨b3_, 0, none⟩) 1 ([(x1.length : Int)] : List Int) := OwnS.ofBlk hI.st hb3_ hB3_ (all2_sc' _) rfl (by have := hI.size; omega) (by show 1 ≤ maxLen; decide)
  replace hI := hI.fr0 hF3_
  clear hF3_ hB3_
  refine Exists.elim (ho3_.lend hI.st (Le.no _)) fun Hb4_0_ hb4_0_ => ?_
  refine Ops_call (C_func TOtA.bd19 rfl) rfl rfl ?_
  refine (octet_Put_ok (x0 := x0) (x1 := ([(x1.length : Int)] : List Int)) hb4_0_.1 (hg.up (hI.le.trans hb4_0_.2.1)) hc0 (hs0.up hb4_0_.2.1) (Nat.le_refl _) hb4_0_.2.2 h).mono ?_
  rintro _ w4_ ⟨A4_0, c4_0, r4_0, L4_, H4_, rfl, hI4_, ho4_0, h⟩
  refine Exists.elim (hI.callB hb4_0_.2.1 hI4_ (by simp)) fun L40_ h4_ => Exists.elim h4_ fun H40_ h4_ => ?_
  have hz4_ := hI.size
  replace hI := h4_.1
  have u4_ := h4_.2.1
  have hl4_ := h4_.2.2.1
  have hh4_ := h4_.2.2.2
  clear h4_
  replace hs1 := hs1.up u4_.hh
  replace ho4_0 := OwnS.backS ho4_0 hz4_ hh4_
  clear hI4_ u4_ hl4_
  refine ⟨_, rfl, ?_⟩
  refine Ops_step (R_move rfl) rfl rfl ?_
  have hk6_ := h.1
  replace h := h.2
  refine Ops_to (X_append (α := UInt8) (xs := r4_0) (ys := x1) TOtA.el22 rfl rfl ho4_0 (Srcs.sc (Srcs.ofSl Tryd.underlying22 hs1 hI.st (by decide))) hI.st hk6_ (by decide) hI.size) rfl rfl ?_
  rintro _ w5_ ⟨A5_, c5_, rfl, ho5_, hF5_, hbk5_⟩
  clear hbk5_
  replace hI := hI.tok hF5_ ho4_0.out (ho4_0.new (Nat.le_refl _))
  clear hF5_ ho4_0
  refine Ops_step (R_assign rfl) rfl rfl ?_
  refine Ops_nil ?_
  refine then_n (hK2_ _ _ ?_)
  clear hK2_ K2_
  refine W_keepB [4] fun B7 hB7_ => ?_
  simp only [pickE, lookE, putE, zipE, args0, Nat.reduceAdd, Nat.zero_add, List.cons_append, List.nil_append, Nat.reduceBEq, cond_true, cond_false] at hB7_
  subst hB7_
  refine W_ret ?_
  refine ⟨_, ⟨_, _, rfl, rfl, rfl⟩, ?_⟩
  exact ⟨A5_, c5_, (r4_0 ++ x1), _, _, rfl, hI, (ho5_.hl (Le.no _)), h⟩

set_option maxHeartbeats 4000000 in
theorem octet_PutText_ok {G : Gh} {w : World} (hS : St G w) (hg : GL G) {A0 : Option Addr} {c0 : Nat} {x0 : List UInt8} (hc0 : x0.length ≤ c0) (hs0 : Sl G A0 x0) {x1 : Str} {Q : (List UInt8) → Prop} (h : octet_PutText x0 x1 Q) : Calls Tryd.prog 17 #[.slice A0 x0.length c0, vs x1] w fun e w2 => ∃ (A0 : Option Addr) (c0 : Nat) (r0 : List UInt8) (L H : Gh), e = .returned (.slice A0 r0.length c0) ∧ Inv [] G w L H w2 ∧ OwnS w.heap.size 5 L H w2 A0 c0 r0 ∧ Q r0 := by
  unfold octet_PutText at h
  have hI := Inv.start (M := []) hS
  refine calls_W 9 Tryd.func17 rfl Tryd.ntmps17 rfl [.tmp 4] rfl ?_
  refine W_seq_k fun K1_ hK1_ => ?_
  refine W_region [some 4] rfl ?_
  refine Ops_step (R_assign rfl) rfl rfl ?_
  refine Ops_nil ?_
  refine then_n (hK1_ _ _ ?_)
  clear hK1_ K1_
  refine W_seq_k fun K2_ hK2_ => ?_
  refine W_region [some 5, some 6, some 7, some 8, some 4] rfl ?_
  refine Ops_step (R_move rfl) rfl rfl ?_
  refine Ops_step (R_move rfl) rfl rfl ?_
  refine Ops_to (X_strBytes (s := x1) Tryd.underlying9 Tryd.underlying22 Tryd.underlying5 rfl) rfl rfl ?_
  rintro _ w3_ ⟨A3_, c3_, rfl, hc3_, hR3_, hn3_, hF3_⟩
  refine Exists.elim (Inv.newRd hI hF3_ hR3_ hn3_) fun L3_ h3_ => Exists.elim h3_ fun H3_ h3_ => ?_
  replace hI := h3_.1
  have u3_ := h3_.2.1
  have hs3_ := h3_.2.2
  replace hs0 := hs0.up u3_.hh
  clear h3_ u3_ hR3_ hn3_ hF3_
  refine Ops_call (C_func TOtA.bd18 rfl) rfl rfl ?_
  refine (octet_PutBytes_ok (x0 := x0) (x1 := x1.b) hI.st (hg.up hI.le) hc0 hs0 hc3_ (hs3_.up hI.sub) h).mono ?_
  rintro _ w4_ ⟨A4_0, c4_0, r4_0, L4_, H4_, rfl, hI4_, ho4_0, h⟩
  refine Exists.elim (hI.call hI4_ (by simp)) fun L40_ h4_ => ?_
  have hz4_ := hI.size
  replace hI := h4_.1
  have u4_ := h4_.2.1
  have hl4_ := h4_.2.2
  clear h4_
  replace ho4_0 := OwnS.backS ho4_0 hz4_ (Le.refl _)
  clear hI4_ u4_ hl4_
  refine ⟨_, rfl, ?_⟩
  refine Ops_step (R_assign rfl) rfl rfl ?_
  refine Ops_nil ?_
  refine then_n (hK2_ _ _ ?_)
  clear hK2_ K2_
  refine W_keepB [4] fun B5 hB5_ => ?_
  simp only [pickE, lookE, putE, zipE, args0, Nat.reduceAdd, Nat.zero_add, List.cons_append, List.nil_append, Nat.reduceBEq, cond_true, cond_false] at hB5_
  subst hB5_
  refine W_ret ?_
  refine ⟨_, ⟨_, _, rfl, rfl, rfl⟩, ?_⟩
  exact ⟨A4_0, c4_0, r4_0, _, _, rfl, hI, (ho4_0.hl (Le.no _)), h⟩

set_option maxHeartbeats 4000000 in
theorem octet_Seal_ok {G : Gh} {w : World} (hS : St G w) (hg : GL G) {A0 : Option Addr} {c0 : Nat} {x0 : List UInt8} (hc0 : x0.length ≤ c0) (hs0 : Sl G A0 x0) {Q : (List UInt8) → Int → Prop} (h : octet_Seal x0 Q) : Calls Tryd.prog 27 #[.slice A0 x0.length c0] w fun e w2 => ∃ (A0 : Option Addr) (c0 : Nat) (r0 : List UInt8) (r1 : Int) (L H : Gh), e = .returned (.tuple #[.slice A0 r0.length c0, vi r1]) ∧ Inv [] G w L H w2 ∧ OwnS w.heap.size 5 L H w2 A0 c0 r0 ∧ Q r0 r1 := by
  unfold octet_Seal at h
  have hI := Inv.start (M := []) hS
  refine calls_W 27 Tryd.func27 rfl Tryd.ntmps27 rfl [.tmp 2, .tmp 3] rfl ?_
  refine W_seq_k fun K1_ hK1_ => ?_
  refine W_region [some 2, some 3] rfl ?_
  refine Ops_step (R_assign rfl) rfl rfl ?_
  refine Ops_step (R_assign rfl) rfl rfl ?_
  refine Ops_nil ?_
  refine then_n (hK1_ _ _ ?_)
  clear hK1_ K1_
  refine W_seq_k fun K2_ hK2_ => ?_
  refine W_seq_k fun K3_ hK3_ => ?_
  refine W_region [some 6, some 7, some 8] rfl ?_
  refine Ops_step (R_move rfl) rfl rfl ?_
  refine Ops_step (R_len Tryd.underlying22 rfl rfl) rfl rfl ?_
  refine Ops_step (R_gtr rfl rfl) rfl rfl ?_
  refine Ops_nil ?_
  refine then_n (hK3_ _ _ ?_)
  clear hK3_ K3_
  refine W_if rfl (fun hc4_ => ?_) (fun hc4_ => ?_)
  · replace h := h.1 hc4_
    refine W_seq_k fun K5_ hK5_ => ?_
    refine W_region [some 2, some 3] rfl ?_
    refine Ops_step (R_assign rfl) rfl rfl ?_
    refine Ops_step (R_assign rfl) rfl rfl ?_
    refine Ops_nil ?_
    refine then_n (hK5_ _ _ ?_)
    clear hK5_ K5_
    refine W_ret ?_
    refine then_ret ?_
    clear hK2_ K2_
    refine ⟨_, ⟨_, _, rfl, rfl, ⟨_, _, rfl, rfl, rfl⟩⟩, ?_⟩
    exact ⟨none, 0, [], 4, _, _, rfl, hI, OwnS.nil, h⟩
  · replace h := h.2 hc4_
    refine W_skip ?_
    refine then_n (hK2_ _ _ ?_)
    clear hK2_ K2_
    refine W_seq_k fun K6_ hK6_ => ?_
    refine W_region [some 9, some 10, some 4] rfl ?_
    refine Ops_step (R_move rfl) rfl rfl ?_
    refine Ops_call (C_func TOtA.bd18 rfl) rfl rfl ?_
    refine (octet_PutBytes_ok (x0 := []) (x1 := x0) hI.st (hg.up hI.le) (Nat.le_refl 0) Sl.nil hc0 hs0 h).mono ?_
    rintro _ w7_ ⟨A7_0, c7_0, r7_0, L7_, H7_, rfl, hI7_, ho7_0, h⟩
    refine Exists.elim (hI.call hI7_ (by simp)) fun L70_ h7_ => ?_
    have hz7_ := hI.size
    replace hI := h7_.1
    have u7_ := h7_.2.1
    have hl7_ := h7_.2.2
    clear h7_
    replace ho7_0 := OwnS.backS ho7_0 hz7_ (Le.refl _)
    clear hI7_ u7_ hl7_
    refine ⟨_, rfl, ?_⟩
    refine Ops_step (R_assign rfl) rfl rfl ?_
    refine Ops_nil ?_
    refine then_n (hK6_ _ _ ?_)
    clear hK6_ K6_
    refine W_keepB [4] fun B8 hB8_ => ?_
    simp only [pickE, lookE, putE, zipE, args0, Nat.reduceAdd, Nat.zero_add, List.cons_append, List.nil_append, Nat.reduceBEq, cond_true, cond_false] at hB8_
    subst hB8_
    refine W_seq_k fun K9_ hK9_ => ?_
    refine W_region [some 11, some 12, some 5] rfl ?_
    refine Ops_step (R_move rfl) rfl rfl ?_
    refine Exists.elim (ho7_0.lend hI.st (Le.no _)) fun Hb10_0_ hb10_0_ => ?_
    refine Ops_call (C_func TOtA.bd35 rfl) rfl rfl ?_
    refine (octet_Sum_ok (x0 := r7_0) hb10_0_.1 (hg.up (hI.le.trans hb10_0_.2.1)) ho7_0.cap hb10_0_.2.2 h).mono ?_
    rintro _ w10_ ⟨r10_0, L10_, H10_, rfl, hI10_, h⟩
    refine Exists.elim (hI.callB hb10_0_.2.1 hI10_ (by simp)) fun L100_ h10_ => Exists.elim h10_ fun H100_ h10_ => ?_
    have hz10_ := hI.size
    replace hI := h10_.1
    have u10_ := h10_.2.1
    have hl10_ := h10_.2.2.1
    have hh10_ := h10_.2.2.2
    clear h10_
    replace ho7_0 := ho7_0.up (Le.refl _) u10_ (by simp)
    clear hI10_ u10_ hl10_
    refine ⟨_, rfl, ?_⟩
    refine Ops_step (R_assign rfl) rfl rfl ?_
    refine Ops_nil ?_
    refine then_n (hK9_ _ _ ?_)
    clear hK9_ K9_
    refine W_seq_k fun K11_ hK11_ => ?_
    refine W_region [some 13, some 14, some 15, some 16, some 17, some 18, some 19, some 20, some 21, some 22, some 23, some 24, some 25, some 26, some 2, some 3] rfl ?_
    refine Ops_step (R_move rfl) rfl rfl ?_
    refine Ops_step (R_move rfl) rfl rfl ?_
    refine Ops_step (R_shr rfl rfl (by decide) (shr32 r10_0 24 (by decide))) rfl rfl ?_
    refine Ops_step (R_conv Tryd.underlying51 Tryd.underlying5 rfl (c32_8 _)) rfl rfl ?_
    refine Ops_step (R_move rfl) rfl rfl ?_
    refine Ops_step (R_shr rfl rfl (by decide) (shr32 r10_0 16 (by decide))) rfl rfl ?_
    refine Ops_step (R_conv Tryd.underlying51 Tryd.underlying5 rfl (c32_8 _)) rfl rfl ?_
    refine Ops_step (R_move rfl) rfl rfl ?_
    refine Ops_step (R_shr rfl rfl (by decide) (shr32 r10_0 8 (by decide))) rfl rfl ?_
    refine Ops_step (R_conv Tryd.underlying51 Tryd.underlying5 rfl (c32_8 _)) rfl rfl ?_
    refine Ops_step (R_move rfl) rfl rfl ?_
    refine Ops_step (R_conv Tryd.underlying51 Tryd.underlying5 rfl (c32_8 _)) rfl rfl ?_
    have hlo12_ho7_0 := ho7_0.lt
    refine Ops_to (R_buildSlice TOtA.el22 TOtA.zr5 (by decide) (by decide) rfl rfl) rfl rfl ?_
    rintro _ w12_ ⟨b12_, rfl, hb12_, hB12_, hF12_⟩
    have ho12_ : OwnS w.heap.size 5 Gh.no H100_ _ (some ⟨b12_, 0, none⟩) 4 ([(UInt8.ofBitVec ((r10_0 >>> (24 : Nat)).setWidth 8)), (UInt8.ofBitVec ((r10_0 >>> (16 : Nat)).setWidth 8)), (UInt8.ofBitVec ((r10_0 >>> (8 : Nat)).setWidth 8)), (UInt8.ofBitVec (r10_0.setWidth 8))] : List UInt8) := OwnS.ofBlk hI.st hb12_ hB12_ (all2_sc' _) rfl (by have := hI.size; omega) (by show 4 ≤ maxLen; decide)
    replace hI := hI.fr0 hF12_
    replace ho7_0 := ho7_0.fr0 hF12_
    clear hF12_ hB12_
    have hsp12_ho7_0 : ∀ i ∈ bk (some ⟨b12_, 0, none⟩) 4, i ∉ bk A7_0 c7_0 := sep_new (fun i_ hi_ => by have := (bk_of hi_).1; simp only [blkOf, List.mem_singleton] at this; omega) hlo12_ho7_0
    have hk14_ := h.1
    replace h := h.2
    refine Ops_to (X_append (α := UInt8) (xs := r7_0) (ys := ([(UInt8.ofBitVec ((r10_0 >>> (24 : Nat)).setWidth 8)), (UInt8.ofBitVec ((r10_0 >>> (16 : Nat)).setWidth 8)), (UInt8.ofBitVec ((r10_0 >>> (8 : Nat)).setWidth 8)), (UInt8.ofBitVec (r10_0.setWidth 8))] : List UInt8)) TOtA.el22 rfl rfl ho7_0 (Srcs.sc (Srcs.ofOwn Tryd.underlying22 ho12_ (by decide))) hI.st hk14_ (by decide) hI.size) rfl rfl ?_
    rintro _ w13_ ⟨A13_, c13_, rfl, ho13_, hF13_, hbk13_⟩
    clear hbk13_
    replace hI := hI.tok hF13_ ho7_0.out (ho7_0.new (Nat.le_refl _))
    clear hF13_ ho7_0
    refine Ops_step (R_assign rfl) rfl rfl ?_
    refine Ops_step (R_assign rfl) rfl rfl ?_
    refine Ops_nil ?_
    refine then_n (hK11_ _ _ ?_)
    clear hK11_ K11_
    refine W_keepB [2, 3] fun B15 hB15_ => ?_
    simp only [pickE, lookE, putE, zipE, args0, Nat.reduceAdd, Nat.zero_add, List.cons_append, List.nil_append, Nat.reduceBEq, cond_true, cond_false] at hB15_
    subst hB15_
    refine W_ret ?_
    refine ⟨_, ⟨_, _, rfl, rfl, ⟨_, _, rfl, rfl, rfl⟩⟩, ?_⟩
    exact ⟨A13_, c13_, (r7_0 ++ ([(UInt8.ofBitVec ((r10_0 >>> (24 : Nat)).setWidth 8)), (UInt8.ofBitVec ((r10_0 >>> (16 : Nat)).setWidth 8)), (UInt8.ofBitVec ((r10_0 >>> (8 : Nat)).setWidth 8)), (UInt8.ofBitVec (r10_0.setWidth 8))] : List UInt8)), 0, _, _, rfl, hI, (ho13_.hl (Le.no _)), h⟩

end Go.Proofs.YtdnpdljnjoegiaaDoor
