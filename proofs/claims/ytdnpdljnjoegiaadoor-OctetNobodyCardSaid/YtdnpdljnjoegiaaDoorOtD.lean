/- What the walks of this seat show of OtD. -/
import Derived.Test.YtdnpdljnjoegiaaDoorOtDp
import Derived.Test.YtdnpdljnjoegiaaDoorOtC
import Derived.Test.YtdnpdljnjoegiaaDoorProg
set_option linter.unusedVariables false
set_option linter.unusedSimpArgs false
namespace Go.Lx
open Go Go.Sx
instance : Rp sealskinref02_Reader where
  n := 3
  cs := fun G x l => ∃ A1 c1, l = [.slice A1 x.B_.length c1, vi x.At_, vi x.E_] ∧ (x.B_.length ≤ c1 ∧ Sl G A1 x.B_)
  mono := fun hl ⟨A1, c1, e, ⟨a0, b0⟩⟩ => ⟨A1, c1, e, ⟨a0, b0.up hl⟩⟩
  len := fun ⟨A1, c1, e, _⟩ => by rw [e]; rfl
  one := fun ⟨A1, c1, e, _⟩ => by rw [e]; rfl
end Go.Lx
namespace Go.Proofs.YtdnpdljnjoegiaaDoor
open Go Go.Sx Go.Lx
namespace TOtD
theorem hm : Tryd.prog.follows .mixedOrders = true := by kernel_rfl
theorem ag22 : aggB Tryd.prog 22 = some false := by kernel_rfl
theorem ag3 : aggB Tryd.prog 3 = some false := by kernel_rfl
theorem ag35 : aggB Tryd.prog 35 = some false := by kernel_rfl
theorem ag5 : aggB Tryd.prog 5 = some false := by kernel_rfl
theorem bd32 : bodied Tryd.prog 32 = true := by kernel_rfl
theorem bd33 : bodied Tryd.prog 33 = true := by kernel_rfl
theorem bd34 : bodied Tryd.prog 34 = true := by kernel_rfl
theorem bd36 : bodied Tryd.prog 36 = true := by kernel_rfl
theorem bd41 : bodied Tryd.prog 41 = true := by kernel_rfl
theorem bd43 : bodied Tryd.prog 43 = true := by kernel_rfl
theorem bd45 : bodied Tryd.prog 45 = true := by kernel_rfl
theorem bd56 : bodied Tryd.prog 56 = true := by kernel_rfl
theorem bd57 : bodied Tryd.prog 57 = true := by kernel_rfl
theorem el22 : Elem Tryd.prog 22 5 1 1 := Elem.of (by kernel_rfl)
theorem el48 : Elem Tryd.prog 48 3 1 8 := Elem.of (by kernel_rfl)
theorem el67 : Elem Tryd.prog 67 22 1 24 := Elem.of (by kernel_rfl)
theorem fo65_0 : offB Tryd.prog 65 0 = some 0 := by kernel_rfl
theorem fo65_1 : offB Tryd.prog 65 1 = some 1 := by kernel_rfl
theorem fo65_2 : offB Tryd.prog 65 2 = some 2 := by kernel_rfl
theorem pl65 : partPl Tryd.prog 65 = some [(0, 1), (1, 1), (2, 1)] := by kernel_rfl
theorem sz3 : sz Tryd.prog 3 = some 1 := by kernel_rfl
theorem sz35 : sz Tryd.prog 35 = some 1 := by kernel_rfl
theorem sz5 : sz Tryd.prog 5 = some 1 := by kernel_rfl
theorem zr22 : zr Tryd.prog 22 = some ([.slice none 0 0]) := by kernel_rfl
theorem zr3 : zr Tryd.prog 3 = some ([.int .i64 0]) := by kernel_rfl
theorem zr5 : zr Tryd.prog 5 = some ([.int .u8 0]) := by kernel_rfl
theorem zr65 : zr Tryd.prog 65 = some ([.slice none 0 0] ++ [.int .i64 0] ++ [.int .i64 0]) := by kernel_rfl
theorem zr78 : zr Tryd.prog 78 = some (List.replicate 8 (.int .u8 0)) := by kernel_rfl
end TOtD
set_option maxHeartbeats 4000000 in
theorem sealskinref02_Put_ok {G : Gh} {w : World} (hS : St G w) (hg : GL G) {A0 : Option Addr} {c0 : Nat} {x0 : List UInt8} (hc0 : x0.length ≤ c0) (hs0 : Sl G A0 x0) {A1 : Option Addr} {c1 : Nat} {x1 : List Int} (hc1 : x1.length ≤ c1) (hs1 : Sl G A1 x1) {Q : (List UInt8) → Prop} (h : sealskinref02_Put x0 x1 Q) : Calls Tryd.prog 32 #[.slice A0 x0.length c0, .slice A1 x1.length c1] w fun e w2 => ∃ (A0 : Option Addr) (c0 : Nat) (r0 : List UInt8) (L H : Gh), e = .returned (.slice A0 r0.length c0) ∧ Inv [] G w L H w2 ∧ OwnS w.heap.size 5 L H w2 A0 c0 r0 ∧ Q r0 := by
  unfold sealskinref02_Put at h
  have hI := Inv.start (M := []) hS
  refine calls_W 47 Tryd.func32 rfl Tryd.ntmps32 rfl [.tmp 4] rfl ?_
  refine W_seq_k fun K1_ hK1_ => ?_
  refine W_region [some 4] rfl ?_
  refine Ops_step (R_assign rfl) rfl rfl ?_
  refine Ops_nil ?_
  refine then_n (hK1_ _ _ ?_)
  clear hK1_ K1_
  refine W_seq_k fun K2_ hK2_ => ?_
  refine W_region [some 12, some 13, some 14, some 5] rfl ?_
  refine Ops_to (R_buildSlice0 TOtD.el22) rfl rfl ?_
  rintro _ w3_ ⟨b3_, rfl, hb3_, hB3_, hF3_⟩
  have ho3_ : OwnS w.heap.size 5 Gh.no G _ (some ⟨b3_, 0, none⟩) 0 ([] : List UInt8) := OwnS.ofBlk hI.st hb3_ hB3_ (all2_sc' _) rfl (by have := hI.size; omega) (by show 0 ≤ maxLen; decide)
  replace hI := hI.fr0 hF3_
  clear hF3_ hB3_
  refine Ops_step (R_move rfl) rfl rfl ?_
  have hk5_ := h.1
  replace h := h.2
  refine Ops_to (X_append (α := UInt8) (xs := ([] : List UInt8)) (ys := x0) TOtD.el22 rfl rfl ho3_ (Srcs.sc (Srcs.ofSl Tryd.underlying22 hs0 hI.st (by decide))) hI.st hk5_ (by decide) hI.size) rfl rfl ?_
  rintro _ w4_ ⟨A4_, c4_, rfl, ho4_, hF4_, hbk4_⟩
  clear hbk4_
  replace hI := hI.tok hF4_ ho3_.out (ho3_.new (Nat.le_refl _))
  clear hF4_ ho3_
  refine Ops_step (R_assign rfl) rfl rfl ?_
  refine Ops_nil ?_
  refine then_n (hK2_ _ _ ?_)
  clear hK2_ K2_
  refine Exists.elim h fun J6_ h => ?_
  have hr6_ := h.1
  replace h := h.2
  refine W_seq_join [] [5] (fun vs w2 => ∃ (x5_6 : List UInt8) (A5_6 : Option Addr) (c5_6 : Nat) (L H : Gh), vs = [.slice A5_6 x5_6.length c5_6] ∧ J6_ x5_6 ∧ Inv [] G w L H w2 ∧ Le Gh.no L ∧ Le G H ∧ OwnS w.heap.size 5 Gh.no H w2 A5_6 c5_6 x5_6 ∧ True) (fun B6 hB6_ => ?_) (fun B6 hB6_ => ?_)
  · simp only [pickE, lookE, putE, zipE, args0, Nat.reduceAdd, Nat.zero_add, List.cons_append, List.nil_append, Nat.reduceBEq, cond_true, cond_false] at hB6_
    subst hB6_
    clear hr6_
    have hll6_ := Le.refl Gh.no
    have hhh6_ := Le.refl G
    refine W_seq_k fun K7_ hK7_ => ?_
    refine W_region [some 15, some 16, some 17] rfl ?_
    refine Ops_step (R_move rfl) rfl rfl ?_
    refine Ops_step (R_len Tryd.underlying48 rfl rfl) rfl rfl ?_
    refine Ops_step (R_move rfl) rfl rfl ?_
    refine Ops_nil ?_
    refine then_n (hK7_ _ _ ?_)
    clear hK7_ K7_
    refine W_keepB [5, 15, 16, 17] fun B8 hB8_ => ?_
    simp only [pickE, lookE, putE, zipE, args0, Nat.reduceAdd, Nat.zero_add, List.cons_append, List.nil_append, Nat.reduceBEq, cond_true, cond_false] at hB8_
    subst hB8_
    refine W_block ?_
    refine Exists.elim h fun I9_ h => Exists.elim h fun n9_ h => ?_
    have h0_ := h.1
    have hs9_ := h.2
    clear h
    refine W_loopB [15, 16] [5, 17] (fun m vs w2 => ∃ (x5_9 : List UInt8) (A5_9 : Option Addr) (c5_9 : Nat) (x17_9 : Int) (L H : Gh), vs = [.slice A5_9 x5_9.length c5_9, vi x17_9] ∧ I9_ m x5_9 x17_9 ∧ Inv [] G w L H w2 ∧ Le Gh.no L ∧ Le G H ∧ OwnS w.heap.size 5 Gh.no H w2 A5_9 c5_9 x5_9 ∧ True) n9_ _ rfl ⟨(([] : List UInt8) ++ x0), A4_, c4_, 0, _, _, rfl, h0_, hI, Le.refl _, Le.refl _, ho4_, trivial⟩ fun B9 hB9_ => ?_
    clear h0_
    simp only [pickE, lookE, putE, zipE, args0, Nat.reduceAdd, Nat.zero_add, List.cons_append, List.nil_append, Nat.reduceBEq, cond_true, cond_false] at hB9_
    subst hB9_
    rintro m9_ _ w9_ ⟨x5_9, A5_9, c5_9, x17_9, L9_, H9_, rfl, hJ9_, hI9_, hll9_, hhh9_, ho5_9, -⟩
    replace hI := hI9_
    clear hI9_
    have h := hs9_ m9_ x5_9 x17_9 hJ9_
    clear hs9_ hJ9_
    replace hs1 := hs1.up hhh9_
    replace hll6_ := hll6_.trans hll9_
    replace hhh6_ := hhh6_.trans hhh9_
    refine W_seq_k fun K10_ hK10_ => ?_
    refine W_region [some 18] rfl ?_
    refine Ops_step (R_lss rfl rfl) rfl rfl ?_
    refine Ops_nil ?_
    refine then_n (hK10_ _ _ ?_)
    clear hK10_ K10_
    refine W_seq_k fun K11_ hK11_ => ?_
    refine W_if rfl (fun hc12_ => ?_) (fun hc12_ => ?_)
    · replace h := h.1 hc12_
      refine W_skip ?_
      refine then_n (hK11_ _ _ ?_)
      clear hK11_ K11_
      refine Exists.elim h fun J13_ h => ?_
      have hr13_ := h.1
      replace h := h.2
      refine W_seq_join [15, 16, 17] [5] (fun vs w2 => ∃ (x5_13 : List UInt8) (A5_13 : Option Addr) (c5_13 : Nat) (L H : Gh), vs = [.slice A5_13 x5_13.length c5_13] ∧ J13_ x5_13 ∧ Inv [] G w L H w2 ∧ Le L9_ L ∧ Le H9_ H ∧ OwnS w.heap.size 5 Gh.no H w2 A5_13 c5_13 x5_13 ∧ True) (fun B13 hB13_ => ?_) (fun B13 hB13_ => ?_)
      · simp only [pickE, lookE, putE, zipE, args0, Nat.reduceAdd, Nat.zero_add, List.cons_append, List.nil_append, Nat.reduceBEq, cond_true, cond_false] at hB13_
        subst hB13_
        clear hr13_
        have hll13_ := Le.refl L9_
        have hhh13_ := Le.refl H9_
        refine W_block ?_
        refine W_seq_k fun K14_ hK14_ => ?_
        refine W_region [some 19, some 20, some 7] rfl ?_
        refine Exists.elim h fun x15_ h => ?_
        have hx15_ := h.1
        replace h := h.2
        have ha15_ := (hs1.atS hx15_).1
        have hg15_ := (hs1.atS hx15_).2
        refine Ops_step (R_indexSl Tryd.underlying48 TOtD.sz3 rfl rfl hx15_.1 hx15_.lt ha15_) rfl rfl ?_
        refine Ops_step (R_load TOtD.ag3 rfl (hI.st _ _ hg15_)) rfl rfl ?_
        refine Ops_step (R_assign rfl) rfl rfl ?_
        refine Ops_nil ?_
        refine then_n (hK14_ _ _ ?_)
        clear hK14_ K14_
        refine W_seq_k fun K16_ hK16_ => ?_
        refine W_region [some 8] rfl ?_
        have hI0_ := hI
        refine Ops_to (R_alloc TOtD.zr78) rfl rfl ?_
        rintro _ w17_ ⟨b17_, rfl, hb17_, hB17_, hF17_⟩
        replace hI := hI.fr0 hF17_
        replace ho5_9 := ho5_9.fr0 hF17_
        have ht17_ : Tok H9_ _ b17_ 78 ((Arr.mk (n := 8) (List.replicate 8 (0 : UInt8))).l.map vb) := ⟨hB17_.to (by rw [List.map_replicate]; rfl), Out.ge hI0_.st (Nat.le_of_eq hb17_.symm)⟩
        have hge_b17_ : w.heap.size ≤ b17_ := hb17_ ▸ hI0_.size
        clear hB17_ hb17_ hI0_ hF17_
        refine Ops_nil ?_
        refine then_n (hK16_ _ _ ?_)
        clear hK16_ K16_
        refine W_seq_k fun K18_ hK18_ => ?_
        refine W_region [some 21, some 22, some 9] rfl ?_
        refine Ops_step (R_move rfl) rfl rfl ?_
        refine Ops_step (R_max rfl rfl _root_.rfl) rfl rfl ?_
        refine Ops_step (R_assign rfl) rfl rfl ?_
        refine Ops_nil ?_
        refine then_n (hK18_ _ _ ?_)
        clear hK18_ K18_
        refine W_keepB [5, 8, 9, 15, 16, 17] fun B19 hB19_ => ?_
        simp only [pickE, lookE, putE, zipE, args0, Nat.reduceAdd, Nat.zero_add, List.cons_append, List.nil_append, Nat.reduceBEq, cond_true, cond_false] at hB19_
        subst hB19_
        refine Exists.elim h fun J20_ h => ?_
        have hr20_ := h.1
        replace h := h.2
        refine W_seq_join [5, 8, 15, 16, 17] [] (fun vs w2 => ∃ (yb17__20 : Arr 8 UInt8) (L H : Gh), vs = [] ∧ J20_ yb17__20 ∧ Inv [] G w L H w2 ∧ Le L9_ L ∧ Le H9_ H ∧ Ob 78 H H w2 b17_ yb17__20 ∧ OwnS w.heap.size 5 Gh.no H w2 A5_9 c5_9 x5_9 ∧ True) (fun B20 hB20_ => ?_) (fun B20 hB20_ => ?_)
        · simp only [pickE, lookE, putE, zipE, args0, Nat.reduceAdd, Nat.zero_add, List.cons_append, List.nil_append, Nat.reduceBEq, cond_true, cond_false] at hB20_
          subst hB20_
          clear hr20_
          have hll20_ := Le.refl L9_
          have hhh20_ := Le.refl H9_
          refine W_seq_k fun K21_ hK21_ => ?_
          refine W_region [some 23] rfl ?_
          refine Ops_step (R_move rfl) rfl rfl ?_
          refine Ops_nil ?_
          refine then_n (hK21_ _ _ ?_)
          clear hK21_ K21_
          refine W_block ?_
          refine Exists.elim h fun I22_ h => Exists.elim h fun n22_ h => ?_
          have h0_ := h.1
          have hs22_ := h.2
          clear h
          refine W_loopB [5, 8, 15, 16, 17] [9, 23] (fun m vs w2 => ∃ (x9_22 : Int) (x23_22 : Int) (yb17__22 : Arr 8 UInt8) (L H : Gh), vs = [vi x9_22, vi x23_22] ∧ I22_ m x9_22 x23_22 yb17__22 ∧ Inv [] G w L H w2 ∧ Le L9_ L ∧ Le H9_ H ∧ Ob 78 H H w2 b17_ yb17__22 ∧ OwnS w.heap.size 5 Gh.no H w2 A5_9 c5_9 x5_9 ∧ True) n22_ _ rfl ⟨(max x15_ 0), 0, (Arr.mk (n := 8) (List.replicate 8 (0 : UInt8))), _, _, rfl, h0_, hI, Le.refl _, Le.refl _, ⟨_, Arr.shut (List.length_replicate ..), ht17_⟩, ho5_9, trivial⟩ fun B22 hB22_ => ?_
          clear h0_
          simp only [pickE, lookE, putE, zipE, args0, Nat.reduceAdd, Nat.zero_add, List.cons_append, List.nil_append, Nat.reduceBEq, cond_true, cond_false] at hB22_
          subst hB22_
          clear ho5_9
          rintro m22_ _ w22_ ⟨x9_22, x23_22, yb17__22, L22_, H22_, rfl, hJ22_, hI22_, hll22_, hhh22_, hqb17__22, ho5_9, -⟩
          replace hI := hI22_
          clear hI22_
          have h := hs22_ m22_ x9_22 x23_22 yb17__22 hJ22_
          clear hs22_ hJ22_
          replace hs1 := hs1.up hhh22_
          replace hll6_ := hll6_.trans hll22_
          replace hhh6_ := hhh6_.trans hhh22_
          replace hll9_ := hll9_.trans hll22_
          replace hhh9_ := hhh9_.trans hhh22_
          replace hll13_ := hll13_.trans hll22_
          replace hhh13_ := hhh13_.trans hhh22_
          replace hll20_ := hll20_.trans hll22_
          replace hhh20_ := hhh20_.trans hhh22_
          obtain ⟨lb17__22_, hlb17__22_, htb17__22⟩ := hqb17__22
          obtain ⟨hnb17__22_, rfl⟩ := Arr.open_ hlb17__22_
          refine W_seq_k fun K23_ hK23_ => ?_
          refine W_region [some 24] rfl ?_
          refine Ops_step (R_lss rfl rfl) rfl rfl ?_
          refine Ops_nil ?_
          refine then_n (hK23_ _ _ ?_)
          clear hK23_ K23_
          refine W_seq_k fun K24_ hK24_ => ?_
          refine W_if rfl (fun hc25_ => ?_) (fun hc25_ => ?_)
          · replace h := h.1 hc25_
            refine W_skip ?_
            refine then_n (hK24_ _ _ ?_)
            clear hK24_ K24_
            refine W_seq_k fun K26_ hK26_ => ?_
            refine W_block ?_
            refine W_seq_k fun K27_ hK27_ => ?_
            refine W_region [some 25, some 10] rfl ?_
            refine Ops_step (R_move rfl) rfl rfl ?_
            refine Ops_step (R_assign rfl) rfl rfl ?_
            refine Ops_nil ?_
            refine then_n (hK27_ _ _ ?_)
            clear hK27_ K27_
            refine W_seq_k fun K28_ hK28_ => ?_
            refine W_region [some 26, some 27, some 28, some 29, some 30, some 31, none] rfl ?_
            refine Ops_step (R_move rfl) rfl rfl ?_
            have hk29_ := h.1
            replace h := h.2
            refine Ops_step (R_sub rfl rfl (wI hk29_.1 hk29_.2)) rfl rfl ?_
            refine Ops_step (R_move rfl) rfl rfl ?_
            refine Ops_step (R_rem rfl rfl (by decide) _root_.rfl) rfl rfl ?_
            refine Ops_step (R_conv Tryd.underlying3 Tryd.underlying5 rfl (cI_8 _)) rfl rfl ?_
            refine Exists.elim h fun x30_ h => ?_
            have hx30_ := h.1
            replace h := h.2
            refine Ops_step (R_indexArr Tryd.underlying78 TOtD.sz5 rfl rfl hx30_.1 (hx30_.ltn hnb17__22_)) rfl rfl ?_
            refine Ops_to0 (R_store TOtD.sz5 rfl rfl htb17__22.blk (arr_lt hx30_) rfl) rfl ?_
            rintro _ w31_ ⟨hB31_, hF31_⟩
            replace hI := hI.tok hF31_ (out1 htb17__22.out) (new1 hge_b17_)
            replace ho5_9 := ho5_9.fr hF31_ (ho5_9.ne htb17__22.blk (by decide))
            replace htb17__22 : Tok H22_ _ b17_ 78 ((Arr.mk (n := 8) (put yb17__22.l (7 - x23_22) (UInt8.ofBitVec (BitVec.ofInt 8 (x9_22.tmod 256))))).l.map vb) := ⟨hB31_.to arr_put, htb17__22.out⟩
            clear hF31_ hB31_
            refine Ops_nil ?_
            refine then_n (hK28_ _ _ ?_)
            clear hK28_ K28_
            refine W_keepB [5, 8, 9, 15, 16, 17, 23] fun B32 hB32_ => ?_
            simp only [pickE, lookE, putE, zipE, args0, Nat.reduceAdd, Nat.zero_add, List.cons_append, List.nil_append, Nat.reduceBEq, cond_true, cond_false] at hB32_
            subst hB32_
            refine W_region [some 32, some 33, some 9] rfl ?_
            refine Ops_step (R_move rfl) rfl rfl ?_
            have hk33_ := h.1
            replace h := h.2
            refine Ops_step (R_quo rfl rfl (by decide) (wI hk33_.1 hk33_.2)) rfl rfl ?_
            refine Ops_step (R_assign rfl) rfl rfl ?_
            refine Ops_nil ?_
            refine block_n ?_
            refine then_n (hK26_ _ _ ?_)
            clear hK26_ K26_
            refine W_region [some 34, some 23] rfl ?_
            have hk34_ := h.1
            replace h := h.2
            refine Ops_step (R_add rfl rfl (wI hk34_.1 hk34_.2)) rfl rfl ?_
            refine Ops_step (R_move rfl) rfl rfl ?_
            refine Ops_nil ?_
            refine then_n ?_
            exact h.elim fun m_ h => ⟨m_, _, h.1, rfl, ⟨(x9_22.tdiv 256), (x23_22 + 1), (Arr.mk (n := 8) (put yb17__22.l (7 - x23_22) (UInt8.ofBitVec (BitVec.ofInt 8 (x9_22.tmod 256))))), _, _, rfl, h.2, hI, hll22_, hhh22_, ⟨_, Arr.shut (put_len hnb17__22_), htb17__22⟩, ho5_9, trivial⟩, ⟨rfl, rfl, rfl, rfl, rfl, trivial⟩⟩
          · replace h := h.2 hc25_
            refine W_exit ?_
            refine then_exit ?_
            clear hK24_ K24_
            refine then_exit ?_
            refine block_exit ?_
            refine then_n ?_
            exact ⟨_, rfl, ⟨yb17__22, _, _, rfl, h, hI, hll20_, hhh20_, ⟨_, Arr.shut hnb17__22_, htb17__22⟩, ho5_9, trivial⟩, ⟨rfl, rfl, rfl, rfl, rfl, trivial⟩⟩
        · simp only [pickE, lookE, putE, zipE, args0, Nat.reduceAdd, Nat.zero_add, List.cons_append, List.nil_append, Nat.reduceBEq, cond_true, cond_false] at hB20_
          subst hB20_
          clear h
          clear ho5_9
          rintro _ w20_ ⟨yb17__20, L20_, H20_, rfl, hJ20_, hI20_, hll20_, hhh20_, hqb17__20, ho5_9, -⟩
          replace hI := hI20_
          clear hI20_
          have h := hr20_ yb17__20 hJ20_
          clear hr20_ hJ20_
          replace hs1 := hs1.up hhh20_
          replace hll6_ := hll6_.trans hll20_
          replace hhh6_ := hhh6_.trans hhh20_
          replace hll9_ := hll9_.trans hll20_
          replace hhh9_ := hhh9_.trans hhh20_
          replace hll13_ := hll13_.trans hll20_
          replace hhh13_ := hhh13_.trans hhh20_
          obtain ⟨lb17__20_, hlb17__20_, htb17__20⟩ := hqb17__20
          obtain ⟨hnb17__20_, rfl⟩ := Arr.open_ hlb17__20_
          refine W_seq_k fun K35_ hK35_ => ?_
          refine W_region [some 35] rfl ?_
          refine Ops_step (R_move rfl) rfl rfl ?_
          refine Ops_nil ?_
          refine then_n (hK35_ _ _ ?_)
          clear hK35_ K35_
          refine W_block ?_
          refine Exists.elim h fun I36_ h => Exists.elim h fun n36_ h => ?_
          have h0_ := h.1
          have hs36_ := h.2
          clear h
          refine W_loopB [8, 15, 16, 17] [5, 35] (fun m vs w2 => ∃ (x5_36 : List UInt8) (A5_36 : Option Addr) (c5_36 : Nat) (x35_36 : Int) (L H : Gh), vs = [.slice A5_36 x5_36.length c5_36, vi x35_36] ∧ I36_ m x5_36 x35_36 ∧ Inv [] G w L H w2 ∧ Le L20_ L ∧ Le H20_ H ∧ OwnS w.heap.size 5 Gh.no H w2 A5_36 c5_36 x5_36 ∧ Tok H w2 b17_ 78 (yb17__20.l.map vb) ∧ True) n36_ _ rfl ⟨x5_9, A5_9, c5_9, 0, _, _, rfl, h0_, hI, Le.refl _, Le.refl _, ho5_9, htb17__20, trivial⟩ fun B36 hB36_ => ?_
          clear h0_
          simp only [pickE, lookE, putE, zipE, args0, Nat.reduceAdd, Nat.zero_add, List.cons_append, List.nil_append, Nat.reduceBEq, cond_true, cond_false] at hB36_
          subst hB36_
          clear htb17__20
          rintro m36_ _ w36_ ⟨x5_36, A5_36, c5_36, x35_36, L36_, H36_, rfl, hJ36_, hI36_, hll36_, hhh36_, ho5_36, htb17__20, -⟩
          replace hI := hI36_
          clear hI36_
          have h := hs36_ m36_ x5_36 x35_36 hJ36_
          clear hs36_ hJ36_
          replace hs1 := hs1.up hhh36_
          replace hll6_ := hll6_.trans hll36_
          replace hhh6_ := hhh6_.trans hhh36_
          replace hll9_ := hll9_.trans hll36_
          replace hhh9_ := hhh9_.trans hhh36_
          replace hll13_ := hll13_.trans hll36_
          replace hhh13_ := hhh13_.trans hhh36_
          refine W_seq_k fun K37_ hK37_ => ?_
          refine W_region [some 36] rfl ?_
          refine Ops_step (R_lss rfl rfl) rfl rfl ?_
          refine Ops_nil ?_
          refine then_n (hK37_ _ _ ?_)
          clear hK37_ K37_
          refine W_seq_k fun K38_ hK38_ => ?_
          refine W_if rfl (fun hc39_ => ?_) (fun hc39_ => ?_)
          · replace h := h.1 hc39_
            refine W_skip ?_
            refine then_n (hK38_ _ _ ?_)
            clear hK38_ K38_
            refine W_seq_k fun K40_ hK40_ => ?_
            refine W_block ?_
            refine W_seq_k fun K41_ hK41_ => ?_
            refine W_region [some 37, some 11] rfl ?_
            refine Ops_step (R_move rfl) rfl rfl ?_
            refine Ops_step (R_assign rfl) rfl rfl ?_
            refine Ops_nil ?_
            refine then_n (hK41_ _ _ ?_)
            clear hK41_ K41_
            refine W_region [some 38, some 39, some 40, some 41, some 42, some 43, some 5] rfl ?_
            refine Ops_step (R_move rfl) rfl rfl ?_
            refine Ops_step (R_move rfl) rfl rfl ?_
            refine Exists.elim h fun x42_ h => ?_
            have hx42_ := h.1
            replace h := h.2
            refine Ops_step (R_indexArr Tryd.underlying78 TOtD.sz5 rfl rfl hx42_.1 (hx42_.ltn hnb17__20_)) rfl rfl ?_
            refine Ops_step (R_loadB TOtD.ag5 rfl htb17__20.blk (arr_at hx42_)) rfl rfl ?_
            have hlo43_ho5_36 := ho5_36.lt
            refine Ops_to (R_buildSlice TOtD.el22 TOtD.zr5 (by decide) (by decide) rfl rfl) rfl rfl ?_
            rintro _ w43_ ⟨b43_, rfl, hb43_, hB43_, hF43_⟩
            have ho43_ : OwnS w.heap.size 5 Gh.no H36_ _ (some ⟨b43_, 0, none⟩) 1 ([x42_] : List UInt8) := OwnS.ofBlk hI.st hb43_ hB43_ (all2_sc' _) rfl (by have := hI.size; omega) (by show 1 ≤ maxLen; decide)
            replace hI := hI.fr0 hF43_
            replace htb17__20 := htb17__20.fr0 hF43_
            replace ho5_36 := ho5_36.fr0 hF43_
            clear hF43_ hB43_
            have hsp43_ho5_36 : ∀ i ∈ bk (some ⟨b43_, 0, none⟩) 1, i ∉ bk A5_36 c5_36 := sep_new (fun i_ hi_ => by have := (bk_of hi_).1; simp only [blkOf, List.mem_singleton] at this; omega) hlo43_ho5_36
            have hk45_ := h.1
            replace h := h.2
            refine Ops_to (X_append (α := UInt8) (xs := x5_36) (ys := ([x42_] : List UInt8)) TOtD.el22 rfl rfl ho5_36 (Srcs.sc (Srcs.ofOwn Tryd.underlying22 ho43_ (by decide))) hI.st hk45_ (by decide) hI.size) rfl rfl ?_
            rintro _ w44_ ⟨A44_, c44_, rfl, ho44_, hF44_, hbk44_⟩
            clear hbk44_
            replace hI := hI.tok hF44_ ho5_36.out (ho5_36.new (Nat.le_refl _))
            replace htb17__20 := htb17__20.fr hF44_ (htb17__20.sep ho5_36 (by decide))
            clear hF44_ ho5_36
            refine Ops_step (R_assign rfl) rfl rfl ?_
            refine Ops_nil ?_
            refine block_n ?_
            refine then_n (hK40_ _ _ ?_)
            clear hK40_ K40_
            refine W_keepB [5, 8, 15, 16, 17, 35] fun B46 hB46_ => ?_
            simp only [pickE, lookE, putE, zipE, args0, Nat.reduceAdd, Nat.zero_add, List.cons_append, List.nil_append, Nat.reduceBEq, cond_true, cond_false] at hB46_
            subst hB46_
            refine W_region [some 44, some 35] rfl ?_
            have hk47_ := h.1
            replace h := h.2
            refine Ops_step (R_add rfl rfl (wI hk47_.1 hk47_.2)) rfl rfl ?_
            refine Ops_step (R_move rfl) rfl rfl ?_
            refine Ops_nil ?_
            refine then_n ?_
            exact h.elim fun m_ h => ⟨m_, _, h.1, rfl, ⟨(x5_36 ++ ([x42_] : List UInt8)), A44_, c44_, (x35_36 + 1), _, _, rfl, h.2, hI, hll36_, hhh36_, ho44_, htb17__20, trivial⟩, ⟨rfl, rfl, rfl, rfl, trivial⟩⟩
          · replace h := h.2 hc39_
            refine W_exit ?_
            refine then_exit ?_
            clear hK38_ K38_
            refine then_exit ?_
            refine block_exit ?_
            refine block_n ?_
            refine then_n ?_
            exact ⟨_, rfl, ⟨x5_36, A5_36, c5_36, _, _, rfl, h, hI, hll13_, hhh13_, ho5_36, trivial⟩, ⟨rfl, rfl, rfl, trivial⟩⟩
      · simp only [pickE, lookE, putE, zipE, args0, Nat.reduceAdd, Nat.zero_add, List.cons_append, List.nil_append, Nat.reduceBEq, cond_true, cond_false] at hB13_
        subst hB13_
        clear h
        rintro _ w13_ ⟨x5_13, A5_13, c5_13, L13_, H13_, rfl, hJ13_, hI13_, hll13_, hhh13_, ho5_13, -⟩
        replace hI := hI13_
        clear hI13_
        have h := hr13_ x5_13 hJ13_
        clear hr13_ hJ13_
        replace hs1 := hs1.up hhh13_
        replace hll6_ := hll6_.trans hll13_
        replace hhh6_ := hhh6_.trans hhh13_
        replace hll9_ := hll9_.trans hll13_
        replace hhh9_ := hhh9_.trans hhh13_
        refine W_region [some 45, some 17] rfl ?_
        have hk48_ := h.1
        replace h := h.2
        refine Ops_step (R_add rfl rfl (wI hk48_.1 hk48_.2)) rfl rfl ?_
        refine Ops_step (R_move rfl) rfl rfl ?_
        refine Ops_nil ?_
        refine then_n ?_
        exact h.elim fun m_ h => ⟨m_, _, h.1, rfl, ⟨x5_13, A5_13, c5_13, (x17_9 + 1), _, _, rfl, h.2, hI, hll9_, hhh9_, ho5_13, trivial⟩, ⟨rfl, rfl, trivial⟩⟩
    · replace h := h.2 hc12_
      refine W_exit ?_
      refine then_exit ?_
      clear hK11_ K11_
      refine then_exit ?_
      refine block_exit ?_
      refine then_n ?_
      exact ⟨_, rfl, ⟨x5_9, A5_9, c5_9, _, _, rfl, h, hI, hll6_, hhh6_, ho5_9, trivial⟩, trivial⟩
  · simp only [pickE, lookE, putE, zipE, args0, Nat.reduceAdd, Nat.zero_add, List.cons_append, List.nil_append, Nat.reduceBEq, cond_true, cond_false] at hB6_
    subst hB6_
    clear h
    rintro _ w6_ ⟨x5_6, A5_6, c5_6, L6_, H6_, rfl, hJ6_, hI6_, hll6_, hhh6_, ho5_6, -⟩
    replace hI := hI6_
    clear hI6_
    have h := hr6_ x5_6 hJ6_
    clear hr6_ hJ6_
    refine W_seq_k fun K49_ hK49_ => ?_
    refine W_region [some 46, some 4] rfl ?_
    refine Ops_step (R_move rfl) rfl rfl ?_
    refine Ops_step (R_assign rfl) rfl rfl ?_
    refine Ops_nil ?_
    refine then_n (hK49_ _ _ ?_)
    clear hK49_ K49_
    refine W_ret ?_
    refine ⟨_, ⟨_, _, rfl, rfl, rfl⟩, ?_⟩
    exact ⟨A5_6, c5_6, x5_6, _, _, rfl, hI, (ho5_6.hl (Le.no _)), h⟩

set_option maxHeartbeats 4000000 in
theorem sealskinref02_PutBytes_ok {G : Gh} {w : World} (hS : St G w) (hg : GL G) {A0 : Option Addr} {c0 : Nat} {x0 : List UInt8} (hc0 : x0.length ≤ c0) (hs0 : Sl G A0 x0) {A1 : Option Addr} {c1 : Nat} {x1 : List UInt8} (hc1 : x1.length ≤ c1) (hs1 : Sl G A1 x1) {Q : (List UInt8) → Prop} (h : sealskinref02_PutBytes x0 x1 Q) : Calls Tryd.prog 34 #[.slice A0 x0.length c0, .slice A1 x1.length c1] w fun e w2 => ∃ (A0 : Option Addr) (c0 : Nat) (r0 : List UInt8) (L H : Gh), e = .returned (.slice A0 r0.length c0) ∧ Inv [] G w L H w2 ∧ OwnS w.heap.size 5 L H w2 A0 c0 r0 ∧ Q r0 := by
  unfold sealskinref02_PutBytes at h
  have hI := Inv.start (M := []) hS
  refine calls_W 12 Tryd.func34 rfl Tryd.ntmps34 rfl [.tmp 4] rfl ?_
  refine W_seq_k fun K1_ hK1_ => ?_
  refine W_region [some 4] rfl ?_
  refine Ops_step (R_assign rfl) rfl rfl ?_
  refine Ops_nil ?_
  refine then_n (hK1_ _ _ ?_)
  clear hK1_ K1_
  refine W_seq_k fun K2_ hK2_ => ?_
  refine W_region [some 5, some 6, some 7, some 8, some 9, some 10, some 11, some 4] rfl ?_
  refine Ops_step (R_move rfl) rfl rfl ?_
  refine Ops_step (R_move rfl) rfl rfl ?_
  refine Ops_step (R_len Tryd.underlying22 rfl rfl) rfl rfl ?_
  refine Ops_to (R_buildSlice TOtD.el48 TOtD.zr3 (by decide) (by decide) rfl rfl) rfl rfl ?_
  rintro _ w3_ ⟨b3_, rfl, hb3_, hB3_, hF3_⟩
  have ho3_ : OwnS w.heap.size 3 Gh.no G _ (some ⟨b3_, 0, none⟩) 1 ([(x1.length : Int)] : List Int) := OwnS.ofBlk hI.st hb3_ hB3_ (all2_sc' _) rfl (by have := hI.size; omega) (by show 1 ≤ maxLen; decide)
  replace hI := hI.fr0 hF3_
  clear hF3_ hB3_
  refine Exists.elim (ho3_.lend hI.st (Le.no _)) fun Hb4_0_ hb4_0_ => ?_
  refine Ops_call (C_func TOtD.bd32 rfl) rfl rfl ?_
  refine (sealskinref02_Put_ok (x0 := x0) (x1 := ([(x1.length : Int)] : List Int)) hb4_0_.1 (hg.up (hI.le.trans hb4_0_.2.1)) hc0 (hs0.up hb4_0_.2.1) (Nat.le_refl _) hb4_0_.2.2 h).mono ?_
  rintro _ w4_ ⟨A4_0, c4_0, r4_0, L4_, H4_, rfl, hI4_, ho4_0, h⟩
  refine Exists.elim (hI.callB hb4_0_.2.1 hI4_ (by simp)) fun L40_ h4_ => Exists.elim h4_ fun H40_ h4_ => ?_
  have hz4_ := hI.size
  replace hI := h4_.1
  have u4_ := h4_.2.1
  have hl4_ := h4_.2.2.1
  have hh4_ := h4_.2.2.2
  clear h4_
  replace hs1 := hs1.up u4_.hh
  replace ho4_0 := OwnS.backS ho4_0 hz4_ hh4_
  clear hI4_ u4_ hl4_
  refine ⟨_, rfl, ?_⟩
  refine Ops_step (R_move rfl) rfl rfl ?_
  have hk6_ := h.1
  replace h := h.2
  refine Ops_to (X_append (α := UInt8) (xs := r4_0) (ys := x1) TOtD.el22 rfl rfl ho4_0 (Srcs.sc (Srcs.ofSl Tryd.underlying22 hs1 hI.st (by decide))) hI.st hk6_ (by decide) hI.size) rfl rfl ?_
  rintro _ w5_ ⟨A5_, c5_, rfl, ho5_, hF5_, hbk5_⟩
  clear hbk5_
  replace hI := hI.tok hF5_ ho4_0.out (ho4_0.new (Nat.le_refl _))
  clear hF5_ ho4_0
  refine Ops_step (R_assign rfl) rfl rfl ?_
  refine Ops_nil ?_
  refine then_n (hK2_ _ _ ?_)
  clear hK2_ K2_
  refine W_keepB [4] fun B7 hB7_ => ?_
  simp only [pickE, lookE, putE, zipE, args0, Nat.reduceAdd, Nat.zero_add, List.cons_append, List.nil_append, Nat.reduceBEq, cond_true, cond_false] at hB7_
  subst hB7_
  refine W_ret ?_
  refine ⟨_, ⟨_, _, rfl, rfl, rfl⟩, ?_⟩
  exact ⟨A5_, c5_, (r4_0 ++ x1), _, _, rfl, hI, (ho5_.hl (Le.no _)), h⟩

set_option maxHeartbeats 4000000 in
theorem sealskinref02_Sum_ok {G : Gh} {w : World} (hS : St G w) (hg : GL G) {A0 : Option Addr} {c0 : Nat} {x0 : List UInt8} (hc0 : x0.length ≤ c0) (hs0 : Sl G A0 x0) {Q : (BitVec 32) → Prop} (h : sealskinref02_Sum x0 Q) : Calls Tryd.prog 36 #[.slice A0 x0.length c0] w fun e w2 => ∃ (r0 : BitVec 32) (L H : Gh), e = .returned (w32 r0) ∧ Inv [] G w L H w2 ∧ Q r0 := by
  unfold sealskinref02_Sum at h
  have hI := Inv.start (M := []) hS
  refine calls_W 30 Tryd.func36 rfl Tryd.ntmps36 rfl [.tmp 2] rfl ?_
  refine W_seq_k fun K1_ hK1_ => ?_
  refine W_region [some 2] rfl ?_
  refine Ops_step (R_assign rfl) rfl rfl ?_
  refine Ops_nil ?_
  refine then_n (hK1_ _ _ ?_)
  clear hK1_ K1_
  refine W_seq_k fun K2_ hK2_ => ?_
  refine W_region [some 3] rfl ?_
  refine Ops_step (R_assign rfl) rfl rfl ?_
  refine Ops_nil ?_
  refine then_n (hK2_ _ _ ?_)
  clear hK2_ K2_
  refine Exists.elim h fun J3_ h => ?_
  have hr3_ := h.1
  replace h := h.2
  refine W_seq_join [] [3] (fun vs w2 => ∃ (x3_3 : BitVec 32) (L H : Gh), vs = [w32 x3_3] ∧ J3_ x3_3 ∧ Inv [] G w L H w2 ∧ Le Gh.no L ∧ Le G H ∧ True) (fun B3 hB3_ => ?_) (fun B3 hB3_ => ?_)
  · simp only [pickE, lookE, putE, zipE, args0, Nat.reduceAdd, Nat.zero_add, List.cons_append, List.nil_append, Nat.reduceBEq, cond_true, cond_false] at hB3_
    subst hB3_
    clear hr3_
    have hll3_ := Le.refl Gh.no
    have hhh3_ := Le.refl G
    refine W_seq_k fun K4_ hK4_ => ?_
    refine W_region [some 7, some 8, some 9] rfl ?_
    refine Ops_step (R_move rfl) rfl rfl ?_
    refine Ops_step (R_len Tryd.underlying22 rfl rfl) rfl rfl ?_
    refine Ops_step (R_move rfl) rfl rfl ?_
    refine Ops_nil ?_
    refine then_n (hK4_ _ _ ?_)
    clear hK4_ K4_
    refine W_block ?_
    refine Exists.elim h fun I5_ h => Exists.elim h fun n5_ h => ?_
    have h0_ := h.1
    have hs5_ := h.2
    clear h
    refine W_loopB [7, 8] [3, 9] (fun m vs w2 => ∃ (x3_5 : BitVec 32) (x9_5 : Int) (L H : Gh), vs = [w32 x3_5, vi x9_5] ∧ I5_ m x3_5 x9_5 ∧ Inv [] G w L H w2 ∧ Le Gh.no L ∧ Le G H ∧ True) n5_ _ rfl ⟨(4294967295#32), 0, _, _, rfl, h0_, hI, Le.refl _, Le.refl _, trivial⟩ fun B5 hB5_ => ?_
    clear h0_
    simp only [pickE, lookE, putE, zipE, args0, Nat.reduceAdd, Nat.zero_add, List.cons_append, List.nil_append, Nat.reduceBEq, cond_true, cond_false] at hB5_
    subst hB5_
    rintro m5_ _ w5_ ⟨x3_5, x9_5, L5_, H5_, rfl, hJ5_, hI5_, hll5_, hhh5_, -⟩
    replace hI := hI5_
    clear hI5_
    have h := hs5_ m5_ x3_5 x9_5 hJ5_
    clear hs5_ hJ5_
    replace hs0 := hs0.up hhh5_
    replace hll3_ := hll3_.trans hll5_
    replace hhh3_ := hhh3_.trans hhh5_
    refine W_seq_k fun K6_ hK6_ => ?_
    refine W_region [some 10] rfl ?_
    refine Ops_step (R_lss rfl rfl) rfl rfl ?_
    refine Ops_nil ?_
    refine then_n (hK6_ _ _ ?_)
    clear hK6_ K6_
    refine W_seq_k fun K7_ hK7_ => ?_
    refine W_if rfl (fun hc8_ => ?_) (fun hc8_ => ?_)
    · replace h := h.1 hc8_
      refine W_skip ?_
      refine then_n (hK7_ _ _ ?_)
      clear hK7_ K7_
      refine Exists.elim h fun J9_ h => ?_
      have hr9_ := h.1
      replace h := h.2
      refine W_seq_join [7, 8, 9] [3] (fun vs w2 => ∃ (x3_9 : BitVec 32) (L H : Gh), vs = [w32 x3_9] ∧ J9_ x3_9 ∧ Inv [] G w L H w2 ∧ Le L5_ L ∧ Le H5_ H ∧ True) (fun B9 hB9_ => ?_) (fun B9 hB9_ => ?_)
      · simp only [pickE, lookE, putE, zipE, args0, Nat.reduceAdd, Nat.zero_add, List.cons_append, List.nil_append, Nat.reduceBEq, cond_true, cond_false] at hB9_
        subst hB9_
        clear hr9_
        have hll9_ := Le.refl L5_
        have hhh9_ := Le.refl H5_
        refine W_block ?_
        refine W_seq_k fun K10_ hK10_ => ?_
        refine W_region [some 11, some 12, some 5] rfl ?_
        refine Exists.elim h fun x11_ h => ?_
        have hx11_ := h.1
        replace h := h.2
        have ha11_ := (hs0.atS hx11_).1
        have hg11_ := (hs0.atS hx11_).2
        refine Ops_step (R_indexSl Tryd.underlying22 TOtD.sz5 rfl rfl hx11_.1 hx11_.lt ha11_) rfl rfl ?_
        refine Ops_step (R_load TOtD.ag5 rfl (hI.st _ _ hg11_)) rfl rfl ?_
        refine Ops_step (R_assign rfl) rfl rfl ?_
        refine Ops_nil ?_
        refine then_n (hK10_ _ _ ?_)
        clear hK10_ K10_
        refine W_seq_k fun K12_ hK12_ => ?_
        refine W_region [some 13, some 14, some 15, some 16, some 17, some 3] rfl ?_
        refine Ops_step (R_move rfl) rfl rfl ?_
        refine Ops_step (R_move rfl) rfl rfl ?_
        refine Ops_step (R_conv Tryd.underlying5 Tryd.underlying51 rfl (c8_32 _)) rfl rfl ?_
        refine Ops_step (R_mul rfl rfl (mul32 (x11_.toBitVec.setWidth 32) (16777216#32))) rfl rfl ?_
        refine Ops_step (R_xor rfl rfl (xor32 x3_5 ((x11_.toBitVec.setWidth 32) * (16777216#32)))) rfl rfl ?_
        refine Ops_step (R_assign rfl) rfl rfl ?_
        refine Ops_nil ?_
        refine then_n (hK12_ _ _ ?_)
        clear hK12_ K12_
        refine W_keepB [3, 7, 8, 9] fun B13 hB13_ => ?_
        simp only [pickE, lookE, putE, zipE, args0, Nat.reduceAdd, Nat.zero_add, List.cons_append, List.nil_append, Nat.reduceBEq, cond_true, cond_false] at hB13_
        subst hB13_
        refine W_seq_k fun K14_ hK14_ => ?_
        refine W_region [some 18] rfl ?_
        refine Ops_step (R_move rfl) rfl rfl ?_
        refine Ops_nil ?_
        refine then_n (hK14_ _ _ ?_)
        clear hK14_ K14_
        refine W_block ?_
        refine Exists.elim h fun I15_ h => Exists.elim h fun n15_ h => ?_
        have h0_ := h.1
        have hs15_ := h.2
        clear h
        refine W_loopB [7, 8, 9] [3, 18] (fun m vs w2 => ∃ (x3_15 : BitVec 32) (x18_15 : Int) (L H : Gh), vs = [w32 x3_15, vi x18_15] ∧ I15_ m x3_15 x18_15 ∧ Inv [] G w L H w2 ∧ Le L5_ L ∧ Le H5_ H ∧ True) n15_ _ rfl ⟨(x3_5 ^^^ ((x11_.toBitVec.setWidth 32) * (16777216#32))), 0, _, _, rfl, h0_, hI, Le.refl _, Le.refl _, trivial⟩ fun B15 hB15_ => ?_
        clear h0_
        simp only [pickE, lookE, putE, zipE, args0, Nat.reduceAdd, Nat.zero_add, List.cons_append, List.nil_append, Nat.reduceBEq, cond_true, cond_false] at hB15_
        subst hB15_
        rintro m15_ _ w15_ ⟨x3_15, x18_15, L15_, H15_, rfl, hJ15_, hI15_, hll15_, hhh15_, -⟩
        replace hI := hI15_
        clear hI15_
        have h := hs15_ m15_ x3_15 x18_15 hJ15_
        clear hs15_ hJ15_
        replace hs0 := hs0.up hhh15_
        replace hll3_ := hll3_.trans hll15_
        replace hhh3_ := hhh3_.trans hhh15_
        replace hll5_ := hll5_.trans hll15_
        replace hhh5_ := hhh5_.trans hhh15_
        replace hll9_ := hll9_.trans hll15_
        replace hhh9_ := hhh9_.trans hhh15_
        refine W_seq_k fun K16_ hK16_ => ?_
        refine W_region [some 19] rfl ?_
        refine Ops_step (R_lss rfl rfl) rfl rfl ?_
        refine Ops_nil ?_
        refine then_n (hK16_ _ _ ?_)
        clear hK16_ K16_
        refine W_seq_k fun K17_ hK17_ => ?_
        refine W_if rfl (fun hc18_ => ?_) (fun hc18_ => ?_)
        · replace h := h.1 hc18_
          refine W_skip ?_
          refine then_n (hK17_ _ _ ?_)
          clear hK17_ K17_
          refine Exists.elim h fun J19_ h => ?_
          have hr19_ := h.1
          replace h := h.2
          refine W_seq_join [7, 8, 9, 18] [3] (fun vs w2 => ∃ (x3_19 : BitVec 32) (L H : Gh), vs = [w32 x3_19] ∧ J19_ x3_19 ∧ Inv [] G w L H w2 ∧ Le L15_ L ∧ Le H15_ H ∧ True) (fun B19 hB19_ => ?_) (fun B19 hB19_ => ?_)
          · simp only [pickE, lookE, putE, zipE, args0, Nat.reduceAdd, Nat.zero_add, List.cons_append, List.nil_append, Nat.reduceBEq, cond_true, cond_false] at hB19_
            subst hB19_
            clear hr19_
            have hll19_ := Le.refl L15_
            have hhh19_ := Le.refl H15_
            refine W_block ?_
            refine W_seq_k fun K20_ hK20_ => ?_
            refine W_region [some 20, some 21, some 6] rfl ?_
            refine Ops_step (R_move rfl) rfl rfl ?_
            refine Ops_step (R_geq rfl rfl) rfl rfl ?_
            refine Ops_step (R_assign rfl) rfl rfl ?_
            refine Ops_nil ?_
            refine then_n (hK20_ _ _ ?_)
            clear hK20_ K20_
            refine W_seq_k fun K21_ hK21_ => ?_
            refine W_region [some 22, some 23, some 3] rfl ?_
            refine Ops_step (R_move rfl) rfl rfl ?_
            refine Ops_step (R_mul rfl rfl (mul32 (2#32) x3_15)) rfl rfl ?_
            refine Ops_step (R_assign rfl) rfl rfl ?_
            refine Ops_nil ?_
            refine then_n (hK21_ _ _ ?_)
            clear hK21_ K21_
            refine W_seq_k fun K22_ hK22_ => ?_
            refine W_region [some 24] rfl ?_
            refine Ops_step (R_move rfl) rfl rfl ?_
            refine Ops_nil ?_
            refine then_n (hK22_ _ _ ?_)
            clear hK22_ K22_
            refine W_keepB [3, 7, 8, 9, 18, 24] fun B23 hB23_ => ?_
            simp only [pickE, lookE, putE, zipE, args0, Nat.reduceAdd, Nat.zero_add, List.cons_append, List.nil_append, Nat.reduceBEq, cond_true, cond_false] at hB23_
            subst hB23_
            refine W_if rfl (fun hc24_ => ?_) (fun hc24_ => ?_)
            · replace h := h.1 hc24_
              refine W_region [some 25, some 26, some 3] rfl ?_
              refine Ops_step (R_move rfl) rfl rfl ?_
              refine Ops_step (R_xor rfl rfl (xor32 ((2#32) * x3_15) (2168537515#32))) rfl rfl ?_
              refine Ops_step (R_assign rfl) rfl rfl ?_
              refine Ops_nil ?_
              refine block_n ?_
              refine then_n ?_
              exact ⟨_, rfl, ⟨(((2#32) * x3_15) ^^^ (2168537515#32)), _, _, rfl, h, hI, hll19_, hhh19_, trivial⟩, ⟨rfl, rfl, rfl, rfl, trivial⟩⟩
            · replace h := h.2 hc24_
              refine W_skip ?_
              refine block_n ?_
              refine then_n ?_
              exact ⟨_, rfl, ⟨((2#32) * x3_15), _, _, rfl, h, hI, hll19_, hhh19_, trivial⟩, ⟨rfl, rfl, rfl, rfl, trivial⟩⟩
          · simp only [pickE, lookE, putE, zipE, args0, Nat.reduceAdd, Nat.zero_add, List.cons_append, List.nil_append, Nat.reduceBEq, cond_true, cond_false] at hB19_
            subst hB19_
            clear h
            rintro _ w19_ ⟨x3_19, L19_, H19_, rfl, hJ19_, hI19_, hll19_, hhh19_, -⟩
            replace hI := hI19_
            clear hI19_
            have h := hr19_ x3_19 hJ19_
            clear hr19_ hJ19_
            replace hs0 := hs0.up hhh19_
            replace hll3_ := hll3_.trans hll19_
            replace hhh3_ := hhh3_.trans hhh19_
            replace hll5_ := hll5_.trans hll19_
            replace hhh5_ := hhh5_.trans hhh19_
            replace hll9_ := hll9_.trans hll19_
            replace hhh9_ := hhh9_.trans hhh19_
            replace hll15_ := hll15_.trans hll19_
            replace hhh15_ := hhh15_.trans hhh19_
            refine W_region [some 27, some 18] rfl ?_
            have hk25_ := h.1
            replace h := h.2
            refine Ops_step (R_add rfl rfl (wI hk25_.1 hk25_.2)) rfl rfl ?_
            refine Ops_step (R_move rfl) rfl rfl ?_
            refine Ops_nil ?_
            refine then_n ?_
            exact h.elim fun m_ h => ⟨m_, _, h.1, rfl, ⟨x3_19, (x18_15 + 1), _, _, rfl, h.2, hI, hll15_, hhh15_, trivial⟩, ⟨rfl, rfl, rfl, trivial⟩⟩
        · replace h := h.2 hc18_
          refine W_exit ?_
          refine then_exit ?_
          clear hK17_ K17_
          refine then_exit ?_
          refine block_exit ?_
          refine block_n ?_
          refine then_n ?_
          exact ⟨_, rfl, ⟨x3_15, _, _, rfl, h, hI, hll9_, hhh9_, trivial⟩, ⟨rfl, rfl, rfl, trivial⟩⟩
      · simp only [pickE, lookE, putE, zipE, args0, Nat.reduceAdd, Nat.zero_add, List.cons_append, List.nil_append, Nat.reduceBEq, cond_true, cond_false] at hB9_
        subst hB9_
        clear h
        rintro _ w9_ ⟨x3_9, L9_, H9_, rfl, hJ9_, hI9_, hll9_, hhh9_, -⟩
        replace hI := hI9_
        clear hI9_
        have h := hr9_ x3_9 hJ9_
        clear hr9_ hJ9_
        replace hs0 := hs0.up hhh9_
        replace hll3_ := hll3_.trans hll9_
        replace hhh3_ := hhh3_.trans hhh9_
        replace hll5_ := hll5_.trans hll9_
        replace hhh5_ := hhh5_.trans hhh9_
        refine W_region [some 28, some 9] rfl ?_
        have hk26_ := h.1
        replace h := h.2
        refine Ops_step (R_add rfl rfl (wI hk26_.1 hk26_.2)) rfl rfl ?_
        refine Ops_step (R_move rfl) rfl rfl ?_
        refine Ops_nil ?_
        refine then_n ?_
        exact h.elim fun m_ h => ⟨m_, _, h.1, rfl, ⟨x3_9, (x9_5 + 1), _, _, rfl, h.2, hI, hll5_, hhh5_, trivial⟩, ⟨rfl, rfl, trivial⟩⟩
    · replace h := h.2 hc8_
      refine W_exit ?_
      refine then_exit ?_
      clear hK7_ K7_
      refine then_exit ?_
      refine block_exit ?_
      refine then_n ?_
      exact ⟨_, rfl, ⟨x3_5, _, _, rfl, h, hI, hll3_, hhh3_, trivial⟩, trivial⟩
  · simp only [pickE, lookE, putE, zipE, args0, Nat.reduceAdd, Nat.zero_add, List.cons_append, List.nil_append, Nat.reduceBEq, cond_true, cond_false] at hB3_
    subst hB3_
    clear h
    rintro _ w3_ ⟨x3_3, L3_, H3_, rfl, hJ3_, hI3_, hll3_, hhh3_, -⟩
    replace hI := hI3_
    clear hI3_
    have h := hr3_ x3_3 hJ3_
    clear hr3_ hJ3_
    refine W_seq_k fun K27_ hK27_ => ?_
    refine W_region [some 29, some 2] rfl ?_
    refine Ops_step (R_move rfl) rfl rfl ?_
    refine Ops_step (R_assign rfl) rfl rfl ?_
    refine Ops_nil ?_
    refine then_n (hK27_ _ _ ?_)
    clear hK27_ K27_
    refine W_ret ?_
    refine ⟨_, ⟨_, _, rfl, rfl, rfl⟩, ?_⟩
    exact ⟨x3_3, _, _, rfl, hI, h⟩

set_option maxHeartbeats 4000000 in
theorem sealskinref02_Seal_ok {G : Gh} {w : World} (hS : St G w) (hg : GL G) {A0 : Option Addr} {c0 : Nat} {x0 : List UInt8} (hc0 : x0.length ≤ c0) (hs0 : Sl G A0 x0) {Q : (List UInt8) → Int → Prop} (h : sealskinref02_Seal x0 Q) : Calls Tryd.prog 33 #[.slice A0 x0.length c0] w fun e w2 => ∃ (A0 : Option Addr) (c0 : Nat) (r0 : List UInt8) (r1 : Int) (L H : Gh), e = .returned (.tuple #[.slice A0 r0.length c0, vi r1]) ∧ Inv [] G w L H w2 ∧ OwnS w.heap.size 5 L H w2 A0 c0 r0 ∧ Q r0 r1 := by
  unfold sealskinref02_Seal at h
  have hI := Inv.start (M := []) hS
  refine calls_W 27 Tryd.func33 rfl Tryd.ntmps33 rfl [.tmp 2, .tmp 3] rfl ?_
  refine W_seq_k fun K1_ hK1_ => ?_
  refine W_region [some 2, some 3] rfl ?_
  refine Ops_step (R_assign rfl) rfl rfl ?_
  refine Ops_step (R_assign rfl) rfl rfl ?_
  refine Ops_nil ?_
  refine then_n (hK1_ _ _ ?_)
  clear hK1_ K1_
  refine W_seq_k fun K2_ hK2_ => ?_
  refine W_seq_k fun K3_ hK3_ => ?_
  refine W_region [some 6, some 7, some 8] rfl ?_
  refine Ops_step (R_move rfl) rfl rfl ?_
  refine Ops_step (R_len Tryd.underlying22 rfl rfl) rfl rfl ?_
  refine Ops_step (R_gtr rfl rfl) rfl rfl ?_
  refine Ops_nil ?_
  refine then_n (hK3_ _ _ ?_)
  clear hK3_ K3_
  refine W_if rfl (fun hc4_ => ?_) (fun hc4_ => ?_)
  · replace h := h.1 hc4_
    refine W_seq_k fun K5_ hK5_ => ?_
    refine W_region [some 2, some 3] rfl ?_
    refine Ops_step (R_assign rfl) rfl rfl ?_
    refine Ops_step (R_assign rfl) rfl rfl ?_
    refine Ops_nil ?_
    refine then_n (hK5_ _ _ ?_)
    clear hK5_ K5_
    refine W_ret ?_
    refine then_ret ?_
    clear hK2_ K2_
    refine ⟨_, ⟨_, _, rfl, rfl, ⟨_, _, rfl, rfl, rfl⟩⟩, ?_⟩
    exact ⟨none, 0, [], 4, _, _, rfl, hI, OwnS.nil, h⟩
  · replace h := h.2 hc4_
    refine W_skip ?_
    refine then_n (hK2_ _ _ ?_)
    clear hK2_ K2_
    refine W_seq_k fun K6_ hK6_ => ?_
    refine W_region [some 9, some 10, some 4] rfl ?_
    refine Ops_step (R_move rfl) rfl rfl ?_
    refine Ops_call (C_func TOtD.bd34 rfl) rfl rfl ?_
    refine (sealskinref02_PutBytes_ok (x0 := []) (x1 := x0) hI.st (hg.up hI.le) (Nat.le_refl 0) Sl.nil hc0 hs0 h).mono ?_
    rintro _ w7_ ⟨A7_0, c7_0, r7_0, L7_, H7_, rfl, hI7_, ho7_0, h⟩
    refine Exists.elim (hI.call hI7_ (by simp)) fun L70_ h7_ => ?_
    have hz7_ := hI.size
    replace hI := h7_.1
    have u7_ := h7_.2.1
    have hl7_ := h7_.2.2
    clear h7_
    replace ho7_0 := OwnS.backS ho7_0 hz7_ (Le.refl _)
    clear hI7_ u7_ hl7_
    refine ⟨_, rfl, ?_⟩
    refine Ops_step (R_assign rfl) rfl rfl ?_
    refine Ops_nil ?_
    refine then_n (hK6_ _ _ ?_)
    clear hK6_ K6_
    refine W_keepB [4] fun B8 hB8_ => ?_
    simp only [pickE, lookE, putE, zipE, args0, Nat.reduceAdd, Nat.zero_add, List.cons_append, List.nil_append, Nat.reduceBEq, cond_true, cond_false] at hB8_
    subst hB8_
    refine W_seq_k fun K9_ hK9_ => ?_
    refine W_region [some 11, some 12, some 5] rfl ?_
    refine Ops_step (R_move rfl) rfl rfl ?_
    refine Exists.elim (ho7_0.lend hI.st (Le.no _)) fun Hb10_0_ hb10_0_ => ?_
    refine Ops_call (C_func TOtD.bd36 rfl) rfl rfl ?_
    refine (sealskinref02_Sum_ok (x0 := r7_0) hb10_0_.1 (hg.up (hI.le.trans hb10_0_.2.1)) ho7_0.cap hb10_0_.2.2 h).mono ?_
    rintro _ w10_ ⟨r10_0, L10_, H10_, rfl, hI10_, h⟩
    refine Exists.elim (hI.callB hb10_0_.2.1 hI10_ (by simp)) fun L100_ h10_ => Exists.elim h10_ fun H100_ h10_ => ?_
    have hz10_ := hI.size
    replace hI := h10_.1
    have u10_ := h10_.2.1
    have hl10_ := h10_.2.2.1
    have hh10_ := h10_.2.2.2
    clear h10_
    replace ho7_0 := ho7_0.up (Le.refl _) u10_ (by simp)
    clear hI10_ u10_ hl10_
    refine ⟨_, rfl, ?_⟩
    refine Ops_step (R_assign rfl) rfl rfl ?_
    refine Ops_nil ?_
    refine then_n (hK9_ _ _ ?_)
    clear hK9_ K9_
    refine W_seq_k fun K11_ hK11_ => ?_
    refine W_region [some 13, some 14, some 15, some 16, some 17, some 18, some 19, some 20, some 21, some 22, some 23, some 24, some 25, some 26, some 2, some 3] rfl ?_
    refine Ops_step (R_move rfl) rfl rfl ?_
    refine Ops_step (R_move rfl) rfl rfl ?_
    refine Ops_step (R_quo rfl rfl (by decide) (quo32 r10_0 (16777216#32))) rfl rfl ?_
    refine Ops_step (R_conv Tryd.underlying51 Tryd.underlying5 rfl (c32_8 _)) rfl rfl ?_
    refine Ops_step (R_move rfl) rfl rfl ?_
    refine Ops_step (R_quo rfl rfl (by decide) (quo32 r10_0 (65536#32))) rfl rfl ?_
    refine Ops_step (R_conv Tryd.underlying51 Tryd.underlying5 rfl (c32_8 _)) rfl rfl ?_
    refine Ops_step (R_move rfl) rfl rfl ?_
    refine Ops_step (R_quo rfl rfl (by decide) (quo32 r10_0 (256#32))) rfl rfl ?_
    refine Ops_step (R_conv Tryd.underlying51 Tryd.underlying5 rfl (c32_8 _)) rfl rfl ?_
    refine Ops_step (R_move rfl) rfl rfl ?_
    refine Ops_step (R_conv Tryd.underlying51 Tryd.underlying5 rfl (c32_8 _)) rfl rfl ?_
    have hlo12_ho7_0 := ho7_0.lt
    refine Ops_to (R_buildSlice TOtD.el22 TOtD.zr5 (by decide) (by decide) rfl rfl) rfl rfl ?_
    rintro _ w12_ ⟨b12_, rfl, hb12_, hB12_, hF12_⟩
    have ho12_ : OwnS w.heap.size 5 Gh.no H100_ _ (some ⟨b12_, 0, none⟩) 4 ([(UInt8.ofBitVec ((r10_0 / (16777216#32)).setWidth 8)), (UInt8.ofBitVec ((r10_0 / (65536#32)).setWidth 8)), (UInt8.ofBitVec ((r10_0 / (256#32)).setWidth 8)), (UInt8.ofBitVec (r10_0.setWidth 8))] : List UInt8) := OwnS.ofBlk hI.st hb12_ hB12_ (all2_sc' _) rfl (by have := hI.size; omega) (by show 4 ≤ maxLen; decide)
    replace hI := hI.fr0 hF12_
    replace ho7_0 := ho7_0.fr0 hF12_
    clear hF12_ hB12_
    have hsp12_ho7_0 : ∀ i ∈ bk (some ⟨b12_, 0, none⟩) 4, i ∉ bk A7_0 c7_0 := sep_new (fun i_ hi_ => by have := (bk_of hi_).1; simp only [blkOf, List.mem_singleton] at this; omega) hlo12_ho7_0
    have hk14_ := h.1
    replace h := h.2
    refine Ops_to (X_append (α := UInt8) (xs := r7_0) (ys := ([(UInt8.ofBitVec ((r10_0 / (16777216#32)).setWidth 8)), (UInt8.ofBitVec ((r10_0 / (65536#32)).setWidth 8)), (UInt8.ofBitVec ((r10_0 / (256#32)).setWidth 8)), (UInt8.ofBitVec (r10_0.setWidth 8))] : List UInt8)) TOtD.el22 rfl rfl ho7_0 (Srcs.sc (Srcs.ofOwn Tryd.underlying22 ho12_ (by decide))) hI.st hk14_ (by decide) hI.size) rfl rfl ?_
    rintro _ w13_ ⟨A13_, c13_, rfl, ho13_, hF13_, hbk13_⟩
    clear hbk13_
    replace hI := hI.tok hF13_ ho7_0.out (ho7_0.new (Nat.le_refl _))
    clear hF13_ ho7_0
    refine Ops_step (R_assign rfl) rfl rfl ?_
    refine Ops_step (R_assign rfl) rfl rfl ?_
    refine Ops_nil ?_
    refine then_n (hK11_ _ _ ?_)
    clear hK11_ K11_
    refine W_keepB [2, 3] fun B15 hB15_ => ?_
    simp only [pickE, lookE, putE, zipE, args0, Nat.reduceAdd, Nat.zero_add, List.cons_append, List.nil_append, Nat.reduceBEq, cond_true, cond_false] at hB15_
    subst hB15_
    refine W_ret ?_
    refine ⟨_, ⟨_, _, rfl, rfl, ⟨_, _, rfl, rfl, rfl⟩⟩, ?_⟩
    exact ⟨A13_, c13_, (r7_0 ++ ([(UInt8.ofBitVec ((r10_0 / (16777216#32)).setWidth 8)), (UInt8.ofBitVec ((r10_0 / (65536#32)).setWidth 8)), (UInt8.ofBitVec ((r10_0 / (256#32)).setWidth 8)), (UInt8.ofBitVec (r10_0.setWidth 8))] : List UInt8)), 0, _, _, rfl, hI, (ho13_.hl (Le.no _)), h⟩

set_option maxHeartbeats 4000000 in
theorem sealskinref02_number_ok {G : Gh} {w : World} (hS : St G w) (hg : GL G) {A0 : Option Addr} {c0 : Nat} {x0 : List UInt8} (hc0 : x0.length ≤ c0) (hs0 : Sl G A0 x0) {Q : Int → Int → Prop} (h : sealskinref02_number x0 Q) : Calls Tryd.prog 56 #[.slice A0 x0.length c0] w fun e w2 => ∃ (r0 : Int) (r1 : Int) (L H : Gh), e = .returned (.tuple #[vi r0, vi r1]) ∧ Inv [] G w L H w2 ∧ Q r0 r1 := by
  unfold sealskinref02_number at h
  have hI := Inv.start (M := []) hS
  refine calls_W 26 Tryd.func56 rfl Tryd.ntmps56 rfl [.tmp 2, .tmp 3] rfl ?_
  refine W_seq_k fun K1_ hK1_ => ?_
  refine W_region [some 2, some 3] rfl ?_
  refine Ops_step (R_assign rfl) rfl rfl ?_
  refine Ops_step (R_assign rfl) rfl rfl ?_
  refine Ops_nil ?_
  refine then_n (hK1_ _ _ ?_)
  clear hK1_ K1_
  refine W_seq_k fun K2_ hK2_ => ?_
  refine W_seq_k fun K3_ hK3_ => ?_
  refine W_region [some 6, some 7, some 8] rfl ?_
  refine Ops_step (R_move rfl) rfl rfl ?_
  refine Ops_step (R_len Tryd.underlying22 rfl rfl) rfl rfl ?_
  refine Ops_step (R_lss rfl rfl) rfl rfl ?_
  refine Ops_nil ?_
  refine then_n (hK3_ _ _ ?_)
  clear hK3_ K3_
  refine W_if rfl (fun hc4_ => ?_) (fun hc4_ => ?_)
  · replace h := h.1 hc4_
    refine W_seq_k fun K5_ hK5_ => ?_
    refine W_region [some 2, some 3] rfl ?_
    refine Ops_step (R_assign rfl) rfl rfl ?_
    refine Ops_step (R_assign rfl) rfl rfl ?_
    refine Ops_nil ?_
    refine then_n (hK5_ _ _ ?_)
    clear hK5_ K5_
    refine W_ret ?_
    refine then_ret ?_
    clear hK2_ K2_
    refine ⟨_, ⟨_, _, rfl, rfl, ⟨_, _, rfl, rfl, rfl⟩⟩, ?_⟩
    exact ⟨0, 2, _, _, rfl, hI, h⟩
  · replace h := h.2 hc4_
    refine W_skip ?_
    refine then_n (hK2_ _ _ ?_)
    clear hK2_ K2_
    refine W_seq_k fun K6_ hK6_ => ?_
    refine W_seq_k fun K7_ hK7_ => ?_
    refine W_region [some 9, some 10, some 11, some 12] rfl ?_
    refine Ops_step (R_move rfl) rfl rfl ?_
    refine Exists.elim h fun x8_ h => ?_
    have hx8_ := h.1
    replace h := h.2
    have ha8_ := (hs0.atS hx8_).1
    have hg8_ := (hs0.atS hx8_).2
    refine Ops_step (R_indexSl Tryd.underlying22 TOtD.sz5 rfl rfl hx8_.1 hx8_.lt ha8_) rfl rfl ?_
    refine Ops_step (R_load TOtD.ag5 rfl (hI.st _ _ hg8_)) rfl rfl ?_
    refine Ops_step (R_gtr rfl rfl) rfl rfl ?_
    refine Ops_nil ?_
    refine then_n (hK7_ _ _ ?_)
    clear hK7_ K7_
    refine W_keepB [0, 12] fun B9 hB9_ => ?_
    simp only [pickE, lookE, putE, zipE, args0, Nat.reduceAdd, Nat.zero_add, List.cons_append, List.nil_append, Nat.reduceBEq, cond_true, cond_false] at hB9_
    subst hB9_
    refine W_if rfl (fun hc10_ => ?_) (fun hc10_ => ?_)
    · replace h := h.1 hc10_
      refine W_seq_k fun K11_ hK11_ => ?_
      refine W_region [some 2, some 3] rfl ?_
      refine Ops_step (R_assign rfl) rfl rfl ?_
      refine Ops_step (R_assign rfl) rfl rfl ?_
      refine Ops_nil ?_
      refine then_n (hK11_ _ _ ?_)
      clear hK11_ K11_
      refine W_ret ?_
      refine then_ret ?_
      clear hK6_ K6_
      refine ⟨_, ⟨_, _, rfl, rfl, ⟨_, _, rfl, rfl, rfl⟩⟩, ?_⟩
      exact ⟨0, 5, _, _, rfl, hI, h⟩
    · replace h := h.2 hc10_
      refine W_skip ?_
      refine then_n (hK6_ _ _ ?_)
      clear hK6_ K6_
      refine W_seq_k fun K12_ hK12_ => ?_
      refine W_region [some 4] rfl ?_
      refine Ops_step (R_assign rfl) rfl rfl ?_
      refine Ops_nil ?_
      refine then_n (hK12_ _ _ ?_)
      clear hK12_ K12_
      refine Exists.elim h fun J13_ h => ?_
      have hr13_ := h.1
      replace h := h.2
      refine W_seq_join [] [4] (fun vs w2 => ∃ (x4_13 : Int) (L H : Gh), vs = [vi x4_13] ∧ J13_ x4_13 ∧ Inv [] G w L H w2 ∧ Le Gh.no L ∧ Le G H ∧ True) (fun B13 hB13_ => ?_) (fun B13 hB13_ => ?_)
      · simp only [pickE, lookE, putE, zipE, args0, Nat.reduceAdd, Nat.zero_add, List.cons_append, List.nil_append, Nat.reduceBEq, cond_true, cond_false] at hB13_
        subst hB13_
        clear hr13_
        have hll13_ := Le.refl Gh.no
        have hhh13_ := Le.refl G
        refine W_seq_k fun K14_ hK14_ => ?_
        refine W_region [some 13] rfl ?_
        refine Ops_step (R_move rfl) rfl rfl ?_
        refine Ops_nil ?_
        refine then_n (hK14_ _ _ ?_)
        clear hK14_ K14_
        refine W_block ?_
        refine Exists.elim h fun I15_ h => Exists.elim h fun n15_ h => ?_
        have h0_ := h.1
        have hs15_ := h.2
        clear h
        refine W_loopB [0] [4, 13] (fun m vs w2 => ∃ (x4_15 : Int) (x13_15 : Int) (L H : Gh), vs = [vi x4_15, vi x13_15] ∧ I15_ m x4_15 x13_15 ∧ Inv [] G w L H w2 ∧ Le Gh.no L ∧ Le G H ∧ True) n15_ _ rfl ⟨0, 0, _, _, rfl, h0_, hI, Le.refl _, Le.refl _, trivial⟩ fun B15 hB15_ => ?_
        clear h0_
        simp only [pickE, lookE, putE, zipE, args0, Nat.reduceAdd, Nat.zero_add, List.cons_append, List.nil_append, Nat.reduceBEq, cond_true, cond_false] at hB15_
        subst hB15_
        rintro m15_ _ w15_ ⟨x4_15, x13_15, L15_, H15_, rfl, hJ15_, hI15_, hll15_, hhh15_, -⟩
        replace hI := hI15_
        clear hI15_
        have h := hs15_ m15_ x4_15 x13_15 hJ15_
        clear hs15_ hJ15_
        replace hs0 := hs0.up hhh15_
        replace hll13_ := hll13_.trans hll15_
        replace hhh13_ := hhh13_.trans hhh15_
        refine W_seq_k fun K16_ hK16_ => ?_
        refine W_region [some 14] rfl ?_
        refine Ops_step (R_lss rfl rfl) rfl rfl ?_
        refine Ops_nil ?_
        refine then_n (hK16_ _ _ ?_)
        clear hK16_ K16_
        refine W_seq_k fun K17_ hK17_ => ?_
        refine W_if rfl (fun hc18_ => ?_) (fun hc18_ => ?_)
        · replace h := h.1 hc18_
          refine W_skip ?_
          refine then_n (hK17_ _ _ ?_)
          clear hK17_ K17_
          refine W_seq_k fun K19_ hK19_ => ?_
          refine W_block ?_
          refine W_seq_k fun K20_ hK20_ => ?_
          refine W_region [some 15, some 5] rfl ?_
          refine Ops_step (R_move rfl) rfl rfl ?_
          refine Ops_step (R_assign rfl) rfl rfl ?_
          refine Ops_nil ?_
          refine then_n (hK20_ _ _ ?_)
          clear hK20_ K20_
          refine W_region [some 16, some 17, some 18, some 19, some 20, some 21, some 22, some 23, some 4] rfl ?_
          refine Ops_step (R_move rfl) rfl rfl ?_
          have hk21_ := h.1
          replace h := h.2
          refine Ops_step (R_mul rfl rfl (wI hk21_.1 hk21_.2)) rfl rfl ?_
          refine Ops_step (R_move rfl) rfl rfl ?_
          refine Ops_step (R_move rfl) rfl rfl ?_
          refine Exists.elim h fun x22_ h => ?_
          have hx22_ := h.1
          replace h := h.2
          have ha22_ := (hs0.atS hx22_).1
          have hg22_ := (hs0.atS hx22_).2
          refine Ops_step (R_indexSl Tryd.underlying22 TOtD.sz5 rfl rfl hx22_.1 hx22_.lt ha22_) rfl rfl ?_
          refine Ops_step (R_load TOtD.ag5 rfl (hI.st _ _ hg22_)) rfl rfl ?_
          refine Ops_step (R_conv Tryd.underlying5 Tryd.underlying3 rfl (c8_I _)) rfl rfl ?_
          have hk23_ := h.1
          replace h := h.2
          refine Ops_step (R_add rfl rfl (wI hk23_.1 hk23_.2)) rfl rfl ?_
          refine Ops_step (R_assign rfl) rfl rfl ?_
          refine Ops_nil ?_
          refine block_n ?_
          refine then_n (hK19_ _ _ ?_)
          clear hK19_ K19_
          refine W_keepB [0, 4, 13] fun B24 hB24_ => ?_
          simp only [pickE, lookE, putE, zipE, args0, Nat.reduceAdd, Nat.zero_add, List.cons_append, List.nil_append, Nat.reduceBEq, cond_true, cond_false] at hB24_
          subst hB24_
          refine W_region [some 24, some 13] rfl ?_
          have hk25_ := h.1
          replace h := h.2
          refine Ops_step (R_add rfl rfl (wI hk25_.1 hk25_.2)) rfl rfl ?_
          refine Ops_step (R_move rfl) rfl rfl ?_
          refine Ops_nil ?_
          refine then_n ?_
          exact h.elim fun m_ h => ⟨m_, _, h.1, rfl, ⟨((256 * x4_15) + (x22_.toNat : Int)), (x13_15 + 1), _, _, rfl, h.2, hI, hll15_, hhh15_, trivial⟩, ⟨rfl, trivial⟩⟩
        · replace h := h.2 hc18_
          refine W_exit ?_
          refine then_exit ?_
          clear hK17_ K17_
          refine then_exit ?_
          refine block_exit ?_
          refine then_n ?_
          exact ⟨_, rfl, ⟨x4_15, _, _, rfl, h, hI, hll13_, hhh13_, trivial⟩, trivial⟩
      · simp only [pickE, lookE, putE, zipE, args0, Nat.reduceAdd, Nat.zero_add, List.cons_append, List.nil_append, Nat.reduceBEq, cond_true, cond_false] at hB13_
        subst hB13_
        clear h
        rintro _ w13_ ⟨x4_13, L13_, H13_, rfl, hJ13_, hI13_, hll13_, hhh13_, -⟩
        replace hI := hI13_
        clear hI13_
        have h := hr13_ x4_13 hJ13_
        clear hr13_ hJ13_
        refine W_seq_k fun K26_ hK26_ => ?_
        refine W_region [some 25, some 2, some 3] rfl ?_
        refine Ops_step (R_move rfl) rfl rfl ?_
        refine Ops_step (R_assign rfl) rfl rfl ?_
        refine Ops_step (R_assign rfl) rfl rfl ?_
        refine Ops_nil ?_
        refine then_n (hK26_ _ _ ?_)
        clear hK26_ K26_
        refine W_ret ?_
        refine ⟨_, ⟨_, _, rfl, rfl, ⟨_, _, rfl, rfl, rfl⟩⟩, ?_⟩
        exact ⟨x4_13, 0, _, _, rfl, hI, h⟩

set_option maxHeartbeats 4000000 in
theorem sealskinref02_Reader_Number_ok {G : Gh} {w : World} (hS : St G w) (hg : GL G) {d0 tb0 : Nat} {x0 : sealskinref02_Reader} (hr0 : Ob tb0 G G w d0 x0) {Q : Int → sealskinref02_Reader → Prop} (h : sealskinref02_Reader_Number x0 Q) : Calls Tryd.prog 39 #[.pointer (some ⟨d0, 0, none⟩)] w fun e w2 => ∃ (r0 : Int) (y0 : sealskinref02_Reader) (L H : Gh), e = .returned (vi r0) ∧ Inv [d0] G w L H w2 ∧ Ob tb0 H H w2 d0 y0 ∧ Q r0 y0 := by
  unfold sealskinref02_Reader_Number at h
  have hI := Inv.start (M := [d0]) hS
  refine calls_W 37 Tryd.func39 rfl Tryd.ntmps39 rfl [.tmp 2] rfl ?_
  obtain ⟨l0_, hl0_, ht0⟩ := hr0
  obtain ⟨A0_1, c0_1, rfl, ⟨hc0_1, hs0_1⟩⟩ := hl0_
  have hlt_d0 := ht0.blk.lt
  refine W_seq_k fun K1_ hK1_ => ?_
  refine W_region [some 2] rfl ?_
  refine Ops_step (R_assign rfl) rfl rfl ?_
  refine Ops_nil ?_
  refine then_n (hK1_ _ _ ?_)
  clear hK1_ K1_
  refine W_seq_k fun K2_ hK2_ => ?_
  refine W_seq_k fun K3_ hK3_ => ?_
  refine W_region [some 5, some 6, some 7, some 8, some 9] rfl ?_
  refine Ops_step (R_move rfl) rfl rfl ?_
  refine Ops_step (R_nilCheck rfl) rfl rfl ?_
  refine Ops_step (R_fieldAddr TOtD.fo65_2 rfl) rfl rfl ?_
  refine Ops_step (R_loadB (v := vi x0.E_) TOtD.ag35 rfl ht0.blk rfl) rfl rfl ?_
  refine Ops_step (R_neq rfl rfl) rfl rfl ?_
  refine Ops_nil ?_
  refine then_n (hK3_ _ _ ?_)
  clear hK3_ K3_
  refine W_if rfl (fun hc4_ => ?_) (fun hc4_ => ?_)
  · replace h := h.1 hc4_
    refine W_seq_k fun K5_ hK5_ => ?_
    refine W_region [some 2] rfl ?_
    refine Ops_step (R_assign rfl) rfl rfl ?_
    refine Ops_nil ?_
    refine then_n (hK5_ _ _ ?_)
    clear hK5_ K5_
    refine W_keepB [2] fun B6 hB6_ => ?_
    simp only [pickE, lookE, putE, zipE, args0, Nat.reduceAdd, Nat.zero_add, List.cons_append, List.nil_append, Nat.reduceBEq, cond_true, cond_false] at hB6_
    subst hB6_
    refine W_ret ?_
    refine then_ret ?_
    clear hK2_ K2_
    refine ⟨_, ⟨_, _, rfl, rfl, rfl⟩, ?_⟩
    exact ⟨0, x0, _, _, rfl, hI, ⟨_, ⟨A0_1, c0_1, rfl, ⟨hc0_1, hs0_1⟩⟩, ht0⟩, h⟩
  · replace h := h.2 hc4_
    refine W_skip ?_
    refine then_n (hK2_ _ _ ?_)
    clear hK2_ K2_
    refine W_keepB [0] fun B7 hB7_ => ?_
    simp only [pickE, lookE, putE, zipE, args0, Nat.reduceAdd, Nat.zero_add, List.cons_append, List.nil_append, Nat.reduceBEq, cond_true, cond_false] at hB7_
    subst hB7_
    refine W_seq_k fun K8_ hK8_ => ?_
    refine W_drawF [some 11, some 12, some 13, some 14, some 15, some 16, some 17, some 18, some 19, some 20, some 10, some 21, some 22, some 3, some 4] [(0, true), (1, true), (2, true), (3, true), (4, true), (5, true), (6, true), (7, true), (8, true), (9, false), (10, true), (11, true), (12, true), (13, true), (14, true)] TOtD.hm rfl (by kernel_rfl) fun ops9_ w9_ hops9_ hF9_ => ?_
    replace hI := hI.fr0 hF9_
    replace ht0 := ht0.fr0 hF9_
    clear hF9_
    refine HS_pure (fun w_ => R_move rfl) rfl rfl ?_
    refine HS_pure (fun w_ => R_nilCheck rfl) rfl rfl ?_
    refine HS_pure (fun w_ => R_fieldAddr TOtD.fo65_0 rfl) rfl rfl ?_
    refine HS_loadB (v := .slice A0_1 x0.B_.length c0_1) TOtD.ag22 rfl ht0.blk rfl rfl rfl ?_
    refine HS_pure (fun w_ => R_move rfl) rfl rfl ?_
    refine HS_pure (fun w_ => R_nilCheck rfl) rfl rfl ?_
    refine HS_pure (fun w_ => R_fieldAddr TOtD.fo65_1 rfl) rfl rfl ?_
    refine HS_loadB (v := vi x0.At_) TOtD.ag3 rfl ht0.blk rfl rfl rfl ?_
    have hk11_ := h.1
    replace h := h.2
    have hk12_ := h.1
    replace h := h.2
    refine Exists.elim (cut_ex (n := 1) hs0_1 rfl (by decide) hc0_1 hk11_ hk12_ (Int.le_refl _)) fun A10_ h10_ => Exists.elim h10_ fun c10_ h10_ => ?_
    have hr10_ := h10_.1
    have hc10_ := h10_.2.1
    have hs10_ := h10_.2.2
    clear h10_
    refine HS_pure (fun w_ => X_slice (xs := x0.B_) Tryd.underlying22 TOtD.sz5 rfl hr10_ hc0_1 rfl rfl hk11_ hk12_ (Int.le_refl _)) rfl rfl ?_
    clear hr10_
    refine HS_call [] _ rfl (by rw [hops9_]; kernel_rfl) (C_func TOtD.bd56 rfl) rfl rfl ?_
    refine (sealskinref02_number_ok (x0 := (cut x0.B_ x0.At_ (x0.B_.length : Int))) hI.st (hg.up hI.le) hc10_ hs10_ h).mono ?_
    rintro _ w13_ ⟨r13_0, r13_1, L13_, H13_, rfl, hI13_, h⟩
    refine Exists.elim (hI.call hI13_ (by simp)) fun L130_ h13_ => ?_
    have hz13_ := hI.size
    replace hI := h13_.1
    have u13_ := h13_.2.1
    have hl13_ := h13_.2.2
    clear h13_
    replace hs0_1 := hs0_1.up u13_.hh
    replace ht0 := ht0.up u13_ (by simp)
    clear hI13_ u13_ hl13_
    refine ⟨_, rfl, trivial, ?_⟩
    refine HS_pure (fun w_ => R_move rfl) rfl rfl ?_
    refine HS_pure (fun w_ => R_extract (v := vi r13_0) rfl rfl) rfl rfl ?_
    refine HS_pure (fun w_ => R_extract (v := vi r13_1) rfl rfl) rfl rfl ?_
    refine HS_pure (fun w_ => R_assign rfl) rfl rfl ?_
    refine HS_pure (fun w_ => R_assign rfl) rfl rfl ?_
    refine HS_nil ?_
    clear hops9_
    refine then_n (hK8_ _ _ ?_)
    clear hK8_ K8_
    refine W_keepB [0, 3, 4] fun B14 hB14_ => ?_
    simp only [pickE, lookE, putE, zipE, args0, Nat.reduceAdd, Nat.zero_add, List.cons_append, List.nil_append, Nat.reduceBEq, cond_true, cond_false] at hB14_
    subst hB14_
    refine W_seq_k fun K15_ hK15_ => ?_
    refine W_seq_k fun K16_ hK16_ => ?_
    refine W_region [some 23, some 24] rfl ?_
    refine Ops_step (R_move rfl) rfl rfl ?_
    refine Ops_step (R_neq rfl rfl) rfl rfl ?_
    refine Ops_nil ?_
    refine then_n (hK16_ _ _ ?_)
    clear hK16_ K16_
    refine W_if rfl (fun hc17_ => ?_) (fun hc17_ => ?_)
    · replace h := h.1 hc17_
      refine W_seq_k fun K18_ hK18_ => ?_
      refine W_region [some 25, some 26, some 27, some 28, none] rfl ?_
      refine Ops_step (R_move rfl) rfl rfl ?_
      refine Ops_step (R_move rfl) rfl rfl ?_
      refine Ops_step (R_nilCheck rfl) rfl rfl ?_
      refine Ops_step (R_fieldAddr TOtD.fo65_2 rfl) rfl rfl ?_
      refine Ops_to0 (R_store TOtD.sz35 rfl rfl ht0.blk (by show 2 < 3; decide) rfl) rfl ?_
      rintro _ w19_ ⟨hB19_, hF19_⟩
      replace hI := hI.tok hF19_ (out1 ht0.out) (mem1 (by simp))
      replace ht0 : Tok H13_ _ d0 tb0 ([.slice A0_1 x0.B_.length c0_1, vi x0.At_, vi r13_1]) := ⟨hB19_, ht0.out⟩
      clear hF19_ hB19_
      refine Ops_nil ?_
      refine then_n (hK18_ _ _ ?_)
      clear hK18_ K18_
      refine W_keepB [] fun B20 hB20_ => ?_
      simp only [pickE, lookE, putE, zipE, args0, Nat.reduceAdd, Nat.zero_add, List.cons_append, List.nil_append, Nat.reduceBEq, cond_true, cond_false] at hB20_
      subst hB20_
      refine W_seq_k fun K21_ hK21_ => ?_
      refine W_region [some 2] rfl ?_
      refine Ops_step (R_assign rfl) rfl rfl ?_
      refine Ops_nil ?_
      refine then_n (hK21_ _ _ ?_)
      clear hK21_ K21_
      refine W_ret ?_
      refine then_ret ?_
      clear hK15_ K15_
      refine ⟨_, ⟨_, _, rfl, rfl, rfl⟩, ?_⟩
      exact ⟨0, (sealskinref02_Reader.mk x0.B_ x0.At_ r13_1), _, _, rfl, hI, ⟨_, ⟨A0_1, c0_1, rfl, ⟨hc0_1, hs0_1⟩⟩, ht0⟩, h⟩
    · replace h := h.2 hc17_
      refine W_skip ?_
      refine then_n (hK15_ _ _ ?_)
      clear hK15_ K15_
      refine W_seq_k fun K22_ hK22_ => ?_
      refine W_region [some 29, some 30, some 31, some 32, some 33, some 34, some 35, none] rfl ?_
      refine Ops_step (R_move rfl) rfl rfl ?_
      refine Ops_step (R_nilCheck rfl) rfl rfl ?_
      refine Ops_step (R_fieldAddr TOtD.fo65_1 rfl) rfl rfl ?_
      refine Ops_step (R_loadB (v := vi x0.At_) TOtD.ag3 rfl ht0.blk rfl) rfl rfl ?_
      have hk23_ := h.1
      replace h := h.2
      refine Ops_step (R_add rfl rfl (wI hk23_.1 hk23_.2)) rfl rfl ?_
      refine Ops_step (R_nilCheck rfl) rfl rfl ?_
      refine Ops_step (R_fieldAddr TOtD.fo65_1 rfl) rfl rfl ?_
      refine Ops_to0 (R_store TOtD.sz3 rfl rfl ht0.blk (by show 1 < 3; decide) rfl) rfl ?_
      rintro _ w24_ ⟨hB24_, hF24_⟩
      replace hI := hI.tok hF24_ (out1 ht0.out) (mem1 (by simp))
      replace ht0 : Tok H13_ _ d0 tb0 ([.slice A0_1 x0.B_.length c0_1, vi (x0.At_ + 8), vi x0.E_]) := ⟨hB24_, ht0.out⟩
      clear hF24_ hB24_
      refine Ops_nil ?_
      refine then_n (hK22_ _ _ ?_)
      clear hK22_ K22_
      refine W_keepB [3] fun B25 hB25_ => ?_
      simp only [pickE, lookE, putE, zipE, args0, Nat.reduceAdd, Nat.zero_add, List.cons_append, List.nil_append, Nat.reduceBEq, cond_true, cond_false] at hB25_
      subst hB25_
      refine W_seq_k fun K26_ hK26_ => ?_
      refine W_region [some 36, some 2] rfl ?_
      refine Ops_step (R_move rfl) rfl rfl ?_
      refine Ops_step (R_assign rfl) rfl rfl ?_
      refine Ops_nil ?_
      refine then_n (hK26_ _ _ ?_)
      clear hK26_ K26_
      refine W_ret ?_
      refine ⟨_, ⟨_, _, rfl, rfl, rfl⟩, ?_⟩
      exact ⟨r13_0, (sealskinref02_Reader.mk x0.B_ (x0.At_ + 8) x0.E_), _, _, rfl, hI, ⟨_, ⟨A0_1, c0_1, rfl, ⟨hc0_1, hs0_1⟩⟩, ht0⟩, h⟩

set_option maxHeartbeats 4000000 in
theorem sealskinref02_Reader_Within_ok {G : Gh} {w : World} (hS : St G w) (hg : GL G) {d0 tb0 : Nat} {x0 : sealskinref02_Reader} (hr0 : Ob tb0 G G w d0 x0) {x1 : Int} {x2 : Int} {Q : Int → sealskinref02_Reader → Prop} (h : sealskinref02_Reader_Within x0 x1 x2 Q) : Calls Tryd.prog 40 #[.pointer (some ⟨d0, 0, none⟩), vi x1, vi x2] w fun e w2 => ∃ (r0 : Int) (y0 : sealskinref02_Reader) (L H : Gh), e = .returned (vi r0) ∧ Inv [d0] G w L H w2 ∧ Ob tb0 H H w2 d0 y0 ∧ Q r0 y0 := by
  unfold sealskinref02_Reader_Within at h
  have hI := Inv.start (M := [d0]) hS
  refine calls_W 53 Tryd.func40 rfl Tryd.ntmps40 rfl [.tmp 6] rfl ?_
  obtain ⟨l0_, hl0_, ht0⟩ := hr0
  obtain ⟨A0_1, c0_1, rfl, ⟨hc0_1, hs0_1⟩⟩ := hl0_
  have hlt_d0 := ht0.blk.lt
  refine W_seq_k fun K1_ hK1_ => ?_
  refine W_region [some 6] rfl ?_
  refine Ops_step (R_assign rfl) rfl rfl ?_
  refine Ops_nil ?_
  refine then_n (hK1_ _ _ ?_)
  clear hK1_ K1_
  refine W_seq_k fun K2_ hK2_ => ?_
  refine W_seq_k fun K3_ hK3_ => ?_
  refine W_region [some 9, some 10, some 11, some 12, some 13] rfl ?_
  refine Ops_step (R_move rfl) rfl rfl ?_
  refine Ops_step (R_nilCheck rfl) rfl rfl ?_
  refine Ops_step (R_fieldAddr TOtD.fo65_2 rfl) rfl rfl ?_
  refine Ops_step (R_loadB (v := vi x0.E_) TOtD.ag35 rfl ht0.blk rfl) rfl rfl ?_
  refine Ops_step (R_neq rfl rfl) rfl rfl ?_
  refine Ops_nil ?_
  refine then_n (hK3_ _ _ ?_)
  clear hK3_ K3_
  refine W_if rfl (fun hc4_ => ?_) (fun hc4_ => ?_)
  · replace h := h.1 hc4_
    refine W_seq_k fun K5_ hK5_ => ?_
    refine W_region [some 6] rfl ?_
    refine Ops_step (R_assign rfl) rfl rfl ?_
    refine Ops_nil ?_
    refine then_n (hK5_ _ _ ?_)
    clear hK5_ K5_
    refine W_keepB [6] fun B6 hB6_ => ?_
    simp only [pickE, lookE, putE, zipE, args0, Nat.reduceAdd, Nat.zero_add, List.cons_append, List.nil_append, Nat.reduceBEq, cond_true, cond_false] at hB6_
    subst hB6_
    refine W_ret ?_
    refine then_ret ?_
    clear hK2_ K2_
    refine ⟨_, ⟨_, _, rfl, rfl, rfl⟩, ?_⟩
    exact ⟨0, x0, _, _, rfl, hI, ⟨_, ⟨A0_1, c0_1, rfl, ⟨hc0_1, hs0_1⟩⟩, ht0⟩, h⟩
  · replace h := h.2 hc4_
    refine W_skip ?_
    refine then_n (hK2_ _ _ ?_)
    clear hK2_ K2_
    refine W_keepB [0, 1, 2] fun B7 hB7_ => ?_
    simp only [pickE, lookE, putE, zipE, args0, Nat.reduceAdd, Nat.zero_add, List.cons_append, List.nil_append, Nat.reduceBEq, cond_true, cond_false] at hB7_
    subst hB7_
    refine W_seq_k fun K8_ hK8_ => ?_
    refine W_drawF [some 15, some 16, some 17, some 18, some 19, some 20, some 21, some 22, some 23, some 24, some 14, some 25, some 26, some 7, some 8] [(0, true), (1, true), (2, true), (3, true), (4, true), (5, true), (6, true), (7, true), (8, true), (9, false), (10, true), (11, true), (12, true), (13, true), (14, true)] TOtD.hm rfl (by kernel_rfl) fun ops9_ w9_ hops9_ hF9_ => ?_
    replace hI := hI.fr0 hF9_
    replace ht0 := ht0.fr0 hF9_
    clear hF9_
    refine HS_pure (fun w_ => R_move rfl) rfl rfl ?_
    refine HS_pure (fun w_ => R_nilCheck rfl) rfl rfl ?_
    refine HS_pure (fun w_ => R_fieldAddr TOtD.fo65_0 rfl) rfl rfl ?_
    refine HS_loadB (v := .slice A0_1 x0.B_.length c0_1) TOtD.ag22 rfl ht0.blk rfl rfl rfl ?_
    refine HS_pure (fun w_ => R_move rfl) rfl rfl ?_
    refine HS_pure (fun w_ => R_nilCheck rfl) rfl rfl ?_
    refine HS_pure (fun w_ => R_fieldAddr TOtD.fo65_1 rfl) rfl rfl ?_
    refine HS_loadB (v := vi x0.At_) TOtD.ag3 rfl ht0.blk rfl rfl rfl ?_
    have hk11_ := h.1
    replace h := h.2
    have hk12_ := h.1
    replace h := h.2
    refine Exists.elim (cut_ex (n := 1) hs0_1 rfl (by decide) hc0_1 hk11_ hk12_ (Int.le_refl _)) fun A10_ h10_ => Exists.elim h10_ fun c10_ h10_ => ?_
    have hr10_ := h10_.1
    have hc10_ := h10_.2.1
    have hs10_ := h10_.2.2
    clear h10_
    refine HS_pure (fun w_ => X_slice (xs := x0.B_) Tryd.underlying22 TOtD.sz5 rfl hr10_ hc0_1 rfl rfl hk11_ hk12_ (Int.le_refl _)) rfl rfl ?_
    clear hr10_
    refine HS_call [] _ rfl (by rw [hops9_]; kernel_rfl) (C_func TOtD.bd56 rfl) rfl rfl ?_
    refine (sealskinref02_number_ok (x0 := (cut x0.B_ x0.At_ (x0.B_.length : Int))) hI.st (hg.up hI.le) hc10_ hs10_ h).mono ?_
    rintro _ w13_ ⟨r13_0, r13_1, L13_, H13_, rfl, hI13_, h⟩
    refine Exists.elim (hI.call hI13_ (by simp)) fun L130_ h13_ => ?_
    have hz13_ := hI.size
    replace hI := h13_.1
    have u13_ := h13_.2.1
    have hl13_ := h13_.2.2
    clear h13_
    replace hs0_1 := hs0_1.up u13_.hh
    replace ht0 := ht0.up u13_ (by simp)
    clear hI13_ u13_ hl13_
    refine ⟨_, rfl, trivial, ?_⟩
    refine HS_pure (fun w_ => R_move rfl) rfl rfl ?_
    refine HS_pure (fun w_ => R_extract (v := vi r13_0) rfl rfl) rfl rfl ?_
    refine HS_pure (fun w_ => R_extract (v := vi r13_1) rfl rfl) rfl rfl ?_
    refine HS_pure (fun w_ => R_assign rfl) rfl rfl ?_
    refine HS_pure (fun w_ => R_assign rfl) rfl rfl ?_
    refine HS_nil ?_
    clear hops9_
    refine then_n (hK8_ _ _ ?_)
    clear hK8_ K8_
    refine W_keepB [0, 1, 2, 7, 8] fun B14 hB14_ => ?_
    simp only [pickE, lookE, putE, zipE, args0, Nat.reduceAdd, Nat.zero_add, List.cons_append, List.nil_append, Nat.reduceBEq, cond_true, cond_false] at hB14_
    subst hB14_
    refine Exists.elim h fun J15_ h => ?_
    have hr15_ := h.1
    replace h := h.2
    refine W_seq_join [0, 7] [8] (fun vs w2 => ∃ (x8_15 : Int) (L H : Gh), vs = [vi x8_15] ∧ J15_ x8_15 ∧ Inv [d0] G w L H w2 ∧ Le L130_ L ∧ Le H13_ H ∧ Tok H w2 d0 tb0 ([.slice A0_1 x0.B_.length c0_1, vi x0.At_, vi x0.E_]) ∧ True) (fun B15 hB15_ => ?_) (fun B15 hB15_ => ?_)
    · simp only [pickE, lookE, putE, zipE, args0, Nat.reduceAdd, Nat.zero_add, List.cons_append, List.nil_append, Nat.reduceBEq, cond_true, cond_false] at hB15_
      subst hB15_
      clear hr15_
      have hll15_ := Le.refl L130_
      have hhh15_ := Le.refl H13_
      refine Exists.elim h fun J16_ h => ?_
      have hr16_ := h.1
      replace h := h.2
      refine W_seq_join [0, 7, 8] [38] (fun vs w2 => ∃ (x38_16 : Bool) (L H : Gh), vs = [.bool x38_16] ∧ J16_ x38_16 ∧ Inv [d0] G w L H w2 ∧ Le L130_ L ∧ Le H13_ H ∧ Tok H w2 d0 tb0 ([.slice A0_1 x0.B_.length c0_1, vi x0.At_, vi x0.E_]) ∧ True) (fun B16 hB16_ => ?_) (fun B16 hB16_ => ?_)
      · simp only [pickE, lookE, putE, zipE, args0, Nat.reduceAdd, Nat.zero_add, List.cons_append, List.nil_append, Nat.reduceBEq, cond_true, cond_false] at hB16_
        subst hB16_
        clear hr16_
        have hll16_ := Le.refl L130_
        have hhh16_ := Le.refl H13_
        refine W_region [some 27, some 28, some 29, some 30, some 31, some 32, some 33, some 34, some 35, some 36, some 37, some 38] rfl ?_
        refine Ops_step (R_move rfl) rfl rfl ?_
        refine Ops_step (R_eql rfl rfl) rfl rfl ?_
        refine Ops_step (R_move rfl) rfl rfl ?_
        refine Ops_split 29 rfl (fun hg17_ => ?_) (fun hg17_ => ?_)
        · replace h := h.1 hg17_
          refine Ops_step (R_move rfl) rfl rfl ?_
          refine Ops_step (R_move rfl) rfl rfl ?_
          refine Ops_step (R_lss rfl rfl) rfl rfl ?_
          refine Ops_step (R_move rfl) rfl rfl ?_
          refine Ops_split 33 rfl (fun hg18_ => ?_) (fun hg18_ => ?_)
          · replace h := h.1 hg18_
            refine Ops_pass rfl rfl ?_
            refine Ops_pass rfl rfl ?_
            refine Ops_pass rfl rfl ?_
            refine Ops_step (R_pick_true rfl rfl) rfl rfl ?_
            refine Ops_step (R_pick_true rfl rfl) rfl rfl ?_
            refine Ops_nil ?_
            refine then_n ?_
            exact ⟨_, rfl, ⟨true, _, _, rfl, h, hI, hll16_, hhh16_, ht0, trivial⟩, ⟨rfl, rfl, rfl, trivial⟩⟩
          · replace h := h.2 hg18_
            refine Ops_step (R_move rfl) rfl rfl ?_
            refine Ops_step (R_move rfl) rfl rfl ?_
            refine Ops_step (R_gtr rfl rfl) rfl rfl ?_
            refine Ops_step (R_pick_false rfl rfl) rfl rfl ?_
            refine Ops_step (R_pick_true rfl rfl) rfl rfl ?_
            refine Ops_nil ?_
            refine then_n ?_
            exact ⟨_, rfl, ⟨(decide (r13_0 > x2)), _, _, rfl, h, hI, hll16_, hhh16_, ht0, trivial⟩, ⟨rfl, rfl, rfl, trivial⟩⟩
        · replace h := h.2 hg17_
          refine Ops_pass rfl rfl ?_
          refine Ops_pass rfl rfl ?_
          refine Ops_pass rfl rfl ?_
          refine Ops_pass rfl rfl ?_
          refine Ops_passU rfl rfl ?_
          refine Ops_passU rfl rfl ?_
          refine Ops_passU rfl rfl ?_
          refine Ops_pass rfl rfl ?_
          refine Ops_step (R_pick_false rfl rfl) rfl rfl ?_
          refine Ops_nil ?_
          refine then_n ?_
          exact ⟨_, rfl, ⟨false, _, _, rfl, h, hI, hll16_, hhh16_, ht0, trivial⟩, ⟨rfl, rfl, rfl, trivial⟩⟩
      · simp only [pickE, lookE, putE, zipE, args0, Nat.reduceAdd, Nat.zero_add, List.cons_append, List.nil_append, Nat.reduceBEq, cond_true, cond_false] at hB16_
        subst hB16_
        clear h
        clear ht0
        rintro _ w16_ ⟨x38_16, L16_, H16_, rfl, hJ16_, hI16_, hll16_, hhh16_, ht0, -⟩
        replace hI := hI16_
        clear hI16_
        have h := hr16_ x38_16 hJ16_
        clear hr16_ hJ16_
        replace hs0_1 := hs0_1.up hhh16_
        replace hll15_ := hll15_.trans hll16_
        replace hhh15_ := hhh15_.trans hhh16_
        refine W_cond rfl (fun hc19_ => ?_) (fun hc19_ => ?_)
        · replace h := h.1 hc19_
          refine W_region [some 8] rfl ?_
          refine Ops_step (R_assign rfl) rfl rfl ?_
          refine Ops_nil ?_
          refine then_n ?_
          exact ⟨_, rfl, ⟨5, _, _, rfl, h, hI, hll15_, hhh15_, ht0, trivial⟩, ⟨rfl, rfl, trivial⟩⟩
        · replace h := h.2 hc19_
          refine W_skip ?_
          refine then_n ?_
          exact ⟨_, rfl, ⟨r13_1, _, _, rfl, h, hI, hll15_, hhh15_, ht0, trivial⟩, ⟨rfl, rfl, trivial⟩⟩
    · simp only [pickE, lookE, putE, zipE, args0, Nat.reduceAdd, Nat.zero_add, List.cons_append, List.nil_append, Nat.reduceBEq, cond_true, cond_false] at hB15_
      subst hB15_
      clear h
      clear ht0
      rintro _ w15_ ⟨x8_15, L15_, H15_, rfl, hJ15_, hI15_, hll15_, hhh15_, ht0, -⟩
      replace hI := hI15_
      clear hI15_
      have h := hr15_ x8_15 hJ15_
      clear hr15_ hJ15_
      replace hs0_1 := hs0_1.up hhh15_
      refine W_seq_k fun K20_ hK20_ => ?_
      refine W_seq_k fun K21_ hK21_ => ?_
      refine W_region [some 39, some 40] rfl ?_
      refine Ops_step (R_move rfl) rfl rfl ?_
      refine Ops_step (R_neq rfl rfl) rfl rfl ?_
      refine Ops_nil ?_
      refine then_n (hK21_ _ _ ?_)
      clear hK21_ K21_
      refine W_if rfl (fun hc22_ => ?_) (fun hc22_ => ?_)
      · replace h := h.1 hc22_
        refine W_seq_k fun K23_ hK23_ => ?_
        refine W_region [some 41, some 42, some 43, some 44, none] rfl ?_
        refine Ops_step (R_move rfl) rfl rfl ?_
        refine Ops_step (R_move rfl) rfl rfl ?_
        refine Ops_step (R_nilCheck rfl) rfl rfl ?_
        refine Ops_step (R_fieldAddr TOtD.fo65_2 rfl) rfl rfl ?_
        refine Ops_to0 (R_store TOtD.sz35 rfl rfl ht0.blk (by show 2 < 3; decide) rfl) rfl ?_
        rintro _ w24_ ⟨hB24_, hF24_⟩
        replace hI := hI.tok hF24_ (out1 ht0.out) (mem1 (by simp))
        replace ht0 : Tok H15_ _ d0 tb0 ([.slice A0_1 x0.B_.length c0_1, vi x0.At_, vi x8_15]) := ⟨hB24_, ht0.out⟩
        clear hF24_ hB24_
        refine Ops_nil ?_
        refine then_n (hK23_ _ _ ?_)
        clear hK23_ K23_
        refine W_keepB [] fun B25 hB25_ => ?_
        simp only [pickE, lookE, putE, zipE, args0, Nat.reduceAdd, Nat.zero_add, List.cons_append, List.nil_append, Nat.reduceBEq, cond_true, cond_false] at hB25_
        subst hB25_
        refine W_seq_k fun K26_ hK26_ => ?_
        refine W_region [some 6] rfl ?_
        refine Ops_step (R_assign rfl) rfl rfl ?_
        refine Ops_nil ?_
        refine then_n (hK26_ _ _ ?_)
        clear hK26_ K26_
        refine W_ret ?_
        refine then_ret ?_
        clear hK20_ K20_
        refine ⟨_, ⟨_, _, rfl, rfl, rfl⟩, ?_⟩
        exact ⟨0, (sealskinref02_Reader.mk x0.B_ x0.At_ x8_15), _, _, rfl, hI, ⟨_, ⟨A0_1, c0_1, rfl, ⟨hc0_1, hs0_1⟩⟩, ht0⟩, h⟩
      · replace h := h.2 hc22_
        refine W_skip ?_
        refine then_n (hK20_ _ _ ?_)
        clear hK20_ K20_
        refine W_seq_k fun K27_ hK27_ => ?_
        refine W_region [some 45, some 46, some 47, some 48, some 49, some 50, some 51, none] rfl ?_
        refine Ops_step (R_move rfl) rfl rfl ?_
        refine Ops_step (R_nilCheck rfl) rfl rfl ?_
        refine Ops_step (R_fieldAddr TOtD.fo65_1 rfl) rfl rfl ?_
        refine Ops_step (R_loadB (v := vi x0.At_) TOtD.ag3 rfl ht0.blk rfl) rfl rfl ?_
        have hk28_ := h.1
        replace h := h.2
        refine Ops_step (R_add rfl rfl (wI hk28_.1 hk28_.2)) rfl rfl ?_
        refine Ops_step (R_nilCheck rfl) rfl rfl ?_
        refine Ops_step (R_fieldAddr TOtD.fo65_1 rfl) rfl rfl ?_
        refine Ops_to0 (R_store TOtD.sz3 rfl rfl ht0.blk (by show 1 < 3; decide) rfl) rfl ?_
        rintro _ w29_ ⟨hB29_, hF29_⟩
        replace hI := hI.tok hF29_ (out1 ht0.out) (mem1 (by simp))
        replace ht0 : Tok H15_ _ d0 tb0 ([.slice A0_1 x0.B_.length c0_1, vi (x0.At_ + 8), vi x0.E_]) := ⟨hB29_, ht0.out⟩
        clear hF29_ hB29_
        refine Ops_nil ?_
        refine then_n (hK27_ _ _ ?_)
        clear hK27_ K27_
        refine W_keepB [7] fun B30 hB30_ => ?_
        simp only [pickE, lookE, putE, zipE, args0, Nat.reduceAdd, Nat.zero_add, List.cons_append, List.nil_append, Nat.reduceBEq, cond_true, cond_false] at hB30_
        subst hB30_
        refine W_seq_k fun K31_ hK31_ => ?_
        refine W_region [some 52, some 6] rfl ?_
        refine Ops_step (R_move rfl) rfl rfl ?_
        refine Ops_step (R_assign rfl) rfl rfl ?_
        refine Ops_nil ?_
        refine then_n (hK31_ _ _ ?_)
        clear hK31_ K31_
        refine W_ret ?_
        refine ⟨_, ⟨_, _, rfl, rfl, rfl⟩, ?_⟩
        exact ⟨r13_0, (sealskinref02_Reader.mk x0.B_ (x0.At_ + 8) x0.E_), _, _, rfl, hI, ⟨_, ⟨A0_1, c0_1, rfl, ⟨hc0_1, hs0_1⟩⟩, ht0⟩, h⟩

set_option maxHeartbeats 4000000 in
theorem sealskinref02_Reader_Bytes_ok {G : Gh} {w : World} (hS : St G w) (hg : GL G) {d0 tb0 : Nat} {x0 : sealskinref02_Reader} (hr0 : Ob tb0 G G w d0 x0) {x1 : Int} {Q : (List UInt8) → sealskinref02_Reader → Prop} (h : sealskinref02_Reader_Bytes x0 x1 Q) : Calls Tryd.prog 41 #[.pointer (some ⟨d0, 0, none⟩), vi x1] w fun e w2 => ∃ (A0 : Option Addr) (c0 : Nat) (r0 : List UInt8) (y0 : sealskinref02_Reader) (L H : Gh), e = .returned (.slice A0 r0.length c0) ∧ Inv [d0] G w L H w2 ∧ OwnS w.heap.size 5 L H w2 A0 c0 r0 ∧ Ob tb0 H H w2 d0 y0 ∧ Q r0 y0 := by
  unfold sealskinref02_Reader_Bytes at h
  have hI := Inv.start (M := [d0]) hS
  refine calls_W 83 Tryd.func41 rfl Tryd.ntmps41 rfl [.tmp 4] rfl ?_
  obtain ⟨l0_, hl0_, ht0⟩ := hr0
  obtain ⟨A0_1, c0_1, rfl, ⟨hc0_1, hs0_1⟩⟩ := hl0_
  have hlt_d0 := ht0.blk.lt
  refine W_seq_k fun K1_ hK1_ => ?_
  refine W_region [some 4] rfl ?_
  refine Ops_step (R_assign rfl) rfl rfl ?_
  refine Ops_nil ?_
  refine then_n (hK1_ _ _ ?_)
  clear hK1_ K1_
  refine W_seq_k fun K2_ hK2_ => ?_
  refine W_seq_k fun K3_ hK3_ => ?_
  refine W_region [some 8, some 9, some 10, some 11, some 12] rfl ?_
  refine Ops_step (R_move rfl) rfl rfl ?_
  refine Ops_step (R_nilCheck rfl) rfl rfl ?_
  refine Ops_step (R_fieldAddr TOtD.fo65_2 rfl) rfl rfl ?_
  refine Ops_step (R_loadB (v := vi x0.E_) TOtD.ag35 rfl ht0.blk rfl) rfl rfl ?_
  refine Ops_step (R_neq rfl rfl) rfl rfl ?_
  refine Ops_nil ?_
  refine then_n (hK3_ _ _ ?_)
  clear hK3_ K3_
  refine W_if rfl (fun hc4_ => ?_) (fun hc4_ => ?_)
  · replace h := h.1 hc4_
    refine W_seq_k fun K5_ hK5_ => ?_
    refine W_region [some 4] rfl ?_
    refine Ops_step (R_assign rfl) rfl rfl ?_
    refine Ops_nil ?_
    refine then_n (hK5_ _ _ ?_)
    clear hK5_ K5_
    refine W_keepB [4] fun B6 hB6_ => ?_
    simp only [pickE, lookE, putE, zipE, args0, Nat.reduceAdd, Nat.zero_add, List.cons_append, List.nil_append, Nat.reduceBEq, cond_true, cond_false] at hB6_
    subst hB6_
    refine W_ret ?_
    refine then_ret ?_
    clear hK2_ K2_
    refine ⟨_, ⟨_, _, rfl, rfl, rfl⟩, ?_⟩
    exact ⟨none, 0, [], x0, _, _, rfl, hI, OwnS.nil, ⟨_, ⟨A0_1, c0_1, rfl, ⟨hc0_1, hs0_1⟩⟩, ht0⟩, h⟩
  · replace h := h.2 hc4_
    refine W_skip ?_
    refine then_n (hK2_ _ _ ?_)
    clear hK2_ K2_
    refine W_keepB [0, 1] fun B7 hB7_ => ?_
    simp only [pickE, lookE, putE, zipE, args0, Nat.reduceAdd, Nat.zero_add, List.cons_append, List.nil_append, Nat.reduceBEq, cond_true, cond_false] at hB7_
    subst hB7_
    refine W_seq_k fun K8_ hK8_ => ?_
    refine W_drawF [some 14, some 15, some 16, some 17, some 18, some 19, some 20, some 21, some 22, some 23, some 13, some 24, some 25, some 5, some 6] [(0, true), (1, true), (2, true), (3, true), (4, true), (5, true), (6, true), (7, true), (8, true), (9, false), (10, true), (11, true), (12, true), (13, true), (14, true)] TOtD.hm rfl (by kernel_rfl) fun ops9_ w9_ hops9_ hF9_ => ?_
    replace hI := hI.fr0 hF9_
    replace ht0 := ht0.fr0 hF9_
    clear hF9_
    refine HS_pure (fun w_ => R_move rfl) rfl rfl ?_
    refine HS_pure (fun w_ => R_nilCheck rfl) rfl rfl ?_
    refine HS_pure (fun w_ => R_fieldAddr TOtD.fo65_0 rfl) rfl rfl ?_
    refine HS_loadB (v := .slice A0_1 x0.B_.length c0_1) TOtD.ag22 rfl ht0.blk rfl rfl rfl ?_
    refine HS_pure (fun w_ => R_move rfl) rfl rfl ?_
    refine HS_pure (fun w_ => R_nilCheck rfl) rfl rfl ?_
    refine HS_pure (fun w_ => R_fieldAddr TOtD.fo65_1 rfl) rfl rfl ?_
    refine HS_loadB (v := vi x0.At_) TOtD.ag3 rfl ht0.blk rfl rfl rfl ?_
    have hk11_ := h.1
    replace h := h.2
    have hk12_ := h.1
    replace h := h.2
    refine Exists.elim (cut_ex (n := 1) hs0_1 rfl (by decide) hc0_1 hk11_ hk12_ (Int.le_refl _)) fun A10_ h10_ => Exists.elim h10_ fun c10_ h10_ => ?_
    have hr10_ := h10_.1
    have hc10_ := h10_.2.1
    have hs10_ := h10_.2.2
    clear h10_
    refine HS_pure (fun w_ => X_slice (xs := x0.B_) Tryd.underlying22 TOtD.sz5 rfl hr10_ hc0_1 rfl rfl hk11_ hk12_ (Int.le_refl _)) rfl rfl ?_
    clear hr10_
    refine HS_call [] _ rfl (by rw [hops9_]; kernel_rfl) (C_func TOtD.bd56 rfl) rfl rfl ?_
    refine (sealskinref02_number_ok (x0 := (cut x0.B_ x0.At_ (x0.B_.length : Int))) hI.st (hg.up hI.le) hc10_ hs10_ h).mono ?_
    rintro _ w13_ ⟨r13_0, r13_1, L13_, H13_, rfl, hI13_, h⟩
    refine Exists.elim (hI.call hI13_ (by simp)) fun L130_ h13_ => ?_
    have hz13_ := hI.size
    replace hI := h13_.1
    have u13_ := h13_.2.1
    have hl13_ := h13_.2.2
    clear h13_
    replace hs0_1 := hs0_1.up u13_.hh
    replace ht0 := ht0.up u13_ (by simp)
    clear hI13_ u13_ hl13_
    refine ⟨_, rfl, trivial, ?_⟩
    refine HS_pure (fun w_ => R_move rfl) rfl rfl ?_
    refine HS_pure (fun w_ => R_extract (v := vi r13_0) rfl rfl) rfl rfl ?_
    refine HS_pure (fun w_ => R_extract (v := vi r13_1) rfl rfl) rfl rfl ?_
    refine HS_pure (fun w_ => R_assign rfl) rfl rfl ?_
    refine HS_pure (fun w_ => R_assign rfl) rfl rfl ?_
    refine HS_nil ?_
    clear hops9_
    refine then_n (hK8_ _ _ ?_)
    clear hK8_ K8_
    refine W_keepB [0, 1, 5, 6] fun B14 hB14_ => ?_
    simp only [pickE, lookE, putE, zipE, args0, Nat.reduceAdd, Nat.zero_add, List.cons_append, List.nil_append, Nat.reduceBEq, cond_true, cond_false] at hB14_
    subst hB14_
    refine Exists.elim h fun J15_ h => ?_
    have hr15_ := h.1
    replace h := h.2
    refine W_seq_join [0, 5] [6] (fun vs w2 => ∃ (x6_15 : Int) (L H : Gh), vs = [vi x6_15] ∧ J15_ x6_15 ∧ Inv [d0] G w L H w2 ∧ Le L130_ L ∧ Le H13_ H ∧ Tok H w2 d0 tb0 ([.slice A0_1 x0.B_.length c0_1, vi x0.At_, vi x0.E_]) ∧ True) (fun B15 hB15_ => ?_) (fun B15 hB15_ => ?_)
    · simp only [pickE, lookE, putE, zipE, args0, Nat.reduceAdd, Nat.zero_add, List.cons_append, List.nil_append, Nat.reduceBEq, cond_true, cond_false] at hB15_
      subst hB15_
      clear hr15_
      have hll15_ := Le.refl L130_
      have hhh15_ := Le.refl H13_
      refine Exists.elim h fun J16_ h => ?_
      have hr16_ := h.1
      replace h := h.2
      refine W_seq_join [0, 5, 6] [36] (fun vs w2 => ∃ (x36_16 : Bool) (L H : Gh), vs = [.bool x36_16] ∧ J16_ x36_16 ∧ Inv [d0] G w L H w2 ∧ Le L130_ L ∧ Le H13_ H ∧ Tok H w2 d0 tb0 ([.slice A0_1 x0.B_.length c0_1, vi x0.At_, vi x0.E_]) ∧ True) (fun B16 hB16_ => ?_) (fun B16 hB16_ => ?_)
      · simp only [pickE, lookE, putE, zipE, args0, Nat.reduceAdd, Nat.zero_add, List.cons_append, List.nil_append, Nat.reduceBEq, cond_true, cond_false] at hB16_
        subst hB16_
        clear hr16_
        have hll16_ := Le.refl L130_
        have hhh16_ := Le.refl H13_
        refine W_region [some 26, some 27, some 28, some 29, some 30, some 31, some 32, some 33, some 34, some 35, some 36] rfl ?_
        refine Ops_step (R_move rfl) rfl rfl ?_
        refine Ops_step (R_eql rfl rfl) rfl rfl ?_
        refine Ops_step (R_move rfl) rfl rfl ?_
        refine Ops_split 28 rfl (fun hg17_ => ?_) (fun hg17_ => ?_)
        · replace h := h.1 hg17_
          refine Ops_step (R_move rfl) rfl rfl ?_
          refine Ops_step (R_gtr rfl rfl) rfl rfl ?_
          refine Ops_step (R_pick_true rfl rfl) rfl rfl ?_
          refine Ops_step (R_move rfl) rfl rfl ?_
          refine Ops_split 32 rfl (fun hg18_ => ?_) (fun hg18_ => ?_)
          · replace h := h.1 hg18_
            refine Ops_step (R_move rfl) rfl rfl ?_
            refine Ops_step (R_move rfl) rfl rfl ?_
            refine Ops_step (R_gtr rfl rfl) rfl rfl ?_
            refine Ops_step (R_pick_true rfl rfl) rfl rfl ?_
            refine Ops_nil ?_
            refine then_n ?_
            exact ⟨_, rfl, ⟨(decide (r13_0 > x1)), _, _, rfl, h, hI, hll16_, hhh16_, ht0, trivial⟩, ⟨rfl, rfl, rfl, trivial⟩⟩
          · replace h := h.2 hg18_
            refine Ops_pass rfl rfl ?_
            refine Ops_pass rfl rfl ?_
            refine Ops_pass rfl rfl ?_
            refine Ops_step (R_pick_false rfl rfl) rfl rfl ?_
            refine Ops_nil ?_
            refine then_n ?_
            exact ⟨_, rfl, ⟨false, _, _, rfl, h, hI, hll16_, hhh16_, ht0, trivial⟩, ⟨rfl, rfl, rfl, trivial⟩⟩
        · replace h := h.2 hg17_
          refine Ops_pass rfl rfl ?_
          refine Ops_pass rfl rfl ?_
          refine Ops_step (R_pick_false rfl rfl) rfl rfl ?_
          refine Ops_step (R_move rfl) rfl rfl ?_
          refine Ops_pass rfl rfl ?_
          refine Ops_pass rfl rfl ?_
          refine Ops_pass rfl rfl ?_
          refine Ops_step (R_pick_false rfl rfl) rfl rfl ?_
          refine Ops_nil ?_
          refine then_n ?_
          exact ⟨_, rfl, ⟨false, _, _, rfl, h, hI, hll16_, hhh16_, ht0, trivial⟩, ⟨rfl, rfl, rfl, trivial⟩⟩
      · simp only [pickE, lookE, putE, zipE, args0, Nat.reduceAdd, Nat.zero_add, List.cons_append, List.nil_append, Nat.reduceBEq, cond_true, cond_false] at hB16_
        subst hB16_
        clear h
        clear ht0
        rintro _ w16_ ⟨x36_16, L16_, H16_, rfl, hJ16_, hI16_, hll16_, hhh16_, ht0, -⟩
        replace hI := hI16_
        clear hI16_
        have h := hr16_ x36_16 hJ16_
        clear hr16_ hJ16_
        replace hs0_1 := hs0_1.up hhh16_
        replace hll15_ := hll15_.trans hll16_
        replace hhh15_ := hhh15_.trans hhh16_
        refine W_cond rfl (fun hc19_ => ?_) (fun hc19_ => ?_)
        · replace h := h.1 hc19_
          refine W_region [some 6] rfl ?_
          refine Ops_step (R_assign rfl) rfl rfl ?_
          refine Ops_nil ?_
          refine then_n ?_
          exact ⟨_, rfl, ⟨4, _, _, rfl, h, hI, hll15_, hhh15_, ht0, trivial⟩, ⟨rfl, rfl, trivial⟩⟩
        · replace h := h.2 hc19_
          refine W_skip ?_
          refine then_n ?_
          exact ⟨_, rfl, ⟨r13_1, _, _, rfl, h, hI, hll15_, hhh15_, ht0, trivial⟩, ⟨rfl, rfl, trivial⟩⟩
    · simp only [pickE, lookE, putE, zipE, args0, Nat.reduceAdd, Nat.zero_add, List.cons_append, List.nil_append, Nat.reduceBEq, cond_true, cond_false] at hB15_
      subst hB15_
      clear h
      clear ht0
      rintro _ w15_ ⟨x6_15, L15_, H15_, rfl, hJ15_, hI15_, hll15_, hhh15_, ht0, -⟩
      replace hI := hI15_
      clear hI15_
      have h := hr15_ x6_15 hJ15_
      clear hr15_ hJ15_
      replace hs0_1 := hs0_1.up hhh15_
      refine Exists.elim h fun J20_ h => ?_
      have hr20_ := h.1
      replace h := h.2
      refine W_seq_join [0, 5] [6] (fun vs w2 => ∃ (x6_20 : Int) (L H : Gh), vs = [vi x6_20] ∧ J20_ x6_20 ∧ Inv [d0] G w L H w2 ∧ Le L15_ L ∧ Le H15_ H ∧ Tok H w2 d0 tb0 ([.slice A0_1 x0.B_.length c0_1, vi x0.At_, vi x0.E_]) ∧ True) (fun B20 hB20_ => ?_) (fun B20 hB20_ => ?_)
      · simp only [pickE, lookE, putE, zipE, args0, Nat.reduceAdd, Nat.zero_add, List.cons_append, List.nil_append, Nat.reduceBEq, cond_true, cond_false] at hB20_
        subst hB20_
        clear hr20_
        have hll20_ := Le.refl L15_
        have hhh20_ := Le.refl H15_
        refine Exists.elim h fun J21_ h => ?_
        have hr21_ := h.1
        replace h := h.2
        refine W_seq_join [0, 5, 6] [53] (fun vs w2 => ∃ (x53_21 : Bool) (L H : Gh), vs = [.bool x53_21] ∧ J21_ x53_21 ∧ Inv [d0] G w L H w2 ∧ Le L15_ L ∧ Le H15_ H ∧ Tok H w2 d0 tb0 ([.slice A0_1 x0.B_.length c0_1, vi x0.At_, vi x0.E_]) ∧ True) (fun B21 hB21_ => ?_) (fun B21 hB21_ => ?_)
        · simp only [pickE, lookE, putE, zipE, args0, Nat.reduceAdd, Nat.zero_add, List.cons_append, List.nil_append, Nat.reduceBEq, cond_true, cond_false] at hB21_
          subst hB21_
          clear hr21_
          have hll21_ := Le.refl L15_
          have hhh21_ := Le.refl H15_
          refine W_drawF [some 37, some 38, some 39, some 40, some 41, some 42, some 43, some 44, some 45, some 46, some 47, some 48, some 49, some 50, some 51, some 52, some 53] [(0, true), (1, true), (2, true), (3, true), (4, true), (5, true), (6, true), (7, true), (8, true), (9, true), (10, true), (11, true), (12, true), (13, true), (14, true), (15, true), (16, true)] TOtD.hm rfl (by kernel_rfl) fun ops22_ w22_ hops22_ hF22_ => ?_
          replace hI := hI.fr0 hF22_
          replace ht0 := ht0.fr0 hF22_
          clear hF22_
          refine HS_pure (fun w_ => R_move rfl) rfl rfl ?_
          refine HS_pure (fun w_ => R_eql rfl rfl) rfl rfl ?_
          refine HS_pure (fun w_ => R_move rfl) rfl rfl ?_
          refine HS_split 39 rfl (fun hg23_ => ?_) (fun hg23_ => ?_)
          · replace h := h.1 hg23_
            refine HS_pure (fun w_ => R_move rfl) rfl rfl ?_
            refine HS_pure (fun w_ => R_move rfl) rfl rfl ?_
            refine HS_pure (fun w_ => R_nilCheck rfl) rfl rfl ?_
            refine HS_pure (fun w_ => R_fieldAddr TOtD.fo65_0 rfl) rfl rfl ?_
            refine HS_loadB (v := .slice A0_1 x0.B_.length c0_1) TOtD.ag22 rfl ht0.blk rfl rfl rfl ?_
            refine HS_pure (fun w_ => R_len Tryd.underlying22 rfl rfl) rfl rfl ?_
            refine HS_pure (fun w_ => R_move rfl) rfl rfl ?_
            refine HS_pure (fun w_ => R_nilCheck rfl) rfl rfl ?_
            refine HS_pure (fun w_ => R_fieldAddr TOtD.fo65_1 rfl) rfl rfl ?_
            refine HS_loadB (v := vi x0.At_) TOtD.ag3 rfl ht0.blk rfl rfl rfl ?_
            have hk24_ := h.1
            replace h := h.2
            refine HS_pure (fun w_ => R_sub rfl rfl (wI hk24_.1 hk24_.2)) rfl rfl ?_
            have hk25_ := h.1
            replace h := h.2
            refine HS_pure (fun w_ => R_sub rfl rfl (wI hk25_.1 hk25_.2)) rfl rfl ?_
            refine HS_pure (fun w_ => R_gtr rfl rfl) rfl rfl ?_
            refine HS_pure (fun w_ => R_pick_true rfl rfl) rfl rfl ?_
            refine HS_nil ?_
            clear hops22_
            refine then_n ?_
            exact ⟨_, rfl, ⟨(decide (r13_0 > (((x0.B_.length : Int) - x0.At_) - 8))), _, _, rfl, h, hI, hll21_, hhh21_, ht0, trivial⟩, ⟨rfl, rfl, rfl, trivial⟩⟩
          · replace h := h.2 hg23_
            refine HS_pass rfl rfl ?_
            refine HS_pass rfl rfl ?_
            refine HS_pass rfl rfl ?_
            refine HS_pass rfl rfl ?_
            refine HS_pass rfl rfl ?_
            refine HS_pass rfl rfl ?_
            refine HS_pass rfl rfl ?_
            refine HS_pass rfl rfl ?_
            refine HS_pass rfl rfl ?_
            refine HS_pass rfl rfl ?_
            refine HS_pass rfl rfl ?_
            refine HS_pass rfl rfl ?_
            refine HS_pass rfl rfl ?_
            refine HS_pure (fun w_ => R_pick_false rfl rfl) rfl rfl ?_
            refine HS_nil ?_
            clear hops22_
            refine then_n ?_
            exact ⟨_, rfl, ⟨false, _, _, rfl, h, hI, hll21_, hhh21_, ht0, trivial⟩, ⟨rfl, rfl, rfl, trivial⟩⟩
        · simp only [pickE, lookE, putE, zipE, args0, Nat.reduceAdd, Nat.zero_add, List.cons_append, List.nil_append, Nat.reduceBEq, cond_true, cond_false] at hB21_
          subst hB21_
          clear h
          clear ht0
          rintro _ w21_ ⟨x53_21, L21_, H21_, rfl, hJ21_, hI21_, hll21_, hhh21_, ht0, -⟩
          replace hI := hI21_
          clear hI21_
          have h := hr21_ x53_21 hJ21_
          clear hr21_ hJ21_
          replace hs0_1 := hs0_1.up hhh21_
          replace hll20_ := hll20_.trans hll21_
          replace hhh20_ := hhh20_.trans hhh21_
          refine W_cond rfl (fun hc26_ => ?_) (fun hc26_ => ?_)
          · replace h := h.1 hc26_
            refine W_region [some 6] rfl ?_
            refine Ops_step (R_assign rfl) rfl rfl ?_
            refine Ops_nil ?_
            refine then_n ?_
            exact ⟨_, rfl, ⟨2, _, _, rfl, h, hI, hll20_, hhh20_, ht0, trivial⟩, ⟨rfl, rfl, trivial⟩⟩
          · replace h := h.2 hc26_
            refine W_skip ?_
            refine then_n ?_
            exact ⟨_, rfl, ⟨x6_15, _, _, rfl, h, hI, hll20_, hhh20_, ht0, trivial⟩, ⟨rfl, rfl, trivial⟩⟩
      · simp only [pickE, lookE, putE, zipE, args0, Nat.reduceAdd, Nat.zero_add, List.cons_append, List.nil_append, Nat.reduceBEq, cond_true, cond_false] at hB20_
        subst hB20_
        clear h
        clear ht0
        rintro _ w20_ ⟨x6_20, L20_, H20_, rfl, hJ20_, hI20_, hll20_, hhh20_, ht0, -⟩
        replace hI := hI20_
        clear hI20_
        have h := hr20_ x6_20 hJ20_
        clear hr20_ hJ20_
        replace hs0_1 := hs0_1.up hhh20_
        refine W_seq_k fun K27_ hK27_ => ?_
        refine W_seq_k fun K28_ hK28_ => ?_
        refine W_region [some 54, some 55] rfl ?_
        refine Ops_step (R_move rfl) rfl rfl ?_
        refine Ops_step (R_neq rfl rfl) rfl rfl ?_
        refine Ops_nil ?_
        refine then_n (hK28_ _ _ ?_)
        clear hK28_ K28_
        refine W_if rfl (fun hc29_ => ?_) (fun hc29_ => ?_)
        · replace h := h.1 hc29_
          refine W_seq_k fun K30_ hK30_ => ?_
          refine W_region [some 56, some 57, some 58, some 59, none] rfl ?_
          refine Ops_step (R_move rfl) rfl rfl ?_
          refine Ops_step (R_move rfl) rfl rfl ?_
          refine Ops_step (R_nilCheck rfl) rfl rfl ?_
          refine Ops_step (R_fieldAddr TOtD.fo65_2 rfl) rfl rfl ?_
          refine Ops_to0 (R_store TOtD.sz35 rfl rfl ht0.blk (by show 2 < 3; decide) rfl) rfl ?_
          rintro _ w31_ ⟨hB31_, hF31_⟩
          replace hI := hI.tok hF31_ (out1 ht0.out) (mem1 (by simp))
          replace ht0 : Tok H20_ _ d0 tb0 ([.slice A0_1 x0.B_.length c0_1, vi x0.At_, vi x6_20]) := ⟨hB31_, ht0.out⟩
          clear hF31_ hB31_
          refine Ops_nil ?_
          refine then_n (hK30_ _ _ ?_)
          clear hK30_ K30_
          refine W_keepB [] fun B32 hB32_ => ?_
          simp only [pickE, lookE, putE, zipE, args0, Nat.reduceAdd, Nat.zero_add, List.cons_append, List.nil_append, Nat.reduceBEq, cond_true, cond_false] at hB32_
          subst hB32_
          refine W_seq_k fun K33_ hK33_ => ?_
          refine W_region [some 4] rfl ?_
          refine Ops_step (R_assign rfl) rfl rfl ?_
          refine Ops_nil ?_
          refine then_n (hK33_ _ _ ?_)
          clear hK33_ K33_
          refine W_ret ?_
          refine then_ret ?_
          clear hK27_ K27_
          refine ⟨_, ⟨_, _, rfl, rfl, rfl⟩, ?_⟩
          exact ⟨none, 0, [], (sealskinref02_Reader.mk x0.B_ x0.At_ x6_20), _, _, rfl, hI, OwnS.nil, ⟨_, ⟨A0_1, c0_1, rfl, ⟨hc0_1, hs0_1⟩⟩, ht0⟩, h⟩
        · replace h := h.2 hc29_
          refine W_skip ?_
          refine then_n (hK27_ _ _ ?_)
          clear hK27_ K27_
          refine W_seq_k fun K34_ hK34_ => ?_
          refine W_region [some 60, some 61, some 62, some 63, some 64, some 7] rfl ?_
          refine Ops_step (R_move rfl) rfl rfl ?_
          refine Ops_step (R_nilCheck rfl) rfl rfl ?_
          refine Ops_step (R_fieldAddr TOtD.fo65_1 rfl) rfl rfl ?_
          refine Ops_step (R_loadB (v := vi x0.At_) TOtD.ag3 rfl ht0.blk rfl) rfl rfl ?_
          have hk35_ := h.1
          replace h := h.2
          refine Ops_step (R_add rfl rfl (wI hk35_.1 hk35_.2)) rfl rfl ?_
          refine Ops_step (R_assign rfl) rfl rfl ?_
          refine Ops_nil ?_
          refine then_n (hK34_ _ _ ?_)
          clear hK34_ K34_
          refine W_keepB [0, 5, 7] fun B36 hB36_ => ?_
          simp only [pickE, lookE, putE, zipE, args0, Nat.reduceAdd, Nat.zero_add, List.cons_append, List.nil_append, Nat.reduceBEq, cond_true, cond_false] at hB36_
          subst hB36_
          refine W_seq_k fun K37_ hK37_ => ?_
          refine W_region [some 65, some 66, some 67, some 68, some 69, some 70, none] rfl ?_
          refine Ops_step (R_move rfl) rfl rfl ?_
          refine Ops_step (R_move rfl) rfl rfl ?_
          refine Ops_step (R_move rfl) rfl rfl ?_
          have hk38_ := h.1
          replace h := h.2
          refine Ops_step (R_add rfl rfl (wI hk38_.1 hk38_.2)) rfl rfl ?_
          refine Ops_step (R_nilCheck rfl) rfl rfl ?_
          refine Ops_step (R_fieldAddr TOtD.fo65_1 rfl) rfl rfl ?_
          refine Ops_to0 (R_store TOtD.sz3 rfl rfl ht0.blk (by show 1 < 3; decide) rfl) rfl ?_
          rintro _ w39_ ⟨hB39_, hF39_⟩
          replace hI := hI.tok hF39_ (out1 ht0.out) (mem1 (by simp))
          replace ht0 : Tok H20_ _ d0 tb0 ([.slice A0_1 x0.B_.length c0_1, vi ((x0.At_ + 8) + r13_0), vi x0.E_]) := ⟨hB39_, ht0.out⟩
          clear hF39_ hB39_
          refine Ops_nil ?_
          refine then_n (hK37_ _ _ ?_)
          clear hK37_ K37_
          refine W_keepB [0, 7] fun B40 hB40_ => ?_
          simp only [pickE, lookE, putE, zipE, args0, Nat.reduceAdd, Nat.zero_add, List.cons_append, List.nil_append, Nat.reduceBEq, cond_true, cond_false] at hB40_
          subst hB40_
          refine W_seq_k fun K41_ hK41_ => ?_
          refine W_drawF [some 71, some 72, some 73, some 74, some 75, some 76, some 77, some 78, some 79, some 80, some 81, some 82, some 4] [(1, true), (2, true), (3, true), (4, true), (5, true), (6, true), (7, true), (8, true), (9, true), (10, true), (0, false), (11, false), (12, true)] TOtD.hm rfl (by kernel_rfl) fun ops42_ w42_ hops42_ hF42_ => ?_
          replace hI := hI.fr0 hF42_
          replace ht0 := ht0.fr0 hF42_
          clear hF42_
          refine HS_pure (fun w_ => R_move rfl) rfl rfl ?_
          refine HS_pure (fun w_ => R_nilCheck rfl) rfl rfl ?_
          refine HS_pure (fun w_ => R_fieldAddr TOtD.fo65_0 rfl) rfl rfl ?_
          refine HS_loadB (v := .slice A0_1 x0.B_.length c0_1) TOtD.ag22 rfl ht0.blk rfl rfl rfl ?_
          refine HS_pure (fun w_ => R_move rfl) rfl rfl ?_
          refine HS_pure (fun w_ => R_move rfl) rfl rfl ?_
          refine HS_pure (fun w_ => R_nilCheck rfl) rfl rfl ?_
          refine HS_pure (fun w_ => R_fieldAddr TOtD.fo65_1 rfl) rfl rfl ?_
          refine HS_loadB (v := vi ((x0.At_ + 8) + r13_0)) TOtD.ag3 rfl ht0.blk rfl rfl rfl ?_
          have hk44_ := h.1
          replace h := h.2
          have hk45_ := h.1
          replace h := h.2
          have hk46_ := h.1
          replace h := h.2
          refine Exists.elim (cut_ex (n := 1) hs0_1 rfl (by decide) hc0_1 hk44_ hk45_ hk46_) fun A43_ h43_ => Exists.elim h43_ fun c43_ h43_ => ?_
          have hr43_ := h43_.1
          have hc43_ := h43_.2.1
          have hs43_ := h43_.2.2
          clear h43_
          refine HS_pure (fun w_ => X_slice (xs := x0.B_) Tryd.underlying22 TOtD.sz5 rfl hr43_ hc0_1 rfl rfl hk44_ hk45_ hk46_) rfl rfl ?_
          clear hr43_
          refine HS_to [9, 4] _ rfl (by rw [hops42_]; kernel_rfl) (R_buildSlice0 TOtD.el22) rfl rfl ?_
          rintro _ w47_ ⟨b47_, rfl, hb47_, hB47_, hF47_⟩
          have ho47_ : OwnS w.heap.size 5 Gh.no H20_ _ (some ⟨b47_, 0, none⟩) 0 ([] : List UInt8) := OwnS.ofBlk hI.st hb47_ hB47_ (all2_sc' _) rfl (by have := hI.size; omega) (by show 0 ≤ maxLen; decide)
          replace hI := hI.fr0 hF47_
          replace ht0 := ht0.fr0 hF47_
          clear hF47_ hB47_
          refine ⟨⟨(ht0.blk.at_ rfl), (ht0.blk.at_ rfl), trivial⟩, ?_⟩
          have hk49_ := h.1
          replace h := h.2
          refine HS_to [] _ rfl (by rw [hops42_]; kernel_rfl) (X_append (α := UInt8) (xs := ([] : List UInt8)) (ys := (cut x0.B_ (x0.At_ + 8) ((x0.At_ + 8) + r13_0))) TOtD.el22 rfl rfl ho47_ (Srcs.sc (Srcs.ofSl Tryd.underlying22 hs43_ hI.st (by decide))) hI.st hk49_ (by decide) hI.size) rfl rfl ?_
          rintro _ w48_ ⟨A48_, c48_, rfl, ho48_, hF48_, hbk48_⟩
          clear hbk48_
          replace hI := hI.tok hF48_ ho47_.out (ho47_.new (Nat.le_refl _))
          replace ht0 := ht0.fr hF48_ (ho47_.old hlt_d0)
          clear hF48_ ho47_
          refine ⟨trivial, ?_⟩
          refine HS_pure (fun w_ => R_assign rfl) rfl rfl ?_
          refine HS_nil ?_
          clear hops42_
          refine then_n (hK41_ _ _ ?_)
          clear hK41_ K41_
          refine W_keepB [4] fun B50 hB50_ => ?_
          simp only [pickE, lookE, putE, zipE, args0, Nat.reduceAdd, Nat.zero_add, List.cons_append, List.nil_append, Nat.reduceBEq, cond_true, cond_false] at hB50_
          subst hB50_
          refine W_ret ?_
          refine ⟨_, ⟨_, _, rfl, rfl, rfl⟩, ?_⟩
          exact ⟨A48_, c48_, (([] : List UInt8) ++ (cut x0.B_ (x0.At_ + 8) ((x0.At_ + 8) + r13_0))), (sealskinref02_Reader.mk x0.B_ ((x0.At_ + 8) + r13_0) x0.E_), _, _, rfl, hI, (ho48_.hl (Le.no _)), ⟨_, ⟨A0_1, c0_1, rfl, ⟨hc0_1, hs0_1⟩⟩, ht0⟩, h⟩

set_option maxHeartbeats 4000000 in
theorem sealskinref02_Reader_Left_ok {G : Gh} {w : World} (hS : St G w) (hg : GL G) {d0 tb0 : Nat} {x0 : sealskinref02_Reader} (hr0 : Ob tb0 G G w d0 x0) {Q : Int → Prop} (h : sealskinref02_Reader_Left x0 Q) : Calls Tryd.prog 43 #[.pointer (some ⟨d0, 0, none⟩)] w fun e w2 => ∃ (r0 : Int) (L H : Gh), e = .returned (vi r0) ∧ Inv [] G w L H w2 ∧ Q r0 := by
  unfold sealskinref02_Reader_Left at h
  have hI := Inv.start (M := []) hS
  refine calls_W 13 Tryd.func43 rfl Tryd.ntmps43 rfl [.tmp 2] rfl ?_
  obtain ⟨l0_, hl0_, ht0⟩ := hr0
  obtain ⟨A0_1, c0_1, rfl, ⟨hc0_1, hs0_1⟩⟩ := hl0_
  have hlt_d0 := ht0.blk.lt
  refine W_seq_k fun K1_ hK1_ => ?_
  refine W_region [some 2] rfl ?_
  refine Ops_step (R_assign rfl) rfl rfl ?_
  refine Ops_nil ?_
  refine then_n (hK1_ _ _ ?_)
  clear hK1_ K1_
  refine W_seq_k fun K2_ hK2_ => ?_
  refine W_drawF [some 3, some 4, some 5, some 6, some 7, some 8, some 9, some 10, some 11, some 12, some 2] [(0, true), (1, true), (2, true), (3, true), (4, true), (5, true), (6, true), (7, true), (8, true), (9, true), (10, true)] TOtD.hm rfl (by kernel_rfl) fun ops3_ w3_ hops3_ hF3_ => ?_
  replace hI := hI.fr0 hF3_
  replace ht0 := ht0.fr0 hF3_
  clear hF3_
  refine HS_pure (fun w_ => R_move rfl) rfl rfl ?_
  refine HS_pure (fun w_ => R_nilCheck rfl) rfl rfl ?_
  refine HS_pure (fun w_ => R_fieldAddr TOtD.fo65_0 rfl) rfl rfl ?_
  refine HS_loadB (v := .slice A0_1 x0.B_.length c0_1) TOtD.ag22 rfl ht0.blk rfl rfl rfl ?_
  refine HS_pure (fun w_ => R_len Tryd.underlying22 rfl rfl) rfl rfl ?_
  refine HS_pure (fun w_ => R_move rfl) rfl rfl ?_
  refine HS_pure (fun w_ => R_nilCheck rfl) rfl rfl ?_
  refine HS_pure (fun w_ => R_fieldAddr TOtD.fo65_1 rfl) rfl rfl ?_
  refine HS_loadB (v := vi x0.At_) TOtD.ag3 rfl ht0.blk rfl rfl rfl ?_
  have hk4_ := h.1
  replace h := h.2
  refine HS_pure (fun w_ => R_sub rfl rfl (wI hk4_.1 hk4_.2)) rfl rfl ?_
  refine HS_pure (fun w_ => R_assign rfl) rfl rfl ?_
  refine HS_nil ?_
  clear hops3_
  refine then_n (hK2_ _ _ ?_)
  clear hK2_ K2_
  refine W_keepB [2] fun B5 hB5_ => ?_
  simp only [pickE, lookE, putE, zipE, args0, Nat.reduceAdd, Nat.zero_add, List.cons_append, List.nil_append, Nat.reduceBEq, cond_true, cond_false] at hB5_
  subst hB5_
  refine W_ret ?_
  refine ⟨_, ⟨_, _, rfl, rfl, rfl⟩, ?_⟩
  exact ⟨((x0.B_.length : Int) - x0.At_), _, _, rfl, hI, h⟩

set_option maxHeartbeats 4000000 in
theorem sealskinref02_Reader_End_ok {G : Gh} {w : World} (hS : St G w) (hg : GL G) {d0 tb0 : Nat} {x0 : sealskinref02_Reader} (hr0 : Ob tb0 G G w d0 x0) {Q : Int → Prop} (h : sealskinref02_Reader_End x0 Q) : Calls Tryd.prog 44 #[.pointer (some ⟨d0, 0, none⟩)] w fun e w2 => ∃ (r0 : Int) (L H : Gh), e = .returned (vi r0) ∧ Inv [] G w L H w2 ∧ Q r0 := by
  unfold sealskinref02_Reader_End at h
  have hI := Inv.start (M := []) hS
  refine calls_W 17 Tryd.func44 rfl Tryd.ntmps44 rfl [.tmp 2] rfl ?_
  obtain ⟨l0_, hl0_, ht0⟩ := hr0
  obtain ⟨A0_1, c0_1, rfl, ⟨hc0_1, hs0_1⟩⟩ := hl0_
  have hlt_d0 := ht0.blk.lt
  refine W_seq_k fun K1_ hK1_ => ?_
  refine W_region [some 2] rfl ?_
  refine Ops_step (R_assign rfl) rfl rfl ?_
  refine Ops_nil ?_
  refine then_n (hK1_ _ _ ?_)
  clear hK1_ K1_
  refine W_seq_k fun K2_ hK2_ => ?_
  refine Exists.elim h fun J3_ h => ?_
  have hr3_ := h.1
  replace h := h.2
  refine W_seq_join [0] [12] (fun vs w2 => ∃ (x12_3 : Bool) (L H : Gh), vs = [.bool x12_3] ∧ J3_ x12_3 ∧ Inv [] G w L H w2 ∧ Le Gh.no L ∧ Le G H ∧ Tok H w2 d0 tb0 ([.slice A0_1 x0.B_.length c0_1, vi x0.At_, vi x0.E_]) ∧ True) (fun B3 hB3_ => ?_) (fun B3 hB3_ => ?_)
  · simp only [pickE, lookE, putE, zipE, args0, Nat.reduceAdd, Nat.zero_add, List.cons_append, List.nil_append, Nat.reduceBEq, cond_true, cond_false] at hB3_
    subst hB3_
    clear hr3_
    have hll3_ := Le.refl Gh.no
    have hhh3_ := Le.refl G
    refine W_region [some 3, some 4, some 5, some 6, some 7, some 8, some 9, some 10, some 11, some 12] rfl ?_
    refine Ops_step (R_move rfl) rfl rfl ?_
    refine Ops_step (R_nilCheck rfl) rfl rfl ?_
    refine Ops_step (R_fieldAddr TOtD.fo65_2 rfl) rfl rfl ?_
    refine Ops_step (R_loadB (v := vi x0.E_) TOtD.ag35 rfl ht0.blk rfl) rfl rfl ?_
    refine Ops_step (R_eql rfl rfl) rfl rfl ?_
    refine Ops_step (R_move rfl) rfl rfl ?_
    refine Ops_split 8 rfl (fun hg4_ => ?_) (fun hg4_ => ?_)
    · replace h := h.1 hg4_
      refine Ops_step (R_move rfl) rfl rfl ?_
      refine Ops_call (C_func TOtD.bd43 rfl) rfl rfl ?_
      refine (sealskinref02_Reader_Left_ok (x0 := x0) hI.st (hg.up hI.le) ⟨_, ⟨A0_1, c0_1, rfl, ⟨hc0_1, hs0_1⟩⟩, ht0⟩ h).mono ?_
      rintro _ w5_ ⟨r5_0, L5_, H5_, rfl, hI5_, h⟩
      refine Exists.elim (hI.call hI5_ (by simp)) fun L50_ h5_ => ?_
      have hz5_ := hI.size
      replace hI := h5_.1
      have u5_ := h5_.2.1
      have hl5_ := h5_.2.2
      clear h5_
      replace hs0_1 := hs0_1.up u5_.hh
      replace ht0 := ht0.up u5_ (by simp)
      replace hll3_ := hll3_.trans u5_.ll
      replace hhh3_ := hhh3_.trans u5_.hh
      clear hI5_ u5_ hl5_
      refine ⟨_, rfl, ?_⟩
      refine Ops_step (R_gtr rfl rfl) rfl rfl ?_
      refine Ops_step (R_pick_true rfl rfl) rfl rfl ?_
      refine Ops_nil ?_
      refine then_n ?_
      exact ⟨_, rfl, ⟨(decide (r5_0 > 0)), _, _, rfl, h, hI, hll3_, hhh3_, ht0, trivial⟩, ⟨rfl, trivial⟩⟩
    · replace h := h.2 hg4_
      refine Ops_pass rfl rfl ?_
      refine Ops_pass rfl rfl ?_
      refine Ops_pass rfl rfl ?_
      refine Ops_step (R_pick_false rfl rfl) rfl rfl ?_
      refine Ops_nil ?_
      refine then_n ?_
      exact ⟨_, rfl, ⟨false, _, _, rfl, h, hI, hll3_, hhh3_, ht0, trivial⟩, ⟨rfl, trivial⟩⟩
  · simp only [pickE, lookE, putE, zipE, args0, Nat.reduceAdd, Nat.zero_add, List.cons_append, List.nil_append, Nat.reduceBEq, cond_true, cond_false] at hB3_
    subst hB3_
    clear h
    clear ht0
    rintro _ w3_ ⟨x12_3, L3_, H3_, rfl, hJ3_, hI3_, hll3_, hhh3_, ht0, -⟩
    replace hI := hI3_
    clear hI3_
    have h := hr3_ x12_3 hJ3_
    clear hr3_ hJ3_
    replace hs0_1 := hs0_1.up hhh3_
    refine W_cond rfl (fun hc6_ => ?_) (fun hc6_ => ?_)
    · replace h := h.1 hc6_
      refine W_seq_k fun K7_ hK7_ => ?_
      refine W_region [some 2] rfl ?_
      refine Ops_step (R_assign rfl) rfl rfl ?_
      refine Ops_nil ?_
      refine then_n (hK7_ _ _ ?_)
      clear hK7_ K7_
      refine W_ret ?_
      refine then_ret ?_
      clear hK2_ K2_
      refine ⟨_, ⟨_, _, rfl, rfl, rfl⟩, ?_⟩
      exact ⟨3, _, _, rfl, hI, h⟩
    · replace h := h.2 hc6_
      refine W_skip ?_
      refine then_n (hK2_ _ _ ?_)
      clear hK2_ K2_
      refine W_seq_k fun K8_ hK8_ => ?_
      refine W_region [some 13, some 14, some 15, some 16, some 2] rfl ?_
      refine Ops_step (R_move rfl) rfl rfl ?_
      refine Ops_step (R_nilCheck rfl) rfl rfl ?_
      refine Ops_step (R_fieldAddr TOtD.fo65_2 rfl) rfl rfl ?_
      refine Ops_step (R_loadB (v := vi x0.E_) TOtD.ag35 rfl ht0.blk rfl) rfl rfl ?_
      refine Ops_step (R_assign rfl) rfl rfl ?_
      refine Ops_nil ?_
      refine then_n (hK8_ _ _ ?_)
      clear hK8_ K8_
      refine W_keepB [2] fun B9 hB9_ => ?_
      simp only [pickE, lookE, putE, zipE, args0, Nat.reduceAdd, Nat.zero_add, List.cons_append, List.nil_append, Nat.reduceBEq, cond_true, cond_false] at hB9_
      subst hB9_
      refine W_ret ?_
      refine ⟨_, ⟨_, _, rfl, rfl, rfl⟩, ?_⟩
      exact ⟨x0.E_, _, _, rfl, hI, h⟩

set_option maxHeartbeats 4000000 in
theorem sealskinref02_Runes_ok {G : Gh} {w : World} (hS : St G w) (hg : GL G) {A0 : Option Addr} {c0 : Nat} {x0 : List UInt8} (hc0 : x0.length ≤ c0) (hs0 : Sl G A0 x0) {Q : Int → Prop} (h : sealskinref02_Runes x0 Q) : Calls Tryd.prog 57 #[.slice A0 x0.length c0] w fun e w2 => ∃ (r0 : Int) (L H : Gh), e = .returned (vi r0) ∧ Inv [] G w L H w2 ∧ Q r0 := by
  unfold sealskinref02_Runes at h
  have hI := Inv.start (M := []) hS
  refine calls_W 80 Tryd.func57 rfl Tryd.ntmps57 rfl [.tmp 2] rfl ?_
  refine W_seq_k fun K1_ hK1_ => ?_
  refine W_region [some 2] rfl ?_
  refine Ops_step (R_assign rfl) rfl rfl ?_
  refine Ops_nil ?_
  refine then_n (hK1_ _ _ ?_)
  clear hK1_ K1_
  refine W_seq_k fun K2_ hK2_ => ?_
  refine W_region [some 3] rfl ?_
  refine Ops_step (R_assign rfl) rfl rfl ?_
  refine Ops_nil ?_
  refine then_n (hK2_ _ _ ?_)
  clear hK2_ K2_
  refine Exists.elim h fun J3_ h => ?_
  have hr3_ := h.1
  replace h := h.2
  refine W_seq_join [] [3] (fun vs w2 => ∃ (x3_3 : Int) (L H : Gh), vs = [vi x3_3] ∧ J3_ x3_3 ∧ Inv [] G w L H w2 ∧ Le Gh.no L ∧ Le G H ∧ True) (fun B3 hB3_ => ?_) (fun B3 hB3_ => ?_)
  · simp only [pickE, lookE, putE, zipE, args0, Nat.reduceAdd, Nat.zero_add, List.cons_append, List.nil_append, Nat.reduceBEq, cond_true, cond_false] at hB3_
    subst hB3_
    clear hr3_
    have hll3_ := Le.refl Gh.no
    have hhh3_ := Le.refl G
    refine W_block ?_
    refine Exists.elim h fun I4_ h => Exists.elim h fun n4_ h => ?_
    have h0_ := h.1
    have hs4_ := h.2
    clear h
    refine W_loopB [] [0, 3] (fun m vs w2 => ∃ (x0_4 : List UInt8) (A0_4 : Option Addr) (c0_4 : Nat) (x3_4 : Int) (L H : Gh), vs = [.slice A0_4 x0_4.length c0_4, vi x3_4] ∧ I4_ m x0_4 x3_4 ∧ Inv [] G w L H w2 ∧ Le Gh.no L ∧ Le G H ∧ x0_4.length ≤ c0_4 ∧ Sl H A0_4 x0_4 ∧ True) n4_ _ rfl ⟨x0, A0, c0, 0, _, _, rfl, h0_, hI, Le.refl _, Le.refl _, hc0, hs0, trivial⟩ fun B4 hB4_ => ?_
    clear h0_
    simp only [pickE, lookE, putE, zipE, args0, Nat.reduceAdd, Nat.zero_add, List.cons_append, List.nil_append, Nat.reduceBEq, cond_true, cond_false] at hB4_
    subst hB4_
    rintro m4_ _ w4_ ⟨x0_4, A0_4, c0_4, x3_4, L4_, H4_, rfl, hJ4_, hI4_, hll4_, hhh4_, hc0_4, hs0_4, -⟩
    replace hI := hI4_
    clear hI4_
    have h := hs4_ m4_ x0_4 x3_4 hJ4_
    clear hs4_ hJ4_
    replace hll3_ := hll3_.trans hll4_
    replace hhh3_ := hhh3_.trans hhh4_
    refine W_seq_k fun K5_ hK5_ => ?_
    refine W_seq_k fun K6_ hK6_ => ?_
    refine W_region [some 9, some 10, some 11] rfl ?_
    refine Ops_step (R_move rfl) rfl rfl ?_
    refine Ops_step (R_len Tryd.underlying22 rfl rfl) rfl rfl ?_
    refine Ops_step (R_gtr rfl rfl) rfl rfl ?_
    refine Ops_nil ?_
    refine then_n (hK6_ _ _ ?_)
    clear hK6_ K6_
    refine W_if rfl (fun hc7_ => ?_) (fun hc7_ => ?_)
    · replace h := h.1 hc7_
      refine W_skip ?_
      refine then_n (hK5_ _ _ ?_)
      clear hK5_ K5_
      refine W_block ?_
      refine W_seq_k fun K8_ hK8_ => ?_
      refine W_region [some 4] rfl ?_
      refine Ops_step (R_assign rfl) rfl rfl ?_
      refine Ops_nil ?_
      refine then_n (hK8_ _ _ ?_)
      clear hK8_ K8_
      refine W_seq_k fun K9_ hK9_ => ?_
      refine W_region [some 5, some 6] rfl ?_
      refine Ops_step (R_assign rfl) rfl rfl ?_
      refine Ops_step (R_assign rfl) rfl rfl ?_
      refine Ops_nil ?_
      refine then_n (hK9_ _ _ ?_)
      clear hK9_ K9_
      refine Exists.elim h fun J10_ h => ?_
      have hr10_ := h.1
      replace h := h.2
      refine W_seq_join [0, 3] [4, 5, 6] (fun vs w2 => ∃ (x4_10 : Int) (x5_10 : UInt8) (x6_10 : UInt8) (L H : Gh), vs = [vi x4_10, vb x5_10, vb x6_10] ∧ J10_ x4_10 x5_10 x6_10 ∧ Inv [] G w L H w2 ∧ Le L4_ L ∧ Le H4_ H ∧ True) (fun B10 hB10_ => ?_) (fun B10 hB10_ => ?_)
      · simp only [pickE, lookE, putE, zipE, args0, Nat.reduceAdd, Nat.zero_add, List.cons_append, List.nil_append, Nat.reduceBEq, cond_true, cond_false] at hB10_
        subst hB10_
        clear hr10_
        have hll10_ := Le.refl L4_
        have hhh10_ := Le.refl H4_
        refine W_seq_k fun K11_ hK11_ => ?_
        refine W_region [some 12, some 13, some 14, some 7] rfl ?_
        refine Ops_step (R_move rfl) rfl rfl ?_
        refine Exists.elim h fun x12_ h => ?_
        have hx12_ := h.1
        replace h := h.2
        have ha12_ := (hs0_4.atS hx12_).1
        have hg12_ := (hs0_4.atS hx12_).2
        refine Ops_step (R_indexSl Tryd.underlying22 TOtD.sz5 rfl rfl hx12_.1 hx12_.lt ha12_) rfl rfl ?_
        refine Ops_step (R_load TOtD.ag5 rfl (hI.st _ _ hg12_)) rfl rfl ?_
        refine Ops_step (R_assign rfl) rfl rfl ?_
        refine Ops_nil ?_
        refine then_n (hK11_ _ _ ?_)
        clear hK11_ K11_
        refine W_keepB [0, 3, 4, 5, 6, 7] fun B13 hB13_ => ?_
        simp only [pickE, lookE, putE, zipE, args0, Nat.reduceAdd, Nat.zero_add, List.cons_append, List.nil_append, Nat.reduceBEq, cond_true, cond_false] at hB13_
        subst hB13_
        refine W_block ?_
        refine W_seq_k fun K14_ hK14_ => ?_
        refine W_region [some 16, some 17, some 15] rfl ?_
        refine Ops_step (R_move rfl) rfl rfl ?_
        refine Ops_step (R_lss rfl rfl) rfl rfl ?_
        refine Ops_step (R_assign rfl) rfl rfl ?_
        refine Ops_nil ?_
        refine then_n (hK14_ _ _ ?_)
        clear hK14_ K14_
        refine W_if rfl (fun hc15_ => ?_) (fun hc15_ => ?_)
        · replace h := h.1 hc15_
          refine W_region [some 4] rfl ?_
          refine Ops_step (R_assign rfl) rfl rfl ?_
          refine Ops_nil ?_
          refine block_n ?_
          refine then_n ?_
          exact ⟨_, rfl, ⟨1, (128 : UInt8), (191 : UInt8), _, _, rfl, h, hI, hll10_, hhh10_, trivial⟩, ⟨rfl, rfl, trivial⟩⟩
        · replace h := h.2 hc15_
          refine Exists.elim h fun J16_ h => ?_
          have hr16_ := h.1
          replace h := h.2
          refine W_seq_join [0, 3, 4, 5, 6, 7] [18] (fun vs w2 => ∃ (x18_16 : Bool) (L H : Gh), vs = [.bool x18_16] ∧ J16_ x18_16 ∧ Inv [] G w L H w2 ∧ Le L4_ L ∧ Le H4_ H ∧ True) (fun B16 hB16_ => ?_) (fun B16 hB16_ => ?_)
          · simp only [pickE, lookE, putE, zipE, args0, Nat.reduceAdd, Nat.zero_add, List.cons_append, List.nil_append, Nat.reduceBEq, cond_true, cond_false] at hB16_
            subst hB16_
            clear hr16_
            have hll16_ := Le.refl L4_
            have hhh16_ := Le.refl H4_
            refine W_region [some 19, some 20, some 21, some 22, some 23, some 24, some 18] rfl ?_
            refine Ops_step (R_move rfl) rfl rfl ?_
            refine Ops_step (R_geq rfl rfl) rfl rfl ?_
            refine Ops_step (R_move rfl) rfl rfl ?_
            refine Ops_split 21 rfl (fun hg17_ => ?_) (fun hg17_ => ?_)
            · replace h := h.1 hg17_
              refine Ops_step (R_move rfl) rfl rfl ?_
              refine Ops_step (R_leq rfl rfl) rfl rfl ?_
              refine Ops_step (R_pick_true rfl rfl) rfl rfl ?_
              refine Ops_step (R_assign rfl) rfl rfl ?_
              refine Ops_nil ?_
              refine then_n ?_
              exact ⟨_, rfl, ⟨(decide ((x12_.toNat : Int) ≤ 223)), _, _, rfl, h, hI, hll16_, hhh16_, trivial⟩, ⟨rfl, rfl, rfl, rfl, rfl, rfl, trivial⟩⟩
            · replace h := h.2 hg17_
              refine Ops_pass rfl rfl ?_
              refine Ops_pass rfl rfl ?_
              refine Ops_step (R_pick_false rfl rfl) rfl rfl ?_
              refine Ops_step (R_assign rfl) rfl rfl ?_
              refine Ops_nil ?_
              refine then_n ?_
              exact ⟨_, rfl, ⟨false, _, _, rfl, h, hI, hll16_, hhh16_, trivial⟩, ⟨rfl, rfl, rfl, rfl, rfl, rfl, trivial⟩⟩
          · simp only [pickE, lookE, putE, zipE, args0, Nat.reduceAdd, Nat.zero_add, List.cons_append, List.nil_append, Nat.reduceBEq, cond_true, cond_false] at hB16_
            subst hB16_
            clear h
            rintro _ w16_ ⟨x18_16, L16_, H16_, rfl, hJ16_, hI16_, hll16_, hhh16_, -⟩
            replace hI := hI16_
            clear hI16_
            have h := hr16_ x18_16 hJ16_
            clear hr16_ hJ16_
            replace hll3_ := hll3_.trans hll16_
            replace hhh3_ := hhh3_.trans hhh16_
            replace hs0_4 := hs0_4.up hhh16_
            replace hll4_ := hll4_.trans hll16_
            replace hhh4_ := hhh4_.trans hhh16_
            replace hll10_ := hll10_.trans hll16_
            replace hhh10_ := hhh10_.trans hhh16_
            refine W_cond rfl (fun hc18_ => ?_) (fun hc18_ => ?_)
            · replace h := h.1 hc18_
              refine W_region [some 4] rfl ?_
              refine Ops_step (R_assign rfl) rfl rfl ?_
              refine Ops_nil ?_
              refine block_n ?_
              refine then_n ?_
              exact ⟨_, rfl, ⟨2, (128 : UInt8), (191 : UInt8), _, _, rfl, h, hI, hll10_, hhh10_, trivial⟩, ⟨rfl, rfl, trivial⟩⟩
            · replace h := h.2 hc18_
              refine Exists.elim h fun J19_ h => ?_
              have hr19_ := h.1
              replace h := h.2
              refine W_seq_join [0, 3, 4, 5, 6, 7] [25] (fun vs w2 => ∃ (x25_19 : Bool) (L H : Gh), vs = [.bool x25_19] ∧ J19_ x25_19 ∧ Inv [] G w L H w2 ∧ Le L16_ L ∧ Le H16_ H ∧ True) (fun B19 hB19_ => ?_) (fun B19 hB19_ => ?_)
              · simp only [pickE, lookE, putE, zipE, args0, Nat.reduceAdd, Nat.zero_add, List.cons_append, List.nil_append, Nat.reduceBEq, cond_true, cond_false] at hB19_
                subst hB19_
                clear hr19_
                have hll19_ := Le.refl L16_
                have hhh19_ := Le.refl H16_
                refine W_region [some 26, some 27, some 28, some 29, some 30, some 31, some 25] rfl ?_
                refine Ops_step (R_move rfl) rfl rfl ?_
                refine Ops_step (R_geq rfl rfl) rfl rfl ?_
                refine Ops_step (R_move rfl) rfl rfl ?_
                refine Ops_split 28 rfl (fun hg20_ => ?_) (fun hg20_ => ?_)
                · replace h := h.1 hg20_
                  refine Ops_step (R_move rfl) rfl rfl ?_
                  refine Ops_step (R_leq rfl rfl) rfl rfl ?_
                  refine Ops_step (R_pick_true rfl rfl) rfl rfl ?_
                  refine Ops_step (R_assign rfl) rfl rfl ?_
                  refine Ops_nil ?_
                  refine then_n ?_
                  exact ⟨_, rfl, ⟨(decide ((x12_.toNat : Int) ≤ 239)), _, _, rfl, h, hI, hll19_, hhh19_, trivial⟩, ⟨rfl, rfl, rfl, rfl, rfl, rfl, trivial⟩⟩
                · replace h := h.2 hg20_
                  refine Ops_pass rfl rfl ?_
                  refine Ops_pass rfl rfl ?_
                  refine Ops_step (R_pick_false rfl rfl) rfl rfl ?_
                  refine Ops_step (R_assign rfl) rfl rfl ?_
                  refine Ops_nil ?_
                  refine then_n ?_
                  exact ⟨_, rfl, ⟨false, _, _, rfl, h, hI, hll19_, hhh19_, trivial⟩, ⟨rfl, rfl, rfl, rfl, rfl, rfl, trivial⟩⟩
              · simp only [pickE, lookE, putE, zipE, args0, Nat.reduceAdd, Nat.zero_add, List.cons_append, List.nil_append, Nat.reduceBEq, cond_true, cond_false] at hB19_
                subst hB19_
                clear h
                rintro _ w19_ ⟨x25_19, L19_, H19_, rfl, hJ19_, hI19_, hll19_, hhh19_, -⟩
                replace hI := hI19_
                clear hI19_
                have h := hr19_ x25_19 hJ19_
                clear hr19_ hJ19_
                replace hll3_ := hll3_.trans hll19_
                replace hhh3_ := hhh3_.trans hhh19_
                replace hs0_4 := hs0_4.up hhh19_
                replace hll4_ := hll4_.trans hll19_
                replace hhh4_ := hhh4_.trans hhh19_
                replace hll10_ := hll10_.trans hll19_
                replace hhh10_ := hhh10_.trans hhh19_
                refine W_cond rfl (fun hc21_ => ?_) (fun hc21_ => ?_)
                · replace h := h.1 hc21_
                  refine W_seq_k fun K22_ hK22_ => ?_
                  refine W_region [some 4] rfl ?_
                  refine Ops_step (R_assign rfl) rfl rfl ?_
                  refine Ops_nil ?_
                  refine then_n (hK22_ _ _ ?_)
                  clear hK22_ K22_
                  refine Exists.elim h fun J23_ h => ?_
                  have hr23_ := h.1
                  replace h := h.2
                  refine W_seq_join [0, 3, 4, 6, 7] [5] (fun vs w2 => ∃ (x5_23 : UInt8) (L H : Gh), vs = [vb x5_23] ∧ J23_ x5_23 ∧ Inv [] G w L H w2 ∧ Le L19_ L ∧ Le H19_ H ∧ True) (fun B23 hB23_ => ?_) (fun B23 hB23_ => ?_)
                  · simp only [pickE, lookE, putE, zipE, args0, Nat.reduceAdd, Nat.zero_add, List.cons_append, List.nil_append, Nat.reduceBEq, cond_true, cond_false] at hB23_
                    subst hB23_
                    clear hr23_
                    have hll23_ := Le.refl L19_
                    have hhh23_ := Le.refl H19_
                    refine W_seq_k fun K24_ hK24_ => ?_
                    refine W_region [some 32, some 33] rfl ?_
                    refine Ops_step (R_move rfl) rfl rfl ?_
                    refine Ops_step (R_eql rfl rfl) rfl rfl ?_
                    refine Ops_nil ?_
                    refine then_n (hK24_ _ _ ?_)
                    clear hK24_ K24_
                    refine W_if rfl (fun hc25_ => ?_) (fun hc25_ => ?_)
                    · replace h := h.1 hc25_
                      refine W_region [some 5] rfl ?_
                      refine Ops_step (R_assign rfl) rfl rfl ?_
                      refine Ops_nil ?_
                      refine then_n ?_
                      exact ⟨_, rfl, ⟨(160 : UInt8), _, _, rfl, h, hI, hll23_, hhh23_, trivial⟩, ⟨rfl, rfl, rfl, rfl, rfl, trivial⟩⟩
                    · replace h := h.2 hc25_
                      refine W_skip ?_
                      refine then_n ?_
                      exact ⟨_, rfl, ⟨(128 : UInt8), _, _, rfl, h, hI, hll23_, hhh23_, trivial⟩, ⟨rfl, rfl, rfl, rfl, rfl, trivial⟩⟩
                  · simp only [pickE, lookE, putE, zipE, args0, Nat.reduceAdd, Nat.zero_add, List.cons_append, List.nil_append, Nat.reduceBEq, cond_true, cond_false] at hB23_
                    subst hB23_
                    clear h
                    rintro _ w23_ ⟨x5_23, L23_, H23_, rfl, hJ23_, hI23_, hll23_, hhh23_, -⟩
                    replace hI := hI23_
                    clear hI23_
                    have h := hr23_ x5_23 hJ23_
                    clear hr23_ hJ23_
                    replace hll3_ := hll3_.trans hll23_
                    replace hhh3_ := hhh3_.trans hhh23_
                    replace hs0_4 := hs0_4.up hhh23_
                    replace hll4_ := hll4_.trans hll23_
                    replace hhh4_ := hhh4_.trans hhh23_
                    replace hll10_ := hll10_.trans hll23_
                    replace hhh10_ := hhh10_.trans hhh23_
                    refine W_seq_k fun K26_ hK26_ => ?_
                    refine W_region [some 34, some 35] rfl ?_
                    refine Ops_step (R_move rfl) rfl rfl ?_
                    refine Ops_step (R_eql rfl rfl) rfl rfl ?_
                    refine Ops_nil ?_
                    refine then_n (hK26_ _ _ ?_)
                    clear hK26_ K26_
                    refine W_if rfl (fun hc27_ => ?_) (fun hc27_ => ?_)
                    · replace h := h.1 hc27_
                      refine W_region [some 6] rfl ?_
                      refine Ops_step (R_assign rfl) rfl rfl ?_
                      refine Ops_nil ?_
                      refine block_n ?_
                      refine then_n ?_
                      exact ⟨_, rfl, ⟨3, x5_23, (159 : UInt8), _, _, rfl, h, hI, hll10_, hhh10_, trivial⟩, ⟨rfl, rfl, trivial⟩⟩
                    · replace h := h.2 hc27_
                      refine W_skip ?_
                      refine block_n ?_
                      refine then_n ?_
                      exact ⟨_, rfl, ⟨3, x5_23, (191 : UInt8), _, _, rfl, h, hI, hll10_, hhh10_, trivial⟩, ⟨rfl, rfl, trivial⟩⟩
                · replace h := h.2 hc21_
                  refine Exists.elim h fun J28_ h => ?_
                  have hr28_ := h.1
                  replace h := h.2
                  refine W_seq_join [0, 3, 4, 5, 6, 7] [36] (fun vs w2 => ∃ (x36_28 : Bool) (L H : Gh), vs = [.bool x36_28] ∧ J28_ x36_28 ∧ Inv [] G w L H w2 ∧ Le L19_ L ∧ Le H19_ H ∧ True) (fun B28 hB28_ => ?_) (fun B28 hB28_ => ?_)
                  · simp only [pickE, lookE, putE, zipE, args0, Nat.reduceAdd, Nat.zero_add, List.cons_append, List.nil_append, Nat.reduceBEq, cond_true, cond_false] at hB28_
                    subst hB28_
                    clear hr28_
                    have hll28_ := Le.refl L19_
                    have hhh28_ := Le.refl H19_
                    refine W_region [some 37, some 38, some 39, some 40, some 41, some 42, some 36] rfl ?_
                    refine Ops_step (R_move rfl) rfl rfl ?_
                    refine Ops_step (R_geq rfl rfl) rfl rfl ?_
                    refine Ops_step (R_move rfl) rfl rfl ?_
                    refine Ops_split 39 rfl (fun hg29_ => ?_) (fun hg29_ => ?_)
                    · replace h := h.1 hg29_
                      refine Ops_step (R_move rfl) rfl rfl ?_
                      refine Ops_step (R_leq rfl rfl) rfl rfl ?_
                      refine Ops_step (R_pick_true rfl rfl) rfl rfl ?_
                      refine Ops_step (R_assign rfl) rfl rfl ?_
                      refine Ops_nil ?_
                      refine then_n ?_
                      exact ⟨_, rfl, ⟨(decide ((x12_.toNat : Int) ≤ 244)), _, _, rfl, h, hI, hll28_, hhh28_, trivial⟩, ⟨rfl, rfl, rfl, rfl, rfl, rfl, trivial⟩⟩
                    · replace h := h.2 hg29_
                      refine Ops_pass rfl rfl ?_
                      refine Ops_pass rfl rfl ?_
                      refine Ops_step (R_pick_false rfl rfl) rfl rfl ?_
                      refine Ops_step (R_assign rfl) rfl rfl ?_
                      refine Ops_nil ?_
                      refine then_n ?_
                      exact ⟨_, rfl, ⟨false, _, _, rfl, h, hI, hll28_, hhh28_, trivial⟩, ⟨rfl, rfl, rfl, rfl, rfl, rfl, trivial⟩⟩
                  · simp only [pickE, lookE, putE, zipE, args0, Nat.reduceAdd, Nat.zero_add, List.cons_append, List.nil_append, Nat.reduceBEq, cond_true, cond_false] at hB28_
                    subst hB28_
                    clear h
                    rintro _ w28_ ⟨x36_28, L28_, H28_, rfl, hJ28_, hI28_, hll28_, hhh28_, -⟩
                    replace hI := hI28_
                    clear hI28_
                    have h := hr28_ x36_28 hJ28_
                    clear hr28_ hJ28_
                    replace hll3_ := hll3_.trans hll28_
                    replace hhh3_ := hhh3_.trans hhh28_
                    replace hs0_4 := hs0_4.up hhh28_
                    replace hll4_ := hll4_.trans hll28_
                    replace hhh4_ := hhh4_.trans hhh28_
                    replace hll10_ := hll10_.trans hll28_
                    replace hhh10_ := hhh10_.trans hhh28_
                    refine W_cond rfl (fun hc30_ => ?_) (fun hc30_ => ?_)
                    · replace h := h.1 hc30_
                      refine W_seq_k fun K31_ hK31_ => ?_
                      refine W_region [some 4] rfl ?_
                      refine Ops_step (R_assign rfl) rfl rfl ?_
                      refine Ops_nil ?_
                      refine then_n (hK31_ _ _ ?_)
                      clear hK31_ K31_
                      refine Exists.elim h fun J32_ h => ?_
                      have hr32_ := h.1
                      replace h := h.2
                      refine W_seq_join [0, 3, 4, 6, 7] [5] (fun vs w2 => ∃ (x5_32 : UInt8) (L H : Gh), vs = [vb x5_32] ∧ J32_ x5_32 ∧ Inv [] G w L H w2 ∧ Le L28_ L ∧ Le H28_ H ∧ True) (fun B32 hB32_ => ?_) (fun B32 hB32_ => ?_)
                      · simp only [pickE, lookE, putE, zipE, args0, Nat.reduceAdd, Nat.zero_add, List.cons_append, List.nil_append, Nat.reduceBEq, cond_true, cond_false] at hB32_
                        subst hB32_
                        clear hr32_
                        have hll32_ := Le.refl L28_
                        have hhh32_ := Le.refl H28_
                        refine W_seq_k fun K33_ hK33_ => ?_
                        refine W_region [some 43, some 44] rfl ?_
                        refine Ops_step (R_move rfl) rfl rfl ?_
                        refine Ops_step (R_eql rfl rfl) rfl rfl ?_
                        refine Ops_nil ?_
                        refine then_n (hK33_ _ _ ?_)
                        clear hK33_ K33_
                        refine W_if rfl (fun hc34_ => ?_) (fun hc34_ => ?_)
                        · replace h := h.1 hc34_
                          refine W_region [some 5] rfl ?_
                          refine Ops_step (R_assign rfl) rfl rfl ?_
                          refine Ops_nil ?_
                          refine then_n ?_
                          exact ⟨_, rfl, ⟨(144 : UInt8), _, _, rfl, h, hI, hll32_, hhh32_, trivial⟩, ⟨rfl, rfl, rfl, rfl, rfl, trivial⟩⟩
                        · replace h := h.2 hc34_
                          refine W_skip ?_
                          refine then_n ?_
                          exact ⟨_, rfl, ⟨(128 : UInt8), _, _, rfl, h, hI, hll32_, hhh32_, trivial⟩, ⟨rfl, rfl, rfl, rfl, rfl, trivial⟩⟩
                      · simp only [pickE, lookE, putE, zipE, args0, Nat.reduceAdd, Nat.zero_add, List.cons_append, List.nil_append, Nat.reduceBEq, cond_true, cond_false] at hB32_
                        subst hB32_
                        clear h
                        rintro _ w32_ ⟨x5_32, L32_, H32_, rfl, hJ32_, hI32_, hll32_, hhh32_, -⟩
                        replace hI := hI32_
                        clear hI32_
                        have h := hr32_ x5_32 hJ32_
                        clear hr32_ hJ32_
                        replace hll3_ := hll3_.trans hll32_
                        replace hhh3_ := hhh3_.trans hhh32_
                        replace hs0_4 := hs0_4.up hhh32_
                        replace hll4_ := hll4_.trans hll32_
                        replace hhh4_ := hhh4_.trans hhh32_
                        replace hll10_ := hll10_.trans hll32_
                        replace hhh10_ := hhh10_.trans hhh32_
                        refine W_seq_k fun K35_ hK35_ => ?_
                        refine W_region [some 45, some 46] rfl ?_
                        refine Ops_step (R_move rfl) rfl rfl ?_
                        refine Ops_step (R_eql rfl rfl) rfl rfl ?_
                        refine Ops_nil ?_
                        refine then_n (hK35_ _ _ ?_)
                        clear hK35_ K35_
                        refine W_if rfl (fun hc36_ => ?_) (fun hc36_ => ?_)
                        · replace h := h.1 hc36_
                          refine W_region [some 6] rfl ?_
                          refine Ops_step (R_assign rfl) rfl rfl ?_
                          refine Ops_nil ?_
                          refine block_n ?_
                          refine then_n ?_
                          exact ⟨_, rfl, ⟨4, x5_32, (143 : UInt8), _, _, rfl, h, hI, hll10_, hhh10_, trivial⟩, ⟨rfl, rfl, trivial⟩⟩
                        · replace h := h.2 hc36_
                          refine W_skip ?_
                          refine block_n ?_
                          refine then_n ?_
                          exact ⟨_, rfl, ⟨4, x5_32, (191 : UInt8), _, _, rfl, h, hI, hll10_, hhh10_, trivial⟩, ⟨rfl, rfl, trivial⟩⟩
                    · replace h := h.2 hc30_
                      refine W_skip ?_
                      refine block_n ?_
                      refine then_n ?_
                      exact ⟨_, rfl, ⟨0, (128 : UInt8), (191 : UInt8), _, _, rfl, h, hI, hll10_, hhh10_, trivial⟩, ⟨rfl, rfl, trivial⟩⟩
      · simp only [pickE, lookE, putE, zipE, args0, Nat.reduceAdd, Nat.zero_add, List.cons_append, List.nil_append, Nat.reduceBEq, cond_true, cond_false] at hB10_
        subst hB10_
        clear h
        rintro _ w10_ ⟨x4_10, x5_10, x6_10, L10_, H10_, rfl, hJ10_, hI10_, hll10_, hhh10_, -⟩
        replace hI := hI10_
        clear hI10_
        have h := hr10_ x4_10 x5_10 x6_10 hJ10_
        clear hr10_ hJ10_
        replace hll3_ := hll3_.trans hll10_
        replace hhh3_ := hhh3_.trans hhh10_
        replace hs0_4 := hs0_4.up hhh10_
        replace hll4_ := hll4_.trans hll10_
        replace hhh4_ := hhh4_.trans hhh10_
        refine W_seq_k fun K37_ hK37_ => ?_
        refine Exists.elim h fun J38_ h => ?_
        have hr38_ := h.1
        replace h := h.2
        refine W_seq_join [0, 3, 4, 5, 6] [54] (fun vs w2 => ∃ (x54_38 : Bool) (L H : Gh), vs = [.bool x54_38] ∧ J38_ x54_38 ∧ Inv [] G w L H w2 ∧ Le L10_ L ∧ Le H10_ H ∧ True) (fun B38 hB38_ => ?_) (fun B38 hB38_ => ?_)
        · simp only [pickE, lookE, putE, zipE, args0, Nat.reduceAdd, Nat.zero_add, List.cons_append, List.nil_append, Nat.reduceBEq, cond_true, cond_false] at hB38_
          subst hB38_
          clear hr38_
          have hll38_ := Le.refl L10_
          have hhh38_ := Le.refl H10_
          refine W_region [some 47, some 48, some 49, some 50, some 51, some 52, some 53, some 54] rfl ?_
          refine Ops_step (R_move rfl) rfl rfl ?_
          refine Ops_step (R_eql rfl rfl) rfl rfl ?_
          refine Ops_step (R_move rfl) rfl rfl ?_
          refine Ops_split 49 rfl (fun hg39_ => ?_) (fun hg39_ => ?_)
          · replace h := h.1 hg39_
            refine Ops_pass rfl rfl ?_
            refine Ops_pass rfl rfl ?_
            refine Ops_pass rfl rfl ?_
            refine Ops_pass rfl rfl ?_
            refine Ops_step (R_pick_true rfl rfl) rfl rfl ?_
            refine Ops_nil ?_
            refine then_n ?_
            exact ⟨_, rfl, ⟨true, _, _, rfl, h, hI, hll38_, hhh38_, trivial⟩, ⟨rfl, rfl, rfl, rfl, rfl, trivial⟩⟩
          · replace h := h.2 hg39_
            refine Ops_step (R_move rfl) rfl rfl ?_
            refine Ops_step (R_len Tryd.underlying22 rfl rfl) rfl rfl ?_
            refine Ops_step (R_move rfl) rfl rfl ?_
            refine Ops_step (R_lss rfl rfl) rfl rfl ?_
            refine Ops_step (R_pick_false rfl rfl) rfl rfl ?_
            refine Ops_nil ?_
            refine then_n ?_
            exact ⟨_, rfl, ⟨(decide ((x0_4.length : Int) < x4_10)), _, _, rfl, h, hI, hll38_, hhh38_, trivial⟩, ⟨rfl, rfl, rfl, rfl, rfl, trivial⟩⟩
        · simp only [pickE, lookE, putE, zipE, args0, Nat.reduceAdd, Nat.zero_add, List.cons_append, List.nil_append, Nat.reduceBEq, cond_true, cond_false] at hB38_
          subst hB38_
          clear h
          rintro _ w38_ ⟨x54_38, L38_, H38_, rfl, hJ38_, hI38_, hll38_, hhh38_, -⟩
          replace hI := hI38_
          clear hI38_
          have h := hr38_ x54_38 hJ38_
          clear hr38_ hJ38_
          replace hll3_ := hll3_.trans hll38_
          replace hhh3_ := hhh3_.trans hhh38_
          replace hs0_4 := hs0_4.up hhh38_
          replace hll4_ := hll4_.trans hll38_
          replace hhh4_ := hhh4_.trans hhh38_
          refine W_cond rfl (fun hc40_ => ?_) (fun hc40_ => ?_)
          · replace h := h.1 hc40_
            refine W_seq_k fun K41_ hK41_ => ?_
            refine W_region [some 2] rfl ?_
            refine Ops_step (R_assign rfl) rfl rfl ?_
            refine Ops_nil ?_
            refine then_n (hK41_ _ _ ?_)
            clear hK41_ K41_
            refine W_keepB [2] fun B42 hB42_ => ?_
            simp only [pickE, lookE, putE, zipE, args0, Nat.reduceAdd, Nat.zero_add, List.cons_append, List.nil_append, Nat.reduceBEq, cond_true, cond_false] at hB42_
            subst hB42_
            refine W_ret ?_
            refine then_ret ?_
            clear hK37_ K37_
            refine block_ret ?_
            refine then_ret ?_
            refine block_ret ?_
            refine then_ret ?_
            refine ⟨_, ⟨_, _, rfl, rfl, rfl⟩, ?_⟩
            exact ⟨(-1), _, _, rfl, hI, h⟩
          · replace h := h.2 hc40_
            refine W_skip ?_
            refine then_n (hK37_ _ _ ?_)
            clear hK37_ K37_
            refine Exists.elim h fun J43_ h => ?_
            have hr43_ := h.1
            replace h := h.2
            refine W_seq_join [0, 3, 4] [] (fun vs w2 => ∃  (L H : Gh), vs = [] ∧ J43_ ∧ Inv [] G w L H w2 ∧ Le L38_ L ∧ Le H38_ H ∧ True) (fun B43 hB43_ => ?_) (fun B43 hB43_ => ?_)
            · simp only [pickE, lookE, putE, zipE, args0, Nat.reduceAdd, Nat.zero_add, List.cons_append, List.nil_append, Nat.reduceBEq, cond_true, cond_false] at hB43_
              subst hB43_
              clear hr43_
              have hll43_ := Le.refl L38_
              have hhh43_ := Le.refl H38_
              refine W_seq_k fun K44_ hK44_ => ?_
              refine W_region [some 8] rfl ?_
              refine Ops_step (R_assign rfl) rfl rfl ?_
              refine Ops_nil ?_
              refine then_n (hK44_ _ _ ?_)
              clear hK44_ K44_
              refine W_block ?_
              refine Exists.elim h fun I45_ h => Exists.elim h fun n45_ h => ?_
              have h0_ := h.1
              have hs45_ := h.2
              clear h
              refine W_loopB [0, 3, 4] [5, 6, 8] (fun m vs w2 => ∃ (x5_45 : UInt8) (x6_45 : UInt8) (x8_45 : Int) (L H : Gh), vs = [vb x5_45, vb x6_45, vi x8_45] ∧ I45_ m x5_45 x6_45 x8_45 ∧ Inv [] G w L H w2 ∧ Le L38_ L ∧ Le H38_ H ∧ True) n45_ _ rfl ⟨x5_10, x6_10, 1, _, _, rfl, h0_, hI, Le.refl _, Le.refl _, trivial⟩ fun B45 hB45_ => ?_
              clear h0_
              simp only [pickE, lookE, putE, zipE, args0, Nat.reduceAdd, Nat.zero_add, List.cons_append, List.nil_append, Nat.reduceBEq, cond_true, cond_false] at hB45_
              subst hB45_
              rintro m45_ _ w45_ ⟨x5_45, x6_45, x8_45, L45_, H45_, rfl, hJ45_, hI45_, hll45_, hhh45_, -⟩
              replace hI := hI45_
              clear hI45_
              have h := hs45_ m45_ x5_45 x6_45 x8_45 hJ45_
              clear hs45_ hJ45_
              replace hll3_ := hll3_.trans hll45_
              replace hhh3_ := hhh3_.trans hhh45_
              replace hs0_4 := hs0_4.up hhh45_
              replace hll4_ := hll4_.trans hll45_
              replace hhh4_ := hhh4_.trans hhh45_
              replace hll43_ := hll43_.trans hll45_
              replace hhh43_ := hhh43_.trans hhh45_
              refine W_seq_k fun K46_ hK46_ => ?_
              refine W_seq_k fun K47_ hK47_ => ?_
              refine W_region [some 55, some 56, some 57] rfl ?_
              refine Ops_step (R_move rfl) rfl rfl ?_
              refine Ops_step (R_move rfl) rfl rfl ?_
              refine Ops_step (R_lss rfl rfl) rfl rfl ?_
              refine Ops_nil ?_
              refine then_n (hK47_ _ _ ?_)
              clear hK47_ K47_
              refine W_if rfl (fun hc48_ => ?_) (fun hc48_ => ?_)
              · replace h := h.1 hc48_
                refine W_skip ?_
                refine then_n (hK46_ _ _ ?_)
                clear hK46_ K46_
                refine W_seq_k fun K49_ hK49_ => ?_
                refine W_block ?_
                refine W_seq_k fun K50_ hK50_ => ?_
                refine Exists.elim h fun J51_ h => ?_
                have hr51_ := h.1
                replace h := h.2
                refine W_seq_join [0, 3, 4, 8] [73] (fun vs w2 => ∃ (x73_51 : Bool) (L H : Gh), vs = [.bool x73_51] ∧ J51_ x73_51 ∧ Inv [] G w L H w2 ∧ Le L45_ L ∧ Le H45_ H ∧ True) (fun B51 hB51_ => ?_) (fun B51 hB51_ => ?_)
                · simp only [pickE, lookE, putE, zipE, args0, Nat.reduceAdd, Nat.zero_add, List.cons_append, List.nil_append, Nat.reduceBEq, cond_true, cond_false] at hB51_
                  subst hB51_
                  clear hr51_
                  have hll51_ := Le.refl L45_
                  have hhh51_ := Le.refl H45_
                  refine W_region [some 60, some 61, some 62, some 63, some 64, some 65, some 66, some 67, some 68, some 69, some 70, some 71, some 72, some 73] rfl ?_
                  refine Ops_step (R_move rfl) rfl rfl ?_
                  refine Ops_step (R_move rfl) rfl rfl ?_
                  refine Exists.elim h fun x52_ h => ?_
                  have hx52_ := h.1
                  replace h := h.2
                  have ha52_ := (hs0_4.atS hx52_).1
                  have hg52_ := (hs0_4.atS hx52_).2
                  refine Ops_step (R_indexSl Tryd.underlying22 TOtD.sz5 rfl rfl hx52_.1 hx52_.lt ha52_) rfl rfl ?_
                  refine Ops_step (R_load TOtD.ag5 rfl (hI.st _ _ hg52_)) rfl rfl ?_
                  refine Ops_step (R_move rfl) rfl rfl ?_
                  refine Ops_step (R_lss rfl rfl) rfl rfl ?_
                  refine Ops_step (R_move rfl) rfl rfl ?_
                  refine Ops_split 66 rfl (fun hg53_ => ?_) (fun hg53_ => ?_)
                  · replace h := h.1 hg53_
                    refine Ops_pass rfl rfl ?_
                    refine Ops_pass rfl rfl ?_
                    refine Ops_pass rfl rfl ?_
                    refine Ops_pass rfl rfl ?_
                    refine Ops_pass rfl rfl ?_
                    refine Ops_pass rfl rfl ?_
                    refine Ops_step (R_pick_true rfl rfl) rfl rfl ?_
                    refine Ops_nil ?_
                    refine then_n ?_
                    exact ⟨_, rfl, ⟨true, _, _, rfl, h, hI, hll51_, hhh51_, trivial⟩, ⟨rfl, rfl, rfl, rfl, trivial⟩⟩
                  · replace h := h.2 hg53_
                    refine Ops_step (R_move rfl) rfl rfl ?_
                    refine Ops_step (R_move rfl) rfl rfl ?_
                    refine Exists.elim h fun x54_ h => ?_
                    have hx54_ := h.1
                    replace h := h.2
                    have ha54_ := (hs0_4.atS hx54_).1
                    have hg54_ := (hs0_4.atS hx54_).2
                    refine Ops_step (R_indexSl Tryd.underlying22 TOtD.sz5 rfl rfl hx54_.1 hx54_.lt ha54_) rfl rfl ?_
                    refine Ops_step (R_load TOtD.ag5 rfl (hI.st _ _ hg54_)) rfl rfl ?_
                    refine Ops_step (R_move rfl) rfl rfl ?_
                    refine Ops_step (R_gtr rfl rfl) rfl rfl ?_
                    refine Ops_step (R_pick_false rfl rfl) rfl rfl ?_
                    refine Ops_nil ?_
                    refine then_n ?_
                    exact ⟨_, rfl, ⟨(decide ((x54_.toNat : Int) > (x6_45.toNat : Int))), _, _, rfl, h, hI, hll51_, hhh51_, trivial⟩, ⟨rfl, rfl, rfl, rfl, trivial⟩⟩
                · simp only [pickE, lookE, putE, zipE, args0, Nat.reduceAdd, Nat.zero_add, List.cons_append, List.nil_append, Nat.reduceBEq, cond_true, cond_false] at hB51_
                  subst hB51_
                  clear h
                  rintro _ w51_ ⟨x73_51, L51_, H51_, rfl, hJ51_, hI51_, hll51_, hhh51_, -⟩
                  replace hI := hI51_
                  clear hI51_
                  have h := hr51_ x73_51 hJ51_
                  clear hr51_ hJ51_
                  replace hll3_ := hll3_.trans hll51_
                  replace hhh3_ := hhh3_.trans hhh51_
                  replace hs0_4 := hs0_4.up hhh51_
                  replace hll4_ := hll4_.trans hll51_
                  replace hhh4_ := hhh4_.trans hhh51_
                  replace hll43_ := hll43_.trans hll51_
                  replace hhh43_ := hhh43_.trans hhh51_
                  replace hll45_ := hll45_.trans hll51_
                  replace hhh45_ := hhh45_.trans hhh51_
                  refine W_cond rfl (fun hc55_ => ?_) (fun hc55_ => ?_)
                  · replace h := h.1 hc55_
                    refine W_seq_k fun K56_ hK56_ => ?_
                    refine W_region [some 2] rfl ?_
                    refine Ops_step (R_assign rfl) rfl rfl ?_
                    refine Ops_nil ?_
                    refine then_n (hK56_ _ _ ?_)
                    clear hK56_ K56_
                    refine W_ret ?_
                    refine then_ret ?_
                    clear hK50_ K50_
                    refine block_ret ?_
                    refine then_ret ?_
                    clear hK49_ K49_
                    refine then_ret ?_
                    refine block_ret ?_
                    refine then_ret ?_
                    refine block_ret ?_
                    refine then_ret ?_
                    refine block_ret ?_
                    refine then_ret ?_
                    refine ⟨_, ⟨_, _, rfl, rfl, rfl⟩, ?_⟩
                    exact ⟨(-1), _, _, rfl, hI, h⟩
                  · replace h := h.2 hc55_
                    refine W_skip ?_
                    refine then_n (hK50_ _ _ ?_)
                    clear hK50_ K50_
                    refine W_seq_k fun K57_ hK57_ => ?_
                    refine W_region [some 5] rfl ?_
                    refine Ops_step (R_assign rfl) rfl rfl ?_
                    refine Ops_nil ?_
                    refine then_n (hK57_ _ _ ?_)
                    clear hK57_ K57_
                    refine W_region [some 6] rfl ?_
                    refine Ops_step (R_assign rfl) rfl rfl ?_
                    refine Ops_nil ?_
                    refine block_n ?_
                    refine then_n (hK49_ _ _ ?_)
                    clear hK49_ K49_
                    refine W_region [some 58, some 59, some 8] rfl ?_
                    refine Ops_step (R_move rfl) rfl rfl ?_
                    have hk58_ := h.1
                    replace h := h.2
                    refine Ops_step (R_add rfl rfl (wI hk58_.1 hk58_.2)) rfl rfl ?_
                    refine Ops_step (R_assign rfl) rfl rfl ?_
                    refine Ops_nil ?_
                    refine then_n ?_
                    exact h.elim fun m_ h => ⟨m_, _, h.1, rfl, ⟨(128 : UInt8), (191 : UInt8), (x8_45 + 1), _, _, rfl, h.2, hI, hll45_, hhh45_, trivial⟩, ⟨rfl, rfl, rfl, trivial⟩⟩
              · replace h := h.2 hc48_
                refine W_exit ?_
                refine then_exit ?_
                clear hK46_ K46_
                refine then_exit ?_
                refine block_exit ?_
                refine then_n ?_
                exact ⟨_, rfl, ⟨_, _, rfl, h, hI, hll43_, hhh43_, trivial⟩, ⟨rfl, rfl, rfl, trivial⟩⟩
            · simp only [pickE, lookE, putE, zipE, args0, Nat.reduceAdd, Nat.zero_add, List.cons_append, List.nil_append, Nat.reduceBEq, cond_true, cond_false] at hB43_
              subst hB43_
              clear h
              rintro _ w43_ ⟨L43_, H43_, rfl, hJ43_, hI43_, hll43_, hhh43_, -⟩
              replace hI := hI43_
              clear hI43_
              have h := hr43_ hJ43_
              clear hr43_ hJ43_
              replace hll3_ := hll3_.trans hll43_
              replace hhh3_ := hhh3_.trans hhh43_
              replace hs0_4 := hs0_4.up hhh43_
              replace hll4_ := hll4_.trans hll43_
              replace hhh4_ := hhh4_.trans hhh43_
              refine W_seq_k fun K59_ hK59_ => ?_
              refine W_region [some 74, some 75, some 76, some 0] rfl ?_
              refine Ops_step (R_move rfl) rfl rfl ?_
              refine Ops_step (R_move rfl) rfl rfl ?_
              have hk61_ := h.1
              replace h := h.2
              have hk62_ := h.1
              replace h := h.2
              refine Exists.elim (cut_ex (n := 1) hs0_4 rfl (by decide) hc0_4 hk61_ hk62_ (Int.le_refl _)) fun A60_ h60_ => Exists.elim h60_ fun c60_ h60_ => ?_
              have hr60_ := h60_.1
              have hc60_ := h60_.2.1
              have hs60_ := h60_.2.2
              clear h60_
              refine Ops_step (X_slice (xs := x0_4) Tryd.underlying22 TOtD.sz5 rfl hr60_ hc0_4 rfl rfl hk61_ hk62_ (Int.le_refl _)) rfl rfl ?_
              clear hr60_
              refine Ops_step (R_assign rfl) rfl rfl ?_
              refine Ops_nil ?_
              refine then_n (hK59_ _ _ ?_)
              clear hK59_ K59_
              refine W_region [some 77, some 78, some 3] rfl ?_
              refine Ops_step (R_move rfl) rfl rfl ?_
              have hk63_ := h.1
              replace h := h.2
              refine Ops_step (R_add rfl rfl (wI hk63_.1 hk63_.2)) rfl rfl ?_
              refine Ops_step (R_assign rfl) rfl rfl ?_
              refine Ops_nil ?_
              refine block_n ?_
              refine then_n ?_
              exact h.elim fun m_ h => ⟨m_, _, h.1, rfl, ⟨(cut x0_4 x4_10 (x0_4.length : Int)), A60_, c60_, (x3_4 + 1), _, _, rfl, h.2, hI, hll4_, hhh4_, hc60_, hs60_, trivial⟩, trivial⟩
    · replace h := h.2 hc7_
      refine W_exit ?_
      refine then_exit ?_
      clear hK5_ K5_
      refine then_exit ?_
      refine block_exit ?_
      refine then_n ?_
      exact ⟨_, rfl, ⟨x3_4, _, _, rfl, h, hI, hll3_, hhh3_, trivial⟩, trivial⟩
  · simp only [pickE, lookE, putE, zipE, args0, Nat.reduceAdd, Nat.zero_add, List.cons_append, List.nil_append, Nat.reduceBEq, cond_true, cond_false] at hB3_
    subst hB3_
    clear h
    rintro _ w3_ ⟨x3_3, L3_, H3_, rfl, hJ3_, hI3_, hll3_, hhh3_, -⟩
    replace hI := hI3_
    clear hI3_
    have h := hr3_ x3_3 hJ3_
    clear hr3_ hJ3_
    refine W_seq_k fun K64_ hK64_ => ?_
    refine W_region [some 79, some 2] rfl ?_
    refine Ops_step (R_move rfl) rfl rfl ?_
    refine Ops_step (R_assign rfl) rfl rfl ?_
    refine Ops_nil ?_
    refine then_n (hK64_ _ _ ?_)
    clear hK64_ K64_
    refine W_ret ?_
    refine ⟨_, ⟨_, _, rfl, rfl, rfl⟩, ?_⟩
    exact ⟨x3_3, _, _, rfl, hI, h⟩

set_option maxHeartbeats 4000000 in
theorem sealskinref02_Reader_Text_ok {G : Gh} {w : World} (hS : St G w) (hg : GL G) {d0 tb0 : Nat} {x0 : sealskinref02_Reader} (hr0 : Ob tb0 G G w d0 x0) {x1 : Int} {Q : Str → sealskinref02_Reader → Prop} (h : sealskinref02_Reader_Text x0 x1 Q) : Calls Tryd.prog 42 #[.pointer (some ⟨d0, 0, none⟩), vi x1] w fun e w2 => ∃ (r0 : Str) (y0 : sealskinref02_Reader) (L H : Gh), e = .returned (vs r0) ∧ Inv [d0] G w L H w2 ∧ Ob tb0 H H w2 d0 y0 ∧ Q r0 y0 := by
  unfold sealskinref02_Reader_Text at h
  have hI := Inv.start (M := [d0]) hS
  refine calls_W 53 Tryd.func42 rfl Tryd.ntmps42 rfl [.tmp 4] rfl ?_
  obtain ⟨l0_, hl0_, ht0⟩ := hr0
  obtain ⟨A0_1, c0_1, rfl, ⟨hc0_1, hs0_1⟩⟩ := hl0_
  have hlt_d0 := ht0.blk.lt
  refine W_seq_k fun K1_ hK1_ => ?_
  refine W_region [some 4] rfl ?_
  refine Ops_step (R_assign rfl) rfl rfl ?_
  refine Ops_nil ?_
  refine then_n (hK1_ _ _ ?_)
  clear hK1_ K1_
  refine W_seq_k fun K2_ hK2_ => ?_
  refine W_seq_k fun K3_ hK3_ => ?_
  refine W_region [some 8, some 9, some 10, some 11, some 12] rfl ?_
  refine Ops_step (R_move rfl) rfl rfl ?_
  refine Ops_step (R_nilCheck rfl) rfl rfl ?_
  refine Ops_step (R_fieldAddr TOtD.fo65_2 rfl) rfl rfl ?_
  refine Ops_step (R_loadB (v := vi x0.E_) TOtD.ag35 rfl ht0.blk rfl) rfl rfl ?_
  refine Ops_step (R_neq rfl rfl) rfl rfl ?_
  refine Ops_nil ?_
  refine then_n (hK3_ _ _ ?_)
  clear hK3_ K3_
  refine W_if rfl (fun hc4_ => ?_) (fun hc4_ => ?_)
  · replace h := h.1 hc4_
    refine W_seq_k fun K5_ hK5_ => ?_
    refine W_region [some 4] rfl ?_
    refine Ops_step (R_assign rfl) rfl rfl ?_
    refine Ops_nil ?_
    refine then_n (hK5_ _ _ ?_)
    clear hK5_ K5_
    refine W_keepB [4] fun B6 hB6_ => ?_
    simp only [pickE, lookE, putE, zipE, args0, Nat.reduceAdd, Nat.zero_add, List.cons_append, List.nil_append, Nat.reduceBEq, cond_true, cond_false] at hB6_
    subst hB6_
    refine W_ret ?_
    refine then_ret ?_
    clear hK2_ K2_
    refine ⟨_, ⟨_, _, rfl, rfl, rfl⟩, ?_⟩
    exact ⟨(Str.mk []), x0, _, _, rfl, hI, ⟨_, ⟨A0_1, c0_1, rfl, ⟨hc0_1, hs0_1⟩⟩, ht0⟩, h⟩
  · replace h := h.2 hc4_
    refine W_skip ?_
    refine then_n (hK2_ _ _ ?_)
    clear hK2_ K2_
    refine W_keepB [0, 1] fun B7 hB7_ => ?_
    simp only [pickE, lookE, putE, zipE, args0, Nat.reduceAdd, Nat.zero_add, List.cons_append, List.nil_append, Nat.reduceBEq, cond_true, cond_false] at hB7_
    subst hB7_
    refine W_seq_k fun K8_ hK8_ => ?_
    refine W_region [some 13, some 14, some 15, some 16, some 5] rfl ?_
    refine Ops_step (R_move rfl) rfl rfl ?_
    refine Ops_step (R_nilCheck rfl) rfl rfl ?_
    refine Ops_step (R_fieldAddr TOtD.fo65_1 rfl) rfl rfl ?_
    refine Ops_step (R_loadB (v := vi x0.At_) TOtD.ag3 rfl ht0.blk rfl) rfl rfl ?_
    refine Ops_step (R_assign rfl) rfl rfl ?_
    refine Ops_nil ?_
    refine then_n (hK8_ _ _ ?_)
    clear hK8_ K8_
    refine W_seq_k fun K9_ hK9_ => ?_
    refine W_region [some 17, some 18, some 1] rfl ?_
    refine Ops_step (R_move rfl) rfl rfl ?_
    refine Ops_step (R_max rfl rfl _root_.rfl) rfl rfl ?_
    refine Ops_step (R_assign rfl) rfl rfl ?_
    refine Ops_nil ?_
    refine then_n (hK9_ _ _ ?_)
    clear hK9_ K9_
    refine W_keepB [0, 1, 5] fun B10 hB10_ => ?_
    simp only [pickE, lookE, putE, zipE, args0, Nat.reduceAdd, Nat.zero_add, List.cons_append, List.nil_append, Nat.reduceBEq, cond_true, cond_false] at hB10_
    subst hB10_
    refine W_seq_k fun K11_ hK11_ => ?_
    refine W_region [some 19, some 20, some 21, some 22, some 23, some 6] rfl ?_
    refine Ops_step (R_move rfl) rfl rfl ?_
    refine Ops_step (R_move rfl) rfl rfl ?_
    refine Ops_step (R_min rfl rfl _root_.rfl) rfl rfl ?_
    have hk12_ := h.1
    replace h := h.2
    refine Ops_step (R_mul rfl rfl (wI hk12_.1 hk12_.2)) rfl rfl ?_
    refine Ops_call (C_func TOtD.bd41 rfl) rfl rfl ?_
    refine (sealskinref02_Reader_Bytes_ok (x0 := x0) (x1 := (4 * (min (max 0 x1) 16384))) hI.st (hg.up hI.le) ⟨_, ⟨A0_1, c0_1, rfl, ⟨hc0_1, hs0_1⟩⟩, ht0⟩ h).mono ?_
    rintro _ w13_ ⟨A13_0, c13_0, r13_0, y13_0, L13_, H13_, rfl, hI13_, ho13_0, hq13_0, h⟩
    refine Exists.elim (hI.call hI13_ (mem1 (by simp))) fun L130_ h13_ => ?_
    have hz13_ := hI.size
    replace hI := h13_.1
    have u13_ := h13_.2.1
    have hl13_ := h13_.2.2
    clear h13_
    replace hs0_1 := hs0_1.up u13_.hh
    replace ho13_0 := OwnS.backS ho13_0 hz13_ (Le.refl _)
    clear ht0
    obtain ⟨l13_0_, hl13_0_, ht13_0⟩ := hq13_0
    obtain ⟨A13_0_1, c13_0_1, rfl, ⟨hc13_0_1, hs13_0_1⟩⟩ := hl13_0_
    clear hI13_ u13_ hl13_
    refine ⟨_, rfl, ?_⟩
    refine Exists.elim (ho13_0.freeze hI) fun L14_ h14_ => Exists.elim h14_ fun H14_ h14_ => ?_
    replace hI := h14_.1
    have u14_ := h14_.2.1
    have hs14_ := h14_.2.2.1 (Le.no _)
    have hc14_ := ho13_0.cap
    replace hs13_0_1 := hs13_0_1.up u14_.hh
    replace ht13_0 := ht13_0.up u14_ (ho13_0.old hlt_d0)
    clear h14_ u14_ ho13_0
    refine Ops_step (R_assign rfl) rfl rfl ?_
    refine Ops_nil ?_
    refine then_n (hK11_ _ _ ?_)
    clear hK11_ K11_
    refine W_seq_k fun K15_ hK15_ => ?_
    refine W_seq_k fun K16_ hK16_ => ?_
    refine W_region [some 24, some 25, some 26, some 27, some 28] rfl ?_
    refine Ops_step (R_move rfl) rfl rfl ?_
    refine Ops_step (R_nilCheck rfl) rfl rfl ?_
    refine Ops_step (R_fieldAddr TOtD.fo65_2 rfl) rfl rfl ?_
    refine Ops_step (R_loadB (v := vi y13_0.E_) TOtD.ag35 rfl ht13_0.blk rfl) rfl rfl ?_
    refine Ops_step (R_neq rfl rfl) rfl rfl ?_
    refine Ops_nil ?_
    refine then_n (hK16_ _ _ ?_)
    clear hK16_ K16_
    refine W_keepB [0, 1, 5, 6, 28] fun B17 hB17_ => ?_
    simp only [pickE, lookE, putE, zipE, args0, Nat.reduceAdd, Nat.zero_add, List.cons_append, List.nil_append, Nat.reduceBEq, cond_true, cond_false] at hB17_
    subst hB17_
    refine W_if rfl (fun hc18_ => ?_) (fun hc18_ => ?_)
    · replace h := h.1 hc18_
      refine W_seq_k fun K19_ hK19_ => ?_
      refine W_region [some 4] rfl ?_
      refine Ops_step (R_assign rfl) rfl rfl ?_
      refine Ops_nil ?_
      refine then_n (hK19_ _ _ ?_)
      clear hK19_ K19_
      refine W_ret ?_
      refine then_ret ?_
      clear hK15_ K15_
      refine ⟨_, ⟨_, _, rfl, rfl, rfl⟩, ?_⟩
      exact ⟨(Str.mk []), y13_0, _, _, rfl, hI, ⟨_, ⟨A13_0_1, c13_0_1, rfl, ⟨hc13_0_1, hs13_0_1⟩⟩, ht13_0⟩, h⟩
    · replace h := h.2 hc18_
      refine W_skip ?_
      refine then_n (hK15_ _ _ ?_)
      clear hK15_ K15_
      refine W_seq_k fun K20_ hK20_ => ?_
      refine W_region [some 29, some 30, some 7] rfl ?_
      refine Ops_step (R_move rfl) rfl rfl ?_
      refine Ops_call (C_func TOtD.bd57 rfl) rfl rfl ?_
      refine (sealskinref02_Runes_ok (x0 := r13_0) hI.st (hg.up hI.le) hc14_ (hs14_.up hI.sub) h).mono ?_
      rintro _ w21_ ⟨r21_0, L21_, H21_, rfl, hI21_, h⟩
      refine Exists.elim (hI.call hI21_ (by simp)) fun L210_ h21_ => ?_
      have hz21_ := hI.size
      replace hI := h21_.1
      have u21_ := h21_.2.1
      have hl21_ := h21_.2.2
      clear h21_
      replace hs13_0_1 := hs13_0_1.up u21_.hh
      replace ht13_0 := ht13_0.up u21_ (by simp)
      replace hs14_ := hs14_.up u21_.ll
      clear hI21_ u21_ hl21_
      refine ⟨_, rfl, ?_⟩
      refine Ops_step (R_assign rfl) rfl rfl ?_
      refine Ops_nil ?_
      refine then_n (hK20_ _ _ ?_)
      clear hK20_ K20_
      refine Exists.elim h fun J22_ h => ?_
      have hr22_ := h.1
      replace h := h.2
      refine W_seq_join [0, 5, 6] [] (fun vs w2 => ∃ (yd0_22 : sealskinref02_Reader) (L H : Gh), vs = [] ∧ J22_ yd0_22 ∧ Inv [d0] G w L H w2 ∧ Le L210_ L ∧ Le H21_ H ∧ Ob tb0 H H w2 d0 yd0_22 ∧ True) (fun B22 hB22_ => ?_) (fun B22 hB22_ => ?_)
      · simp only [pickE, lookE, putE, zipE, args0, Nat.reduceAdd, Nat.zero_add, List.cons_append, List.nil_append, Nat.reduceBEq, cond_true, cond_false] at hB22_
        subst hB22_
        clear hr22_
        have hll22_ := Le.refl L210_
        have hhh22_ := Le.refl H21_
        refine W_seq_k fun K23_ hK23_ => ?_
        refine W_region [some 31, some 32] rfl ?_
        refine Ops_step (R_move rfl) rfl rfl ?_
        refine Ops_step (R_lss rfl rfl) rfl rfl ?_
        refine Ops_nil ?_
        refine then_n (hK23_ _ _ ?_)
        clear hK23_ K23_
        refine W_if rfl (fun hc24_ => ?_) (fun hc24_ => ?_)
        · replace h := h.1 hc24_
          refine W_region [some 33, some 34, some 35, none] rfl ?_
          refine Ops_step (R_move rfl) rfl rfl ?_
          refine Ops_step (R_nilCheck rfl) rfl rfl ?_
          refine Ops_step (R_fieldAddr TOtD.fo65_2 rfl) rfl rfl ?_
          refine Ops_to0 (R_store TOtD.sz35 rfl rfl ht13_0.blk (by show 2 < 3; decide) rfl) rfl ?_
          rintro _ w25_ ⟨hB25_, hF25_⟩
          replace hI := hI.tok hF25_ (out1 ht13_0.out) (mem1 (by simp))
          replace ht13_0 : Tok H21_ _ d0 tb0 ([.slice A13_0_1 y13_0.B_.length c13_0_1, vi y13_0.At_, vi 21]) := ⟨hB25_, ht13_0.out⟩
          clear hF25_ hB25_
          refine Ops_nil ?_
          refine then_n ?_
          exact ⟨_, rfl, ⟨(sealskinref02_Reader.mk y13_0.B_ y13_0.At_ 21), _, _, rfl, h, hI, hll22_, hhh22_, ⟨_, ⟨A13_0_1, c13_0_1, rfl, ⟨hc13_0_1, hs13_0_1⟩⟩, ht13_0⟩, trivial⟩, ⟨rfl, rfl, rfl, trivial⟩⟩
        · replace h := h.2 hc24_
          refine W_seq_k fun K26_ hK26_ => ?_
          refine W_region [some 36, some 37, some 38] rfl ?_
          refine Ops_step (R_move rfl) rfl rfl ?_
          refine Ops_step (R_move rfl) rfl rfl ?_
          refine Ops_step (R_gtr rfl rfl) rfl rfl ?_
          refine Ops_nil ?_
          refine then_n (hK26_ _ _ ?_)
          clear hK26_ K26_
          refine W_keepB [0, 5, 6, 38] fun B27 hB27_ => ?_
          simp only [pickE, lookE, putE, zipE, args0, Nat.reduceAdd, Nat.zero_add, List.cons_append, List.nil_append, Nat.reduceBEq, cond_true, cond_false] at hB27_
          subst hB27_
          refine W_if rfl (fun hc28_ => ?_) (fun hc28_ => ?_)
          · replace h := h.1 hc28_
            refine W_region [some 39, some 40, some 41, none] rfl ?_
            refine Ops_step (R_move rfl) rfl rfl ?_
            refine Ops_step (R_nilCheck rfl) rfl rfl ?_
            refine Ops_step (R_fieldAddr TOtD.fo65_2 rfl) rfl rfl ?_
            refine Ops_to0 (R_store TOtD.sz35 rfl rfl ht13_0.blk (by show 2 < 3; decide) rfl) rfl ?_
            rintro _ w29_ ⟨hB29_, hF29_⟩
            replace hI := hI.tok hF29_ (out1 ht13_0.out) (mem1 (by simp))
            replace ht13_0 : Tok H21_ _ d0 tb0 ([.slice A13_0_1 y13_0.B_.length c13_0_1, vi y13_0.At_, vi 4]) := ⟨hB29_, ht13_0.out⟩
            clear hF29_ hB29_
            refine Ops_nil ?_
            refine then_n ?_
            exact ⟨_, rfl, ⟨(sealskinref02_Reader.mk y13_0.B_ y13_0.At_ 4), _, _, rfl, h, hI, hll22_, hhh22_, ⟨_, ⟨A13_0_1, c13_0_1, rfl, ⟨hc13_0_1, hs13_0_1⟩⟩, ht13_0⟩, trivial⟩, ⟨rfl, rfl, rfl, trivial⟩⟩
          · replace h := h.2 hc28_
            refine W_skip ?_
            refine then_n ?_
            exact ⟨_, rfl, ⟨y13_0, _, _, rfl, h, hI, hll22_, hhh22_, ⟨_, ⟨A13_0_1, c13_0_1, rfl, ⟨hc13_0_1, hs13_0_1⟩⟩, ht13_0⟩, trivial⟩, ⟨rfl, rfl, rfl, trivial⟩⟩
      · simp only [pickE, lookE, putE, zipE, args0, Nat.reduceAdd, Nat.zero_add, List.cons_append, List.nil_append, Nat.reduceBEq, cond_true, cond_false] at hB22_
        subst hB22_
        clear h
        rintro _ w22_ ⟨yd0_22, L22_, H22_, rfl, hJ22_, hI22_, hll22_, hhh22_, hqd0_22, -⟩
        replace hI := hI22_
        clear hI22_
        have h := hr22_ yd0_22 hJ22_
        clear hr22_ hJ22_
        replace hs13_0_1 := hs13_0_1.up hhh22_
        replace hs14_ := hs14_.up hll22_
        obtain ⟨ld0_22_, hld0_22_, htd0_22⟩ := hqd0_22
        obtain ⟨Ad0_22_1, cd0_22_1, rfl, ⟨hcd0_22_1, hsd0_22_1⟩⟩ := hld0_22_
        refine W_seq_k fun K30_ hK30_ => ?_
        refine W_seq_k fun K31_ hK31_ => ?_
        refine W_region [some 42, some 43, some 44, some 45, some 46] rfl ?_
        refine Ops_step (R_move rfl) rfl rfl ?_
        refine Ops_step (R_nilCheck rfl) rfl rfl ?_
        refine Ops_step (R_fieldAddr TOtD.fo65_2 rfl) rfl rfl ?_
        refine Ops_step (R_loadB (v := vi yd0_22.E_) TOtD.ag35 rfl htd0_22.blk rfl) rfl rfl ?_
        refine Ops_step (R_neq rfl rfl) rfl rfl ?_
        refine Ops_nil ?_
        refine then_n (hK31_ _ _ ?_)
        clear hK31_ K31_
        refine W_if rfl (fun hc32_ => ?_) (fun hc32_ => ?_)
        · replace h := h.1 hc32_
          refine W_seq_k fun K33_ hK33_ => ?_
          refine W_region [some 47, some 48, some 49, some 50, none] rfl ?_
          refine Ops_step (R_move rfl) rfl rfl ?_
          refine Ops_step (R_move rfl) rfl rfl ?_
          refine Ops_step (R_nilCheck rfl) rfl rfl ?_
          refine Ops_step (R_fieldAddr TOtD.fo65_1 rfl) rfl rfl ?_
          refine Ops_to0 (R_store TOtD.sz3 rfl rfl htd0_22.blk (by show 1 < 3; decide) rfl) rfl ?_
          rintro _ w34_ ⟨hB34_, hF34_⟩
          replace hI := hI.tok hF34_ (out1 htd0_22.out) (mem1 (by simp))
          replace htd0_22 : Tok H22_ _ d0 tb0 ([.slice Ad0_22_1 yd0_22.B_.length cd0_22_1, vi x0.At_, vi yd0_22.E_]) := ⟨hB34_, htd0_22.out⟩
          clear hF34_ hB34_
          refine Ops_nil ?_
          refine then_n (hK33_ _ _ ?_)
          clear hK33_ K33_
          refine W_keepB [] fun B35 hB35_ => ?_
          simp only [pickE, lookE, putE, zipE, args0, Nat.reduceAdd, Nat.zero_add, List.cons_append, List.nil_append, Nat.reduceBEq, cond_true, cond_false] at hB35_
          subst hB35_
          refine W_seq_k fun K36_ hK36_ => ?_
          refine W_region [some 4] rfl ?_
          refine Ops_step (R_assign rfl) rfl rfl ?_
          refine Ops_nil ?_
          refine then_n (hK36_ _ _ ?_)
          clear hK36_ K36_
          refine W_ret ?_
          refine then_ret ?_
          clear hK30_ K30_
          refine ⟨_, ⟨_, _, rfl, rfl, rfl⟩, ?_⟩
          exact ⟨(Str.mk []), (sealskinref02_Reader.mk yd0_22.B_ x0.At_ yd0_22.E_), _, _, rfl, hI, ⟨_, ⟨Ad0_22_1, cd0_22_1, rfl, ⟨hcd0_22_1, hsd0_22_1⟩⟩, htd0_22⟩, h⟩
        · replace h := h.2 hc32_
          refine W_skip ?_
          refine then_n (hK30_ _ _ ?_)
          clear hK30_ K30_
          refine W_keepB [6] fun B37 hB37_ => ?_
          simp only [pickE, lookE, putE, zipE, args0, Nat.reduceAdd, Nat.zero_add, List.cons_append, List.nil_append, Nat.reduceBEq, cond_true, cond_false] at hB37_
          subst hB37_
          refine W_seq_k fun K38_ hK38_ => ?_
          refine W_region [some 51, some 52, some 4] rfl ?_
          refine Ops_step (R_move rfl) rfl rfl ?_
          refine Ops_step (X_bytesStr (bs := r13_0) Tryd.underlying22 Tryd.underlying5 Tryd.underlying9 rfl rfl ((hs14_.up hI.sub).fz.rd hI.st)) rfl rfl ?_
          refine Ops_step (R_assign rfl) rfl rfl ?_
          refine Ops_nil ?_
          refine then_n (hK38_ _ _ ?_)
          clear hK38_ K38_
          refine W_ret ?_
          refine ⟨_, ⟨_, _, rfl, rfl, rfl⟩, ?_⟩
          exact ⟨(Str.mk r13_0), yd0_22, _, _, rfl, hI, ⟨_, ⟨Ad0_22_1, cd0_22_1, rfl, ⟨hcd0_22_1, hsd0_22_1⟩⟩, htd0_22⟩, h⟩

set_option maxHeartbeats 4000000 in
theorem sealskinref02_Open_ok {G : Gh} {w : World} (hS : St G w) (hg : GL G) {A0 : Option Addr} {c0 : Nat} {x0 : List UInt8} (hc0 : x0.length ≤ c0) (hs0 : Sl G A0 x0) {Q : (List UInt8) → Int → Int → Prop} (h : sealskinref02_Open x0 Q) : Calls Tryd.prog 45 #[.slice A0 x0.length c0] w fun e w2 => ∃ (A0 : Option Addr) (c0 : Nat) (r0 : List UInt8) (r1 : Int) (r2 : Int) (L H : Gh), e = .returned (.tuple #[.slice A0 r0.length c0, vi r1, vi r2]) ∧ Inv [] G w L H w2 ∧ OwnS w.heap.size 5 L H w2 A0 c0 r0 ∧ Q r0 r1 r2 := by
  unfold sealskinref02_Open at h
  have hI := Inv.start (M := []) hS
  refine calls_W 48 Tryd.func45 rfl Tryd.ntmps45 rfl [.tmp 2, .tmp 3, .tmp 4] rfl ?_
  refine W_seq_k fun K1_ hK1_ => ?_
  refine W_region [some 2, some 3, some 4] rfl ?_
  refine Ops_step (R_assign rfl) rfl rfl ?_
  refine Ops_step (R_assign rfl) rfl rfl ?_
  refine Ops_step (R_assign rfl) rfl rfl ?_
  refine Ops_nil ?_
  refine then_n (hK1_ _ _ ?_)
  clear hK1_ K1_
  refine W_seq_k fun K2_ hK2_ => ?_
  refine W_region [some 9, some 10, some 11, some 5] rfl ?_
  refine Ops_step (R_move rfl) rfl rfl ?_
  refine Ops_step (R_build (pl := [(0, 1)]) (cs := [.slice A0 x0.length c0, vi 0, vi 0]) TOtD.zr65 TOtD.pl65 rfl rfl rfl) rfl rfl ?_
  have hI0_ := hI
  refine Ops_to (R_box rfl) rfl rfl ?_
  rintro _ w3_ ⟨b3_, rfl, hb3_, hB3_, hF3_⟩
  replace hI := hI.fr0 hF3_
  have ht3_ : Tok G _ b3_ 65 ([.slice A0 x0.length c0, vi 0, vi 0]) := ⟨hB3_.to rfl, Out.ge hI0_.st (Nat.le_of_eq hb3_.symm)⟩
  have hge_b3_ : w.heap.size ≤ b3_ := hb3_ ▸ hI0_.size
  clear hB3_ hb3_ hI0_ hF3_
  refine Ops_step (R_assign rfl) rfl rfl ?_
  refine Ops_nil ?_
  refine then_n (hK2_ _ _ ?_)
  clear hK2_ K2_
  refine W_keepB [0, 5] fun B4 hB4_ => ?_
  simp only [pickE, lookE, putE, zipE, args0, Nat.reduceAdd, Nat.zero_add, List.cons_append, List.nil_append, Nat.reduceBEq, cond_true, cond_false] at hB4_
  subst hB4_
  refine W_seq_k fun K5_ hK5_ => ?_
  refine W_region [some 12, some 13, some 6] rfl ?_
  refine Ops_step (R_move rfl) rfl rfl ?_
  refine Ops_call (C_func TOtD.bd41 rfl) rfl rfl ?_
  refine (sealskinref02_Reader_Bytes_ok (x0 := (sealskinref02_Reader.mk x0 0 0)) (x1 := 16384) hI.st (hg.up hI.le) ⟨_, ⟨A0, c0, rfl, ⟨hc0, hs0⟩⟩, ht3_⟩ h).mono ?_
  rintro _ w6_ ⟨A6_0, c6_0, r6_0, y6_0, L6_, H6_, rfl, hI6_, ho6_0, hq6_0, h⟩
  refine Exists.elim (hI.call hI6_ (new1 hge_b3_)) fun L60_ h6_ => ?_
  have hz6_ := hI.size
  replace hI := h6_.1
  have u6_ := h6_.2.1
  have hl6_ := h6_.2.2
  clear h6_
  replace hs0 := hs0.up u6_.hh
  replace ho6_0 := OwnS.backS ho6_0 hz6_ (Le.refl _)
  clear ht3_
  obtain ⟨l6_0_, hl6_0_, ht6_0⟩ := hq6_0
  obtain ⟨A6_0_1, c6_0_1, rfl, ⟨hc6_0_1, hs6_0_1⟩⟩ := hl6_0_
  clear hI6_ u6_ hl6_
  refine ⟨_, rfl, ?_⟩
  refine Ops_step (R_assign rfl) rfl rfl ?_
  refine Ops_nil ?_
  refine then_n (hK5_ _ _ ?_)
  clear hK5_ K5_
  refine W_seq_k fun K7_ hK7_ => ?_
  refine W_seq_k fun K8_ hK8_ => ?_
  refine W_region [some 14, some 15, some 16, some 17, some 18] rfl ?_
  refine Ops_step (R_move rfl) rfl rfl ?_
  refine Ops_step (R_nilCheck rfl) rfl rfl ?_
  refine Ops_step (R_fieldAddr TOtD.fo65_2 rfl) rfl rfl ?_
  refine Ops_step (R_loadB (v := vi y6_0.E_) TOtD.ag35 rfl ht6_0.blk rfl) rfl rfl ?_
  refine Ops_step (R_neq rfl rfl) rfl rfl ?_
  refine Ops_nil ?_
  refine then_n (hK8_ _ _ ?_)
  clear hK8_ K8_
  refine W_keepB [0, 5, 6, 18] fun B9 hB9_ => ?_
  simp only [pickE, lookE, putE, zipE, args0, Nat.reduceAdd, Nat.zero_add, List.cons_append, List.nil_append, Nat.reduceBEq, cond_true, cond_false] at hB9_
  subst hB9_
  refine W_if rfl (fun hc10_ => ?_) (fun hc10_ => ?_)
  · replace h := h.1 hc10_
    refine W_seq_k fun K11_ hK11_ => ?_
    refine W_drawF [some 19, some 20, some 21, some 22, some 2, some 3, some 4] [(0, true), (1, true), (2, true), (3, true), (4, true), (5, true), (6, true)] TOtD.hm rfl (by kernel_rfl) fun ops12_ w12_ hops12_ hF12_ => ?_
    replace hI := hI.fr0 hF12_
    replace ho6_0 := ho6_0.fr0 hF12_
    replace ht6_0 := ht6_0.fr0 hF12_
    clear hF12_
    refine HS_pure (fun w_ => R_move rfl) rfl rfl ?_
    refine HS_pure (fun w_ => R_nilCheck rfl) rfl rfl ?_
    refine HS_pure (fun w_ => R_fieldAddr TOtD.fo65_2 rfl) rfl rfl ?_
    refine HS_loadB (v := vi y6_0.E_) TOtD.ag35 rfl ht6_0.blk rfl rfl rfl ?_
    refine HS_pure (fun w_ => R_assign rfl) rfl rfl ?_
    refine HS_pure (fun w_ => R_assign rfl) rfl rfl ?_
    refine HS_pure (fun w_ => R_assign rfl) rfl rfl ?_
    refine HS_nil ?_
    clear hops12_
    refine then_n (hK11_ _ _ ?_)
    clear hK11_ K11_
    refine W_keepB [2, 3, 4] fun B13 hB13_ => ?_
    simp only [pickE, lookE, putE, zipE, args0, Nat.reduceAdd, Nat.zero_add, List.cons_append, List.nil_append, Nat.reduceBEq, cond_true, cond_false] at hB13_
    subst hB13_
    refine W_ret ?_
    refine then_ret ?_
    clear hK7_ K7_
    refine ⟨_, ⟨_, _, rfl, rfl, ⟨_, _, rfl, rfl, ⟨_, _, rfl, rfl, rfl⟩⟩⟩, ?_⟩
    exact ⟨none, 0, [], 0, y6_0.E_, _, _, rfl, hI, OwnS.nil, h⟩
  · replace h := h.2 hc10_
    refine W_skip ?_
    refine then_n (hK7_ _ _ ?_)
    clear hK7_ K7_
    refine W_seq_k fun K14_ hK14_ => ?_
    refine W_seq_k fun K15_ hK15_ => ?_
    refine W_region [some 23, some 24, some 25] rfl ?_
    refine Ops_step (R_move rfl) rfl rfl ?_
    refine Ops_call (C_func TOtD.bd43 rfl) rfl rfl ?_
    refine (sealskinref02_Reader_Left_ok (x0 := y6_0) hI.st (hg.up hI.le) ⟨_, ⟨A6_0_1, c6_0_1, rfl, ⟨hc6_0_1, hs6_0_1⟩⟩, ht6_0⟩ h).mono ?_
    rintro _ w16_ ⟨r16_0, L16_, H16_, rfl, hI16_, h⟩
    refine Exists.elim (hI.call hI16_ (by simp)) fun L160_ h16_ => ?_
    have hz16_ := hI.size
    replace hI := h16_.1
    have u16_ := h16_.2.1
    have hl16_ := h16_.2.2
    clear h16_
    replace hs0 := hs0.up u16_.hh
    replace ho6_0 := ho6_0.up (Le.refl _) u16_ (by simp)
    replace hs6_0_1 := hs6_0_1.up u16_.hh
    replace ht6_0 := ht6_0.up u16_ (by simp)
    clear hI16_ u16_ hl16_
    refine ⟨_, rfl, ?_⟩
    refine Ops_step (R_lss rfl rfl) rfl rfl ?_
    refine Ops_nil ?_
    refine then_n (hK15_ _ _ ?_)
    clear hK15_ K15_
    refine W_if rfl (fun hc17_ => ?_) (fun hc17_ => ?_)
    · replace h := h.1 hc17_
      refine W_seq_k fun K18_ hK18_ => ?_
      refine W_region [some 2, some 3, some 4] rfl ?_
      refine Ops_step (R_assign rfl) rfl rfl ?_
      refine Ops_step (R_assign rfl) rfl rfl ?_
      refine Ops_step (R_assign rfl) rfl rfl ?_
      refine Ops_nil ?_
      refine then_n (hK18_ _ _ ?_)
      clear hK18_ K18_
      refine W_keepB [2, 3, 4] fun B19 hB19_ => ?_
      simp only [pickE, lookE, putE, zipE, args0, Nat.reduceAdd, Nat.zero_add, List.cons_append, List.nil_append, Nat.reduceBEq, cond_true, cond_false] at hB19_
      subst hB19_
      refine W_ret ?_
      refine then_ret ?_
      clear hK14_ K14_
      refine ⟨_, ⟨_, _, rfl, rfl, ⟨_, _, rfl, rfl, ⟨_, _, rfl, rfl, rfl⟩⟩⟩, ?_⟩
      exact ⟨none, 0, [], 0, 2, _, _, rfl, hI, OwnS.nil, h⟩
    · replace h := h.2 hc17_
      refine W_skip ?_
      refine then_n (hK14_ _ _ ?_)
      clear hK14_ K14_
      refine W_seq_k fun K20_ hK20_ => ?_
      refine W_region [some 27, some 28, some 26, some 29, some 30, some 7, some 8] rfl ?_
      refine Ops_step (R_move rfl) rfl rfl ?_
      refine Exists.elim (ho6_0.lend hI.st (Le.no _)) fun Hb21_0_ hb21_0_ => ?_
      refine Ops_call (C_func TOtD.bd33 rfl) rfl rfl ?_
      refine (sealskinref02_Seal_ok (x0 := r6_0) hb21_0_.1 (hg.up (hI.le.trans hb21_0_.2.1)) ho6_0.cap hb21_0_.2.2 h).mono ?_
      have hlo21_0_ho6_0 := ho6_0.lt
      rintro _ w21_ ⟨A21_0, c21_0, r21_0, r21_1, L21_, H21_, rfl, hI21_, ho21_0, h⟩
      refine Exists.elim (hI.callB hb21_0_.2.1 hI21_ (by simp)) fun L210_ h21_ => Exists.elim h21_ fun H210_ h21_ => ?_
      have hz21_ := hI.size
      replace hI := h21_.1
      have u21_ := h21_.2.1
      have hl21_ := h21_.2.2.1
      have hh21_ := h21_.2.2.2
      clear h21_
      replace hs0 := hs0.up u21_.hh
      replace ho6_0 := ho6_0.up (Le.refl _) u21_ (by simp)
      replace hs6_0_1 := hs6_0_1.up u21_.hh
      replace ht6_0 := ht6_0.up u21_ (by simp)
      have hsp21_0_ho6_0 : ∀ i ∈ bk A21_0 c21_0, i ∉ bk A6_0 c6_0 := sep_new ho21_0.off hlo21_0_ho6_0
      replace ho21_0 := OwnS.backS ho21_0 hz21_ hh21_
      clear hI21_ u21_ hl21_
      refine ⟨_, rfl, ?_⟩
      refine Exists.elim (ho21_0.freeze hI) fun L22_ h22_ => Exists.elim h22_ fun H22_ h22_ => ?_
      replace hI := h22_.1
      have u22_ := h22_.2.1
      have hs22_ := h22_.2.2.1 (Le.no _)
      have hc22_ := ho21_0.cap
      replace hs0 := hs0.up u22_.hh
      replace ho6_0 := ho6_0.up (Le.refl _) u22_ (sep_sym hsp21_0_ho6_0)
      replace hs6_0_1 := hs6_0_1.up u22_.hh
      replace ht6_0 := ht6_0.up u22_ (ht6_0.sep ho21_0 (by decide))
      clear h22_ u22_ ho21_0
      refine Ops_step (R_move rfl) rfl rfl ?_
      refine Ops_step (R_extract (v := .slice A21_0 r21_0.length c21_0) rfl rfl) rfl rfl ?_
      refine Ops_step (R_extract (v := vi r21_1) rfl rfl) rfl rfl ?_
      refine Ops_step (R_assign rfl) rfl rfl ?_
      refine Ops_step (R_assign rfl) rfl rfl ?_
      refine Ops_nil ?_
      refine then_n (hK20_ _ _ ?_)
      clear hK20_ K20_
      refine W_keepB [0, 5, 6, 7] fun B23 hB23_ => ?_
      simp only [pickE, lookE, putE, zipE, args0, Nat.reduceAdd, Nat.zero_add, List.cons_append, List.nil_append, Nat.reduceBEq, cond_true, cond_false] at hB23_
      subst hB23_
      refine W_seq_k fun K24_ hK24_ => ?_
      refine W_seq_k fun K25_ hK25_ => ?_
      refine W_drawF [some 31, some 32, some 33, some 34, some 35, some 36, some 37, some 38, some 39, some 40, some 41] [(0, true), (1, true), (2, true), (3, true), (4, true), (5, true), (6, true), (7, true), (8, true), (9, true), (10, true)] TOtD.hm rfl (by kernel_rfl) fun ops26_ w26_ hops26_ hF26_ => ?_
      replace hI := hI.fr0 hF26_
      replace ho6_0 := ho6_0.fr0 hF26_
      replace ht6_0 := ht6_0.fr0 hF26_
      clear hF26_
      refine HS_pure (fun w_ => R_move rfl) rfl rfl ?_
      refine HS_held (fun w_ => Rd w_ A21_0 (r21_0.map Sc.enc)) (fun w_ hw_ => X_bytesStr (bs := r21_0) Tryd.underlying22 Tryd.underlying5 Tryd.underlying9 rfl rfl hw_) ((hs22_.up hI.sub).fz.rd hI.st) rfl rfl ?_
      refine HS_pure (fun w_ => R_move rfl) rfl rfl ?_
      refine HS_pure (fun w_ => R_move rfl) rfl rfl ?_
      refine HS_pure (fun w_ => R_nilCheck rfl) rfl rfl ?_
      refine HS_pure (fun w_ => R_fieldAddr TOtD.fo65_1 rfl) rfl rfl ?_
      refine HS_loadB (v := vi y6_0.At_) TOtD.ag3 rfl ht6_0.blk rfl rfl rfl ?_
      have hk27_ := h.1
      replace h := h.2
      refine HS_pure (fun w_ => R_add rfl rfl (wI hk27_.1 hk27_.2)) rfl rfl ?_
      have hk29_ := h.1
      replace h := h.2
      have hk30_ := h.1
      replace h := h.2
      refine Exists.elim (cut_ex (n := 1) hs0 rfl (by decide) hc0 (Int.le_refl 0) hk29_ hk30_) fun A28_ h28_ => Exists.elim h28_ fun c28_ h28_ => ?_
      have hr28_ := h28_.1
      have hc28_ := h28_.2.1
      have hs28_ := h28_.2.2
      clear h28_
      refine HS_pure (fun w_ => X_slice (xs := x0) Tryd.underlying22 TOtD.sz5 rfl hr28_ hc0 rfl rfl (Int.le_refl 0) hk29_ hk30_) rfl rfl ?_
      clear hr28_
      refine HS_held (fun w_ => Rd w_ A28_ ((cut x0 0 (y6_0.At_ + 4)).map Sc.enc)) (fun w_ hw_ => X_bytesStr (bs := (cut x0 0 (y6_0.At_ + 4))) Tryd.underlying22 Tryd.underlying5 Tryd.underlying9 rfl rfl hw_) (hs28_.fz.rd hI.st) rfl rfl ?_
      refine HS_pure (fun w_ => R_strNeB rfl rfl) rfl rfl ?_
      refine HS_nil ?_
      clear hops26_
      refine then_n (hK25_ _ _ ?_)
      clear hK25_ K25_
      refine W_keepB [5, 6, 41] fun B31 hB31_ => ?_
      simp only [pickE, lookE, putE, zipE, args0, Nat.reduceAdd, Nat.zero_add, List.cons_append, List.nil_append, Nat.reduceBEq, cond_true, cond_false] at hB31_
      subst hB31_
      refine W_if rfl (fun hc32_ => ?_) (fun hc32_ => ?_)
      · replace h := h.1 hc32_
        refine W_seq_k fun K33_ hK33_ => ?_
        refine W_region [some 2, some 3, some 4] rfl ?_
        refine Ops_step (R_assign rfl) rfl rfl ?_
        refine Ops_step (R_assign rfl) rfl rfl ?_
        refine Ops_step (R_assign rfl) rfl rfl ?_
        refine Ops_nil ?_
        refine then_n (hK33_ _ _ ?_)
        clear hK33_ K33_
        refine W_ret ?_
        refine then_ret ?_
        clear hK24_ K24_
        refine ⟨_, ⟨_, _, rfl, rfl, ⟨_, _, rfl, rfl, ⟨_, _, rfl, rfl, rfl⟩⟩⟩, ?_⟩
        exact ⟨none, 0, [], 0, 20, _, _, rfl, hI, OwnS.nil, h⟩
      · replace h := h.2 hc32_
        refine W_skip ?_
        refine then_n (hK24_ _ _ ?_)
        clear hK24_ K24_
        refine W_seq_k fun K34_ hK34_ => ?_
        refine W_drawF [some 42, some 43, some 44, some 45, some 46, some 47, some 2, some 3, some 4] [(0, true), (1, true), (2, true), (3, true), (4, true), (5, true), (6, true), (7, true), (8, true)] TOtD.hm rfl (by kernel_rfl) fun ops35_ w35_ hops35_ hF35_ => ?_
        replace hI := hI.fr0 hF35_
        replace ho6_0 := ho6_0.fr0 hF35_
        replace ht6_0 := ht6_0.fr0 hF35_
        clear hF35_
        refine HS_pure (fun w_ => R_move rfl) rfl rfl ?_
        refine HS_pure (fun w_ => R_move rfl) rfl rfl ?_
        refine HS_pure (fun w_ => R_nilCheck rfl) rfl rfl ?_
        refine HS_pure (fun w_ => R_fieldAddr TOtD.fo65_1 rfl) rfl rfl ?_
        refine HS_loadB (v := vi y6_0.At_) TOtD.ag3 rfl ht6_0.blk rfl rfl rfl ?_
        have hk36_ := h.1
        replace h := h.2
        refine HS_pure (fun w_ => R_add rfl rfl (wI hk36_.1 hk36_.2)) rfl rfl ?_
        refine HS_pure (fun w_ => R_assign rfl) rfl rfl ?_
        refine HS_pure (fun w_ => R_assign rfl) rfl rfl ?_
        refine HS_pure (fun w_ => R_assign rfl) rfl rfl ?_
        refine HS_nil ?_
        clear hops35_
        refine then_n (hK34_ _ _ ?_)
        clear hK34_ K34_
        refine W_keepB [2, 3, 4] fun B37 hB37_ => ?_
        simp only [pickE, lookE, putE, zipE, args0, Nat.reduceAdd, Nat.zero_add, List.cons_append, List.nil_append, Nat.reduceBEq, cond_true, cond_false] at hB37_
        subst hB37_
        refine W_ret ?_
        refine ⟨_, ⟨_, _, rfl, rfl, ⟨_, _, rfl, rfl, ⟨_, _, rfl, rfl, rfl⟩⟩⟩, ?_⟩
        exact ⟨A6_0, c6_0, r6_0, (y6_0.At_ + 4), 0, _, _, rfl, hI, (ho6_0.hl (Le.no _)), h⟩

set_option maxHeartbeats 4000000 in
theorem sealskinref02_All_ok {G : Gh} {w : World} (hS : St G w) (hg : GL G) {A0 : Option Addr} {c0 : Nat} {x0 : List UInt8} (hc0 : x0.length ≤ c0) (hs0 : Sl G A0 x0) {Q : (List (List UInt8)) → Int → Prop} (h : sealskinref02_All x0 Q) : Calls Tryd.prog 47 #[.slice A0 x0.length c0] w fun e w2 => ∃ (A0 : Option Addr) (c0 : Nat) (r0 : List (List UInt8)) (r1 : Int) (L H : Gh), e = .returned (.tuple #[.slice A0 r0.length c0, vi r1]) ∧ Inv [] G w L H w2 ∧ OwnS w.heap.size 22 L H w2 A0 c0 r0 ∧ Q r0 r1 := by
  unfold sealskinref02_All at h
  have hI := Inv.start (M := []) hS
  refine calls_W 33 Tryd.func47 rfl Tryd.ntmps47 rfl [.tmp 2, .tmp 3] rfl ?_
  refine W_seq_k fun K1_ hK1_ => ?_
  refine W_region [some 2, some 3] rfl ?_
  refine Ops_step (R_assign rfl) rfl rfl ?_
  refine Ops_step (R_assign rfl) rfl rfl ?_
  refine Ops_nil ?_
  refine then_n (hK1_ _ _ ?_)
  clear hK1_ K1_
  refine W_seq_k fun K2_ hK2_ => ?_
  refine W_region [some 4] rfl ?_
  refine Ops_step (R_assign rfl) rfl rfl ?_
  refine Ops_nil ?_
  refine then_n (hK2_ _ _ ?_)
  clear hK2_ K2_
  refine W_seq_k fun K3_ hK3_ => ?_
  refine W_region [some 5] rfl ?_
  refine Ops_step (R_assign rfl) rfl rfl ?_
  refine Ops_nil ?_
  refine then_n (hK3_ _ _ ?_)
  clear hK3_ K3_
  refine Exists.elim h fun J4_ h => ?_
  have hr4_ := h.1
  replace h := h.2
  refine W_seq_join [] [4, 5] (fun vs w2 => ∃ (x4_4 : List (List UInt8)) (A4_4 : Option Addr) (c4_4 : Nat) (x5_4 : Int) (L H : Gh), vs = [.slice A4_4 x4_4.length c4_4, vi x5_4] ∧ J4_ x4_4 x5_4 ∧ Inv [] G w L H w2 ∧ Le Gh.no L ∧ Le G H ∧ OwnS w.heap.size 22 L H w2 A4_4 c4_4 x4_4 ∧ True) (fun B4 hB4_ => ?_) (fun B4 hB4_ => ?_)
  · simp only [pickE, lookE, putE, zipE, args0, Nat.reduceAdd, Nat.zero_add, List.cons_append, List.nil_append, Nat.reduceBEq, cond_true, cond_false] at hB4_
    subst hB4_
    clear hr4_
    have hll4_ := Le.refl Gh.no
    have hhh4_ := Le.refl G
    refine W_seq_k fun K5_ hK5_ => ?_
    refine W_region [some 9, some 10, some 11] rfl ?_
    refine Ops_step (R_move rfl) rfl rfl ?_
    refine Ops_step (R_len Tryd.underlying22 rfl rfl) rfl rfl ?_
    refine Ops_step (R_move rfl) rfl rfl ?_
    refine Ops_nil ?_
    refine then_n (hK5_ _ _ ?_)
    clear hK5_ K5_
    refine W_block ?_
    refine Exists.elim h fun I6_ h => Exists.elim h fun n6_ h => ?_
    have h0_ := h.1
    have hs6_ := h.2
    clear h
    refine W_loopB [0, 10] [4, 5, 11] (fun m vs w2 => ∃ (x4_6 : List (List UInt8)) (A4_6 : Option Addr) (c4_6 : Nat) (x5_6 : Int) (x11_6 : Int) (L H : Gh), vs = [.slice A4_6 x4_6.length c4_6, vi x5_6, vi x11_6] ∧ I6_ m x4_6 x5_6 x11_6 ∧ Inv [] G w L H w2 ∧ Le Gh.no L ∧ Le G H ∧ OwnS w.heap.size 22 L H w2 A4_6 c4_6 x4_6 ∧ True) n6_ _ rfl ⟨[], none, 0, 0, 0, _, _, rfl, h0_, hI, Le.refl _, Le.refl _, OwnS.nil, trivial⟩ fun B6 hB6_ => ?_
    clear h0_
    simp only [pickE, lookE, putE, zipE, args0, Nat.reduceAdd, Nat.zero_add, List.cons_append, List.nil_append, Nat.reduceBEq, cond_true, cond_false] at hB6_
    subst hB6_
    rintro m6_ _ w6_ ⟨x4_6, A4_6, c4_6, x5_6, x11_6, L6_, H6_, rfl, hJ6_, hI6_, hll6_, hhh6_, ho4_6, -⟩
    replace hI := hI6_
    clear hI6_
    have h := hs6_ m6_ x4_6 x5_6 x11_6 hJ6_
    clear hs6_ hJ6_
    replace hs0 := hs0.up hhh6_
    replace hll4_ := hll4_.trans hll6_
    replace hhh4_ := hhh4_.trans hhh6_
    refine W_seq_k fun K7_ hK7_ => ?_
    refine W_region [some 12] rfl ?_
    refine Ops_step (R_lss rfl rfl) rfl rfl ?_
    refine Ops_nil ?_
    refine then_n (hK7_ _ _ ?_)
    clear hK7_ K7_
    refine W_seq_k fun K8_ hK8_ => ?_
    refine W_if rfl (fun hc9_ => ?_) (fun hc9_ => ?_)
    · replace h := h.1 hc9_
      refine W_skip ?_
      refine then_n (hK8_ _ _ ?_)
      clear hK8_ K8_
      refine W_seq_k fun K10_ hK10_ => ?_
      refine W_block ?_
      refine W_seq_k fun K11_ hK11_ => ?_
      refine W_region [some 14, some 15, some 16, some 17, some 13, some 18, some 19, some 20, some 6, some 7, some 8] rfl ?_
      refine Ops_step (R_move rfl) rfl rfl ?_
      refine Ops_step (R_move rfl) rfl rfl ?_
      have hk13_ := h.1
      replace h := h.2
      have hk14_ := h.1
      replace h := h.2
      refine Exists.elim (cut_ex (n := 1) hs0 rfl (by decide) hc0 hk13_ hk14_ (Int.le_refl _)) fun A12_ h12_ => Exists.elim h12_ fun c12_ h12_ => ?_
      have hr12_ := h12_.1
      have hc12_ := h12_.2.1
      have hs12_ := h12_.2.2
      clear h12_
      refine Ops_step (X_slice (xs := x0) Tryd.underlying22 TOtD.sz5 rfl hr12_ hc0 rfl rfl hk13_ hk14_ (Int.le_refl _)) rfl rfl ?_
      clear hr12_
      refine Ops_call (C_func TOtD.bd45 rfl) rfl rfl ?_
      refine (sealskinref02_Open_ok (x0 := (cut x0 x5_6 (x0.length : Int))) hI.st (hg.up hI.le) hc12_ hs12_ h).mono ?_
      rintro _ w15_ ⟨A15_0, c15_0, r15_0, r15_1, r15_2, L15_, H15_, rfl, hI15_, ho15_0, h⟩
      refine Exists.elim (hI.call hI15_ (by simp)) fun L150_ h15_ => ?_
      have hz15_ := hI.size
      replace hI := h15_.1
      have u15_ := h15_.2.1
      have hl15_ := h15_.2.2
      clear h15_
      replace hs0 := hs0.up u15_.hh
      replace hll4_ := hll4_.trans u15_.ll
      replace hhh4_ := hhh4_.trans u15_.hh
      replace ho4_6 := ho4_6.up u15_.ll u15_ (by simp)
      replace hll6_ := hll6_.trans u15_.ll
      replace hhh6_ := hhh6_.trans u15_.hh
      replace ho15_0 := OwnS.backS ho15_0 hz15_ (Le.refl _)
      clear hI15_ u15_ hl15_
      refine ⟨_, rfl, ?_⟩
      refine Exists.elim (ho15_0.freeze hI) fun L16_ h16_ => Exists.elim h16_ fun H16_ h16_ => ?_
      replace hI := h16_.1
      have u16_ := h16_.2.1
      have hs16_ := h16_.2.2.1 (Le.no _)
      have hc16_ := ho15_0.cap
      replace hs0 := hs0.up u16_.hh
      replace hll4_ := hll4_.trans u16_.ll
      replace hhh4_ := hhh4_.trans u16_.hh
      replace ho4_6 := ho4_6.up u16_.ll u16_ (ho4_6.sep ho15_0 (by decide))
      replace hll6_ := hll6_.trans u16_.ll
      replace hhh6_ := hhh6_.trans u16_.hh
      clear h16_ u16_ ho15_0
      refine Ops_step (R_move rfl) rfl rfl ?_
      refine Ops_step (R_extract (v := .slice A15_0 r15_0.length c15_0) rfl rfl) rfl rfl ?_
      refine Ops_step (R_extract (v := vi r15_1) rfl rfl) rfl rfl ?_
      refine Ops_step (R_extract (v := vi r15_2) rfl rfl) rfl rfl ?_
      refine Ops_step (R_assign rfl) rfl rfl ?_
      refine Ops_step (R_assign rfl) rfl rfl ?_
      refine Ops_step (R_assign rfl) rfl rfl ?_
      refine Ops_nil ?_
      refine then_n (hK11_ _ _ ?_)
      clear hK11_ K11_
      refine W_keepB [0, 4, 5, 6, 7, 8, 10, 11] fun B17 hB17_ => ?_
      simp only [pickE, lookE, putE, zipE, args0, Nat.reduceAdd, Nat.zero_add, List.cons_append, List.nil_append, Nat.reduceBEq, cond_true, cond_false] at hB17_
      subst hB17_
      refine W_seq_k fun K18_ hK18_ => ?_
      refine W_seq_k fun K19_ hK19_ => ?_
      refine W_region [some 21, some 22] rfl ?_
      refine Ops_step (R_move rfl) rfl rfl ?_
      refine Ops_step (R_neq rfl rfl) rfl rfl ?_
      refine Ops_nil ?_
      refine then_n (hK19_ _ _ ?_)
      clear hK19_ K19_
      refine W_if rfl (fun hc20_ => ?_) (fun hc20_ => ?_)
      · replace h := h.1 hc20_
        refine W_exit ?_
        refine then_exit ?_
        clear hK18_ K18_
        refine block_other rfl ?_
        refine then_exit ?_
        clear hK10_ K10_
        refine then_exit ?_
        refine block_exit ?_
        refine then_n ?_
        exact ⟨_, rfl, ⟨x4_6, A4_6, c4_6, x5_6, _, _, rfl, h, hI, hll4_, hhh4_, ho4_6, trivial⟩, trivial⟩
      · replace h := h.2 hc20_
        refine W_skip ?_
        refine then_n (hK18_ _ _ ?_)
        clear hK18_ K18_
        refine W_seq_k fun K21_ hK21_ => ?_
        refine W_region [some 23, some 24, some 25, some 26, some 4] rfl ?_
        refine Ops_step (R_move rfl) rfl rfl ?_
        refine Ops_step (R_move rfl) rfl rfl ?_
        have hlo22_ho4_6 := ho4_6.lt
        refine Ops_to (R_buildSlice TOtD.el67 TOtD.zr22 (by decide) (by decide) rfl rfl) rfl rfl ?_
        rintro _ w22_ ⟨b22_, rfl, hb22_, hB22_, hF22_⟩
        have ho22_ : OwnS w.heap.size 22 L16_ H16_ _ (some ⟨b22_, 0, none⟩) 1 ([r15_0] : List (List UInt8)) := OwnS.ofBlk (css := [[.slice A15_0 r15_0.length c15_0]]) hI.st hb22_ hB22_ (.cons ⟨A15_0, c15_0, rfl, hc16_, hs16_⟩ .nil) rfl (by have := hI.size; omega) (by show 1 ≤ maxLen; decide)
        replace hI := hI.fr0 hF22_
        replace ho4_6 := ho4_6.fr0 hF22_
        clear hF22_ hB22_
        have hsp22_ho4_6 : ∀ i ∈ bk (some ⟨b22_, 0, none⟩) 1, i ∉ bk A4_6 c4_6 := sep_new (fun i_ hi_ => by have := (bk_of hi_).1; simp only [blkOf, List.mem_singleton] at this; omega) hlo22_ho4_6
        have hk24_ := h.1
        replace h := h.2
        refine Ops_to (X_append (α := List UInt8) (xs := x4_6) (ys := ([r15_0] : List (List UInt8))) TOtD.el67 rfl rfl ho4_6 (Srcs.ofOwn Tryd.underlying67 ho22_ (by decide)) hI.st hk24_ (by decide) hI.size) rfl rfl ?_
        rintro _ w23_ ⟨A23_, c23_, rfl, ho23_, hF23_, hbk23_⟩
        clear hbk23_
        replace hI := hI.tok hF23_ ho4_6.out (ho4_6.new (Nat.le_refl _))
        clear hF23_ ho4_6
        refine Ops_step (R_assign rfl) rfl rfl ?_
        refine Ops_nil ?_
        refine then_n (hK21_ _ _ ?_)
        clear hK21_ K21_
        refine W_keepB [0, 4, 5, 7, 10, 11] fun B25 hB25_ => ?_
        simp only [pickE, lookE, putE, zipE, args0, Nat.reduceAdd, Nat.zero_add, List.cons_append, List.nil_append, Nat.reduceBEq, cond_true, cond_false] at hB25_
        subst hB25_
        refine W_region [some 27, some 28, some 29, some 5] rfl ?_
        refine Ops_step (R_move rfl) rfl rfl ?_
        refine Ops_step (R_move rfl) rfl rfl ?_
        have hk26_ := h.1
        replace h := h.2
        refine Ops_step (R_add rfl rfl (wI hk26_.1 hk26_.2)) rfl rfl ?_
        refine Ops_step (R_assign rfl) rfl rfl ?_
        refine Ops_nil ?_
        refine block_n ?_
        refine then_n (hK10_ _ _ ?_)
        clear hK10_ K10_
        refine W_region [some 30, some 11] rfl ?_
        have hk27_ := h.1
        replace h := h.2
        refine Ops_step (R_add rfl rfl (wI hk27_.1 hk27_.2)) rfl rfl ?_
        refine Ops_step (R_move rfl) rfl rfl ?_
        refine Ops_nil ?_
        refine then_n ?_
        exact h.elim fun m_ h => ⟨m_, _, h.1, rfl, ⟨(x4_6 ++ ([r15_0] : List (List UInt8))), A23_, c23_, (x5_6 + r15_1), (x11_6 + 1), _, _, rfl, h.2, hI, hll6_, hhh6_, ho23_, trivial⟩, ⟨rfl, rfl, trivial⟩⟩
    · replace h := h.2 hc9_
      refine W_exit ?_
      refine then_exit ?_
      clear hK8_ K8_
      refine then_exit ?_
      refine block_exit ?_
      refine then_n ?_
      exact ⟨_, rfl, ⟨x4_6, A4_6, c4_6, x5_6, _, _, rfl, h, hI, hll4_, hhh4_, ho4_6, trivial⟩, trivial⟩
  · simp only [pickE, lookE, putE, zipE, args0, Nat.reduceAdd, Nat.zero_add, List.cons_append, List.nil_append, Nat.reduceBEq, cond_true, cond_false] at hB4_
    subst hB4_
    clear h
    rintro _ w4_ ⟨x4_4, A4_4, c4_4, x5_4, L4_, H4_, rfl, hJ4_, hI4_, hll4_, hhh4_, ho4_4, -⟩
    replace hI := hI4_
    clear hI4_
    have h := hr4_ x4_4 x5_4 hJ4_
    clear hr4_ hJ4_
    refine W_seq_k fun K28_ hK28_ => ?_
    refine W_region [some 31, some 32, some 2, some 3] rfl ?_
    refine Ops_step (R_move rfl) rfl rfl ?_
    refine Ops_step (R_move rfl) rfl rfl ?_
    refine Ops_step (R_assign rfl) rfl rfl ?_
    refine Ops_step (R_assign rfl) rfl rfl ?_
    refine Ops_nil ?_
    refine then_n (hK28_ _ _ ?_)
    clear hK28_ K28_
    refine W_ret ?_
    refine ⟨_, ⟨_, _, rfl, rfl, ⟨_, _, rfl, rfl, rfl⟩⟩, ?_⟩
    exact ⟨A4_4, c4_4, x4_4, x5_4, _, _, rfl, hI, ho4_4, h⟩

end Go.Proofs.YtdnpdljnjoegiaaDoor
