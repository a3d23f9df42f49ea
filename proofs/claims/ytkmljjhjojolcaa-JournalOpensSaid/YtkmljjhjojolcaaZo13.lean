/- What is shown of the program on the way to the law. -/
import Derived.Test.YtkmljjhjojolcaaZo3
import Derived.Test.YtkmljjhjojolcaaZo4
import Derived.Test.YtkmljjhjojolcaaZo12
import Derived.Test.YtkmljjhjojolcaaProg
set_option linter.unusedVariables false
set_option linter.unusedSimpArgs false
set_option maxHeartbeats 4000000
namespace Go.Proofs.Ytkmljjhjojolcaa
open Go Go.Sx Go.Lx
namespace TJtH
theorem hm : Try.prog.follows .mixedOrders = true := by kernel_rfl
theorem ag29 : aggB Try.prog 29 = some false := by kernel_rfl
theorem ag3 : aggB Try.prog 3 = some false := by kernel_rfl
theorem ag32 : aggB Try.prog 32 = some false := by kernel_rfl
theorem ag5 : aggB Try.prog 5 = some false := by kernel_rfl
theorem bd71 : bodied Try.prog 71 = true := by kernel_rfl
theorem bd72 : bodied Try.prog 72 = true := by kernel_rfl
theorem bd73 : bodied Try.prog 73 = true := by kernel_rfl
theorem bd75 : bodied Try.prog 75 = true := by kernel_rfl
theorem bd77 : bodied Try.prog 77 = true := by kernel_rfl
theorem bd78 : bodied Try.prog 78 = true := by kernel_rfl
theorem bd86 : bodied Try.prog 86 = true := by kernel_rfl
theorem bd87 : bodied Try.prog 87 = true := by kernel_rfl
theorem bd88 : bodied Try.prog 88 = true := by kernel_rfl
theorem bd92 : bodied Try.prog 92 = true := by kernel_rfl
theorem el116 : Elem Try.prog 116 3 1 8 := Elem.of (by kernel_rfl)
theorem el29 : Elem Try.prog 29 5 1 1 := Elem.of (by kernel_rfl)
theorem el67 : Elem Try.prog 67 29 1 24 := Elem.of (by kernel_rfl)
theorem fo113_0 : offB Try.prog 113 0 = some 0 := by kernel_rfl
theorem fo113_1 : offB Try.prog 113 1 = some 1 := by kernel_rfl
theorem fo113_2 : offB Try.prog 113 2 = some 2 := by kernel_rfl
theorem pl113 : partPl Try.prog 113 = some [(0, 1), (1, 1), (2, 1)] := by kernel_rfl
theorem sz29 : sz Try.prog 29 = some 1 := by kernel_rfl
theorem sz3 : sz Try.prog 3 = some 1 := by kernel_rfl
theorem sz32 : sz Try.prog 32 = some 1 := by kernel_rfl
theorem sz5 : sz Try.prog 5 = some 1 := by kernel_rfl
theorem zr113 : zr Try.prog 113 = some ([.slice none 0 0] ++ [.int .i64 0] ++ [.int .i64 0]) := by kernel_rfl
theorem zr123 : zr Try.prog 123 = some (List.replicate 8 (.int .u8 0)) := by kernel_rfl
theorem zr29 : zr Try.prog 29 = some ([.slice none 0 0]) := by kernel_rfl
theorem zr3 : zr Try.prog 3 = some ([.int .i64 0]) := by kernel_rfl
theorem zr5 : zr Try.prog 5 = some ([.int .u8 0]) := by kernel_rfl
end TJtH
open TJtH
theorem sealskinref02_Put_ok {G : Gh} {w : World} (hS : St G w) (hg : GL G) {A0 : Option Addr} {c0 : Nat} {x0 : List UInt8} (hc0 : x0.length ≤ c0) (hs0 : Sl G A0 x0) {A1 : Option Addr} {c1 : Nat} {x1 : List Int} (hc1 : x1.length ≤ c1) (hs1 : Sl G A1 x1) {Q : (List UInt8) → Prop} (h : sealskinref02_Put x0 x1 Q) : Calls Try.prog 77 #[.slice A0 x0.length c0, .slice A1 x1.length c1] w fun e w2 => ∃ (A0 : Option Addr) (c0 : Nat) (r0 : List UInt8) (L H : Gh), e = .returned (.slice A0 r0.length c0) ∧ Inv [] G w L H w2 ∧ OwnS w.heap.size 5 L H w2 A0 c0 r0 ∧ Q r0 := by
 unfold sealskinref02_Put at h
 have hI := Inv.start (M := []) hS
 refine calls_W 47 Try.func77 rfl Try.ntmps77 rfl [.tmp 4] rfl ?_
 refine W_seq_k fun K1 k1 => ?_
 refine W_region [4] rfl (Ops_step (R_assign rfl) rfl rfl ?_)
 refine Ops_nil ?_
 refine then_n (k1 _ _ ?_)
 clear k1 K1
 refine W_seq_k fun K2 k2 => ?_
 refine W_region [12, 13, 14, 5] rfl ?_
 refine Ops_to (R_buildSlice0 el29) rfl rfl ?_
 rintro _ w3_ ⟨b3_, rfl, hb3_, hB3_, hF3_⟩
 have ho3_ : OwnS w.heap.size 5 Gh.no G _ (some ⟨b3_, 0, none⟩) 0 ([] : List UInt8) := OwnS.ofBlk hI.st hb3_ hB3_ (all2_sc' _) rfl (by have := hI.size; omega) (by show 0 ≤ maxLen; decide)
 replace hI := hI.fr0 hF3_
 clear hF3_ hB3_
 refine Ops_step (R_move rfl) rfl rfl ?_
 have hk5_ := h.1
 replace h := h.2
 refine Ops_to (X_append (α := UInt8) (xs := ([] : List UInt8)) (ys := x0) el29 rfl rfl ho3_ (Srcs.sc (Srcs.ofSl Try.underlying29 hs0 hI.st (by decide))) hI.st hk5_ (by decide) hI.size) rfl rfl ?_
 rintro _ w4_ ⟨A4_, c4_, rfl, ho4_, hF4_, hbk4_⟩
 clear hbk4_
 replace hI := hI.tok hF4_ ho3_.out (ho3_.new (Nat.le_refl _))
 clear hF4_ ho3_
 refine Ops_step (R_assign rfl) rfl rfl ?_
 refine Ops_nil ?_
 refine then_n (k2 _ _ ?_)
 clear k2 K2
 refine ex_ h fun J6_ hr6_ h => ?_
 refine W_seq_join [] [5] (fun vals_ w2 => ∃ (x5_6 : List UInt8) (A5_6 : Option Addr) (c5_6 : Nat) (L H : Gh), vals_ = [.slice A5_6 x5_6.length c5_6] ∧ J6_ x5_6 ∧ Inv [] G w L H w2 ∧ Le Gh.no L ∧ Le G H ∧ OwnS w.heap.size 5 Gh.no H w2 A5_6 c5_6 x5_6 ∧ True) (fun B_ b_ => ?_) (fun B_ b_ => ?_)
 ·
  simp only [e_, Nat.reduceAdd, Nat.reduceBEq] at b_
  subst b_
  clear hr6_
  have hll6_ := Le.refl Gh.no
  have hhh6_ := Le.refl G
  refine W_seq_k fun K7 k7 => ?_
  refine W_region [15, 16, 17] rfl (Ops_step (R_move rfl) rfl rfl (Ops_step (R_len Try.underlying116 rfl rfl) rfl rfl (Ops_step (R_move rfl) rfl rfl ?_)))
  refine Ops_nil ?_
  refine then_n (k7 _ _ ?_)
  clear k7 K7
  refine W_keepB [5, 15, 16, 17] fun B_ b_ => ?_
  simp only [e_, Nat.reduceAdd, Nat.reduceBEq] at b_
  subst b_
  refine W_block ?_
  refine Exists.elim h fun I9_ h => Exists.elim h fun n9_ h => ?_
  have h0_ := h.1
  have hs9_ := h.2
  clear h
  refine W_loopB [15, 16] [5, 17] (fun m vals_ w2 => ∃ (x5_9 : List UInt8) (A5_9 : Option Addr) (c5_9 : Nat) (x17_9 : Int) (L H : Gh), vals_ = [.slice A5_9 x5_9.length c5_9, vi x17_9] ∧ I9_ m x5_9 x17_9 ∧ Inv [] G w L H w2 ∧ Le Gh.no L ∧ Le G H ∧ OwnS w.heap.size 5 Gh.no H w2 A5_9 c5_9 x5_9 ∧ True) n9_ _ rfl ⟨(([] : List UInt8) ++ x0), A4_, c4_, 0, _, _, rfl, h0_, hI, Le.refl _, Le.refl _, ho4_, trivial⟩ fun B_ b_ => ?_
  clear h0_
  simp only [e_, Nat.reduceAdd, Nat.reduceBEq] at b_
  subst b_
  rintro m9_ _ w9_ ⟨x5_9, A5_9, c5_9, x17_9, L9_, H9_, rfl, hJ9_, hI9_, hll9_, hhh9_, ho5_9, -⟩
  replace hI := hI9_
  clear hI9_
  have h := hs9_ m9_ x5_9 x17_9 hJ9_
  clear hs9_ hJ9_
  replace hs1 := hs1.up hhh9_
  replace hll6_ := hll6_.trans hll9_
  replace hhh6_ := hhh6_.trans hhh9_
  refine W_seq_k fun K10 k10 => ?_
  refine W_region [18] rfl (Ops_step (R_lss rfl rfl) rfl rfl ?_)
  refine Ops_nil ?_
  refine then_n (k10 _ _ ?_)
  clear k10 K10
  refine W_seq_k fun K11 k11 => ?_
  refine W_if rfl (fun hc12_ => ?_) (fun hc12_ => ?_)
  ·
   replace h := h.1 hc12_
   refine W_skip ?_
   refine then_n (k11 _ _ ?_)
   clear k11 K11
   refine ex_ h fun J13_ hr13_ h => ?_
   refine W_seq_join [15, 16, 17] [5] (fun vals_ w2 => ∃ (x5_13 : List UInt8) (A5_13 : Option Addr) (c5_13 : Nat) (L H : Gh), vals_ = [.slice A5_13 x5_13.length c5_13] ∧ J13_ x5_13 ∧ Inv [] G w L H w2 ∧ Le L9_ L ∧ Le H9_ H ∧ OwnS w.heap.size 5 Gh.no H w2 A5_13 c5_13 x5_13 ∧ True) (fun B_ b_ => ?_) (fun B_ b_ => ?_)
   ·
    simp only [e_, Nat.reduceAdd, Nat.reduceBEq] at b_
    subst b_
    clear hr13_
    have hll13_ := Le.refl L9_
    have hhh13_ := Le.refl H9_
    refine W_block ?_
    refine W_seq_k fun K14 k14 => ?_
    refine W_region [19, 20, 7] rfl ?_
    refine ex_ h fun x15_ hx15_ h => ?_
    have ha15_ := (hs1.atS hx15_).1
    have hg15_ := (hs1.atS hx15_).2
    refine Ops_step (R_indexSl Try.underlying116 sz3 rfl rfl hx15_.1 hx15_.lt ha15_) rfl rfl (Ops_step (R_load ag3 rfl (hI.st _ _ hg15_)) rfl rfl (Ops_step (R_assign rfl) rfl rfl ?_))
    refine Ops_nil ?_
    refine then_n (k14 _ _ ?_)
    clear k14 K14
    refine W_seq_k fun K16 k16 => ?_
    refine W_region [8] rfl ?_
    have hI0_ := hI
    refine Ops_to (R_alloc zr123) rfl rfl ?_
    rintro _ w17_ ⟨b17_, rfl, hb17_, hB17_, hF17_⟩
    replace hI := hI.fr0 hF17_
    replace ho5_9 := ho5_9.fr0 hF17_
    have ht17_ : Tok H9_ _ b17_ 123 ((Arr.mk (n := 8) (List.replicate 8 (0 : UInt8))).l.map vb) := ⟨hB17_.to (by first | (rw [List.map_replicate]; done) | (rw [List.map_replicate]; rfl)), Out.ge hI0_.st (Nat.le_of_eq hb17_.symm)⟩
    have hge_b17_ : w.heap.size ≤ b17_ := hb17_ ▸ hI0_.size
    clear hB17_ hb17_ hI0_ hF17_
    refine Ops_nil ?_
    refine then_n (k16 _ _ ?_)
    clear k16 K16
    refine W_seq_k fun K18 k18 => ?_
    refine W_region [21, 22, 9] rfl (Ops_step (R_move rfl) rfl rfl (Ops_step (R_max rfl rfl _root_.rfl) rfl rfl (Ops_step (R_assign rfl) rfl rfl ?_)))
    refine Ops_nil ?_
    refine then_n (k18 _ _ ?_)
    clear k18 K18
    refine W_keepB [5, 8, 9, 15, 16, 17] fun B_ b_ => ?_
    simp only [e_, Nat.reduceAdd, Nat.reduceBEq] at b_
    subst b_
    refine ex_ h fun J20_ hr20_ h => ?_
    refine W_seq_join [5, 8, 15, 16, 17] [] (fun vals_ w2 => ∃ (yb17__20 : Arr 8 UInt8) (L H : Gh), vals_ = [] ∧ J20_ yb17__20 ∧ Inv [] G w L H w2 ∧ Le L9_ L ∧ Le H9_ H ∧ Tok H w2 b17_ 123 (yb17__20.l.map vb) ∧ yb17__20.l.length = 8 ∧ OwnS w.heap.size 5 Gh.no H w2 A5_9 c5_9 x5_9 ∧ True) (fun B_ b_ => ?_) (fun B_ b_ => ?_)
    ·
     simp only [e_, Nat.reduceAdd, Nat.reduceBEq] at b_
     subst b_
     clear hr20_
     have hll20_ := Le.refl L9_
     have hhh20_ := Le.refl H9_
     refine W_seq_k fun K21 k21 => ?_
     refine W_region [23] rfl (Ops_step (R_move rfl) rfl rfl ?_)
     refine Ops_nil ?_
     refine then_n (k21 _ _ ?_)
     clear k21 K21
     refine W_block ?_
     refine Exists.elim h fun I22_ h => Exists.elim h fun n22_ h => ?_
     have h0_ := h.1
     have hs22_ := h.2
     clear h
     refine W_loopB [5, 8, 15, 16, 17] [9, 23] (fun m vals_ w2 => ∃ (x9_22 : Int) (x23_22 : Int) (yb17__22 : Arr 8 UInt8) (L H : Gh), vals_ = [vi x9_22, vi x23_22] ∧ I22_ m x9_22 x23_22 yb17__22 ∧ Inv [] G w L H w2 ∧ Le L9_ L ∧ Le H9_ H ∧ Tok H w2 b17_ 123 (yb17__22.l.map vb) ∧ yb17__22.l.length = 8 ∧ OwnS w.heap.size 5 Gh.no H w2 A5_9 c5_9 x5_9 ∧ True) n22_ _ rfl ⟨(max x15_ 0), 0, (Arr.mk (n := 8) (List.replicate 8 (0 : UInt8))), _, _, rfl, h0_, hI, Le.refl _, Le.refl _, ht17_, (List.length_replicate ..), ho5_9, trivial⟩ fun B_ b_ => ?_
     clear h0_
     simp only [e_, Nat.reduceAdd, Nat.reduceBEq] at b_
     subst b_
     clear ho5_9
     rintro m22_ _ w22_ ⟨x9_22, x23_22, yb17__22, L22_, H22_, rfl, hJ22_, hI22_, hll22_, hhh22_, htb17__22, hnb17__22_, ho5_9, -⟩
     replace hI := hI22_
     clear hI22_
     have h := hs22_ m22_ x9_22 x23_22 yb17__22 hJ22_
     clear hs22_ hJ22_
     replace hs1 := hs1.up hhh22_
     replace hll6_ := hll6_.trans hll22_
     replace hhh6_ := hhh6_.trans hhh22_
     replace hll9_ := hll9_.trans hll22_
     replace hhh9_ := hhh9_.trans hhh22_
     replace hll13_ := hll13_.trans hll22_
     replace hhh13_ := hhh13_.trans hhh22_
     replace hll20_ := hll20_.trans hll22_
     replace hhh20_ := hhh20_.trans hhh22_
     refine W_seq_k fun K23 k23 => ?_
     refine W_region [24] rfl (Ops_step (R_lss rfl rfl) rfl rfl ?_)
     refine Ops_nil ?_
     refine then_n (k23 _ _ ?_)
     clear k23 K23
     refine W_seq_k fun K24 k24 => ?_
     refine W_if rfl (fun hc25_ => ?_) (fun hc25_ => ?_)
     ·
      replace h := h.1 hc25_
      refine W_skip ?_
      refine then_n (k24 _ _ ?_)
      clear k24 K24
      refine W_seq_k fun K26 k26 => ?_
      refine W_block ?_
      refine W_seq_k fun K27 k27 => ?_
      refine W_region [25, 10] rfl (Ops_step (R_move rfl) rfl rfl (Ops_step (R_assign rfl) rfl rfl ?_))
      refine Ops_nil ?_
      refine then_n (k27 _ _ ?_)
      clear k27 K27
      refine W_seq_k fun K28 k28 => ?_
      refine W_region [26, 27, 28, 29, 30, 31, none] rfl (Ops_step (R_move rfl) rfl rfl ?_)
      have hk29_ := h.1
      replace h := h.2
      refine Ops_step (R_sub rfl rfl (wI hk29_.1 hk29_.2)) rfl rfl (Ops_step (R_move rfl) rfl rfl (Ops_step (R_rem rfl rfl (by decide) _root_.rfl) rfl rfl (Ops_step (R_conv Try.underlying3 Try.underlying5 rfl (cI_8 _)) rfl rfl ?_)))
      refine ex_ h fun x30_ hx30_ h => ?_
      refine Ops_step (R_indexArr Try.underlying123 sz5 rfl rfl hx30_.1 (hx30_.ltn hnb17__22_)) rfl rfl ?_
      refine Ops_to0 (R_store sz5 rfl rfl htb17__22.blk (arr_lt hx30_) rfl) rfl ?_
      rintro _ w31_ ⟨hB31_, hF31_⟩
      replace hI := hI.tok hF31_ (out1 htb17__22.out) (new1 hge_b17_)
      replace ho5_9 := ho5_9.fr hF31_ (ho5_9.ne htb17__22.blk (by decide))
      replace htb17__22 : Tok H22_ _ b17_ 123 ((Arr.mk (n := 8) (put yb17__22.l (7 - x23_22) (UInt8.ofBitVec (BitVec.ofInt 8 (x9_22.tmod 256))))).l.map vb) := ⟨hB31_.to arr_put, htb17__22.out⟩
      clear hF31_ hB31_
      refine Ops_nil ?_
      refine then_n (k28 _ _ ?_)
      clear k28 K28
      refine W_keepB [5, 8, 9, 15, 16, 17, 23] fun B_ b_ => ?_
      simp only [e_, Nat.reduceAdd, Nat.reduceBEq] at b_
      subst b_
      refine W_region [32, 33, 9] rfl (Ops_step (R_move rfl) rfl rfl ?_)
      have hk33_ := h.1
      replace h := h.2
      refine Ops_step (R_quo rfl rfl (by decide) (wI hk33_.1 hk33_.2)) rfl rfl (Ops_step (R_assign rfl) rfl rfl ?_)
      refine Ops_nil ?_
      refine block_n ?_
      refine then_n (k26 _ _ ?_)
      clear k26 K26
      refine W_region [34, 23] rfl ?_
      have hk34_ := h.1
      replace h := h.2
      refine Ops_step (R_add rfl rfl (wI hk34_.1 hk34_.2)) rfl rfl (Ops_step (R_move rfl) rfl rfl ?_)
      refine Ops_nil ?_
      refine then_n ?_
      exact h.elim fun m_ h => ⟨m_, _, h.1, rfl, ⟨(x9_22.tdiv 256), (x23_22 + 1), (Arr.mk (n := 8) (put yb17__22.l (7 - x23_22) (UInt8.ofBitVec (BitVec.ofInt 8 (x9_22.tmod 256))))), _, _, rfl, h.2, hI, hll22_, hhh22_, htb17__22, (put_len hnb17__22_), ho5_9, trivial⟩, ⟨rfl, rfl, rfl, rfl, rfl, trivial⟩⟩
     ·
      replace h := h.2 hc25_
      refine W_exit ?_
      refine then_exit ?_
      clear k24 K24
      refine then_exit ?_
      refine block_exit ?_
      refine then_n ?_
      exact ⟨_, rfl, ⟨yb17__22, _, _, rfl, h, hI, hll20_, hhh20_, htb17__22, hnb17__22_, ho5_9, trivial⟩, ⟨rfl, rfl, rfl, rfl, rfl, trivial⟩⟩
    ·
     simp only [e_, Nat.reduceAdd, Nat.reduceBEq] at b_
     subst b_
     clear h
     clear ho5_9
     rintro _ w20_ ⟨yb17__20, L20_, H20_, rfl, hJ20_, hI20_, hll20_, hhh20_, htb17__20, hnb17__20_, ho5_9, -⟩
     replace hI := hI20_
     clear hI20_
     have h := hr20_ yb17__20 hJ20_
     clear hr20_ hJ20_
     replace hs1 := hs1.up hhh20_
     replace hll6_ := hll6_.trans hll20_
     replace hhh6_ := hhh6_.trans hhh20_
     replace hll9_ := hll9_.trans hll20_
     replace hhh9_ := hhh9_.trans hhh20_
     replace hll13_ := hll13_.trans hll20_
     replace hhh13_ := hhh13_.trans hhh20_
     refine W_seq_k fun K35 k35 => ?_
     refine W_region [35] rfl (Ops_step (R_move rfl) rfl rfl ?_)
     refine Ops_nil ?_
     refine then_n (k35 _ _ ?_)
     clear k35 K35
     refine W_block ?_
     refine Exists.elim h fun I36_ h => Exists.elim h fun n36_ h => ?_
     have h0_ := h.1
     have hs36_ := h.2
     clear h
     refine W_loopB [8, 15, 16, 17] [5, 35] (fun m vals_ w2 => ∃ (x5_36 : List UInt8) (A5_36 : Option Addr) (c5_36 : Nat) (x35_36 : Int) (L H : Gh), vals_ = [.slice A5_36 x5_36.length c5_36, vi x35_36] ∧ I36_ m x5_36 x35_36 ∧ Inv [] G w L H w2 ∧ Le L20_ L ∧ Le H20_ H ∧ OwnS w.heap.size 5 Gh.no H w2 A5_36 c5_36 x5_36 ∧ Tok H w2 b17_ 123 (yb17__20.l.map vb) ∧ True) n36_ _ rfl ⟨x5_9, A5_9, c5_9, 0, _, _, rfl, h0_, hI, Le.refl _, Le.refl _, ho5_9, htb17__20, trivial⟩ fun B_ b_ => ?_
     clear h0_
     simp only [e_, Nat.reduceAdd, Nat.reduceBEq] at b_
     subst b_
     clear htb17__20
     rintro m36_ _ w36_ ⟨x5_36, A5_36, c5_36, x35_36, L36_, H36_, rfl, hJ36_, hI36_, hll36_, hhh36_, ho5_36, htb17__20, -⟩
     replace hI := hI36_
     clear hI36_
     have h := hs36_ m36_ x5_36 x35_36 hJ36_
     clear hs36_ hJ36_
     replace hs1 := hs1.up hhh36_
     replace hll6_ := hll6_.trans hll36_
     replace hhh6_ := hhh6_.trans hhh36_
     replace hll9_ := hll9_.trans hll36_
     replace hhh9_ := hhh9_.trans hhh36_
     replace hll13_ := hll13_.trans hll36_
     replace hhh13_ := hhh13_.trans hhh36_
     refine W_seq_k fun K37 k37 => ?_
     refine W_region [36] rfl (Ops_step (R_lss rfl rfl) rfl rfl ?_)
     refine Ops_nil ?_
     refine then_n (k37 _ _ ?_)
     clear k37 K37
     refine W_seq_k fun K38 k38 => ?_
     refine W_if rfl (fun hc39_ => ?_) (fun hc39_ => ?_)
     ·
      replace h := h.1 hc39_
      refine W_skip ?_
      refine then_n (k38 _ _ ?_)
      clear k38 K38
      refine W_seq_k fun K40 k40 => ?_
      refine W_block ?_
      refine W_seq_k fun K41 k41 => ?_
      refine W_region [37, 11] rfl (Ops_step (R_move rfl) rfl rfl (Ops_step (R_assign rfl) rfl rfl ?_))
      refine Ops_nil ?_
      refine then_n (k41 _ _ ?_)
      clear k41 K41
      refine W_region [38, 39, 40, 41, 42, 43, 5] rfl (Ops_step (R_move rfl) rfl rfl (Ops_step (R_move rfl) rfl rfl ?_))
      refine ex_ h fun x42_ hx42_ h => ?_
      refine Ops_step (R_indexArr Try.underlying123 sz5 rfl rfl hx42_.1 (hx42_.ltn hnb17__20_)) rfl rfl (Ops_step (R_loadB ag5 rfl htb17__20.blk (arr_at hx42_)) rfl rfl ?_)
      have hlo43_ho5_36 := ho5_36.lt
      refine Ops_to (R_buildSlice el29 zr5 (by decide) (by decide) rfl rfl) rfl rfl ?_
      rintro _ w43_ ⟨b43_, rfl, hb43_, hB43_, hF43_⟩
      have ho43_ : OwnS w.heap.size 5 Gh.no H36_ _ (some ⟨b43_, 0, none⟩) 1 ([x42_] : List UInt8) := OwnS.ofBlk hI.st hb43_ hB43_ (all2_sc' _) rfl (by have := hI.size; omega) (by show 1 ≤ maxLen; decide)
      replace hI := hI.fr0 hF43_
      replace htb17__20 := htb17__20.fr0 hF43_
      replace ho5_36 := ho5_36.fr0 hF43_
      clear hF43_ hB43_
      have hsp43_ho5_36 : ∀ i ∈ bk (some ⟨b43_, 0, none⟩) 1, i ∉ bk A5_36 c5_36 := sep_new (fun i_ hi_ => by have := (bk_of hi_).1; simp only [blkOf, List.mem_singleton] at this; omega) hlo43_ho5_36
      have hk45_ := h.1
      replace h := h.2
      refine Ops_to (X_append (α := UInt8) (xs := x5_36) (ys := ([x42_] : List UInt8)) el29 rfl rfl ho5_36 (Srcs.sc (Srcs.ofOwn Try.underlying29 ho43_ (by decide))) hI.st hk45_ (by decide) hI.size) rfl rfl ?_
      rintro _ w44_ ⟨A44_, c44_, rfl, ho44_, hF44_, hbk44_⟩
      clear hbk44_
      replace hI := hI.tok hF44_ ho5_36.out (ho5_36.new (Nat.le_refl _))
      replace htb17__20 := htb17__20.fr hF44_ (htb17__20.sep ho5_36 (by decide))
      clear hF44_ ho5_36
      refine Ops_step (R_assign rfl) rfl rfl ?_
      refine Ops_nil ?_
      refine block_n ?_
      refine then_n (k40 _ _ ?_)
      clear k40 K40
      refine W_keepB [5, 8, 15, 16, 17, 35] fun B_ b_ => ?_
      simp only [e_, Nat.reduceAdd, Nat.reduceBEq] at b_
      subst b_
      refine W_region [44, 35] rfl ?_
      have hk47_ := h.1
      replace h := h.2
      refine Ops_step (R_add rfl rfl (wI hk47_.1 hk47_.2)) rfl rfl (Ops_step (R_move rfl) rfl rfl ?_)
      refine Ops_nil ?_
      refine then_n ?_
      exact h.elim fun m_ h => ⟨m_, _, h.1, rfl, ⟨(x5_36 ++ ([x42_] : List UInt8)), A44_, c44_, (x35_36 + 1), _, _, rfl, h.2, hI, hll36_, hhh36_, ho44_, htb17__20, trivial⟩, ⟨rfl, rfl, rfl, rfl, trivial⟩⟩
     ·
      replace h := h.2 hc39_
      refine W_exit ?_
      refine then_exit ?_
      clear k38 K38
      refine then_exit ?_
      refine block_exit ?_
      refine block_n ?_
      refine then_n ?_
      exact ⟨_, rfl, ⟨x5_36, A5_36, c5_36, _, _, rfl, h, hI, hll13_, hhh13_, ho5_36, trivial⟩, ⟨rfl, rfl, rfl, trivial⟩⟩
   ·
    simp only [e_, Nat.reduceAdd, Nat.reduceBEq] at b_
    subst b_
    clear h
    rintro _ w13_ ⟨x5_13, A5_13, c5_13, L13_, H13_, rfl, hJ13_, hI13_, hll13_, hhh13_, ho5_13, -⟩
    replace hI := hI13_
    clear hI13_
    have h := hr13_ x5_13 hJ13_
    clear hr13_ hJ13_
    replace hs1 := hs1.up hhh13_
    replace hll6_ := hll6_.trans hll13_
    replace hhh6_ := hhh6_.trans hhh13_
    replace hll9_ := hll9_.trans hll13_
    replace hhh9_ := hhh9_.trans hhh13_
    refine W_region [45, 17] rfl ?_
    have hk48_ := h.1
    replace h := h.2
    refine Ops_step (R_add rfl rfl (wI hk48_.1 hk48_.2)) rfl rfl (Ops_step (R_move rfl) rfl rfl ?_)
    refine Ops_nil ?_
    refine then_n ?_
    exact h.elim fun m_ h => ⟨m_, _, h.1, rfl, ⟨x5_13, A5_13, c5_13, (x17_9 + 1), _, _, rfl, h.2, hI, hll9_, hhh9_, ho5_13, trivial⟩, ⟨rfl, rfl, trivial⟩⟩
  ·
   replace h := h.2 hc12_
   refine W_exit ?_
   refine then_exit ?_
   clear k11 K11
   refine then_exit ?_
   refine block_exit ?_
   refine then_n ?_
   exact ⟨_, rfl, ⟨x5_9, A5_9, c5_9, _, _, rfl, h, hI, hll6_, hhh6_, ho5_9, trivial⟩, trivial⟩
 ·
  simp only [e_, Nat.reduceAdd, Nat.reduceBEq] at b_
  subst b_
  clear h
  rintro _ w6_ ⟨x5_6, A5_6, c5_6, L6_, H6_, rfl, hJ6_, hI6_, hll6_, hhh6_, ho5_6, -⟩
  replace hI := hI6_
  clear hI6_
  have h := hr6_ x5_6 hJ6_
  clear hr6_ hJ6_
  refine W_seq_k fun K49 k49 => ?_
  refine W_region [46, 4] rfl (Ops_step (R_move rfl) rfl rfl (Ops_step (R_assign rfl) rfl rfl ?_))
  refine Ops_nil ?_
  refine then_n (k49 _ _ ?_)
  clear k49 K49
  refine W_ret ?_
  refine ⟨_, ⟨_, _, rfl, rfl, rfl⟩, ?_⟩
  exact ⟨A5_6, c5_6, x5_6, _, _, rfl, hI, (ho5_6.hl (Le.no _)), h⟩

theorem sealskinref02_PutBytes_ok {G : Gh} {w : World} (hS : St G w) (hg : GL G) {A0 : Option Addr} {c0 : Nat} {x0 : List UInt8} (hc0 : x0.length ≤ c0) (hs0 : Sl G A0 x0) {A1 : Option Addr} {c1 : Nat} {x1 : List UInt8} (hc1 : x1.length ≤ c1) (hs1 : Sl G A1 x1) {Q : (List UInt8) → Prop} (h : sealskinref02_PutBytes x0 x1 Q) : Calls Try.prog 78 #[.slice A0 x0.length c0, .slice A1 x1.length c1] w fun e w2 => ∃ (A0 : Option Addr) (c0 : Nat) (r0 : List UInt8) (L H : Gh), e = .returned (.slice A0 r0.length c0) ∧ Inv [] G w L H w2 ∧ OwnS w.heap.size 5 L H w2 A0 c0 r0 ∧ Q r0 := by
 unfold sealskinref02_PutBytes at h
 have hI := Inv.start (M := []) hS
 refine calls_W 12 Try.func78 rfl Try.ntmps78 rfl [.tmp 4] rfl ?_
 refine W_seq_k fun K1 k1 => ?_
 refine W_region [4] rfl (Ops_step (R_assign rfl) rfl rfl ?_)
 refine Ops_nil ?_
 refine then_n (k1 _ _ ?_)
 clear k1 K1
 refine W_seq_k fun K2 k2 => ?_
 refine W_region [5, 6, 7, 8, 9, 10, 11, 4] rfl (Ops_step (R_move rfl) rfl rfl (Ops_step (R_move rfl) rfl rfl (Ops_step (R_len Try.underlying29 rfl rfl) rfl rfl ?_)))
 refine Ops_to (R_buildSlice el116 zr3 (by decide) (by decide) rfl rfl) rfl rfl ?_
 rintro _ w3_ ⟨b3_, rfl, hb3_, hB3_, hF3_⟩
 have ho3_ : OwnS w.heap.size 3 Gh.no G _ (some ⟨b3_, 0, none⟩) 1 ([(x1.length : Int)] : List Int) := OwnS.ofBlk hI.st hb3_ hB3_ (all2_sc' _) rfl (by have := hI.size; omega) (by show 1 ≤ maxLen; decide)
 replace hI := hI.fr0 hF3_
 clear hF3_ hB3_
 refine Exists.elim (ho3_.lend hI.st (Le.no _)) fun Hb4_0_ hb4_0_ => ?_
 refine Ops_call (C_func bd77 rfl) rfl rfl ?_
 refine (sealskinref02_Put_ok (x0 := x0) (x1 := ([(x1.length : Int)] : List Int)) hb4_0_.1 (hg.up (hI.le.trans hb4_0_.2.1)) hc0 (hs0.up hb4_0_.2.1) (Nat.le_refl _) hb4_0_.2.2 h).mono ?_
 rintro _ w4_ ⟨A4_0, c4_0, r4_0, L4_, H4_, rfl, hI4_, ho4_0, h⟩
 refine Exists.elim (hI.callB hb4_0_.2.1 hI4_ (by simp)) fun L40_ h4_ => Exists.elim h4_ fun H40_ h4_ => ?_
 have hz4_ := hI.size
 replace hI := h4_.1
 have u4_ := h4_.2.1
 have hl4_ := h4_.2.2.1
 have hh4_ := h4_.2.2.2
 clear h4_
 replace hs1 := hs1.up u4_.hh
 replace ho4_0 := OwnS.backS ho4_0 hz4_ hh4_
 clear hI4_ u4_ hl4_
 refine ⟨_, rfl, ?_⟩
 refine Ops_step (R_move rfl) rfl rfl ?_
 have hk6_ := h.1
 replace h := h.2
 refine Ops_to (X_append (α := UInt8) (xs := r4_0) (ys := x1) el29 rfl rfl ho4_0 (Srcs.sc (Srcs.ofSl Try.underlying29 hs1 hI.st (by decide))) hI.st hk6_ (by decide) hI.size) rfl rfl ?_
 rintro _ w5_ ⟨A5_, c5_, rfl, ho5_, hF5_, hbk5_⟩
 clear hbk5_
 replace hI := hI.tok hF5_ ho4_0.out (ho4_0.new (Nat.le_refl _))
 clear hF5_ ho4_0
 refine Ops_step (R_assign rfl) rfl rfl ?_
 refine Ops_nil ?_
 refine then_n (k2 _ _ ?_)
 clear k2 K2
 refine W_keepB [4] fun B_ b_ => ?_
 simp only [e_, Nat.reduceAdd, Nat.reduceBEq] at b_
 subst b_
 refine W_ret ?_
 refine ⟨_, ⟨_, _, rfl, rfl, rfl⟩, ?_⟩
 exact ⟨A5_, c5_, (r4_0 ++ x1), _, _, rfl, hI, (ho5_.hl (Le.no _)), h⟩

theorem sealskinref02_Sum_ok {G : Gh} {w : World} (hS : St G w) (hg : GL G) {A0 : Option Addr} {c0 : Nat} {x0 : List UInt8} (hc0 : x0.length ≤ c0) (hs0 : Sl G A0 x0) {Q : (BitVec 32) → Prop} (h : sealskinref02_Sum x0 Q) : Calls Try.prog 92 #[.slice A0 x0.length c0] w fun e w2 => ∃ (r0 : BitVec 32) (L H : Gh), e = .returned (w32 r0) ∧ Inv [] G w L H w2 ∧ Q r0 := by
 unfold sealskinref02_Sum at h
 have hI := Inv.start (M := []) hS
 refine calls_W 30 Try.func92 rfl Try.ntmps92 rfl [.tmp 2] rfl ?_
 refine W_seq_k fun K1 k1 => ?_
 refine W_region [2] rfl (Ops_step (R_assign rfl) rfl rfl ?_)
 refine Ops_nil ?_
 refine then_n (k1 _ _ ?_)
 clear k1 K1
 refine W_seq_k fun K2 k2 => ?_
 refine W_region [3] rfl (Ops_step (R_assign rfl) rfl rfl ?_)
 refine Ops_nil ?_
 refine then_n (k2 _ _ ?_)
 clear k2 K2
 refine ex_ h fun J3_ hr3_ h => ?_
 refine W_seq_join [] [3] (fun vals_ w2 => ∃ (x3_3 : BitVec 32) (L H : Gh), vals_ = [w32 x3_3] ∧ J3_ x3_3 ∧ Inv [] G w L H w2 ∧ Le Gh.no L ∧ Le G H ∧ True) (fun B_ b_ => ?_) (fun B_ b_ => ?_)
 ·
  simp only [e_, Nat.reduceAdd, Nat.reduceBEq] at b_
  subst b_
  clear hr3_
  have hll3_ := Le.refl Gh.no
  have hhh3_ := Le.refl G
  refine W_seq_k fun K4 k4 => ?_
  refine W_region [7, 8, 9] rfl (Ops_step (R_move rfl) rfl rfl (Ops_step (R_len Try.underlying29 rfl rfl) rfl rfl (Ops_step (R_move rfl) rfl rfl ?_)))
  refine Ops_nil ?_
  refine then_n (k4 _ _ ?_)
  clear k4 K4
  refine W_block ?_
  refine Exists.elim h fun I5_ h => Exists.elim h fun n5_ h => ?_
  have h0_ := h.1
  have hs5_ := h.2
  clear h
  refine W_loopB [7, 8] [3, 9] (fun m vals_ w2 => ∃ (x3_5 : BitVec 32) (x9_5 : Int) (L H : Gh), vals_ = [w32 x3_5, vi x9_5] ∧ I5_ m x3_5 x9_5 ∧ Inv [] G w L H w2 ∧ Le Gh.no L ∧ Le G H ∧ True) n5_ _ rfl ⟨(4294967295#32), 0, _, _, rfl, h0_, hI, Le.refl _, Le.refl _, trivial⟩ fun B_ b_ => ?_
  clear h0_
  simp only [e_, Nat.reduceAdd, Nat.reduceBEq] at b_
  subst b_
  rintro m5_ _ w5_ ⟨x3_5, x9_5, L5_, H5_, rfl, hJ5_, hI5_, hll5_, hhh5_, -⟩
  replace hI := hI5_
  clear hI5_
  have h := hs5_ m5_ x3_5 x9_5 hJ5_
  clear hs5_ hJ5_
  replace hs0 := hs0.up hhh5_
  replace hll3_ := hll3_.trans hll5_
  replace hhh3_ := hhh3_.trans hhh5_
  refine W_seq_k fun K6 k6 => ?_
  refine W_region [10] rfl (Ops_step (R_lss rfl rfl) rfl rfl ?_)
  refine Ops_nil ?_
  refine then_n (k6 _ _ ?_)
  clear k6 K6
  refine W_seq_k fun K7 k7 => ?_
  refine W_if rfl (fun hc8_ => ?_) (fun hc8_ => ?_)
  ·
   replace h := h.1 hc8_
   refine W_skip ?_
   refine then_n (k7 _ _ ?_)
   clear k7 K7
   refine ex_ h fun J9_ hr9_ h => ?_
   refine W_seq_join [7, 8, 9] [3] (fun vals_ w2 => ∃ (x3_9 : BitVec 32) (L H : Gh), vals_ = [w32 x3_9] ∧ J9_ x3_9 ∧ Inv [] G w L H w2 ∧ Le L5_ L ∧ Le H5_ H ∧ True) (fun B_ b_ => ?_) (fun B_ b_ => ?_)
   ·
    simp only [e_, Nat.reduceAdd, Nat.reduceBEq] at b_
    subst b_
    clear hr9_
    have hll9_ := Le.refl L5_
    have hhh9_ := Le.refl H5_
    refine W_block ?_
    refine W_seq_k fun K10 k10 => ?_
    refine W_region [11, 12, 5] rfl ?_
    refine ex_ h fun x11_ hx11_ h => ?_
    have ha11_ := (hs0.atS hx11_).1
    have hg11_ := (hs0.atS hx11_).2
    refine Ops_step (R_indexSl Try.underlying29 sz5 rfl rfl hx11_.1 hx11_.lt ha11_) rfl rfl (Ops_step (R_load ag5 rfl (hI.st _ _ hg11_)) rfl rfl (Ops_step (R_assign rfl) rfl rfl ?_))
    refine Ops_nil ?_
    refine then_n (k10 _ _ ?_)
    clear k10 K10
    refine W_seq_k fun K12 k12 => ?_
    refine W_region [13, 14, 15, 16, 17, 3] rfl (Ops_step (R_move rfl) rfl rfl (Ops_step (R_move rfl) rfl rfl (Ops_step (R_conv Try.underlying5 Try.underlying124 rfl (c8_32 _)) rfl rfl (Ops_step (R_mul rfl rfl (mul32 (x11_.toBitVec.setWidth 32) (16777216#32))) rfl rfl ?_))))
    refine Ops_step (R_xor rfl rfl (xor32 x3_5 ((x11_.toBitVec.setWidth 32) * (16777216#32)))) rfl rfl (Ops_step (R_assign rfl) rfl rfl ?_)
    refine Ops_nil ?_
    refine then_n (k12 _ _ ?_)
    clear k12 K12
    refine W_keepB [3, 7, 8, 9] fun B_ b_ => ?_
    simp only [e_, Nat.reduceAdd, Nat.reduceBEq] at b_
    subst b_
    refine W_seq_k fun K14 k14 => ?_
    refine W_region [18] rfl (Ops_step (R_move rfl) rfl rfl ?_)
    refine Ops_nil ?_
    refine then_n (k14 _ _ ?_)
    clear k14 K14
    refine W_block ?_
    refine Exists.elim h fun I15_ h => Exists.elim h fun n15_ h => ?_
    have h0_ := h.1
    have hs15_ := h.2
    clear h
    refine W_loopB [7, 8, 9] [3, 18] (fun m vals_ w2 => ∃ (x3_15 : BitVec 32) (x18_15 : Int) (L H : Gh), vals_ = [w32 x3_15, vi x18_15] ∧ I15_ m x3_15 x18_15 ∧ Inv [] G w L H w2 ∧ Le L5_ L ∧ Le H5_ H ∧ True) n15_ _ rfl ⟨(x3_5 ^^^ ((x11_.toBitVec.setWidth 32) * (16777216#32))), 0, _, _, rfl, h0_, hI, Le.refl _, Le.refl _, trivial⟩ fun B_ b_ => ?_
    clear h0_
    simp only [e_, Nat.reduceAdd, Nat.reduceBEq] at b_
    subst b_
    rintro m15_ _ w15_ ⟨x3_15, x18_15, L15_, H15_, rfl, hJ15_, hI15_, hll15_, hhh15_, -⟩
    replace hI := hI15_
    clear hI15_
    have h := hs15_ m15_ x3_15 x18_15 hJ15_
    clear hs15_ hJ15_
    replace hs0 := hs0.up hhh15_
    replace hll3_ := hll3_.trans hll15_
    replace hhh3_ := hhh3_.trans hhh15_
    replace hll5_ := hll5_.trans hll15_
    replace hhh5_ := hhh5_.trans hhh15_
    replace hll9_ := hll9_.trans hll15_
    replace hhh9_ := hhh9_.trans hhh15_
    refine W_seq_k fun K16 k16 => ?_
    refine W_region [19] rfl (Ops_step (R_lss rfl rfl) rfl rfl ?_)
    refine Ops_nil ?_
    refine then_n (k16 _ _ ?_)
    clear k16 K16
    refine W_seq_k fun K17 k17 => ?_
    refine W_if rfl (fun hc18_ => ?_) (fun hc18_ => ?_)
    ·
     replace h := h.1 hc18_
     refine W_skip ?_
     refine then_n (k17 _ _ ?_)
     clear k17 K17
     refine ex_ h fun J19_ hr19_ h => ?_
     refine W_seq_join [7, 8, 9, 18] [3] (fun vals_ w2 => ∃ (x3_19 : BitVec 32) (L H : Gh), vals_ = [w32 x3_19] ∧ J19_ x3_19 ∧ Inv [] G w L H w2 ∧ Le L15_ L ∧ Le H15_ H ∧ True) (fun B_ b_ => ?_) (fun B_ b_ => ?_)
     ·
      simp only [e_, Nat.reduceAdd, Nat.reduceBEq] at b_
      subst b_
      clear hr19_
      have hll19_ := Le.refl L15_
      have hhh19_ := Le.refl H15_
      refine W_block ?_
      refine W_seq_k fun K20 k20 => ?_
      refine W_region [20, 21, 6] rfl (Ops_step (R_move rfl) rfl rfl (Ops_step (R_geq rfl rfl) rfl rfl (Ops_step (R_assign rfl) rfl rfl ?_)))
      refine Ops_nil ?_
      refine then_n (k20 _ _ ?_)
      clear k20 K20
      refine W_seq_k fun K21 k21 => ?_
      refine W_region [22, 23, 3] rfl (Ops_step (R_move rfl) rfl rfl (Ops_step (R_mul rfl rfl (mul32 (2#32) x3_15)) rfl rfl (Ops_step (R_assign rfl) rfl rfl ?_)))
      refine Ops_nil ?_
      refine then_n (k21 _ _ ?_)
      clear k21 K21
      refine W_seq_k fun K22 k22 => ?_
      refine W_region [24] rfl (Ops_step (R_move rfl) rfl rfl ?_)
      refine Ops_nil ?_
      refine then_n (k22 _ _ ?_)
      clear k22 K22
      refine W_keepB [3, 7, 8, 9, 18, 24] fun B_ b_ => ?_
      simp only [e_, Nat.reduceAdd, Nat.reduceBEq] at b_
      subst b_
      refine W_if rfl (fun hc24_ => ?_) (fun hc24_ => ?_)
      ·
       replace h := h.1 hc24_
       refine W_region [25, 26, 3] rfl (Ops_step (R_move rfl) rfl rfl (Ops_step (R_xor rfl rfl (xor32 ((2#32) * x3_15) (2168537515#32))) rfl rfl (Ops_step (R_assign rfl) rfl rfl ?_)))
       refine Ops_nil ?_
       refine block_n ?_
       refine then_n ?_
       exact ⟨_, rfl, ⟨(((2#32) * x3_15) ^^^ (2168537515#32)), _, _, rfl, h, hI, hll19_, hhh19_, trivial⟩, ⟨rfl, rfl, rfl, rfl, trivial⟩⟩
      ·
       replace h := h.2 hc24_
       refine W_skip ?_
       refine block_n ?_
       refine then_n ?_
       exact ⟨_, rfl, ⟨((2#32) * x3_15), _, _, rfl, h, hI, hll19_, hhh19_, trivial⟩, ⟨rfl, rfl, rfl, rfl, trivial⟩⟩
     ·
      simp only [e_, Nat.reduceAdd, Nat.reduceBEq] at b_
      subst b_
      clear h
      rintro _ w19_ ⟨x3_19, L19_, H19_, rfl, hJ19_, hI19_, hll19_, hhh19_, -⟩
      replace hI := hI19_
      clear hI19_
      have h := hr19_ x3_19 hJ19_
      clear hr19_ hJ19_
      replace hs0 := hs0.up hhh19_
      replace hll3_ := hll3_.trans hll19_
      replace hhh3_ := hhh3_.trans hhh19_
      replace hll5_ := hll5_.trans hll19_
      replace hhh5_ := hhh5_.trans hhh19_
      replace hll9_ := hll9_.trans hll19_
      replace hhh9_ := hhh9_.trans hhh19_
      replace hll15_ := hll15_.trans hll19_
      replace hhh15_ := hhh15_.trans hhh19_
      refine W_region [27, 18] rfl ?_
      have hk25_ := h.1
      replace h := h.2
      refine Ops_step (R_add rfl rfl (wI hk25_.1 hk25_.2)) rfl rfl (Ops_step (R_move rfl) rfl rfl ?_)
      refine Ops_nil ?_
      refine then_n ?_
      exact h.elim fun m_ h => ⟨m_, _, h.1, rfl, ⟨x3_19, (x18_15 + 1), _, _, rfl, h.2, hI, hll15_, hhh15_, trivial⟩, ⟨rfl, rfl, rfl, trivial⟩⟩
    ·
     replace h := h.2 hc18_
     refine W_exit ?_
     refine then_exit ?_
     clear k17 K17
     refine then_exit ?_
     refine block_exit ?_
     refine block_n ?_
     refine then_n ?_
     exact ⟨_, rfl, ⟨x3_15, _, _, rfl, h, hI, hll9_, hhh9_, trivial⟩, ⟨rfl, rfl, rfl, trivial⟩⟩
   ·
    simp only [e_, Nat.reduceAdd, Nat.reduceBEq] at b_
    subst b_
    clear h
    rintro _ w9_ ⟨x3_9, L9_, H9_, rfl, hJ9_, hI9_, hll9_, hhh9_, -⟩
    replace hI := hI9_
    clear hI9_
    have h := hr9_ x3_9 hJ9_
    clear hr9_ hJ9_
    replace hs0 := hs0.up hhh9_
    replace hll3_ := hll3_.trans hll9_
    replace hhh3_ := hhh3_.trans hhh9_
    replace hll5_ := hll5_.trans hll9_
    replace hhh5_ := hhh5_.trans hhh9_
    refine W_region [28, 9] rfl ?_
    have hk26_ := h.1
    replace h := h.2
    refine Ops_step (R_add rfl rfl (wI hk26_.1 hk26_.2)) rfl rfl (Ops_step (R_move rfl) rfl rfl ?_)
    refine Ops_nil ?_
    refine then_n ?_
    exact h.elim fun m_ h => ⟨m_, _, h.1, rfl, ⟨x3_9, (x9_5 + 1), _, _, rfl, h.2, hI, hll5_, hhh5_, trivial⟩, ⟨rfl, rfl, trivial⟩⟩
  ·
   replace h := h.2 hc8_
   refine W_exit ?_
   refine then_exit ?_
   clear k7 K7
   refine then_exit ?_
   refine block_exit ?_
   refine then_n ?_
   exact ⟨_, rfl, ⟨x3_5, _, _, rfl, h, hI, hll3_, hhh3_, trivial⟩, trivial⟩
 ·
  simp only [e_, Nat.reduceAdd, Nat.reduceBEq] at b_
  subst b_
  clear h
  rintro _ w3_ ⟨x3_3, L3_, H3_, rfl, hJ3_, hI3_, hll3_, hhh3_, -⟩
  replace hI := hI3_
  clear hI3_
  have h := hr3_ x3_3 hJ3_
  clear hr3_ hJ3_
  refine W_seq_k fun K27 k27 => ?_
  refine W_region [29, 2] rfl (Ops_step (R_move rfl) rfl rfl (Ops_step (R_assign rfl) rfl rfl ?_))
  refine Ops_nil ?_
  refine then_n (k27 _ _ ?_)
  clear k27 K27
  refine W_ret ?_
  refine ⟨_, ⟨_, _, rfl, rfl, rfl⟩, ?_⟩
  exact ⟨x3_3, _, _, rfl, hI, h⟩

theorem sealskinref02_Seal_ok {G : Gh} {w : World} (hS : St G w) (hg : GL G) {A0 : Option Addr} {c0 : Nat} {x0 : List UInt8} (hc0 : x0.length ≤ c0) (hs0 : Sl G A0 x0) {Q : (List UInt8) → Int → Prop} (h : sealskinref02_Seal x0 Q) : Calls Try.prog 87 #[.slice A0 x0.length c0] w fun e w2 => ∃ (A0 : Option Addr) (c0 : Nat) (r0 : List UInt8) (r1 : Int) (L H : Gh), e = .returned (.tuple #[.slice A0 r0.length c0, vi r1]) ∧ Inv [] G w L H w2 ∧ OwnS w.heap.size 5 L H w2 A0 c0 r0 ∧ Q r0 r1 := by
 unfold sealskinref02_Seal at h
 have hI := Inv.start (M := []) hS
 refine calls_W 27 Try.func87 rfl Try.ntmps87 rfl [.tmp 2, .tmp 3] rfl ?_
 refine W_seq_k fun K1 k1 => ?_
 refine W_region [2, 3] rfl (Ops_step (R_assign rfl) rfl rfl (Ops_step (R_assign rfl) rfl rfl ?_))
 refine Ops_nil ?_
 refine then_n (k1 _ _ ?_)
 clear k1 K1
 refine W_seq_k fun K2 k2 => ?_
 refine W_seq_k fun K3 k3 => ?_
 refine W_region [6, 7, 8] rfl (Ops_step (R_move rfl) rfl rfl (Ops_step (R_len Try.underlying29 rfl rfl) rfl rfl (Ops_step (R_gtr rfl rfl) rfl rfl ?_)))
 refine Ops_nil ?_
 refine then_n (k3 _ _ ?_)
 clear k3 K3
 refine W_if rfl (fun hc4_ => ?_) (fun hc4_ => ?_)
 ·
  replace h := h.1 hc4_
  refine W_seq_k fun K5 k5 => ?_
  refine W_region [2, 3] rfl (Ops_step (R_assign rfl) rfl rfl (Ops_step (R_assign rfl) rfl rfl ?_))
  refine Ops_nil ?_
  refine then_n (k5 _ _ ?_)
  clear k5 K5
  refine W_ret ?_
  refine then_ret ?_
  clear k2 K2
  refine ⟨_, ⟨_, _, rfl, rfl, ⟨_, _, rfl, rfl, rfl⟩⟩, ?_⟩
  exact ⟨none, 0, [], 4, _, _, rfl, hI, OwnS.nil, h⟩
 ·
  replace h := h.2 hc4_
  refine W_skip ?_
  refine then_n (k2 _ _ ?_)
  clear k2 K2
  refine W_seq_k fun K6 k6 => ?_
  refine W_region [9, 10, 4] rfl (Ops_step (R_move rfl) rfl rfl ?_)
  refine Ops_call (C_func bd78 rfl) rfl rfl ?_
  refine (sealskinref02_PutBytes_ok (x0 := []) (x1 := x0) hI.st (hg.up hI.le) (Nat.le_refl 0) Sl.nil hc0 hs0 h).mono ?_
  rintro _ w7_ ⟨A7_0, c7_0, r7_0, L7_, H7_, rfl, hI7_, ho7_0, h⟩
  refine Exists.elim (hI.call hI7_ (by simp)) fun L70_ h7_ => ?_
  have hz7_ := hI.size
  replace hI := h7_.1
  have u7_ := h7_.2.1
  have hl7_ := h7_.2.2
  clear h7_
  replace ho7_0 := OwnS.backS ho7_0 hz7_ (Le.refl _)
  clear hI7_ u7_ hl7_
  refine ⟨_, rfl, ?_⟩
  refine Ops_step (R_assign rfl) rfl rfl ?_
  refine Ops_nil ?_
  refine then_n (k6 _ _ ?_)
  clear k6 K6
  refine W_keepB [4] fun B_ b_ => ?_
  simp only [e_, Nat.reduceAdd, Nat.reduceBEq] at b_
  subst b_
  refine W_seq_k fun K9 k9 => ?_
  refine W_region [11, 12, 5] rfl (Ops_step (R_move rfl) rfl rfl ?_)
  refine Exists.elim (ho7_0.lend hI.st (Le.no _)) fun Hb10_0_ hb10_0_ => ?_
  refine Ops_call (C_func bd92 rfl) rfl rfl ?_
  refine (sealskinref02_Sum_ok (x0 := r7_0) hb10_0_.1 (hg.up (hI.le.trans hb10_0_.2.1)) ho7_0.cap hb10_0_.2.2 h).mono ?_
  rintro _ w10_ ⟨r10_0, L10_, H10_, rfl, hI10_, h⟩
  refine Exists.elim (hI.callB hb10_0_.2.1 hI10_ (by simp)) fun L100_ h10_ => Exists.elim h10_ fun H100_ h10_ => ?_
  have hz10_ := hI.size
  replace hI := h10_.1
  have u10_ := h10_.2.1
  have hl10_ := h10_.2.2.1
  have hh10_ := h10_.2.2.2
  clear h10_
  replace ho7_0 := ho7_0.up (Le.refl _) u10_ (by simp)
  clear hI10_ u10_ hl10_
  refine ⟨_, rfl, ?_⟩
  refine Ops_step (R_assign rfl) rfl rfl ?_
  refine Ops_nil ?_
  refine then_n (k9 _ _ ?_)
  clear k9 K9
  refine W_seq_k fun K11 k11 => ?_
  refine W_region [13, 14, 15, 16, 17, 18, 19, 20, 21, 22, 23, 24, 25, 26, 2, 3] rfl (Ops_step (R_move rfl) rfl rfl (Ops_step (R_move rfl) rfl rfl (Ops_step (R_quo rfl rfl (by decide) (quo32 r10_0 (16777216#32))) rfl rfl (Ops_step (R_conv Try.underlying124 Try.underlying5 rfl (c32_8 _)) rfl rfl ?_))))
  refine Ops_step (R_move rfl) rfl rfl (Ops_step (R_quo rfl rfl (by decide) (quo32 r10_0 (65536#32))) rfl rfl (Ops_step (R_conv Try.underlying124 Try.underlying5 rfl (c32_8 _)) rfl rfl (Ops_step (R_move rfl) rfl rfl (Ops_step (R_quo rfl rfl (by decide) (quo32 r10_0 (256#32))) rfl rfl ?_))))
  refine Ops_step (R_conv Try.underlying124 Try.underlying5 rfl (c32_8 _)) rfl rfl (Ops_step (R_move rfl) rfl rfl (Ops_step (R_conv Try.underlying124 Try.underlying5 rfl (c32_8 _)) rfl rfl ?_))
  have hlo12_ho7_0 := ho7_0.lt
  refine Ops_to (R_buildSlice el29 zr5 (by decide) (by decide) rfl rfl) rfl rfl ?_
  rintro _ w12_ ⟨b12_, rfl, hb12_, hB12_, hF12_⟩
  have ho12_ : OwnS w.heap.size 5 Gh.no H100_ _ (some ⟨b12_, 0, none⟩) 4 ([(UInt8.ofBitVec ((r10_0 / (16777216#32)).setWidth 8)), (UInt8.ofBitVec ((r10_0 / (65536#32)).setWidth 8)), (UInt8.ofBitVec ((r10_0 / (256#32)).setWidth 8)), (UInt8.ofBitVec (r10_0.setWidth 8))] : List UInt8) := OwnS.ofBlk hI.st hb12_ hB12_ (all2_sc' _) rfl (by have := hI.size; omega) (by show 4 ≤ maxLen; decide)
  replace hI := hI.fr0 hF12_
  replace ho7_0 := ho7_0.fr0 hF12_
  clear hF12_ hB12_
  have hsp12_ho7_0 : ∀ i ∈ bk (some ⟨b12_, 0, none⟩) 4, i ∉ bk A7_0 c7_0 := sep_new (fun i_ hi_ => by have := (bk_of hi_).1; simp only [blkOf, List.mem_singleton] at this; omega) hlo12_ho7_0
  have hk14_ := h.1
  replace h := h.2
  refine Ops_to (X_append (α := UInt8) (xs := r7_0) (ys := ([(UInt8.ofBitVec ((r10_0 / (16777216#32)).setWidth 8)), (UInt8.ofBitVec ((r10_0 / (65536#32)).setWidth 8)), (UInt8.ofBitVec ((r10_0 / (256#32)).setWidth 8)), (UInt8.ofBitVec (r10_0.setWidth 8))] : List UInt8)) el29 rfl rfl ho7_0 (Srcs.sc (Srcs.ofOwn Try.underlying29 ho12_ (by decide))) hI.st hk14_ (by decide) hI.size) rfl rfl ?_
  rintro _ w13_ ⟨A13_, c13_, rfl, ho13_, hF13_, hbk13_⟩
  clear hbk13_
  replace hI := hI.tok hF13_ ho7_0.out (ho7_0.new (Nat.le_refl _))
  clear hF13_ ho7_0
  refine Ops_step (R_assign rfl) rfl rfl (Ops_step (R_assign rfl) rfl rfl ?_)
  refine Ops_nil ?_
  refine then_n (k11 _ _ ?_)
  clear k11 K11
  refine W_keepB [2, 3] fun B_ b_ => ?_
  simp only [e_, Nat.reduceAdd, Nat.reduceBEq] at b_
  subst b_
  refine W_ret ?_
  refine ⟨_, ⟨_, _, rfl, rfl, ⟨_, _, rfl, rfl, rfl⟩⟩, ?_⟩
  exact ⟨A13_, c13_, (r7_0 ++ ([(UInt8.ofBitVec ((r10_0 / (16777216#32)).setWidth 8)), (UInt8.ofBitVec ((r10_0 / (65536#32)).setWidth 8)), (UInt8.ofBitVec ((r10_0 / (256#32)).setWidth 8)), (UInt8.ofBitVec (r10_0.setWidth 8))] : List UInt8)), 0, _, _, rfl, hI, (ho13_.hl (Le.no _)), h⟩

theorem sealskinref02_Open_ok {G : Gh} {w : World} (hS : St G w) (hg : GL G) {A0 : Option Addr} {c0 : Nat} {x0 : List UInt8} (hc0 : x0.length ≤ c0) (hs0 : Sl G A0 x0) {Q : (List UInt8) → Int → Int → Prop} (h : sealskinref02_Open x0 Q) : Calls Try.prog 71 #[.slice A0 x0.length c0] w fun e w2 => ∃ (A0 : Option Addr) (c0 : Nat) (r0 : List UInt8) (r1 : Int) (r2 : Int) (L H : Gh), e = .returned (.tuple #[.slice A0 r0.length c0, vi r1, vi r2]) ∧ Inv [] G w L H w2 ∧ OwnS w.heap.size 5 L H w2 A0 c0 r0 ∧ Q r0 r1 r2 := by
 unfold sealskinref02_Open at h
 have hI := Inv.start (M := []) hS
 refine calls_W 48 Try.func71 rfl Try.ntmps71 rfl [.tmp 2, .tmp 3, .tmp 4] rfl ?_
 refine W_seq_k fun K1 k1 => ?_
 refine W_region [2, 3, 4] rfl (Ops_step (R_assign rfl) rfl rfl (Ops_step (R_assign rfl) rfl rfl (Ops_step (R_assign rfl) rfl rfl ?_)))
 refine Ops_nil ?_
 refine then_n (k1 _ _ ?_)
 clear k1 K1
 refine W_seq_k fun K2 k2 => ?_
 refine W_region [9, 10, 11, 5] rfl (Ops_step (R_move rfl) rfl rfl ?_)
 refine Ops_step (R_build (pl := [(0, 1)]) (cs := [.slice A0 x0.length c0, vi 0, vi 0]) zr113 pl113 rfl rfl rfl) rfl rfl ?_
 have hI0_ := hI
 refine Ops_to (R_box rfl) rfl rfl ?_
 rintro _ w3_ ⟨b3_, rfl, hb3_, hB3_, hF3_⟩
 replace hI := hI.fr0 hF3_
 have ht3_ : Tok G _ b3_ 113 ([.slice A0 x0.length c0, vi 0, vi 0]) := ⟨hB3_.to rfl, Out.ge hI0_.st (Nat.le_of_eq hb3_.symm)⟩
 have hge_b3_ : w.heap.size ≤ b3_ := hb3_ ▸ hI0_.size
 clear hB3_ hb3_ hI0_ hF3_
 refine Ops_step (R_assign rfl) rfl rfl ?_
 refine Ops_nil ?_
 refine then_n (k2 _ _ ?_)
 clear k2 K2
 refine W_keepB [0, 5] fun B_ b_ => ?_
 simp only [e_, Nat.reduceAdd, Nat.reduceBEq] at b_
 subst b_
 refine W_seq_k fun K5 k5 => ?_
 refine W_region [12, 13, 6] rfl (Ops_step (R_move rfl) rfl rfl ?_)
 refine Ops_call (C_func bd75 rfl) rfl rfl ?_
 refine (sealskinref02_Reader_Bytes_ok (x1 := 16384) (z0 := (sealskinref02_Reader.mk x0 0 0)) hI.st (hg.up hI.le) ht3_ hc0 hs0 h).mono ?_
 rintro _ w6_ ⟨A6_0, c6_0, r6_0, y6_o0, A6_o0_1, c6_o0_1, L6_, H6_, rfl, hI6_, ho6_0, ht6_o0, hc6_o0_1, hs6_o0_1, h⟩
 refine Exists.elim (hI.call hI6_ (new1 hge_b3_)) fun L60_ h6_ => ?_
 have hz6_ := hI.size
 replace hI := h6_.1
 have u6_ := h6_.2.1
 have hl6_ := h6_.2.2
 clear h6_
 replace hs0 := hs0.up u6_.hh
 clear ht3_
 replace ho6_0 := OwnS.backS ho6_0 hz6_ (Le.refl _)
 clear hI6_ u6_ hl6_
 refine ⟨_, rfl, ?_⟩
 refine Ops_step (R_assign rfl) rfl rfl ?_
 refine Ops_nil ?_
 refine then_n (k5 _ _ ?_)
 clear k5 K5
 refine W_seq_k fun K7 k7 => ?_
 refine W_seq_k fun K8 k8 => ?_
 refine W_region [14, 15, 16, 17, 18] rfl (Ops_step (R_move rfl) rfl rfl (Ops_step (R_nilCheck rfl) rfl rfl (Ops_step (R_fieldAddr fo113_2 rfl) rfl rfl ?_)))
 refine Ops_step (R_loadB (v := vi y6_o0.E_) ag32 rfl ht6_o0.blk rfl) rfl rfl ?_
 refine Ops_step (R_neq rfl rfl) rfl rfl ?_
 refine Ops_nil ?_
 refine then_n (k8 _ _ ?_)
 clear k8 K8
 refine W_keepB [0, 5, 6, 18] fun B_ b_ => ?_
 simp only [e_, Nat.reduceAdd, Nat.reduceBEq] at b_
 subst b_
 refine W_if rfl (fun hc10_ => ?_) (fun hc10_ => ?_)
 ·
  replace h := h.1 hc10_
  refine W_seq_k fun K11 k11 => ?_
  refine W_drawF [19, 20, 21, 22, 2, 3, 4] [(0, true), (1, true), (2, true), (3, true), (4, true), (5, true), (6, true)] TJtH.hm rfl (by kernel_rfl) fun ops12_ w12_ hops12_ hF12_ => ?_
  replace hI := hI.fr0 hF12_
  replace ht6_o0 := ht6_o0.fr0 hF12_
  replace ho6_0 := ho6_0.fr0 hF12_
  clear hF12_
  refine HSp (R_move rfl) rfl rfl (HSp (R_nilCheck rfl) rfl rfl (HSp (R_fieldAddr fo113_2 rfl) rfl rfl ?_))
  refine HS_loadB (v := vi y6_o0.E_) ag32 rfl ht6_o0.blk rfl rfl rfl ?_
  refine HSp (R_assign rfl) rfl rfl (HSp (R_assign rfl) rfl rfl (HSp (R_assign rfl) rfl rfl ?_))
  refine HS_nil ?_
  clear hops12_
  refine then_n (k11 _ _ ?_)
  clear k11 K11
  refine W_keepB [2, 3, 4] fun B_ b_ => ?_
  simp only [e_, Nat.reduceAdd, Nat.reduceBEq] at b_
  subst b_
  refine W_ret ?_
  refine then_ret ?_
  clear k7 K7
  refine ⟨_, ⟨_, _, rfl, rfl, ⟨_, _, rfl, rfl, ⟨_, _, rfl, rfl, rfl⟩⟩⟩, ?_⟩
  exact ⟨none, 0, [], 0, y6_o0.E_, _, _, rfl, hI, OwnS.nil, h⟩
 ·
  replace h := h.2 hc10_
  refine W_skip ?_
  refine then_n (k7 _ _ ?_)
  clear k7 K7
  refine W_seq_k fun K14 k14 => ?_
  refine W_seq_k fun K15 k15 => ?_
  refine W_region [23, 24, 25] rfl (Ops_step (R_move rfl) rfl rfl ?_)
  refine Ops_call (C_func bd86 rfl) rfl rfl ?_
  refine (sealskinref02_Reader_Left_ok (z0 := y6_o0) hI.st (hg.up hI.le) ht6_o0 hc6_o0_1 hs6_o0_1 h).mono ?_
  rintro _ w16_ ⟨r16_0, L16_, H16_, rfl, hI16_, h⟩
  refine Exists.elim (hI.call hI16_ (by simp)) fun L160_ h16_ => ?_
  have hz16_ := hI.size
  replace hI := h16_.1
  have u16_ := h16_.2.1
  have hl16_ := h16_.2.2
  clear h16_
  replace hs0 := hs0.up u16_.hh
  replace ht6_o0 := ht6_o0.up u16_ (by simp)
  replace hs6_o0_1 := hs6_o0_1.up u16_.hh
  replace ho6_0 := ho6_0.up (Le.refl _) u16_ (by simp)
  clear hI16_ u16_ hl16_
  refine ⟨_, rfl, ?_⟩
  refine Ops_step (R_lss rfl rfl) rfl rfl ?_
  refine Ops_nil ?_
  refine then_n (k15 _ _ ?_)
  clear k15 K15
  refine W_if rfl (fun hc17_ => ?_) (fun hc17_ => ?_)
  ·
   replace h := h.1 hc17_
   refine W_seq_k fun K18 k18 => ?_
   refine W_region [2, 3, 4] rfl (Ops_step (R_assign rfl) rfl rfl (Ops_step (R_assign rfl) rfl rfl (Ops_step (R_assign rfl) rfl rfl ?_)))
   refine Ops_nil ?_
   refine then_n (k18 _ _ ?_)
   clear k18 K18
   refine W_keepB [2, 3, 4] fun B_ b_ => ?_
   simp only [e_, Nat.reduceAdd, Nat.reduceBEq] at b_
   subst b_
   refine W_ret ?_
   refine then_ret ?_
   clear k14 K14
   refine ⟨_, ⟨_, _, rfl, rfl, ⟨_, _, rfl, rfl, ⟨_, _, rfl, rfl, rfl⟩⟩⟩, ?_⟩
   exact ⟨none, 0, [], 0, 2, _, _, rfl, hI, OwnS.nil, h⟩
  ·
   replace h := h.2 hc17_
   refine W_skip ?_
   refine then_n (k14 _ _ ?_)
   clear k14 K14
   refine W_seq_k fun K20 k20 => ?_
   refine W_region [27, 28, 26, 29, 30, 7, 8] rfl (Ops_step (R_move rfl) rfl rfl ?_)
   refine Exists.elim (ho6_0.lend hI.st (Le.no _)) fun Hb21_0_ hb21_0_ => ?_
   refine Ops_call (C_func bd87 rfl) rfl rfl ?_
   refine (sealskinref02_Seal_ok (x0 := r6_0) hb21_0_.1 (hg.up (hI.le.trans hb21_0_.2.1)) ho6_0.cap hb21_0_.2.2 h).mono ?_
   have hlo21_0_ho6_0 := ho6_0.lt
   rintro _ w21_ ⟨A21_0, c21_0, r21_0, r21_1, L21_, H21_, rfl, hI21_, ho21_0, h⟩
   refine Exists.elim (hI.callB hb21_0_.2.1 hI21_ (by simp)) fun L210_ h21_ => Exists.elim h21_ fun H210_ h21_ => ?_
   have hz21_ := hI.size
   replace hI := h21_.1
   have u21_ := h21_.2.1
   have hl21_ := h21_.2.2.1
   have hh21_ := h21_.2.2.2
   clear h21_
   replace hs0 := hs0.up u21_.hh
   replace ht6_o0 := ht6_o0.up u21_ (by simp)
   replace hs6_o0_1 := hs6_o0_1.up u21_.hh
   replace ho6_0 := ho6_0.up (Le.refl _) u21_ (by simp)
   have hsp21_0_ho6_0 : ∀ i ∈ bk A21_0 c21_0, i ∉ bk A6_0 c6_0 := sep_new ho21_0.off hlo21_0_ho6_0
   replace ho21_0 := OwnS.backS ho21_0 hz21_ hh21_
   clear hI21_ u21_ hl21_
   refine ⟨_, rfl, ?_⟩
   refine Exists.elim (ho21_0.freeze hI) fun L22_ h22_ => Exists.elim h22_ fun H22_ h22_ => ?_
   replace hI := h22_.1
   have u22_ := h22_.2.1
   have hs22_ := h22_.2.2.1 (Le.no _)
   have hc22_ := ho21_0.cap
   replace hs0 := hs0.up u22_.hh
   replace ht6_o0 := ht6_o0.up u22_ (ht6_o0.sep ho21_0 (by decide))
   replace hs6_o0_1 := hs6_o0_1.up u22_.hh
   replace ho6_0 := ho6_0.up (Le.refl _) u22_ (sep_sym hsp21_0_ho6_0)
   clear h22_ u22_ ho21_0
   refine Ops_step (R_move rfl) rfl rfl ?_
   refine Ops_step (R_extract (v := .slice A21_0 r21_0.length c21_0) rfl rfl) rfl rfl ?_
   refine Ops_step (R_extract (v := vi r21_1) rfl rfl) rfl rfl ?_
   refine Ops_step (R_assign rfl) rfl rfl (Ops_step (R_assign rfl) rfl rfl ?_)
   refine Ops_nil ?_
   refine then_n (k20 _ _ ?_)
   clear k20 K20
   refine W_keepB [0, 5, 6, 7] fun B_ b_ => ?_
   simp only [e_, Nat.reduceAdd, Nat.reduceBEq] at b_
   subst b_
   refine W_seq_k fun K24 k24 => ?_
   refine W_seq_k fun K25 k25 => ?_
   refine W_drawF [31, 32, 33, 34, 35, 36, 37, 38, 39, 40, 41] [(0, true), (1, true), (2, true), (3, true), (4, true), (5, true), (6, true), (7, true), (8, true), (9, true), (10, true)] TJtH.hm rfl (by kernel_rfl) fun ops26_ w26_ hops26_ hF26_ => ?_
   replace hI := hI.fr0 hF26_
   replace ht6_o0 := ht6_o0.fr0 hF26_
   replace ho6_0 := ho6_0.fr0 hF26_
   clear hF26_
   refine HSp (R_move rfl) rfl rfl ?_
   refine HS_held (fun w_ => Rd w_ A21_0 (r21_0.map Sc.enc)) (fun w_ hw_ => X_bytesStr (bs := r21_0) Try.underlying29 Try.underlying5 Try.underlying9 rfl rfl hw_) ((hs22_.up hI.sub).fz.rd hI.st) rfl rfl ?_
   refine HSp (R_move rfl) rfl rfl (HSp (R_move rfl) rfl rfl (HSp (R_nilCheck rfl) rfl rfl (HSp (R_fieldAddr fo113_1 rfl) rfl rfl ?_)))
   refine HS_loadB (v := vi y6_o0.At_) ag3 rfl ht6_o0.blk rfl rfl rfl ?_
   have hk27_ := h.1
   replace h := h.2
   refine HSp (R_add rfl rfl (wI hk27_.1 hk27_.2)) rfl rfl ?_
   have hk29_ := h.1
   replace h := h.2
   have hk30_ := h.1
   replace h := h.2
   refine Exists.elim (cut_ex (n := 1) (l := 0) (h := (y6_o0.At_ + 4)) hs0 rfl (by decide) hc0 (Int.le_refl 0) hk29_ hk30_) fun A28_ h28_ => Exists.elim h28_ fun c28_ h28_ => ?_
   have hr28_ := h28_.1
   have hc28_ := h28_.2.1
   have hs28_ := h28_.2.2
   clear h28_
   refine HSp (X_slice (xs := x0) Try.underlying29 sz5 rfl hr28_ hc0 rfl rfl (Int.le_refl 0) hk29_ hk30_) rfl rfl ?_
   clear hr28_
   refine HS_held (fun w_ => Rd w_ A28_ ((cut x0 0 (y6_o0.At_ + 4)).map Sc.enc)) (fun w_ hw_ => X_bytesStr (bs := (cut x0 0 (y6_o0.At_ + 4))) Try.underlying29 Try.underlying5 Try.underlying9 rfl rfl hw_) (hs28_.fz.rd hI.st) rfl rfl ?_
   refine HSp (R_strNeB rfl rfl) rfl rfl ?_
   refine HS_nil ?_
   clear hops26_
   refine then_n (k25 _ _ ?_)
   clear k25 K25
   refine W_keepB [5, 6, 41] fun B_ b_ => ?_
   simp only [e_, Nat.reduceAdd, Nat.reduceBEq] at b_
   subst b_
   refine W_if rfl (fun hc32_ => ?_) (fun hc32_ => ?_)
   ·
    replace h := h.1 hc32_
    refine W_seq_k fun K33 k33 => ?_
    refine W_region [2, 3, 4] rfl (Ops_step (R_assign rfl) rfl rfl (Ops_step (R_assign rfl) rfl rfl (Ops_step (R_assign rfl) rfl rfl ?_)))
    refine Ops_nil ?_
    refine then_n (k33 _ _ ?_)
    clear k33 K33
    refine W_ret ?_
    refine then_ret ?_
    clear k24 K24
    refine ⟨_, ⟨_, _, rfl, rfl, ⟨_, _, rfl, rfl, ⟨_, _, rfl, rfl, rfl⟩⟩⟩, ?_⟩
    exact ⟨none, 0, [], 0, 20, _, _, rfl, hI, OwnS.nil, h⟩
   ·
    replace h := h.2 hc32_
    refine W_skip ?_
    refine then_n (k24 _ _ ?_)
    clear k24 K24
    refine W_seq_k fun K34 k34 => ?_
    refine W_drawF [42, 43, 44, 45, 46, 47, 2, 3, 4] [(0, true), (1, true), (2, true), (3, true), (4, true), (5, true), (6, true), (7, true), (8, true)] TJtH.hm rfl (by kernel_rfl) fun ops35_ w35_ hops35_ hF35_ => ?_
    replace hI := hI.fr0 hF35_
    replace ht6_o0 := ht6_o0.fr0 hF35_
    replace ho6_0 := ho6_0.fr0 hF35_
    clear hF35_
    refine HSp (R_move rfl) rfl rfl (HSp (R_move rfl) rfl rfl (HSp (R_nilCheck rfl) rfl rfl (HSp (R_fieldAddr fo113_1 rfl) rfl rfl ?_)))
    refine HS_loadB (v := vi y6_o0.At_) ag3 rfl ht6_o0.blk rfl rfl rfl ?_
    have hk36_ := h.1
    replace h := h.2
    refine HSp (R_add rfl rfl (wI hk36_.1 hk36_.2)) rfl rfl (HSp (R_assign rfl) rfl rfl (HSp (R_assign rfl) rfl rfl (HSp (R_assign rfl) rfl rfl ?_)))
    refine HS_nil ?_
    clear hops35_
    refine then_n (k34 _ _ ?_)
    clear k34 K34
    refine W_keepB [2, 3, 4] fun B_ b_ => ?_
    simp only [e_, Nat.reduceAdd, Nat.reduceBEq] at b_
    subst b_
    refine W_ret ?_
    refine ⟨_, ⟨_, _, rfl, rfl, ⟨_, _, rfl, rfl, ⟨_, _, rfl, rfl, rfl⟩⟩⟩, ?_⟩
    exact ⟨A6_0, c6_0, r6_0, (y6_o0.At_ + 4), 0, _, _, rfl, hI, (ho6_0.hl (Le.no _)), h⟩

theorem sealskinref02_All_ok {G : Gh} {w : World} (hS : St G w) (hg : GL G) {A0 : Option Addr} {c0 : Nat} {x0 : List UInt8} (hc0 : x0.length ≤ c0) (hs0 : Sl G A0 x0) {Q : (List (List UInt8)) → Int → Prop} (h : sealskinref02_All x0 Q) : Calls Try.prog 56 #[.slice A0 x0.length c0] w fun e w2 => ∃ (A0 : Option Addr) (c0 : Nat) (r0 : List (List UInt8)) (r1 : Int) (L H : Gh), e = .returned (.tuple #[.slice A0 r0.length c0, vi r1]) ∧ Inv [] G w L H w2 ∧ OwnS w.heap.size 29 L H w2 A0 c0 r0 ∧ Q r0 r1 := by
 unfold sealskinref02_All at h
 have hI := Inv.start (M := []) hS
 refine calls_W 33 Try.func56 rfl Try.ntmps56 rfl [.tmp 2, .tmp 3] rfl ?_
 refine W_seq_k fun K1 k1 => ?_
 refine W_region [2, 3] rfl (Ops_step (R_assign rfl) rfl rfl (Ops_step (R_assign rfl) rfl rfl ?_))
 refine Ops_nil ?_
 refine then_n (k1 _ _ ?_)
 clear k1 K1
 refine W_seq_k fun K2 k2 => ?_
 refine W_region [4] rfl (Ops_step (R_assign rfl) rfl rfl ?_)
 refine Ops_nil ?_
 refine then_n (k2 _ _ ?_)
 clear k2 K2
 refine W_seq_k fun K3 k3 => ?_
 refine W_region [5] rfl (Ops_step (R_assign rfl) rfl rfl ?_)
 refine Ops_nil ?_
 refine then_n (k3 _ _ ?_)
 clear k3 K3
 refine ex_ h fun J4_ hr4_ h => ?_
 refine W_seq_join [] [4, 5] (fun vals_ w2 => ∃ (x4_4 : List (List UInt8)) (A4_4 : Option Addr) (c4_4 : Nat) (x5_4 : Int) (L H : Gh), vals_ = [.slice A4_4 x4_4.length c4_4, vi x5_4] ∧ J4_ x4_4 x5_4 ∧ Inv [] G w L H w2 ∧ Le Gh.no L ∧ Le G H ∧ OwnS w.heap.size 29 L H w2 A4_4 c4_4 x4_4 ∧ True) (fun B_ b_ => ?_) (fun B_ b_ => ?_)
 ·
  simp only [e_, Nat.reduceAdd, Nat.reduceBEq] at b_
  subst b_
  clear hr4_
  have hll4_ := Le.refl Gh.no
  have hhh4_ := Le.refl G
  refine W_seq_k fun K5 k5 => ?_
  refine W_region [9, 10, 11] rfl (Ops_step (R_move rfl) rfl rfl (Ops_step (R_len Try.underlying29 rfl rfl) rfl rfl (Ops_step (R_move rfl) rfl rfl ?_)))
  refine Ops_nil ?_
  refine then_n (k5 _ _ ?_)
  clear k5 K5
  refine W_block ?_
  refine Exists.elim h fun I6_ h => Exists.elim h fun n6_ h => ?_
  have h0_ := h.1
  have hs6_ := h.2
  clear h
  refine W_loopB [0, 10] [4, 5, 11] (fun m vals_ w2 => ∃ (x4_6 : List (List UInt8)) (A4_6 : Option Addr) (c4_6 : Nat) (x5_6 : Int) (x11_6 : Int) (L H : Gh), vals_ = [.slice A4_6 x4_6.length c4_6, vi x5_6, vi x11_6] ∧ I6_ m x4_6 x5_6 x11_6 ∧ Inv [] G w L H w2 ∧ Le Gh.no L ∧ Le G H ∧ OwnS w.heap.size 29 L H w2 A4_6 c4_6 x4_6 ∧ True) n6_ _ rfl ⟨[], none, 0, 0, 0, _, _, rfl, h0_, hI, Le.refl _, Le.refl _, OwnS.nil, trivial⟩ fun B_ b_ => ?_
  clear h0_
  simp only [e_, Nat.reduceAdd, Nat.reduceBEq] at b_
  subst b_
  rintro m6_ _ w6_ ⟨x4_6, A4_6, c4_6, x5_6, x11_6, L6_, H6_, rfl, hJ6_, hI6_, hll6_, hhh6_, ho4_6, -⟩
  replace hI := hI6_
  clear hI6_
  have h := hs6_ m6_ x4_6 x5_6 x11_6 hJ6_
  clear hs6_ hJ6_
  replace hs0 := hs0.up hhh6_
  replace hll4_ := hll4_.trans hll6_
  replace hhh4_ := hhh4_.trans hhh6_
  refine W_seq_k fun K7 k7 => ?_
  refine W_region [12] rfl (Ops_step (R_lss rfl rfl) rfl rfl ?_)
  refine Ops_nil ?_
  refine then_n (k7 _ _ ?_)
  clear k7 K7
  refine W_seq_k fun K8 k8 => ?_
  refine W_if rfl (fun hc9_ => ?_) (fun hc9_ => ?_)
  ·
   replace h := h.1 hc9_
   refine W_skip ?_
   refine then_n (k8 _ _ ?_)
   clear k8 K8
   refine W_seq_k fun K10 k10 => ?_
   refine W_block ?_
   refine W_seq_k fun K11 k11 => ?_
   refine W_region [14, 15, 16, 17, 13, 18, 19, 20, 6, 7, 8] rfl (Ops_step (R_move rfl) rfl rfl (Ops_step (R_move rfl) rfl rfl ?_))
   have hk13_ := h.1
   replace h := h.2
   have hk14_ := h.1
   replace h := h.2
   refine Exists.elim (cut_ex (n := 1) (l := x5_6) (h := (x0.length : Int)) hs0 rfl (by decide) hc0 hk13_ hk14_ (Int.le_refl _)) fun A12_ h12_ => Exists.elim h12_ fun c12_ h12_ => ?_
   have hr12_ := h12_.1
   have hc12_ := h12_.2.1
   have hs12_ := h12_.2.2
   clear h12_
   refine Ops_step (X_slice (xs := x0) Try.underlying29 sz5 rfl hr12_ hc0 rfl rfl hk13_ hk14_ (Int.le_refl _)) rfl rfl ?_
   clear hr12_
   refine Ops_call (C_func bd71 rfl) rfl rfl ?_
   refine (sealskinref02_Open_ok (x0 := (cut x0 x5_6 (x0.length : Int))) hI.st (hg.up hI.le) hc12_ hs12_ h).mono ?_
   rintro _ w15_ ⟨A15_0, c15_0, r15_0, r15_1, r15_2, L15_, H15_, rfl, hI15_, ho15_0, h⟩
   refine Exists.elim (hI.call hI15_ (by simp)) fun L150_ h15_ => ?_
   have hz15_ := hI.size
   replace hI := h15_.1
   have u15_ := h15_.2.1
   have hl15_ := h15_.2.2
   clear h15_
   replace hs0 := hs0.up u15_.hh
   replace hll4_ := hll4_.trans u15_.ll
   replace hhh4_ := hhh4_.trans u15_.hh
   replace ho4_6 := ho4_6.up u15_.ll u15_ (by simp)
   replace hll6_ := hll6_.trans u15_.ll
   replace hhh6_ := hhh6_.trans u15_.hh
   replace ho15_0 := OwnS.backS ho15_0 hz15_ (Le.refl _)
   clear hI15_ u15_ hl15_
   refine ⟨_, rfl, ?_⟩
   refine Exists.elim (ho15_0.freeze hI) fun L16_ h16_ => Exists.elim h16_ fun H16_ h16_ => ?_
   replace hI := h16_.1
   have u16_ := h16_.2.1
   have hs16_ := h16_.2.2.1 (Le.no _)
   have hc16_ := ho15_0.cap
   replace hs0 := hs0.up u16_.hh
   replace hll4_ := hll4_.trans u16_.ll
   replace hhh4_ := hhh4_.trans u16_.hh
   replace ho4_6 := ho4_6.up u16_.ll u16_ (ho4_6.sep ho15_0 (by decide))
   replace hll6_ := hll6_.trans u16_.ll
   replace hhh6_ := hhh6_.trans u16_.hh
   clear h16_ u16_ ho15_0
   refine Ops_step (R_move rfl) rfl rfl ?_
   refine Ops_step (R_extract (v := .slice A15_0 r15_0.length c15_0) rfl rfl) rfl rfl ?_
   refine Ops_step (R_extract (v := vi r15_1) rfl rfl) rfl rfl ?_
   refine Ops_step (R_extract (v := vi r15_2) rfl rfl) rfl rfl ?_
   refine Ops_step (R_assign rfl) rfl rfl (Ops_step (R_assign rfl) rfl rfl (Ops_step (R_assign rfl) rfl rfl ?_))
   refine Ops_nil ?_
   refine then_n (k11 _ _ ?_)
   clear k11 K11
   refine W_keepB [0, 4, 5, 6, 7, 8, 10, 11] fun B_ b_ => ?_
   simp only [e_, Nat.reduceAdd, Nat.reduceBEq] at b_
   subst b_
   refine W_seq_k fun K18 k18 => ?_
   refine W_seq_k fun K19 k19 => ?_
   refine W_region [21, 22] rfl (Ops_step (R_move rfl) rfl rfl (Ops_step (R_neq rfl rfl) rfl rfl ?_))
   refine Ops_nil ?_
   refine then_n (k19 _ _ ?_)
   clear k19 K19
   refine W_if rfl (fun hc20_ => ?_) (fun hc20_ => ?_)
   ·
    replace h := h.1 hc20_
    refine W_exit ?_
    refine then_exit ?_
    clear k18 K18
    refine block_other rfl ?_
    refine then_exit ?_
    clear k10 K10
    refine then_exit ?_
    refine block_exit ?_
    refine then_n ?_
    exact ⟨_, rfl, ⟨x4_6, A4_6, c4_6, x5_6, _, _, rfl, h, hI, hll4_, hhh4_, ho4_6, trivial⟩, trivial⟩
   ·
    replace h := h.2 hc20_
    refine W_skip ?_
    refine then_n (k18 _ _ ?_)
    clear k18 K18
    refine W_seq_k fun K21 k21 => ?_
    refine W_region [23, 24, 25, 26, 4] rfl (Ops_step (R_move rfl) rfl rfl (Ops_step (R_move rfl) rfl rfl ?_))
    have hlo22_ho4_6 := ho4_6.lt
    refine Ops_to (R_buildSlice el67 zr29 (by decide) (by decide) rfl rfl) rfl rfl ?_
    rintro _ w22_ ⟨b22_, rfl, hb22_, hB22_, hF22_⟩
    have ho22_ : OwnS w.heap.size 29 L16_ H16_ _ (some ⟨b22_, 0, none⟩) 1 ([r15_0] : List (List UInt8)) := OwnS.ofBlk (css := [[.slice A15_0 r15_0.length c15_0]]) hI.st hb22_ hB22_ (.cons ⟨A15_0, c15_0, rfl, hc16_, hs16_⟩ .nil) rfl (by have := hI.size; omega) (by show 1 ≤ maxLen; decide)
    replace hI := hI.fr0 hF22_
    replace ho4_6 := ho4_6.fr0 hF22_
    clear hF22_ hB22_
    have hsp22_ho4_6 : ∀ i ∈ bk (some ⟨b22_, 0, none⟩) 1, i ∉ bk A4_6 c4_6 := sep_new (fun i_ hi_ => by have := (bk_of hi_).1; simp only [blkOf, List.mem_singleton] at this; omega) hlo22_ho4_6
    have hk24_ := h.1
    replace h := h.2
    refine Ops_to (X_append (α := List UInt8) (xs := x4_6) (ys := ([r15_0] : List (List UInt8))) el67 rfl rfl ho4_6 (Srcs.ofOwn Try.underlying67 ho22_ (by decide)) hI.st hk24_ (by decide) hI.size) rfl rfl ?_
    rintro _ w23_ ⟨A23_, c23_, rfl, ho23_, hF23_, hbk23_⟩
    clear hbk23_
    replace hI := hI.tok hF23_ ho4_6.out (ho4_6.new (Nat.le_refl _))
    clear hF23_ ho4_6
    refine Ops_step (R_assign rfl) rfl rfl ?_
    refine Ops_nil ?_
    refine then_n (k21 _ _ ?_)
    clear k21 K21
    refine W_keepB [0, 4, 5, 7, 10, 11] fun B_ b_ => ?_
    simp only [e_, Nat.reduceAdd, Nat.reduceBEq] at b_
    subst b_
    refine W_region [27, 28, 29, 5] rfl (Ops_step (R_move rfl) rfl rfl (Ops_step (R_move rfl) rfl rfl ?_))
    have hk26_ := h.1
    replace h := h.2
    refine Ops_step (R_add rfl rfl (wI hk26_.1 hk26_.2)) rfl rfl (Ops_step (R_assign rfl) rfl rfl ?_)
    refine Ops_nil ?_
    refine block_n ?_
    refine then_n (k10 _ _ ?_)
    clear k10 K10
    refine W_region [30, 11] rfl ?_
    have hk27_ := h.1
    replace h := h.2
    refine Ops_step (R_add rfl rfl (wI hk27_.1 hk27_.2)) rfl rfl (Ops_step (R_move rfl) rfl rfl ?_)
    refine Ops_nil ?_
    refine then_n ?_
    exact h.elim fun m_ h => ⟨m_, _, h.1, rfl, ⟨(x4_6 ++ ([r15_0] : List (List UInt8))), A23_, c23_, (x5_6 + r15_1), (x11_6 + 1), _, _, rfl, h.2, hI, hll6_, hhh6_, ho23_, trivial⟩, ⟨rfl, rfl, trivial⟩⟩
  ·
   replace h := h.2 hc9_
   refine W_exit ?_
   refine then_exit ?_
   clear k8 K8
   refine then_exit ?_
   refine block_exit ?_
   refine then_n ?_
   exact ⟨_, rfl, ⟨x4_6, A4_6, c4_6, x5_6, _, _, rfl, h, hI, hll4_, hhh4_, ho4_6, trivial⟩, trivial⟩
 ·
  simp only [e_, Nat.reduceAdd, Nat.reduceBEq] at b_
  subst b_
  clear h
  rintro _ w4_ ⟨x4_4, A4_4, c4_4, x5_4, L4_, H4_, rfl, hJ4_, hI4_, hll4_, hhh4_, ho4_4, -⟩
  replace hI := hI4_
  clear hI4_
  have h := hr4_ x4_4 x5_4 hJ4_
  clear hr4_ hJ4_
  refine W_seq_k fun K28 k28 => ?_
  refine W_region [31, 32, 2, 3] rfl (Ops_step (R_move rfl) rfl rfl (Ops_step (R_move rfl) rfl rfl (Ops_step (R_assign rfl) rfl rfl (Ops_step (R_assign rfl) rfl rfl ?_))))
  refine Ops_nil ?_
  refine then_n (k28 _ _ ?_)
  clear k28 K28
  refine W_ret ?_
  refine ⟨_, ⟨_, _, rfl, rfl, ⟨_, _, rfl, rfl, rfl⟩⟩, ?_⟩
  exact ⟨A4_4, c4_4, x4_4, x5_4, _, _, rfl, hI, ho4_4, h⟩

theorem sealskinref02_Reader_Within_ok {G : Gh} {w : World} (hS : St G w) (hg : GL G) {d0 : Nat} {z0 : sealskinref02_Reader} {Ad0_1 : Option Addr} {cd0_1 : Nat} (htd0 : Tok G w d0 113 ([.slice Ad0_1 z0.B_.length cd0_1, vi z0.At_, vi z0.E_])) (hcd0_1 : z0.B_.length ≤ cd0_1) (hsd0_1 : Sl G Ad0_1 z0.B_) {x1 : Int} {x2 : Int} {Q : Int → sealskinref02_Reader → Prop} (h : sealskinref02_Reader_Within z0 x1 x2 Q) : Calls Try.prog 72 #[.pointer (some ⟨d0, 0, none⟩), vi x1, vi x2] w fun e w2 => ∃ (r0 : Int) (y0 : sealskinref02_Reader) (Ay0_1 : Option Addr) (cy0_1 : Nat) (L H : Gh), e = .returned (vi r0) ∧ Inv [d0] G w L H w2 ∧ Tok H w2 d0 113 ([.slice Ay0_1 y0.B_.length cy0_1, vi y0.At_, vi y0.E_]) ∧ y0.B_.length ≤ cy0_1 ∧ Sl H Ay0_1 y0.B_ ∧ Q r0 y0 := by
 unfold sealskinref02_Reader_Within at h
 have hI := Inv.start (M := [d0]) hS
 refine calls_W 53 Try.func72 rfl Try.ntmps72 rfl [.tmp 6] rfl ?_
 have hlt_d0 := htd0.blk.lt
 refine W_seq_k fun K1 k1 => ?_
 refine W_region [6] rfl (Ops_step (R_assign rfl) rfl rfl ?_)
 refine Ops_nil ?_
 refine then_n (k1 _ _ ?_)
 clear k1 K1
 refine W_seq_k fun K2 k2 => ?_
 refine W_seq_k fun K3 k3 => ?_
 refine W_region [9, 10, 11, 12, 13] rfl (Ops_step (R_move rfl) rfl rfl (Ops_step (R_nilCheck rfl) rfl rfl (Ops_step (R_fieldAddr fo113_2 rfl) rfl rfl ?_)))
 refine Ops_step (R_loadB (v := vi z0.E_) ag32 rfl htd0.blk rfl) rfl rfl ?_
 refine Ops_step (R_neq rfl rfl) rfl rfl ?_
 refine Ops_nil ?_
 refine then_n (k3 _ _ ?_)
 clear k3 K3
 refine W_if rfl (fun hc4_ => ?_) (fun hc4_ => ?_)
 ·
  replace h := h.1 hc4_
  refine W_seq_k fun K5 k5 => ?_
  refine W_region [6] rfl (Ops_step (R_assign rfl) rfl rfl ?_)
  refine Ops_nil ?_
  refine then_n (k5 _ _ ?_)
  clear k5 K5
  refine W_keepB [6] fun B_ b_ => ?_
  simp only [e_, Nat.reduceAdd, Nat.reduceBEq] at b_
  subst b_
  refine W_ret ?_
  refine then_ret ?_
  clear k2 K2
  refine ⟨_, ⟨_, _, rfl, rfl, rfl⟩, ?_⟩
  exact ⟨0, z0, Ad0_1, cd0_1, _, _, rfl, hI, htd0, hcd0_1, hsd0_1, h⟩
 ·
  replace h := h.2 hc4_
  refine W_skip ?_
  refine then_n (k2 _ _ ?_)
  clear k2 K2
  refine W_keepB [0, 1, 2] fun B_ b_ => ?_
  simp only [e_, Nat.reduceAdd, Nat.reduceBEq] at b_
  subst b_
  refine W_seq_k fun K8 k8 => ?_
  refine W_drawF [15, 16, 17, 18, 19, 20, 21, 22, 23, 24, 14, 25, 26, 7, 8] [(0, true), (1, true), (2, true), (3, true), (4, true), (5, true), (6, true), (7, true), (8, true), (9, false), (10, true), (11, true), (12, true), (13, true), (14, true)] TJtH.hm rfl (by kernel_rfl) fun ops9_ w9_ hops9_ hF9_ => ?_
  replace hI := hI.fr0 hF9_
  replace htd0 := htd0.fr0 hF9_
  clear hF9_
  refine HSp (R_move rfl) rfl rfl (HSp (R_nilCheck rfl) rfl rfl (HSp (R_fieldAddr fo113_0 rfl) rfl rfl ?_))
  refine HS_loadB (v := .slice Ad0_1 z0.B_.length cd0_1) ag29 rfl htd0.blk rfl rfl rfl ?_
  refine HSp (R_move rfl) rfl rfl (HSp (R_nilCheck rfl) rfl rfl (HSp (R_fieldAddr fo113_1 rfl) rfl rfl ?_))
  refine HS_loadB (v := vi z0.At_) ag3 rfl htd0.blk rfl rfl rfl ?_
  have hk11_ := h.1
  replace h := h.2
  have hk12_ := h.1
  replace h := h.2
  refine Exists.elim (cut_ex (n := 1) (l := z0.At_) (h := (z0.B_.length : Int)) hsd0_1 rfl (by decide) hcd0_1 hk11_ hk12_ (Int.le_refl _)) fun A10_ h10_ => Exists.elim h10_ fun c10_ h10_ => ?_
  have hr10_ := h10_.1
  have hc10_ := h10_.2.1
  have hs10_ := h10_.2.2
  clear h10_
  refine HSp (X_slice (xs := z0.B_) Try.underlying29 sz5 rfl hr10_ hcd0_1 rfl rfl hk11_ hk12_ (Int.le_refl _)) rfl rfl ?_
  clear hr10_
  refine HS_call [] _ rfl (by rw [hops9_]; kernel_rfl) (C_func bd88 rfl) rfl rfl ?_
  refine (sealskinref02_number_ok (x0 := (cut z0.B_ z0.At_ (z0.B_.length : Int))) hI.st (hg.up hI.le) hc10_ hs10_ h).mono ?_
  rintro _ w13_ ⟨r13_0, r13_1, L13_, H13_, rfl, hI13_, h⟩
  refine Exists.elim (hI.call hI13_ (by simp)) fun L130_ h13_ => ?_
  have hz13_ := hI.size
  replace hI := h13_.1
  have u13_ := h13_.2.1
  have hl13_ := h13_.2.2
  clear h13_
  replace hsd0_1 := hsd0_1.up u13_.hh
  replace htd0 := htd0.up u13_ (by simp)
  clear hI13_ u13_ hl13_
  refine ⟨_, rfl, trivial, ?_⟩
  refine HSp (R_move rfl) rfl rfl ?_
  refine HSp (R_extract (v := vi r13_0) rfl rfl) rfl rfl ?_
  refine HSp (R_extract (v := vi r13_1) rfl rfl) rfl rfl ?_
  refine HSp (R_assign rfl) rfl rfl (HSp (R_assign rfl) rfl rfl ?_)
  refine HS_nil ?_
  clear hops9_
  refine then_n (k8 _ _ ?_)
  clear k8 K8
  refine W_keepB [0, 1, 2, 7, 8] fun B_ b_ => ?_
  simp only [e_, Nat.reduceAdd, Nat.reduceBEq] at b_
  subst b_
  refine ex_ h fun J15_ hr15_ h => ?_
  refine W_seq_join [0, 7] [8] (fun vals_ w2 => ∃ (x8_15 : Int) (L H : Gh), vals_ = [vi x8_15] ∧ J15_ x8_15 ∧ Inv [d0] G w L H w2 ∧ Le L130_ L ∧ Le H13_ H ∧ Tok H w2 d0 113 ([.slice Ad0_1 z0.B_.length cd0_1, vi z0.At_, vi z0.E_]) ∧ True) (fun B_ b_ => ?_) (fun B_ b_ => ?_)
  ·
   simp only [e_, Nat.reduceAdd, Nat.reduceBEq] at b_
   subst b_
   clear hr15_
   have hll15_ := Le.refl L130_
   have hhh15_ := Le.refl H13_
   refine ex_ h fun J16_ hr16_ h => ?_
   refine W_seq_join [0, 7, 8] [38] (fun vals_ w2 => ∃ (x38_16 : Bool) (L H : Gh), vals_ = [.bool x38_16] ∧ J16_ x38_16 ∧ Inv [d0] G w L H w2 ∧ Le L130_ L ∧ Le H13_ H ∧ Tok H w2 d0 113 ([.slice Ad0_1 z0.B_.length cd0_1, vi z0.At_, vi z0.E_]) ∧ True) (fun B_ b_ => ?_) (fun B_ b_ => ?_)
   ·
    simp only [e_, Nat.reduceAdd, Nat.reduceBEq] at b_
    subst b_
    clear hr16_
    have hll16_ := Le.refl L130_
    have hhh16_ := Le.refl H13_
    refine W_region [27, 28, 29, 30, 31, 32, 33, 34, 35, 36, 37, 38] rfl (Ops_step (R_move rfl) rfl rfl (Ops_step (R_eql rfl rfl) rfl rfl (Ops_step (R_move rfl) rfl rfl ?_)))
    refine Ops_split 29 rfl (fun hg17_ => ?_) (fun hg17_ => ?_)
    ·
     replace h := h.1 hg17_
     refine Ops_step (R_move rfl) rfl rfl (Ops_step (R_move rfl) rfl rfl (Ops_step (R_lss rfl rfl) rfl rfl (Ops_step (R_move rfl) rfl rfl ?_)))
     refine Ops_split 33 rfl (fun hg18_ => ?_) (fun hg18_ => ?_)
     ·
      replace h := h.1 hg18_
      refine Ops_pass rfl rfl (Ops_pass rfl rfl (Ops_pass rfl rfl (Ops_step (R_pick_true rfl rfl) rfl rfl (Ops_step (R_pick_true rfl rfl) rfl rfl ?_))))
      refine Ops_nil ?_
      refine then_n ?_
      exact ⟨_, rfl, ⟨true, _, _, rfl, h, hI, hll16_, hhh16_, htd0, trivial⟩, ⟨rfl, rfl, rfl, trivial⟩⟩
     ·
      replace h := h.2 hg18_
      refine Ops_step (R_move rfl) rfl rfl (Ops_step (R_move rfl) rfl rfl (Ops_step (R_gtr rfl rfl) rfl rfl (Ops_step (R_pick_false rfl rfl) rfl rfl (Ops_step (R_pick_true rfl rfl) rfl rfl ?_))))
      refine Ops_nil ?_
      refine then_n ?_
      exact ⟨_, rfl, ⟨(decide (r13_0 > x2)), _, _, rfl, h, hI, hll16_, hhh16_, htd0, trivial⟩, ⟨rfl, rfl, rfl, trivial⟩⟩
    ·
     replace h := h.2 hg17_
     refine Ops_pass rfl rfl (Ops_pass rfl rfl (Ops_pass rfl rfl (Ops_pass rfl rfl (Ops_passU rfl rfl ?_))))
     refine Ops_passU rfl rfl (Ops_passU rfl rfl (Ops_pass rfl rfl (Ops_step (R_pick_false rfl rfl) rfl rfl ?_)))
     refine Ops_nil ?_
     refine then_n ?_
     exact ⟨_, rfl, ⟨false, _, _, rfl, h, hI, hll16_, hhh16_, htd0, trivial⟩, ⟨rfl, rfl, rfl, trivial⟩⟩
   ·
    simp only [e_, Nat.reduceAdd, Nat.reduceBEq] at b_
    subst b_
    clear h
    clear htd0
    rintro _ w16_ ⟨x38_16, L16_, H16_, rfl, hJ16_, hI16_, hll16_, hhh16_, htd0, -⟩
    replace hI := hI16_
    clear hI16_
    have h := hr16_ x38_16 hJ16_
    clear hr16_ hJ16_
    replace hsd0_1 := hsd0_1.up hhh16_
    replace hll15_ := hll15_.trans hll16_
    replace hhh15_ := hhh15_.trans hhh16_
    refine W_cond rfl (fun hc19_ => ?_) (fun hc19_ => ?_)
    ·
     replace h := h.1 hc19_
     refine W_region [8] rfl (Ops_step (R_assign rfl) rfl rfl ?_)
     refine Ops_nil ?_
     refine then_n ?_
     exact ⟨_, rfl, ⟨5, _, _, rfl, h, hI, hll15_, hhh15_, htd0, trivial⟩, ⟨rfl, rfl, trivial⟩⟩
    ·
     replace h := h.2 hc19_
     refine W_skip ?_
     refine then_n ?_
     exact ⟨_, rfl, ⟨r13_1, _, _, rfl, h, hI, hll15_, hhh15_, htd0, trivial⟩, ⟨rfl, rfl, trivial⟩⟩
  ·
   simp only [e_, Nat.reduceAdd, Nat.reduceBEq] at b_
   subst b_
   clear h
   clear htd0
   rintro _ w15_ ⟨x8_15, L15_, H15_, rfl, hJ15_, hI15_, hll15_, hhh15_, htd0, -⟩
   replace hI := hI15_
   clear hI15_
   have h := hr15_ x8_15 hJ15_
   clear hr15_ hJ15_
   replace hsd0_1 := hsd0_1.up hhh15_
   refine W_seq_k fun K20 k20 => ?_
   refine W_seq_k fun K21 k21 => ?_
   refine W_region [39, 40] rfl (Ops_step (R_move rfl) rfl rfl (Ops_step (R_neq rfl rfl) rfl rfl ?_))
   refine Ops_nil ?_
   refine then_n (k21 _ _ ?_)
   clear k21 K21
   refine W_if rfl (fun hc22_ => ?_) (fun hc22_ => ?_)
   ·
    replace h := h.1 hc22_
    refine W_seq_k fun K23 k23 => ?_
    refine W_region [41, 42, 43, 44, none] rfl (Ops_step (R_move rfl) rfl rfl (Ops_step (R_move rfl) rfl rfl (Ops_step (R_nilCheck rfl) rfl rfl (Ops_step (R_fieldAddr fo113_2 rfl) rfl rfl ?_))))
    refine Ops_to0 (R_store sz32 rfl rfl htd0.blk (by show 2 < 3; decide) rfl) rfl ?_
    rintro _ w24_ ⟨hB24_, hF24_⟩
    replace hI := hI.tok hF24_ (out1 htd0.out) (mem1 (by simp))
    replace htd0 : Tok H15_ _ d0 113 ([.slice Ad0_1 z0.B_.length cd0_1, vi z0.At_, vi x8_15]) := ⟨hB24_, htd0.out⟩
    clear hF24_ hB24_
    refine Ops_nil ?_
    refine then_n (k23 _ _ ?_)
    clear k23 K23
    refine W_keepB [] fun B_ b_ => ?_
    simp only [e_, Nat.reduceAdd, Nat.reduceBEq] at b_
    subst b_
    refine W_seq_k fun K26 k26 => ?_
    refine W_region [6] rfl (Ops_step (R_assign rfl) rfl rfl ?_)
    refine Ops_nil ?_
    refine then_n (k26 _ _ ?_)
    clear k26 K26
    refine W_ret ?_
    refine then_ret ?_
    clear k20 K20
    refine ⟨_, ⟨_, _, rfl, rfl, rfl⟩, ?_⟩
    exact ⟨0, (sealskinref02_Reader.mk z0.B_ z0.At_ x8_15), Ad0_1, cd0_1, _, _, rfl, hI, htd0, hcd0_1, hsd0_1, h⟩
   ·
    replace h := h.2 hc22_
    refine W_skip ?_
    refine then_n (k20 _ _ ?_)
    clear k20 K20
    refine W_seq_k fun K27 k27 => ?_
    refine W_region [45, 46, 47, 48, 49, 50, 51, none] rfl (Ops_step (R_move rfl) rfl rfl (Ops_step (R_nilCheck rfl) rfl rfl (Ops_step (R_fieldAddr fo113_1 rfl) rfl rfl ?_)))
    refine Ops_step (R_loadB (v := vi z0.At_) ag3 rfl htd0.blk rfl) rfl rfl ?_
    have hk28_ := h.1
    replace h := h.2
    refine Ops_step (R_add rfl rfl (wI hk28_.1 hk28_.2)) rfl rfl (Ops_step (R_nilCheck rfl) rfl rfl (Ops_step (R_fieldAddr fo113_1 rfl) rfl rfl ?_))
    refine Ops_to0 (R_store sz3 rfl rfl htd0.blk (by show 1 < 3; decide) rfl) rfl ?_
    rintro _ w29_ ⟨hB29_, hF29_⟩
    replace hI := hI.tok hF29_ (out1 htd0.out) (mem1 (by simp))
    replace htd0 : Tok H15_ _ d0 113 ([.slice Ad0_1 z0.B_.length cd0_1, vi (z0.At_ + 8), vi z0.E_]) := ⟨hB29_, htd0.out⟩
    clear hF29_ hB29_
    refine Ops_nil ?_
    refine then_n (k27 _ _ ?_)
    clear k27 K27
    refine W_keepB [7] fun B_ b_ => ?_
    simp only [e_, Nat.reduceAdd, Nat.reduceBEq] at b_
    subst b_
    refine W_seq_k fun K31 k31 => ?_
    refine W_region [52, 6] rfl (Ops_step (R_move rfl) rfl rfl (Ops_step (R_assign rfl) rfl rfl ?_))
    refine Ops_nil ?_
    refine then_n (k31 _ _ ?_)
    clear k31 K31
    refine W_ret ?_
    refine ⟨_, ⟨_, _, rfl, rfl, rfl⟩, ?_⟩
    exact ⟨r13_0, (sealskinref02_Reader.mk z0.B_ (z0.At_ + 8) z0.E_), Ad0_1, cd0_1, _, _, rfl, hI, htd0, hcd0_1, hsd0_1, h⟩

theorem sealskinref02_Reader_End_ok {G : Gh} {w : World} (hS : St G w) (hg : GL G) {d0 : Nat} {z0 : sealskinref02_Reader} {Ad0_1 : Option Addr} {cd0_1 : Nat} (htd0 : Tok G w d0 113 ([.slice Ad0_1 z0.B_.length cd0_1, vi z0.At_, vi z0.E_])) (hcd0_1 : z0.B_.length ≤ cd0_1) (hsd0_1 : Sl G Ad0_1 z0.B_) {Q : Int → Prop} (h : sealskinref02_Reader_End z0 Q) : Calls Try.prog 73 #[.pointer (some ⟨d0, 0, none⟩)] w fun e w2 => ∃ (r0 : Int) (L H : Gh), e = .returned (vi r0) ∧ Inv [] G w L H w2 ∧ Q r0 := by
 unfold sealskinref02_Reader_End at h
 have hI := Inv.start (M := []) hS
 refine calls_W 17 Try.func73 rfl Try.ntmps73 rfl [.tmp 2] rfl ?_
 have hlt_d0 := htd0.blk.lt
 refine W_seq_k fun K1 k1 => ?_
 refine W_region [2] rfl (Ops_step (R_assign rfl) rfl rfl ?_)
 refine Ops_nil ?_
 refine then_n (k1 _ _ ?_)
 clear k1 K1
 refine W_seq_k fun K2 k2 => ?_
 refine ex_ h fun J3_ hr3_ h => ?_
 refine W_seq_join [0] [12] (fun vals_ w2 => ∃ (x12_3 : Bool) (L H : Gh), vals_ = [.bool x12_3] ∧ J3_ x12_3 ∧ Inv [] G w L H w2 ∧ Le Gh.no L ∧ Le G H ∧ Tok H w2 d0 113 ([.slice Ad0_1 z0.B_.length cd0_1, vi z0.At_, vi z0.E_]) ∧ True) (fun B_ b_ => ?_) (fun B_ b_ => ?_)
 ·
  simp only [e_, Nat.reduceAdd, Nat.reduceBEq] at b_
  subst b_
  clear hr3_
  have hll3_ := Le.refl Gh.no
  have hhh3_ := Le.refl G
  refine W_region [3, 4, 5, 6, 7, 8, 9, 10, 11, 12] rfl (Ops_step (R_move rfl) rfl rfl (Ops_step (R_nilCheck rfl) rfl rfl (Ops_step (R_fieldAddr fo113_2 rfl) rfl rfl ?_)))
  refine Ops_step (R_loadB (v := vi z0.E_) ag32 rfl htd0.blk rfl) rfl rfl ?_
  refine Ops_step (R_eql rfl rfl) rfl rfl (Ops_step (R_move rfl) rfl rfl ?_)
  refine Ops_split 8 rfl (fun hg4_ => ?_) (fun hg4_ => ?_)
  ·
   replace h := h.1 hg4_
   refine Ops_step (R_move rfl) rfl rfl ?_
   refine Ops_call (C_func bd86 rfl) rfl rfl ?_
   refine (sealskinref02_Reader_Left_ok (z0 := z0) hI.st (hg.up hI.le) htd0 hcd0_1 hsd0_1 h).mono ?_
   rintro _ w5_ ⟨r5_0, L5_, H5_, rfl, hI5_, h⟩
   refine Exists.elim (hI.call hI5_ (by simp)) fun L50_ h5_ => ?_
   have hz5_ := hI.size
   replace hI := h5_.1
   have u5_ := h5_.2.1
   have hl5_ := h5_.2.2
   clear h5_
   replace hsd0_1 := hsd0_1.up u5_.hh
   replace htd0 := htd0.up u5_ (by simp)
   replace hll3_ := hll3_.trans u5_.ll
   replace hhh3_ := hhh3_.trans u5_.hh
   clear hI5_ u5_ hl5_
   refine ⟨_, rfl, ?_⟩
   refine Ops_step (R_gtr rfl rfl) rfl rfl (Ops_step (R_pick_true rfl rfl) rfl rfl ?_)
   refine Ops_nil ?_
   refine then_n ?_
   exact ⟨_, rfl, ⟨(decide (r5_0 > 0)), _, _, rfl, h, hI, hll3_, hhh3_, htd0, trivial⟩, ⟨rfl, trivial⟩⟩
  ·
   replace h := h.2 hg4_
   refine Ops_pass rfl rfl (Ops_pass rfl rfl (Ops_pass rfl rfl (Ops_step (R_pick_false rfl rfl) rfl rfl ?_)))
   refine Ops_nil ?_
   refine then_n ?_
   exact ⟨_, rfl, ⟨false, _, _, rfl, h, hI, hll3_, hhh3_, htd0, trivial⟩, ⟨rfl, trivial⟩⟩
 ·
  simp only [e_, Nat.reduceAdd, Nat.reduceBEq] at b_
  subst b_
  clear h
  clear htd0
  rintro _ w3_ ⟨x12_3, L3_, H3_, rfl, hJ3_, hI3_, hll3_, hhh3_, htd0, -⟩
  replace hI := hI3_
  clear hI3_
  have h := hr3_ x12_3 hJ3_
  clear hr3_ hJ3_
  replace hsd0_1 := hsd0_1.up hhh3_
  refine W_cond rfl (fun hc6_ => ?_) (fun hc6_ => ?_)
  ·
   replace h := h.1 hc6_
   refine W_seq_k fun K7 k7 => ?_
   refine W_region [2] rfl (Ops_step (R_assign rfl) rfl rfl ?_)
   refine Ops_nil ?_
   refine then_n (k7 _ _ ?_)
   clear k7 K7
   refine W_ret ?_
   refine then_ret ?_
   clear k2 K2
   refine ⟨_, ⟨_, _, rfl, rfl, rfl⟩, ?_⟩
   exact ⟨3, _, _, rfl, hI, h⟩
  ·
   replace h := h.2 hc6_
   refine W_skip ?_
   refine then_n (k2 _ _ ?_)
   clear k2 K2
   refine W_seq_k fun K8 k8 => ?_
   refine W_region [13, 14, 15, 16, 2] rfl (Ops_step (R_move rfl) rfl rfl (Ops_step (R_nilCheck rfl) rfl rfl (Ops_step (R_fieldAddr fo113_2 rfl) rfl rfl ?_)))
   refine Ops_step (R_loadB (v := vi z0.E_) ag32 rfl htd0.blk rfl) rfl rfl ?_
   refine Ops_step (R_assign rfl) rfl rfl ?_
   refine Ops_nil ?_
   refine then_n (k8 _ _ ?_)
   clear k8 K8
   refine W_keepB [2] fun B_ b_ => ?_
   simp only [e_, Nat.reduceAdd, Nat.reduceBEq] at b_
   subst b_
   refine W_ret ?_
   refine ⟨_, ⟨_, _, rfl, rfl, rfl⟩, ?_⟩
   exact ⟨z0.E_, _, _, rfl, hI, h⟩

theorem sealskinref06_top_ok {G : Gh} {w : World} (hS : St G w) (hg : GL G) {A0 : Option Addr} {c0 : Nat} {x0 : List (List UInt8)} (hc0 : x0.length ≤ c0) (hs0 : Sl G A0 x0) {Q : Int → Int → Prop} (h : sealskinref06_top x0 Q) : Calls Try.prog 57 #[.slice A0 x0.length c0] w fun e w2 => ∃ (r0 : Int) (r1 : Int) (L H : Gh), e = .returned (.tuple #[vi r0, vi r1]) ∧ Inv [] G w L H w2 ∧ Q r0 r1 := by
 unfold sealskinref06_top at h
 have hI := Inv.start (M := []) hS
 refine calls_W 24 Try.func57 rfl Try.ntmps57 rfl [.tmp 2, .tmp 3] rfl ?_
 refine W_seq_k fun K1 k1 => ?_
 refine W_region [2, 3] rfl (Ops_step (R_assign rfl) rfl rfl (Ops_step (R_assign rfl) rfl rfl ?_))
 refine Ops_nil ?_
 refine then_n (k1 _ _ ?_)
 clear k1 K1
 refine W_seq_k fun K2 k2 => ?_
 refine W_seq_k fun K3 k3 => ?_
 refine W_region [7, 8, 9] rfl (Ops_step (R_move rfl) rfl rfl (Ops_step (R_len Try.underlying67 rfl rfl) rfl rfl (Ops_step (R_eql rfl rfl) rfl rfl ?_)))
 refine Ops_nil ?_
 refine then_n (k3 _ _ ?_)
 clear k3 K3
 refine W_if rfl (fun hc4_ => ?_) (fun hc4_ => ?_)
 ·
  replace h := h.1 hc4_
  refine W_seq_k fun K5 k5 => ?_
  refine W_region [2, 3] rfl (Ops_step (R_assign rfl) rfl rfl (Ops_step (R_assign rfl) rfl rfl ?_))
  refine Ops_nil ?_
  refine then_n (k5 _ _ ?_)
  clear k5 K5
  refine W_ret ?_
  refine then_ret ?_
  clear k2 K2
  refine ⟨_, ⟨_, _, rfl, rfl, ⟨_, _, rfl, rfl, rfl⟩⟩, ?_⟩
  exact ⟨0, 0, _, _, rfl, hI, h⟩
 ·
  replace h := h.2 hc4_
  refine W_skip ?_
  refine then_n (k2 _ _ ?_)
  clear k2 K2
  refine W_seq_k fun K6 k6 => ?_
  refine W_region [10, 11, 12, 13, 14, 4] rfl (Ops_step (R_move rfl) rfl rfl ?_)
  refine ex_ h fun x7_ hx7_ h => ?_
  have ha7_ := (hs0.atL hx7_).1
  refine Exists.elim (hs0.atL hx7_).2 fun A7_ hA7_ => Exists.elim hA7_ fun c7_ hA7_ => ?_
  have hc7_ := hA7_.1
  have hs7_ := hA7_.2.1
  have hg7_ := hA7_.2.2
  clear hA7_
  refine Ops_step (R_indexSl Try.underlying67 sz29 rfl rfl hx7_.1 hx7_.lt ha7_) rfl rfl (Ops_step (R_load ag29 rfl (hI.st _ _ hg7_)) rfl rfl ?_)
  refine Ops_step (R_build (pl := [(0, 1)]) (cs := [.slice A7_ x7_.length c7_, vi 0, vi 0]) zr113 pl113 rfl rfl rfl) rfl rfl ?_
  have hI0_ := hI
  refine Ops_to (R_box rfl) rfl rfl ?_
  rintro _ w8_ ⟨b8_, rfl, hb8_, hB8_, hF8_⟩
  replace hI := hI.fr0 hF8_
  have ht8_ : Tok G _ b8_ 113 ([.slice A7_ x7_.length c7_, vi 0, vi 0]) := ⟨hB8_.to rfl, Out.ge hI0_.st (Nat.le_of_eq hb8_.symm)⟩
  have hge_b8_ : w.heap.size ≤ b8_ := hb8_ ▸ hI0_.size
  clear hB8_ hb8_ hI0_ hF8_
  refine Ops_step (R_assign rfl) rfl rfl ?_
  refine Ops_nil ?_
  refine then_n (k6 _ _ ?_)
  clear k6 K6
  refine W_keepB [4] fun B_ b_ => ?_
  simp only [e_, Nat.reduceAdd, Nat.reduceBEq] at b_
  subst b_
  refine W_seq_k fun K10 k10 => ?_
  refine W_region [15, 16, 17, 18, 5, 6] rfl (Ops_step (R_move rfl) rfl rfl ?_)
  refine Ops_call (C_func bd72 rfl) rfl rfl ?_
  refine (sealskinref02_Reader_Within_ok (x1 := 1) (x2 := 1099511627776) (z0 := (sealskinref02_Reader.mk x7_ 0 0)) hI.st (hg.up hI.le) ht8_ hc7_ hs7_ h).mono ?_
  rintro _ w11_ ⟨r11_0, y11_o0, A11_o0_1, c11_o0_1, L11_, H11_, rfl, hI11_, ht11_o0, hc11_o0_1, hs11_o0_1, h⟩
  refine Exists.elim (hI.call hI11_ (new1 hge_b8_)) fun L110_ h11_ => ?_
  have hz11_ := hI.size
  replace hI := h11_.1
  have u11_ := h11_.2.1
  have hl11_ := h11_.2.2
  clear h11_
  replace hs7_ := hs7_.up u11_.hh
  clear ht8_
  clear hI11_ u11_ hl11_
  refine ⟨_, rfl, ?_⟩
  refine Ops_step (R_move rfl) rfl rfl ?_
  refine Ops_call (C_func bd72 rfl) rfl rfl ?_
  refine (sealskinref02_Reader_Within_ok (x1 := 0) (x2 := 1099511627776) (z0 := y11_o0) hI.st (hg.up hI.le) ht11_o0 hc11_o0_1 hs11_o0_1 h).mono ?_
  rintro _ w12_ ⟨r12_0, y12_o0, A12_o0_1, c12_o0_1, L12_, H12_, rfl, hI12_, ht12_o0, hc12_o0_1, hs12_o0_1, h⟩
  refine Exists.elim (hI.call hI12_ (new1 hge_b8_)) fun L120_ h12_ => ?_
  have hz12_ := hI.size
  replace hI := h12_.1
  have u12_ := h12_.2.1
  have hl12_ := h12_.2.2
  clear h12_
  replace hs11_o0_1 := hs11_o0_1.up u12_.hh
  clear ht11_o0
  clear hI12_ u12_ hl12_
  refine ⟨_, rfl, ?_⟩
  refine Ops_step (R_assign rfl) rfl rfl (Ops_step (R_assign rfl) rfl rfl ?_)
  refine Ops_nil ?_
  refine then_n (k10 _ _ ?_)
  clear k10 K10
  refine W_seq_k fun K13 k13 => ?_
  refine W_seq_k fun K14 k14 => ?_
  refine W_region [19, 20, 21] rfl (Ops_step (R_move rfl) rfl rfl ?_)
  refine Ops_call (C_func bd73 rfl) rfl rfl ?_
  refine (sealskinref02_Reader_End_ok (z0 := y12_o0) hI.st (hg.up hI.le) ht12_o0 hc12_o0_1 hs12_o0_1 h).mono ?_
  rintro _ w15_ ⟨r15_0, L15_, H15_, rfl, hI15_, h⟩
  refine Exists.elim (hI.call hI15_ (by simp)) fun L150_ h15_ => ?_
  have hz15_ := hI.size
  replace hI := h15_.1
  have u15_ := h15_.2.1
  have hl15_ := h15_.2.2
  clear h15_
  replace ht12_o0 := ht12_o0.up u15_ (by simp)
  replace hs12_o0_1 := hs12_o0_1.up u15_.hh
  clear hI15_ u15_ hl15_
  refine ⟨_, rfl, ?_⟩
  refine Ops_step (R_neq rfl rfl) rfl rfl ?_
  refine Ops_nil ?_
  refine then_n (k14 _ _ ?_)
  clear k14 K14
  refine W_keepB [5, 6, 21] fun B_ b_ => ?_
  simp only [e_, Nat.reduceAdd, Nat.reduceBEq] at b_
  subst b_
  refine W_if rfl (fun hc17_ => ?_) (fun hc17_ => ?_)
  ·
   replace h := h.1 hc17_
   refine W_seq_k fun K18 k18 => ?_
   refine W_region [2, 3] rfl (Ops_step (R_assign rfl) rfl rfl (Ops_step (R_assign rfl) rfl rfl ?_))
   refine Ops_nil ?_
   refine then_n (k18 _ _ ?_)
   clear k18 K18
   refine W_ret ?_
   refine then_ret ?_
   clear k13 K13
   refine ⟨_, ⟨_, _, rfl, rfl, ⟨_, _, rfl, rfl, rfl⟩⟩, ?_⟩
   exact ⟨0, 0, _, _, rfl, hI, h⟩
  ·
   replace h := h.2 hc17_
   refine W_skip ?_
   refine then_n (k13 _ _ ?_)
   clear k13 K13
   refine W_seq_k fun K19 k19 => ?_
   refine W_region [22, 23, 2, 3] rfl (Ops_step (R_move rfl) rfl rfl (Ops_step (R_move rfl) rfl rfl (Ops_step (R_assign rfl) rfl rfl (Ops_step (R_assign rfl) rfl rfl ?_))))
   refine Ops_nil ?_
   refine then_n (k19 _ _ ?_)
   clear k19 K19
   refine W_ret ?_
   refine ⟨_, ⟨_, _, rfl, rfl, ⟨_, _, rfl, rfl, rfl⟩⟩, ?_⟩
   exact ⟨r11_0, r12_0, _, _, rfl, hI, h⟩

theorem sealskinref02_Reader_Number_ok {G : Gh} {w : World} (hS : St G w) (hg : GL G) {d0 : Nat} {z0 : sealskinref02_Reader} {Ad0_1 : Option Addr} {cd0_1 : Nat} (htd0 : Tok G w d0 113 ([.slice Ad0_1 z0.B_.length cd0_1, vi z0.At_, vi z0.E_])) (hcd0_1 : z0.B_.length ≤ cd0_1) (hsd0_1 : Sl G Ad0_1 z0.B_) {Q : Int → sealskinref02_Reader → Prop} (h : sealskinref02_Reader_Number z0 Q) : Calls Try.prog 74 #[.pointer (some ⟨d0, 0, none⟩)] w fun e w2 => ∃ (r0 : Int) (y0 : sealskinref02_Reader) (Ay0_1 : Option Addr) (cy0_1 : Nat) (L H : Gh), e = .returned (vi r0) ∧ Inv [d0] G w L H w2 ∧ Tok H w2 d0 113 ([.slice Ay0_1 y0.B_.length cy0_1, vi y0.At_, vi y0.E_]) ∧ y0.B_.length ≤ cy0_1 ∧ Sl H Ay0_1 y0.B_ ∧ Q r0 y0 := by
 unfold sealskinref02_Reader_Number at h
 have hI := Inv.start (M := [d0]) hS
 refine calls_W 37 Try.func74 rfl Try.ntmps74 rfl [.tmp 2] rfl ?_
 have hlt_d0 := htd0.blk.lt
 refine W_seq_k fun K1 k1 => ?_
 refine W_region [2] rfl (Ops_step (R_assign rfl) rfl rfl ?_)
 refine Ops_nil ?_
 refine then_n (k1 _ _ ?_)
 clear k1 K1
 refine W_seq_k fun K2 k2 => ?_
 refine W_seq_k fun K3 k3 => ?_
 refine W_region [5, 6, 7, 8, 9] rfl (Ops_step (R_move rfl) rfl rfl (Ops_step (R_nilCheck rfl) rfl rfl (Ops_step (R_fieldAddr fo113_2 rfl) rfl rfl ?_)))
 refine Ops_step (R_loadB (v := vi z0.E_) ag32 rfl htd0.blk rfl) rfl rfl ?_
 refine Ops_step (R_neq rfl rfl) rfl rfl ?_
 refine Ops_nil ?_
 refine then_n (k3 _ _ ?_)
 clear k3 K3
 refine W_if rfl (fun hc4_ => ?_) (fun hc4_ => ?_)
 ·
  replace h := h.1 hc4_
  refine W_seq_k fun K5 k5 => ?_
  refine W_region [2] rfl (Ops_step (R_assign rfl) rfl rfl ?_)
  refine Ops_nil ?_
  refine then_n (k5 _ _ ?_)
  clear k5 K5
  refine W_keepB [2] fun B_ b_ => ?_
  simp only [e_, Nat.reduceAdd, Nat.reduceBEq] at b_
  subst b_
  refine W_ret ?_
  refine then_ret ?_
  clear k2 K2
  refine ⟨_, ⟨_, _, rfl, rfl, rfl⟩, ?_⟩
  exact ⟨0, z0, Ad0_1, cd0_1, _, _, rfl, hI, htd0, hcd0_1, hsd0_1, h⟩
 ·
  replace h := h.2 hc4_
  refine W_skip ?_
  refine then_n (k2 _ _ ?_)
  clear k2 K2
  refine W_keepB [0] fun B_ b_ => ?_
  simp only [e_, Nat.reduceAdd, Nat.reduceBEq] at b_
  subst b_
  refine W_seq_k fun K8 k8 => ?_
  refine W_drawF [11, 12, 13, 14, 15, 16, 17, 18, 19, 20, 10, 21, 22, 3, 4] [(0, true), (1, true), (2, true), (3, true), (4, true), (5, true), (6, true), (7, true), (8, true), (9, false), (10, true), (11, true), (12, true), (13, true), (14, true)] TJtH.hm rfl (by kernel_rfl) fun ops9_ w9_ hops9_ hF9_ => ?_
  replace hI := hI.fr0 hF9_
  replace htd0 := htd0.fr0 hF9_
  clear hF9_
  refine HSp (R_move rfl) rfl rfl (HSp (R_nilCheck rfl) rfl rfl (HSp (R_fieldAddr fo113_0 rfl) rfl rfl ?_))
  refine HS_loadB (v := .slice Ad0_1 z0.B_.length cd0_1) ag29 rfl htd0.blk rfl rfl rfl ?_
  refine HSp (R_move rfl) rfl rfl (HSp (R_nilCheck rfl) rfl rfl (HSp (R_fieldAddr fo113_1 rfl) rfl rfl ?_))
  refine HS_loadB (v := vi z0.At_) ag3 rfl htd0.blk rfl rfl rfl ?_
  have hk11_ := h.1
  replace h := h.2
  have hk12_ := h.1
  replace h := h.2
  refine Exists.elim (cut_ex (n := 1) (l := z0.At_) (h := (z0.B_.length : Int)) hsd0_1 rfl (by decide) hcd0_1 hk11_ hk12_ (Int.le_refl _)) fun A10_ h10_ => Exists.elim h10_ fun c10_ h10_ => ?_
  have hr10_ := h10_.1
  have hc10_ := h10_.2.1
  have hs10_ := h10_.2.2
  clear h10_
  refine HSp (X_slice (xs := z0.B_) Try.underlying29 sz5 rfl hr10_ hcd0_1 rfl rfl hk11_ hk12_ (Int.le_refl _)) rfl rfl ?_
  clear hr10_
  refine HS_call [] _ rfl (by rw [hops9_]; kernel_rfl) (C_func bd88 rfl) rfl rfl ?_
  refine (sealskinref02_number_ok (x0 := (cut z0.B_ z0.At_ (z0.B_.length : Int))) hI.st (hg.up hI.le) hc10_ hs10_ h).mono ?_
  rintro _ w13_ ⟨r13_0, r13_1, L13_, H13_, rfl, hI13_, h⟩
  refine Exists.elim (hI.call hI13_ (by simp)) fun L130_ h13_ => ?_
  have hz13_ := hI.size
  replace hI := h13_.1
  have u13_ := h13_.2.1
  have hl13_ := h13_.2.2
  clear h13_
  replace hsd0_1 := hsd0_1.up u13_.hh
  replace htd0 := htd0.up u13_ (by simp)
  clear hI13_ u13_ hl13_
  refine ⟨_, rfl, trivial, ?_⟩
  refine HSp (R_move rfl) rfl rfl ?_
  refine HSp (R_extract (v := vi r13_0) rfl rfl) rfl rfl ?_
  refine HSp (R_extract (v := vi r13_1) rfl rfl) rfl rfl ?_
  refine HSp (R_assign rfl) rfl rfl (HSp (R_assign rfl) rfl rfl ?_)
  refine HS_nil ?_
  clear hops9_
  refine then_n (k8 _ _ ?_)
  clear k8 K8
  refine W_keepB [0, 3, 4] fun B_ b_ => ?_
  simp only [e_, Nat.reduceAdd, Nat.reduceBEq] at b_
  subst b_
  refine W_seq_k fun K15 k15 => ?_
  refine W_seq_k fun K16 k16 => ?_
  refine W_region [23, 24] rfl (Ops_step (R_move rfl) rfl rfl (Ops_step (R_neq rfl rfl) rfl rfl ?_))
  refine Ops_nil ?_
  refine then_n (k16 _ _ ?_)
  clear k16 K16
  refine W_if rfl (fun hc17_ => ?_) (fun hc17_ => ?_)
  ·
   replace h := h.1 hc17_
   refine W_seq_k fun K18 k18 => ?_
   refine W_region [25, 26, 27, 28, none] rfl (Ops_step (R_move rfl) rfl rfl (Ops_step (R_move rfl) rfl rfl (Ops_step (R_nilCheck rfl) rfl rfl (Ops_step (R_fieldAddr fo113_2 rfl) rfl rfl ?_))))
   refine Ops_to0 (R_store sz32 rfl rfl htd0.blk (by show 2 < 3; decide) rfl) rfl ?_
   rintro _ w19_ ⟨hB19_, hF19_⟩
   replace hI := hI.tok hF19_ (out1 htd0.out) (mem1 (by simp))
   replace htd0 : Tok H13_ _ d0 113 ([.slice Ad0_1 z0.B_.length cd0_1, vi z0.At_, vi r13_1]) := ⟨hB19_, htd0.out⟩
   clear hF19_ hB19_
   refine Ops_nil ?_
   refine then_n (k18 _ _ ?_)
   clear k18 K18
   refine W_keepB [] fun B_ b_ => ?_
   simp only [e_, Nat.reduceAdd, Nat.reduceBEq] at b_
   subst b_
   refine W_seq_k fun K21 k21 => ?_
   refine W_region [2] rfl (Ops_step (R_assign rfl) rfl rfl ?_)
   refine Ops_nil ?_
   refine then_n (k21 _ _ ?_)
   clear k21 K21
   refine W_ret ?_
   refine then_ret ?_
   clear k15 K15
   refine ⟨_, ⟨_, _, rfl, rfl, rfl⟩, ?_⟩
   exact ⟨0, (sealskinref02_Reader.mk z0.B_ z0.At_ r13_1), Ad0_1, cd0_1, _, _, rfl, hI, htd0, hcd0_1, hsd0_1, h⟩
  ·
   replace h := h.2 hc17_
   refine W_skip ?_
   refine then_n (k15 _ _ ?_)
   clear k15 K15
   refine W_seq_k fun K22 k22 => ?_
   refine W_region [29, 30, 31, 32, 33, 34, 35, none] rfl (Ops_step (R_move rfl) rfl rfl (Ops_step (R_nilCheck rfl) rfl rfl (Ops_step (R_fieldAddr fo113_1 rfl) rfl rfl ?_)))
   refine Ops_step (R_loadB (v := vi z0.At_) ag3 rfl htd0.blk rfl) rfl rfl ?_
   have hk23_ := h.1
   replace h := h.2
   refine Ops_step (R_add rfl rfl (wI hk23_.1 hk23_.2)) rfl rfl (Ops_step (R_nilCheck rfl) rfl rfl (Ops_step (R_fieldAddr fo113_1 rfl) rfl rfl ?_))
   refine Ops_to0 (R_store sz3 rfl rfl htd0.blk (by show 1 < 3; decide) rfl) rfl ?_
   rintro _ w24_ ⟨hB24_, hF24_⟩
   replace hI := hI.tok hF24_ (out1 htd0.out) (mem1 (by simp))
   replace htd0 : Tok H13_ _ d0 113 ([.slice Ad0_1 z0.B_.length cd0_1, vi (z0.At_ + 8), vi z0.E_]) := ⟨hB24_, htd0.out⟩
   clear hF24_ hB24_
   refine Ops_nil ?_
   refine then_n (k22 _ _ ?_)
   clear k22 K22
   refine W_keepB [3] fun B_ b_ => ?_
   simp only [e_, Nat.reduceAdd, Nat.reduceBEq] at b_
   subst b_
   refine W_seq_k fun K26 k26 => ?_
   refine W_region [36, 2] rfl (Ops_step (R_move rfl) rfl rfl (Ops_step (R_assign rfl) rfl rfl ?_))
   refine Ops_nil ?_
   refine then_n (k26 _ _ ?_)
   clear k26 K26
   refine W_ret ?_
   refine ⟨_, ⟨_, _, rfl, rfl, rfl⟩, ?_⟩
   exact ⟨r13_0, (sealskinref02_Reader.mk z0.B_ (z0.At_ + 8) z0.E_), Ad0_1, cd0_1, _, _, rfl, hI, htd0, hcd0_1, hsd0_1, h⟩

end Go.Proofs.Ytkmljjhjojolcaa

