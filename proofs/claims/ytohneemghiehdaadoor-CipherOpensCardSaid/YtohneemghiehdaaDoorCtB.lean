/- What the walks of this seat show of CtB. -/
import Derived.Test.YtohneemghiehdaaDoorCtBp
import Derived.Test.YtohneemghiehdaaDoorCtA
import Derived.Test.YtohneemghiehdaaDoorCh
import Derived.Test.YtohneemghiehdaaDoorLx6
import Derived.Test.YtohneemghiehdaaDoorProg
set_option linter.unusedVariables false
set_option linter.unusedSimpArgs false
namespace Go.Proofs.YtohneemghiehdaaDoor
open Go Go.Sx Go.Lx
namespace TCtB
theorem hm : Tryd.prog.follows .mixedOrders = true := by kernel_rfl
theorem ag22 : aggB Tryd.prog 22 = some false := by kernel_rfl
theorem ag5 : aggB Tryd.prog 5 = some false := by kernel_rfl
theorem bd10 : bodied Tryd.prog 10 = true := by kernel_rfl
theorem bd11 : bodied Tryd.prog 11 = true := by kernel_rfl
theorem bd12 : bodied Tryd.prog 12 = true := by kernel_rfl
theorem bd13 : bodied Tryd.prog 13 = true := by kernel_rfl
theorem bd14 : bodied Tryd.prog 14 = true := by kernel_rfl
theorem bd15 : bodied Tryd.prog 15 = true := by kernel_rfl
theorem bd16 : bodied Tryd.prog 16 = true := by kernel_rfl
theorem bd17 : bodied Tryd.prog 17 = true := by kernel_rfl
theorem bd18 : bodied Tryd.prog 18 = true := by kernel_rfl
theorem bd19 : bodied Tryd.prog 19 = true := by kernel_rfl
theorem bd22 : bodied Tryd.prog 22 = true := by kernel_rfl
theorem bd23 : bodied Tryd.prog 23 = true := by kernel_rfl
theorem bd25 : bodied Tryd.prog 25 = true := by kernel_rfl
theorem bd26 : bodied Tryd.prog 26 = true := by kernel_rfl
theorem bd28 : bodied Tryd.prog 28 = true := by kernel_rfl
theorem bd30 : bodied Tryd.prog 30 = true := by kernel_rfl
theorem bd33 : bodied Tryd.prog 33 = true := by kernel_rfl
theorem bd34 : bodied Tryd.prog 34 = true := by kernel_rfl
theorem bd36 : bodied Tryd.prog 36 = true := by kernel_rfl
theorem bd37 : bodied Tryd.prog 37 = true := by kernel_rfl
theorem el22 : Elem Tryd.prog 22 5 1 1 := Elem.of (by kernel_rfl)
theorem el37 : Elem Tryd.prog 37 22 1 24 := Elem.of (by kernel_rfl)
theorem el58 : Elem Tryd.prog 58 3 1 8 := Elem.of (by kernel_rfl)
theorem sz22 : sz Tryd.prog 22 = some 1 := by kernel_rfl
theorem sz5 : sz Tryd.prog 5 = some 1 := by kernel_rfl
theorem sz52 : sz Tryd.prog 52 = some 32 := by kernel_rfl
theorem zr22 : zr Tryd.prog 22 = some ([.slice none 0 0]) := by kernel_rfl
theorem zr3 : zr Tryd.prog 3 = some ([.int .i64 0]) := by kernel_rfl
theorem zr5 : zr Tryd.prog 5 = some ([.int .u8 0]) := by kernel_rfl
theorem zr52 : zr Tryd.prog 52 = some (List.replicate 32 (.int .u8 0)) := by kernel_rfl
end TCtB
set_option maxHeartbeats 4000000 in
theorem cipher_tag_ok {G : Gh} {w : World} (hS : St G w) (hg : GL G) {A0 : Option Addr} {c0 : Nat} {x0 : List UInt8} (hc0 : x0.length ≤ c0) (hs0 : Sl G A0 x0) {x1 : BitVec 64} {A2 : Option Addr} {c2 : Nat} {x2 : List UInt8} (hc2 : x2.length ≤ c2) (hs2 : Sl G A2 x2) {A3 : Option Addr} {c3 : Nat} {x3 : List UInt8} (hc3 : x3.length ≤ c3) (hs3 : Sl G A3 x3) {Q : (List UInt8) → Prop} (h : cipher_tag x0 x1 x2 x3 Q) : Calls Tryd.prog 25 #[.slice A0 x0.length c0, w64 x1, .slice A2 x2.length c2, .slice A3 x3.length c3] w fun e w2 => ∃ (A0 : Option Addr) (c0 : Nat) (r0 : List UInt8) (L H : Gh), e = .returned (.slice A0 r0.length c0) ∧ Inv [] G w L H w2 ∧ r0.length ≤ c0 ∧ Sl L A0 r0 ∧ Q r0 := by
  unfold cipher_tag at h
  have hI := Inv.start (M := []) hS
  refine calls_W 29 Tryd.func25 rfl Tryd.ntmps25 rfl [.tmp 8] rfl ?_
  refine W_seq_k fun K1_ hK1_ => ?_
  refine W_region [some 8] rfl ?_
  refine Ops_step (R_assign rfl) rfl rfl ?_
  refine Ops_nil ?_
  refine then_n (hK1_ _ _ ?_)
  clear hK1_ K1_
  refine W_seq_k fun K2_ hK2_ => ?_
  refine W_region [some 11, some 12, some 13, some 14, some 15, some 16, some 17, some 18, some 19, some 20, some 9] rfl ?_
  refine Ops_step (R_move rfl) rfl rfl ?_
  refine Ops_step (R_shr rfl rfl (by decide) (shr64 x1 1 (by decide))) rfl rfl ?_
  have hk3_ := h.1
  replace h := h.2
  refine Ops_step (R_conv Tryd.underlying23 Tryd.underlying3 rfl (c64_I _ hk3_)) rfl rfl ?_
  refine Ops_step (R_move rfl) rfl rfl ?_
  refine Ops_step (R_and rfl rfl (and64 x1 (1#64))) rfl rfl ?_
  have hk4_ := h.1
  replace h := h.2
  refine Ops_step (R_conv Tryd.underlying23 Tryd.underlying3 rfl (c64_I _ hk4_)) rfl rfl ?_
  refine Ops_step (R_move rfl) rfl rfl ?_
  refine Ops_step (R_len Tryd.underlying22 rfl rfl) rfl rfl ?_
  refine Ops_to (R_buildSlice TCtB.el58 TCtB.zr3 (by decide) (by decide) rfl rfl) rfl rfl ?_
  rintro _ w5_ ⟨b5_, rfl, hb5_, hB5_, hF5_⟩
  have ho5_ : OwnS w.heap.size 3 Gh.no G _ (some ⟨b5_, 0, none⟩) 3 ([((x1 >>> (1 : Nat)).toNat : Int), ((x1 &&& (1#64)).toNat : Int), (x2.length : Int)] : List Int) := OwnS.ofBlk hI.st hb5_ hB5_ (all2_sc' _) rfl (by have := hI.size; omega) (by show 3 ≤ maxLen; decide)
  replace hI := hI.fr0 hF5_
  clear hF5_ hB5_
  refine Exists.elim (ho5_.lend hI.st (Le.no _)) fun Hb6_0_ hb6_0_ => ?_
  refine Ops_call (C_func TCtB.bd33 rfl) rfl rfl ?_
  refine (octet_Put_ok (x0 := []) (x1 := ([((x1 >>> (1 : Nat)).toNat : Int), ((x1 &&& (1#64)).toNat : Int), (x2.length : Int)] : List Int)) hb6_0_.1 (hg.up (hI.le.trans hb6_0_.2.1)) (Nat.le_refl 0) Sl.nil (Nat.le_refl _) hb6_0_.2.2 h).mono ?_
  rintro _ w6_ ⟨A6_0, c6_0, r6_0, L6_, H6_, rfl, hI6_, ho6_0, h⟩
  refine Exists.elim (hI.callB hb6_0_.2.1 hI6_ (by simp)) fun L60_ h6_ => Exists.elim h6_ fun H60_ h6_ => ?_
  have hz6_ := hI.size
  replace hI := h6_.1
  have u6_ := h6_.2.1
  have hl6_ := h6_.2.2.1
  have hh6_ := h6_.2.2.2
  clear h6_
  replace hs0 := hs0.up u6_.hh
  replace hs2 := hs2.up u6_.hh
  replace hs3 := hs3.up u6_.hh
  replace ho6_0 := OwnS.backS ho6_0 hz6_ hh6_
  clear hI6_ u6_ hl6_
  refine ⟨_, rfl, ?_⟩
  refine Exists.elim (ho6_0.freeze hI) fun L7_ h7_ => Exists.elim h7_ fun H7_ h7_ => ?_
  replace hI := h7_.1
  have u7_ := h7_.2.1
  have hs7_ := h7_.2.2.1 (Le.no _)
  have hc7_ := ho6_0.cap
  replace hs0 := hs0.up u7_.hh
  replace hs2 := hs2.up u7_.hh
  replace hs3 := hs3.up u7_.hh
  clear h7_ u7_ ho6_0
  refine Ops_step (R_assign rfl) rfl rfl ?_
  refine Ops_nil ?_
  refine then_n (hK2_ _ _ ?_)
  clear hK2_ K2_
  refine W_keepB [0, 2, 3, 9] fun B8 hB8_ => ?_
  simp only [pickE, lookE, putE, zipE, args0, Nat.reduceAdd, Nat.zero_add, List.cons_append, List.nil_append, Nat.reduceBEq, cond_true, cond_false] at hB8_
  subst hB8_
  refine W_seq_k fun K9_ hK9_ => ?_
  refine W_region [some 21, some 22, some 23, some 24, some 25, some 26, some 27, some 10, none] rfl ?_
  refine Ops_step (R_move rfl) rfl rfl ?_
  have hk11_ := h.1
  replace h := h.2
  refine Exists.elim (cut_ex (n := 1) (l := 32) (h := 64) hs0 rfl (by decide) hc0 (by decide) (by decide) hk11_) fun A10_ h10_ => Exists.elim h10_ fun c10_ h10_ => ?_
  have hr10_ := h10_.1
  have hc10_ := h10_.2.1
  have hs10_ := h10_.2.2
  clear h10_
  refine Ops_step (X_slice (xs := x0) Tryd.underlying22 TCtB.sz5 rfl hr10_ hc0 rfl rfl (by decide) (by decide) hk11_) rfl rfl ?_
  clear hr10_
  refine Ops_step (R_move rfl) rfl rfl ?_
  refine Ops_step (R_move rfl) rfl rfl ?_
  refine Ops_step (R_move rfl) rfl rfl ?_
  refine Ops_to (R_buildSlice TCtB.el37 TCtB.zr22 (by decide) (by decide) rfl rfl) rfl rfl ?_
  rintro _ w12_ ⟨b12_, rfl, hb12_, hB12_, hF12_⟩
  have ho12_ : OwnS w.heap.size 22 H7_ H7_ _ (some ⟨b12_, 0, none⟩) 3 ([r6_0, x2, x3] : List (List UInt8)) := OwnS.ofBlk (css := [[.slice A6_0 r6_0.length c6_0], [.slice A2 x2.length c2], [.slice A3 x3.length c3]]) hI.st hb12_ hB12_ (.cons ⟨A6_0, c6_0, rfl, hc7_, (hs7_.up hI.sub)⟩ (.cons ⟨A2, c2, rfl, hc2, hs2⟩ (.cons ⟨A3, c3, rfl, hc3, hs3⟩ .nil))) rfl (by have := hI.size; omega) (by show 3 ≤ maxLen; decide)
  replace hI := hI.fr0 hF12_
  clear hF12_ hB12_
  refine Exists.elim (ho12_.lend hI.st (Le.refl _)) fun Hb13_0_ hb13_0_ => ?_
  refine Ops_call (C_func TCtB.bd34 rfl) rfl rfl ?_
  refine (hash_Keyed_ok (x0 := (cut x0 32 64)) (x1 := ([r6_0, x2, x3] : List (List UInt8))) hb13_0_.1 (hg.up (hI.le.trans hb13_0_.2.1)) hc10_ (hs10_.up hb13_0_.2.1) (Nat.le_refl _) hb13_0_.2.2 h).mono ?_
  rintro _ w13_ ⟨r13_0, L13_, H13_, rfl, hI13_, hn13_0, h⟩
  refine Exists.elim (hI.callB hb13_0_.2.1 hI13_ (by simp)) fun L130_ h13_ => Exists.elim h13_ fun H130_ h13_ => ?_
  have hz13_ := hI.size
  replace hI := h13_.1
  have u13_ := h13_.2.1
  have hl13_ := h13_.2.2.1
  have hh13_ := h13_.2.2.2
  clear h13_
  clear hI13_ u13_ hl13_
  refine ⟨_, rfl, ?_⟩
  have hI0_ := hI
  refine Ops_to (R_alloc TCtB.zr52) rfl rfl ?_
  rintro _ w14_ ⟨b14_, rfl, hb14_, hB14_, hF14_⟩
  replace hI := hI.fr0 hF14_
  have ht14_ : Tok H130_ _ b14_ 52 ((Arr.mk (n := 32) (List.replicate 32 (0 : UInt8))).l.map vb) := ⟨hB14_.to (by rw [List.map_replicate]; rfl), Out.ge hI0_.st (Nat.le_of_eq hb14_.symm)⟩
  have hge_b14_ : w.heap.size ≤ b14_ := hb14_ ▸ hI0_.size
  clear hB14_ hb14_ hI0_ hF14_
  refine Ops_to0 (R_storeN TCtB.sz52 (by simp [hn13_0]) rfl rfl ht14_.blk (by simp [(List.length_replicate ..), hn13_0]) (all_enc _)) rfl ?_
  rintro _ w15_ ⟨hB15_, hF15_⟩
  replace hI := hI.tok hF15_ (out1 ht14_.out) (new1 hge_b14_)
  replace ht14_ : Tok H130_ _ b14_ 52 (r13_0.l.map vb) := ⟨hB15_.to (arr_over (((List.length_replicate ..)).trans (hn13_0).symm)), ht14_.out⟩
  clear hF15_ hB15_
  refine Ops_nil ?_
  refine then_n (hK9_ _ _ ?_)
  clear hK9_ K9_
  refine W_keepB [10] fun B16 hB16_ => ?_
  simp only [pickE, lookE, putE, zipE, args0, Nat.reduceAdd, Nat.zero_add, List.cons_append, List.nil_append, Nat.reduceBEq, cond_true, cond_false] at hB16_
  subst hB16_
  refine W_seq_k fun K17_ hK17_ => ?_
  refine W_region [some 28, some 8] rfl ?_
  have hy18_ : (List.take 16 r13_0.l).length = 16 := len_take (n := 32) hn13_0 (by decide)
  refine Exists.elim (ht14_.freeze hge_b14_ hI) fun L18_ h18_ => Exists.elim h18_ fun H18_ h18_ => ?_
  replace hI := h18_.1
  have u18_ := h18_.2.1
  have hs18_ := h18_.2.2.take 16
  have hc18_ : (List.take 16 r13_0.l).length ≤ 32 := by omega
  clear h18_ u18_ ht14_
  refine Ops_step (X_sliceArr (ys := List.take 16 r13_0.l) Tryd.underlying52 TCtB.sz5 rfl ⟨_, _, rfl, rfl⟩ (by decide) hy18_) rfl rfl ?_
  refine Ops_step (R_assign rfl) rfl rfl ?_
  refine Ops_nil ?_
  refine then_n (hK17_ _ _ ?_)
  clear hK17_ K17_
  refine W_ret ?_
  refine ⟨_, ⟨_, _, rfl, rfl, rfl⟩, ?_⟩
  exact ⟨(some ⟨b14_, 0, none⟩), 32, (List.take 16 r13_0.l), _, _, rfl, hI, hc18_, hs18_, h⟩

set_option maxHeartbeats 4000000 in
theorem cipher_Seal_ok {G : Gh} {w : World} (hS : St G w) (hg : GL G) {A0 : Option Addr} {c0 : Nat} {x0 : List UInt8} (hc0 : x0.length ≤ c0) (hs0 : Sl G A0 x0) {x1 : BitVec 64} {A2 : Option Addr} {c2 : Nat} {x2 : List UInt8} (hc2 : x2.length ≤ c2) (hs2 : Sl G A2 x2) {A3 : Option Addr} {c3 : Nat} {x3 : List UInt8} (hc3 : x3.length ≤ c3) (hs3 : Sl G A3 x3) {Q : (List UInt8) → Int → Prop} (h : cipher_Seal x0 x1 x2 x3 Q) : Calls Tryd.prog 14 #[.slice A0 x0.length c0, w64 x1, .slice A2 x2.length c2, .slice A3 x3.length c3] w fun e w2 => ∃ (A0 : Option Addr) (c0 : Nat) (r0 : List UInt8) (r1 : Int) (L H : Gh), e = .returned (.tuple #[.slice A0 r0.length c0, vi r1]) ∧ Inv [] G w L H w2 ∧ OwnS w.heap.size 5 L H w2 A0 c0 r0 ∧ Q r0 r1 := by
  unfold cipher_Seal at h
  have hI := Inv.start (M := []) hS
  refine calls_W 29 Tryd.func14 rfl Tryd.ntmps14 rfl [.tmp 8, .tmp 9] rfl ?_
  refine W_seq_k fun K1_ hK1_ => ?_
  refine W_region [some 8, some 9] rfl ?_
  refine Ops_step (R_assign rfl) rfl rfl ?_
  refine Ops_step (R_assign rfl) rfl rfl ?_
  refine Ops_nil ?_
  refine then_n (hK1_ _ _ ?_)
  clear hK1_ K1_
  refine W_seq_k fun K2_ hK2_ => ?_
  refine W_seq_k fun K3_ hK3_ => ?_
  refine W_region [some 12, some 13, some 14] rfl ?_
  refine Ops_step (R_move rfl) rfl rfl ?_
  refine Ops_step (R_len Tryd.underlying22 rfl rfl) rfl rfl ?_
  refine Ops_step (R_neq rfl rfl) rfl rfl ?_
  refine Ops_nil ?_
  refine then_n (hK3_ _ _ ?_)
  clear hK3_ K3_
  refine W_if rfl (fun hc4_ => ?_) (fun hc4_ => ?_)
  · replace h := h.1 hc4_
    refine W_seq_k fun K5_ hK5_ => ?_
    refine W_region [some 8, some 9] rfl ?_
    refine Ops_step (R_assign rfl) rfl rfl ?_
    refine Ops_step (R_assign rfl) rfl rfl ?_
    refine Ops_nil ?_
    refine then_n (hK5_ _ _ ?_)
    clear hK5_ K5_
    refine W_keepB [8, 9] fun B6 hB6_ => ?_
    simp only [pickE, lookE, putE, zipE, args0, Nat.reduceAdd, Nat.zero_add, List.cons_append, List.nil_append, Nat.reduceBEq, cond_true, cond_false] at hB6_
    subst hB6_
    refine W_ret ?_
    refine then_ret ?_
    clear hK2_ K2_
    refine ⟨_, ⟨_, _, rfl, rfl, ⟨_, _, rfl, rfl, rfl⟩⟩, ?_⟩
    exact ⟨none, 0, [], 1, _, _, rfl, hI, OwnS.nil, h⟩
  · replace h := h.2 hc4_
    refine W_skip ?_
    refine then_n (hK2_ _ _ ?_)
    clear hK2_ K2_
    refine W_seq_k fun K7_ hK7_ => ?_
    refine W_region [some 16, some 17, some 18, some 19, some 15, some 20, some 21, some 10, some 11] rfl ?_
    refine Ops_step (R_move rfl) rfl rfl ?_
    refine Ops_step (R_move rfl) rfl rfl ?_
    refine Ops_step (R_move rfl) rfl rfl ?_
    refine Ops_call (C_func TCtB.bd12 rfl) rfl rfl ?_
    refine (cipher_Turn_ok (x0 := x0) (x1 := x1) (x2 := x3) hI.st (hg.up hI.le) hc0 hs0 hc3 hs3 h).mono ?_
    rintro _ w8_ ⟨A8_0, c8_0, r8_0, r8_1, L8_, H8_, rfl, hI8_, ho8_0, h⟩
    refine Exists.elim (hI.call hI8_ (by simp)) fun L80_ h8_ => ?_
    have hz8_ := hI.size
    replace hI := h8_.1
    have u8_ := h8_.2.1
    have hl8_ := h8_.2.2
    clear h8_
    replace hs0 := hs0.up u8_.hh
    replace hs2 := hs2.up u8_.hh
    replace ho8_0 := OwnS.backS ho8_0 hz8_ (Le.refl _)
    clear hI8_ u8_ hl8_
    refine ⟨_, rfl, ?_⟩
    refine Ops_step (R_move rfl) rfl rfl ?_
    refine Ops_step (R_extract (v := .slice A8_0 r8_0.length c8_0) rfl rfl) rfl rfl ?_
    refine Ops_step (R_extract (v := vi r8_1) rfl rfl) rfl rfl ?_
    refine Ops_step (R_assign rfl) rfl rfl ?_
    refine Ops_step (R_assign rfl) rfl rfl ?_
    refine Ops_nil ?_
    refine then_n (hK7_ _ _ ?_)
    clear hK7_ K7_
    refine W_keepB [0, 1, 2, 10] fun B9 hB9_ => ?_
    simp only [pickE, lookE, putE, zipE, args0, Nat.reduceAdd, Nat.zero_add, List.cons_append, List.nil_append, Nat.reduceBEq, cond_true, cond_false] at hB9_
    subst hB9_
    refine W_seq_k fun K10_ hK10_ => ?_
    refine W_region [some 22, some 23, some 24, some 25, some 26, some 27, some 28, some 8, some 9] rfl ?_
    refine Ops_step (R_move rfl) rfl rfl ?_
    refine Ops_step (R_move rfl) rfl rfl ?_
    refine Ops_step (R_move rfl) rfl rfl ?_
    refine Ops_step (R_move rfl) rfl rfl ?_
    refine Ops_step (R_move rfl) rfl rfl ?_
    refine Exists.elim (ho8_0.lend hI.st (Le.no _)) fun Hb11_0_ hb11_0_ => ?_
    refine Ops_call (C_func TCtB.bd25 rfl) rfl rfl ?_
    refine (cipher_tag_ok (x0 := x0) (x1 := x1) (x2 := x2) (x3 := r8_0) hb11_0_.1 (hg.up (hI.le.trans hb11_0_.2.1)) hc0 (hs0.up hb11_0_.2.1) hc2 (hs2.up hb11_0_.2.1) ho8_0.cap hb11_0_.2.2 h).mono ?_
    rintro _ w11_ ⟨A11_0, c11_0, r11_0, L11_, H11_, rfl, hI11_, hc11_0, hs11_0, h⟩
    refine Exists.elim (hI.callB hb11_0_.2.1 hI11_ (by simp)) fun L110_ h11_ => Exists.elim h11_ fun H110_ h11_ => ?_
    have hz11_ := hI.size
    replace hI := h11_.1
    have u11_ := h11_.2.1
    have hl11_ := h11_.2.2.1
    have hh11_ := h11_.2.2.2
    clear h11_
    replace ho8_0 := ho8_0.up (Le.refl _) u11_ (by simp)
    replace hs11_0 := hs11_0.up hl11_
    clear hI11_ u11_ hl11_
    refine ⟨_, rfl, ?_⟩
    have hk13_ := h.1
    replace h := h.2
    refine Ops_to (X_append (α := UInt8) (xs := r8_0) (ys := r11_0) TCtB.el22 rfl rfl ho8_0 (Srcs.sc (Srcs.ofSl Tryd.underlying22 (hs11_0.up hI.sub) hI.st (by decide))) hI.st hk13_ (by decide) hI.size) rfl rfl ?_
    rintro _ w12_ ⟨A12_, c12_, rfl, ho12_, hF12_, hbk12_⟩
    clear hbk12_
    replace hI := hI.tok hF12_ ho8_0.out (ho8_0.new (Nat.le_refl _))
    clear hF12_ ho8_0
    refine Ops_step (R_assign rfl) rfl rfl ?_
    refine Ops_step (R_assign rfl) rfl rfl ?_
    refine Ops_nil ?_
    refine then_n (hK10_ _ _ ?_)
    clear hK10_ K10_
    refine W_keepB [8, 9] fun B14 hB14_ => ?_
    simp only [pickE, lookE, putE, zipE, args0, Nat.reduceAdd, Nat.zero_add, List.cons_append, List.nil_append, Nat.reduceBEq, cond_true, cond_false] at hB14_
    subst hB14_
    refine W_ret ?_
    refine ⟨_, ⟨_, _, rfl, rfl, ⟨_, _, rfl, rfl, rfl⟩⟩, ?_⟩
    exact ⟨A12_, c12_, (r8_0 ++ r11_0), 0, _, _, rfl, hI, (ho12_.hl (Le.no _)), h⟩

set_option maxHeartbeats 4000000 in
theorem cipher_Open_ok {G : Gh} {w : World} (hS : St G w) (hg : GL G) {A0 : Option Addr} {c0 : Nat} {x0 : List UInt8} (hc0 : x0.length ≤ c0) (hs0 : Sl G A0 x0) {x1 : BitVec 64} {A2 : Option Addr} {c2 : Nat} {x2 : List UInt8} (hc2 : x2.length ≤ c2) (hs2 : Sl G A2 x2) {A3 : Option Addr} {c3 : Nat} {x3 : List UInt8} (hc3 : x3.length ≤ c3) (hs3 : Sl G A3 x3) {Q : (List UInt8) → Int → Prop} (h : cipher_Open x0 x1 x2 x3 Q) : Calls Tryd.prog 15 #[.slice A0 x0.length c0, w64 x1, .slice A2 x2.length c2, .slice A3 x3.length c3] w fun e w2 => ∃ (A0 : Option Addr) (c0 : Nat) (r0 : List UInt8) (r1 : Int) (L H : Gh), e = .returned (.tuple #[.slice A0 r0.length c0, vi r1]) ∧ Inv [] G w L H w2 ∧ OwnS w.heap.size 5 L H w2 A0 c0 r0 ∧ Q r0 r1 := by
  unfold cipher_Open at h
  have hI := Inv.start (M := []) hS
  refine calls_W 44 Tryd.func15 rfl Tryd.ntmps15 rfl [.tmp 8, .tmp 9] rfl ?_
  refine W_seq_k fun K1_ hK1_ => ?_
  refine W_region [some 8, some 9] rfl ?_
  refine Ops_step (R_assign rfl) rfl rfl ?_
  refine Ops_step (R_assign rfl) rfl rfl ?_
  refine Ops_nil ?_
  refine then_n (hK1_ _ _ ?_)
  clear hK1_ K1_
  refine W_seq_k fun K2_ hK2_ => ?_
  refine W_block ?_
  refine W_seq_k fun K3_ hK3_ => ?_
  refine W_region [some 13, some 14, some 15, some 12] rfl ?_
  refine Ops_step (R_move rfl) rfl rfl ?_
  refine Ops_step (R_len Tryd.underlying22 rfl rfl) rfl rfl ?_
  refine Ops_step (R_neq rfl rfl) rfl rfl ?_
  refine Ops_step (R_assign rfl) rfl rfl ?_
  refine Ops_nil ?_
  refine then_n (hK3_ _ _ ?_)
  clear hK3_ K3_
  refine W_if rfl (fun hc4_ => ?_) (fun hc4_ => ?_)
  · replace h := h.1 hc4_
    refine W_seq_k fun K5_ hK5_ => ?_
    refine W_region [some 8, some 9] rfl ?_
    refine Ops_step (R_assign rfl) rfl rfl ?_
    refine Ops_step (R_assign rfl) rfl rfl ?_
    refine Ops_nil ?_
    refine then_n (hK5_ _ _ ?_)
    clear hK5_ K5_
    refine W_keepB [8, 9] fun B6 hB6_ => ?_
    simp only [pickE, lookE, putE, zipE, args0, Nat.reduceAdd, Nat.zero_add, List.cons_append, List.nil_append, Nat.reduceBEq, cond_true, cond_false] at hB6_
    subst hB6_
    refine W_ret ?_
    refine block_ret ?_
    refine then_ret ?_
    clear hK2_ K2_
    refine ⟨_, ⟨_, _, rfl, rfl, ⟨_, _, rfl, rfl, rfl⟩⟩, ?_⟩
    exact ⟨none, 0, [], 1, _, _, rfl, hI, OwnS.nil, h⟩
  · replace h := h.2 hc4_
    refine W_seq_k fun K7_ hK7_ => ?_
    refine W_region [some 17, some 18, some 19, some 16] rfl ?_
    refine Ops_step (R_move rfl) rfl rfl ?_
    refine Ops_step (R_len Tryd.underlying22 rfl rfl) rfl rfl ?_
    refine Ops_step (R_lss rfl rfl) rfl rfl ?_
    refine Ops_step (R_assign rfl) rfl rfl ?_
    refine Ops_nil ?_
    refine then_n (hK7_ _ _ ?_)
    clear hK7_ K7_
    refine W_keepB [0, 1, 2, 3, 16] fun B8 hB8_ => ?_
    simp only [pickE, lookE, putE, zipE, args0, Nat.reduceAdd, Nat.zero_add, List.cons_append, List.nil_append, Nat.reduceBEq, cond_true, cond_false] at hB8_
    subst hB8_
    refine W_if rfl (fun hc9_ => ?_) (fun hc9_ => ?_)
    · replace h := h.1 hc9_
      refine W_seq_k fun K10_ hK10_ => ?_
      refine W_region [some 8, some 9] rfl ?_
      refine Ops_step (R_assign rfl) rfl rfl ?_
      refine Ops_step (R_assign rfl) rfl rfl ?_
      refine Ops_nil ?_
      refine then_n (hK10_ _ _ ?_)
      clear hK10_ K10_
      refine W_ret ?_
      refine block_ret ?_
      refine then_ret ?_
      clear hK2_ K2_
      refine ⟨_, ⟨_, _, rfl, rfl, ⟨_, _, rfl, rfl, rfl⟩⟩, ?_⟩
      exact ⟨none, 0, [], 2, _, _, rfl, hI, OwnS.nil, h⟩
    · replace h := h.2 hc9_
      refine W_skip ?_
      refine block_n ?_
      refine then_n (hK2_ _ _ ?_)
      clear hK2_ K2_
      refine W_seq_k fun K11_ hK11_ => ?_
      refine W_drawF [some 20, some 21, some 22, some 23, some 24, some 25, some 26, some 27, some 28, some 29, some 10, some 11] [(0, true), (1, true), (2, true), (3, true), (4, true), (5, true), (6, true), (7, true), (8, true), (9, true), (10, true), (11, true)] TCtB.hm rfl (by kernel_rfl) fun ops12_ w12_ hops12_ hF12_ => ?_
      replace hI := hI.fr0 hF12_
      clear hF12_
      refine HS_pure (fun w_ => R_move rfl) rfl rfl ?_
      refine HS_pure (fun w_ => R_move rfl) rfl rfl ?_
      refine HS_pure (fun w_ => R_len Tryd.underlying22 rfl rfl) rfl rfl ?_
      have hk13_ := h.1
      replace h := h.2
      refine HS_pure (fun w_ => R_sub rfl rfl (wI hk13_.1 hk13_.2)) rfl rfl ?_
      have hk15_ := h.1
      replace h := h.2
      have hk16_ := h.1
      replace h := h.2
      refine Exists.elim (cut_ex (n := 1) (l := 0) (h := ((x3.length : Int) - 16)) hs3 rfl (by decide) hc3 (Int.le_refl 0) hk15_ hk16_) fun A14_ h14_ => Exists.elim h14_ fun c14_ h14_ => ?_
      have hr14_ := h14_.1
      have hc14_ := h14_.2.1
      have hs14_ := h14_.2.2
      clear h14_
      refine HS_pure (fun w_ => X_slice (xs := x3) Tryd.underlying22 TCtB.sz5 rfl hr14_ hc3 rfl rfl (Int.le_refl 0) hk15_ hk16_) rfl rfl ?_
      clear hr14_
      refine HS_pure (fun w_ => R_move rfl) rfl rfl ?_
      refine HS_pure (fun w_ => R_move rfl) rfl rfl ?_
      refine HS_pure (fun w_ => R_len Tryd.underlying22 rfl rfl) rfl rfl ?_
      have hk17_ := h.1
      replace h := h.2
      refine HS_pure (fun w_ => R_sub rfl rfl (wI hk17_.1 hk17_.2)) rfl rfl ?_
      have hk19_ := h.1
      replace h := h.2
      have hk20_ := h.1
      replace h := h.2
      refine Exists.elim (cut_ex (n := 1) (l := ((x3.length : Int) - 16)) (h := (x3.length : Int)) hs3 rfl (by decide) hc3 hk19_ hk20_ (Int.le_refl _)) fun A18_ h18_ => Exists.elim h18_ fun c18_ h18_ => ?_
      have hr18_ := h18_.1
      have hc18_ := h18_.2.1
      have hs18_ := h18_.2.2
      clear h18_
      refine HS_pure (fun w_ => X_slice (xs := x3) Tryd.underlying22 TCtB.sz5 rfl hr18_ hc3 rfl rfl hk19_ hk20_ (Int.le_refl _)) rfl rfl ?_
      clear hr18_
      refine HS_pure (fun w_ => R_assign rfl) rfl rfl ?_
      refine HS_pure (fun w_ => R_assign rfl) rfl rfl ?_
      refine HS_nil ?_
      clear hops12_
      refine then_n (hK11_ _ _ ?_)
      clear hK11_ K11_
      refine W_keepB [0, 1, 2, 10, 11] fun B21 hB21_ => ?_
      simp only [pickE, lookE, putE, zipE, args0, Nat.reduceAdd, Nat.zero_add, List.cons_append, List.nil_append, Nat.reduceBEq, cond_true, cond_false] at hB21_
      subst hB21_
      refine W_seq_k fun K22_ hK22_ => ?_
      refine W_seq_k fun K23_ hK23_ => ?_
      refine W_region [some 30, some 31, some 32, some 33, some 34, some 35, some 36, some 37] rfl ?_
      refine Ops_step (R_move rfl) rfl rfl ?_
      refine Ops_step (R_move rfl) rfl rfl ?_
      refine Ops_step (R_move rfl) rfl rfl ?_
      refine Ops_step (R_move rfl) rfl rfl ?_
      refine Ops_step (R_move rfl) rfl rfl ?_
      refine Ops_call (C_func TCtB.bd25 rfl) rfl rfl ?_
      refine (cipher_tag_ok (x0 := x0) (x1 := x1) (x2 := x2) (x3 := (cut x3 0 ((x3.length : Int) - 16))) hI.st (hg.up hI.le) hc0 hs0 hc2 hs2 hc14_ hs14_ h).mono ?_
      rintro _ w24_ ⟨A24_0, c24_0, r24_0, L24_, H24_, rfl, hI24_, hc24_0, hs24_0, h⟩
      refine Exists.elim (hI.call hI24_ (by simp)) fun L240_ h24_ => ?_
      have hz24_ := hI.size
      replace hI := h24_.1
      have u24_ := h24_.2.1
      have hl24_ := h24_.2.2
      clear h24_
      replace hs0 := hs0.up u24_.hh
      replace hs14_ := hs14_.up u24_.hh
      replace hs18_ := hs18_.up u24_.hh
      replace hs24_0 := hs24_0.up hl24_
      clear hI24_ u24_ hl24_
      refine ⟨_, rfl, ?_⟩
      refine Ops_call (C_func TCtB.bd26 rfl) rfl rfl ?_
      refine (hash_Equal_ok (x0 := (cut x3 ((x3.length : Int) - 16) (x3.length : Int))) (x1 := r24_0) hI.st (hg.up hI.le) hc18_ hs18_ hc24_0 (hs24_0.up hI.sub) h).mono ?_
      rintro _ w25_ ⟨r25_0, L25_, H25_, rfl, hI25_, h⟩
      refine Exists.elim (hI.call hI25_ (by simp)) fun L250_ h25_ => ?_
      have hz25_ := hI.size
      replace hI := h25_.1
      have u25_ := h25_.2.1
      have hl25_ := h25_.2.2
      clear h25_
      replace hs0 := hs0.up u25_.hh
      replace hs14_ := hs14_.up u25_.hh
      clear hI25_ u25_ hl25_
      refine ⟨_, rfl, ?_⟩
      refine Ops_step (R_not rfl) rfl rfl ?_
      refine Ops_nil ?_
      refine then_n (hK23_ _ _ ?_)
      clear hK23_ K23_
      refine W_keepB [0, 1, 10, 37] fun B26 hB26_ => ?_
      simp only [pickE, lookE, putE, zipE, args0, Nat.reduceAdd, Nat.zero_add, List.cons_append, List.nil_append, Nat.reduceBEq, cond_true, cond_false] at hB26_
      subst hB26_
      refine W_cond rfl (fun hc27_ => ?_) (fun hc27_ => ?_)
      · replace h := h.1 hc27_
        refine W_seq_k fun K28_ hK28_ => ?_
        refine W_region [some 8, some 9] rfl ?_
        refine Ops_step (R_assign rfl) rfl rfl ?_
        refine Ops_step (R_assign rfl) rfl rfl ?_
        refine Ops_nil ?_
        refine then_n (hK28_ _ _ ?_)
        clear hK28_ K28_
        refine W_ret ?_
        refine then_ret ?_
        clear hK22_ K22_
        refine ⟨_, ⟨_, _, rfl, rfl, ⟨_, _, rfl, rfl, rfl⟩⟩, ?_⟩
        exact ⟨none, 0, [], 121, _, _, rfl, hI, OwnS.nil, h⟩
      · replace h := h.2 hc27_
        refine W_skip ?_
        refine then_n (hK22_ _ _ ?_)
        clear hK22_ K22_
        refine W_seq_k fun K29_ hK29_ => ?_
        refine W_region [some 38, some 39, some 40, some 41, some 42, some 43, some 8, some 9] rfl ?_
        refine Ops_step (R_move rfl) rfl rfl ?_
        refine Ops_step (R_move rfl) rfl rfl ?_
        refine Ops_step (R_move rfl) rfl rfl ?_
        refine Ops_call (C_func TCtB.bd12 rfl) rfl rfl ?_
        refine (cipher_Turn_ok (x0 := x0) (x1 := x1) (x2 := (cut x3 0 ((x3.length : Int) - 16))) hI.st (hg.up hI.le) hc0 hs0 hc14_ hs14_ h).mono ?_
        rintro _ w30_ ⟨A30_0, c30_0, r30_0, r30_1, L30_, H30_, rfl, hI30_, ho30_0, h⟩
        refine Exists.elim (hI.call hI30_ (by simp)) fun L300_ h30_ => ?_
        have hz30_ := hI.size
        replace hI := h30_.1
        have u30_ := h30_.2.1
        have hl30_ := h30_.2.2
        clear h30_
        replace ho30_0 := OwnS.backS ho30_0 hz30_ (Le.refl _)
        clear hI30_ u30_ hl30_
        refine ⟨_, rfl, ?_⟩
        refine Ops_step (R_extract (v := .slice A30_0 r30_0.length c30_0) rfl rfl) rfl rfl ?_
        refine Ops_step (R_extract (v := vi r30_1) rfl rfl) rfl rfl ?_
        refine Ops_step (R_assign rfl) rfl rfl ?_
        refine Ops_step (R_assign rfl) rfl rfl ?_
        refine Ops_nil ?_
        refine then_n (hK29_ _ _ ?_)
        clear hK29_ K29_
        refine W_keepB [8, 9] fun B31 hB31_ => ?_
        simp only [pickE, lookE, putE, zipE, args0, Nat.reduceAdd, Nat.zero_add, List.cons_append, List.nil_append, Nat.reduceBEq, cond_true, cond_false] at hB31_
        subst hB31_
        refine W_ret ?_
        refine ⟨_, ⟨_, _, rfl, rfl, ⟨_, _, rfl, rfl, rfl⟩⟩, ?_⟩
        exact ⟨A30_0, c30_0, r30_0, r30_1, _, _, rfl, hI, (ho30_0.hl (Le.no _)), h⟩

set_option maxHeartbeats 4000000 in
theorem sealskinref08_tag_ok {G : Gh} {w : World} (hS : St G w) (hg : GL G) {A0 : Option Addr} {c0 : Nat} {x0 : List UInt8} (hc0 : x0.length ≤ c0) (hs0 : Sl G A0 x0) {x1 : BitVec 64} {A2 : Option Addr} {c2 : Nat} {x2 : List UInt8} (hc2 : x2.length ≤ c2) (hs2 : Sl G A2 x2) {A3 : Option Addr} {c3 : Nat} {x3 : List UInt8} (hc3 : x3.length ≤ c3) (hs3 : Sl G A3 x3) {Q : (List UInt8) → Prop} (h : sealskinref08_tag x0 x1 x2 x3 Q) : Calls Tryd.prog 28 #[.slice A0 x0.length c0, w64 x1, .slice A2 x2.length c2, .slice A3 x3.length c3] w fun e w2 => ∃ (A0 : Option Addr) (c0 : Nat) (r0 : List UInt8) (L H : Gh), e = .returned (.slice A0 r0.length c0) ∧ Inv [] G w L H w2 ∧ OwnS w.heap.size 5 L H w2 A0 c0 r0 ∧ Q r0 := by
  unfold sealskinref08_tag at h
  have hI := Inv.start (M := []) hS
  refine calls_W 33 Tryd.func28 rfl Tryd.ntmps28 rfl [.tmp 8] rfl ?_
  refine W_seq_k fun K1_ hK1_ => ?_
  refine W_region [some 8] rfl ?_
  refine Ops_step (R_assign rfl) rfl rfl ?_
  refine Ops_nil ?_
  refine then_n (hK1_ _ _ ?_)
  clear hK1_ K1_
  refine W_seq_k fun K2_ hK2_ => ?_
  refine W_region [some 11, some 12, some 13, some 14, some 15, some 16, some 17, some 18, some 19, some 20, some 9] rfl ?_
  refine Ops_step (R_move rfl) rfl rfl ?_
  refine Ops_step (R_quo rfl rfl (by decide) (quo64 x1 (2#64))) rfl rfl ?_
  have hk3_ := h.1
  replace h := h.2
  refine Ops_step (R_conv Tryd.underlying23 Tryd.underlying3 rfl (c64_I _ hk3_)) rfl rfl ?_
  refine Ops_step (R_move rfl) rfl rfl ?_
  refine Ops_step (R_rem rfl rfl (by decide) (rem64 x1 (2#64))) rfl rfl ?_
  have hk4_ := h.1
  replace h := h.2
  refine Ops_step (R_conv Tryd.underlying23 Tryd.underlying3 rfl (c64_I _ hk4_)) rfl rfl ?_
  refine Ops_step (R_move rfl) rfl rfl ?_
  refine Ops_step (R_len Tryd.underlying22 rfl rfl) rfl rfl ?_
  refine Ops_to (R_buildSlice TCtB.el58 TCtB.zr3 (by decide) (by decide) rfl rfl) rfl rfl ?_
  rintro _ w5_ ⟨b5_, rfl, hb5_, hB5_, hF5_⟩
  have ho5_ : OwnS w.heap.size 3 Gh.no G _ (some ⟨b5_, 0, none⟩) 3 ([((x1 / (2#64)).toNat : Int), ((x1 % (2#64)).toNat : Int), (x2.length : Int)] : List Int) := OwnS.ofBlk hI.st hb5_ hB5_ (all2_sc' _) rfl (by have := hI.size; omega) (by show 3 ≤ maxLen; decide)
  replace hI := hI.fr0 hF5_
  clear hF5_ hB5_
  refine Exists.elim (ho5_.lend hI.st (Le.no _)) fun Hb6_0_ hb6_0_ => ?_
  refine Ops_call (C_func TCtB.bd36 rfl) rfl rfl ?_
  refine (sealskinref02_Put_ok (x0 := []) (x1 := ([((x1 / (2#64)).toNat : Int), ((x1 % (2#64)).toNat : Int), (x2.length : Int)] : List Int)) hb6_0_.1 (hg.up (hI.le.trans hb6_0_.2.1)) (Nat.le_refl 0) Sl.nil (Nat.le_refl _) hb6_0_.2.2 h).mono ?_
  rintro _ w6_ ⟨A6_0, c6_0, r6_0, L6_, H6_, rfl, hI6_, ho6_0, h⟩
  refine Exists.elim (hI.callB hb6_0_.2.1 hI6_ (by simp)) fun L60_ h6_ => Exists.elim h6_ fun H60_ h6_ => ?_
  have hz6_ := hI.size
  replace hI := h6_.1
  have u6_ := h6_.2.1
  have hl6_ := h6_.2.2.1
  have hh6_ := h6_.2.2.2
  clear h6_
  replace hs0 := hs0.up u6_.hh
  replace hs2 := hs2.up u6_.hh
  replace hs3 := hs3.up u6_.hh
  replace ho6_0 := OwnS.backS ho6_0 hz6_ hh6_
  clear hI6_ u6_ hl6_
  refine ⟨_, rfl, ?_⟩
  refine Ops_step (R_assign rfl) rfl rfl ?_
  refine Ops_nil ?_
  refine then_n (hK2_ _ _ ?_)
  clear hK2_ K2_
  refine W_keepB [0, 2, 3, 9] fun B7 hB7_ => ?_
  simp only [pickE, lookE, putE, zipE, args0, Nat.reduceAdd, Nat.zero_add, List.cons_append, List.nil_append, Nat.reduceBEq, cond_true, cond_false] at hB7_
  subst hB7_
  refine W_seq_k fun K8_ hK8_ => ?_
  refine W_region [some 21, some 22, some 23, some 24, some 25, some 9] rfl ?_
  refine Ops_step (R_move rfl) rfl rfl ?_
  refine Ops_step (R_move rfl) rfl rfl ?_
  have hk10_ := h.1
  replace h := h.2
  refine Ops_to (X_append (α := UInt8) (xs := r6_0) (ys := x2) TCtB.el22 rfl rfl ho6_0 (Srcs.sc (Srcs.ofSl Tryd.underlying22 hs2 hI.st (by decide))) hI.st hk10_ (by decide) hI.size) rfl rfl ?_
  rintro _ w9_ ⟨A9_, c9_, rfl, ho9_, hF9_, hbk9_⟩
  clear hbk9_
  replace hI := hI.tok hF9_ ho6_0.out (ho6_0.new (Nat.le_refl _))
  clear hF9_ ho6_0
  refine Ops_step (R_move rfl) rfl rfl ?_
  have hk12_ := h.1
  replace h := h.2
  refine Ops_to (X_append (α := UInt8) (xs := (r6_0 ++ x2)) (ys := x3) TCtB.el22 rfl rfl ho9_ (Srcs.sc (Srcs.ofSl Tryd.underlying22 hs3 hI.st (by decide))) hI.st hk12_ (by decide) hI.size) rfl rfl ?_
  rintro _ w11_ ⟨A11_, c11_, rfl, ho11_, hF11_, hbk11_⟩
  clear hbk11_
  replace hI := hI.tok hF11_ ho9_.out (ho9_.new (Nat.le_refl _))
  clear hF11_ ho9_
  refine Ops_step (R_assign rfl) rfl rfl ?_
  refine Ops_nil ?_
  refine then_n (hK8_ _ _ ?_)
  clear hK8_ K8_
  refine W_keepB [0, 9] fun B13 hB13_ => ?_
  simp only [pickE, lookE, putE, zipE, args0, Nat.reduceAdd, Nat.zero_add, List.cons_append, List.nil_append, Nat.reduceBEq, cond_true, cond_false] at hB13_
  subst hB13_
  refine W_seq_k fun K14_ hK14_ => ?_
  refine W_region [some 26, some 27, some 28, some 29, some 10, none] rfl ?_
  refine Ops_step (R_move rfl) rfl rfl ?_
  have hk16_ := h.1
  replace h := h.2
  refine Exists.elim (cut_ex (n := 1) (l := 32) (h := (x0.length : Int)) hs0 rfl (by decide) hc0 (by decide) hk16_ (Int.le_refl _)) fun A15_ h15_ => Exists.elim h15_ fun c15_ h15_ => ?_
  have hr15_ := h15_.1
  have hc15_ := h15_.2.1
  have hs15_ := h15_.2.2
  clear h15_
  refine Ops_step (X_slice (xs := x0) Tryd.underlying22 TCtB.sz5 rfl hr15_ hc0 rfl rfl (by decide) hk16_ (Int.le_refl _)) rfl rfl ?_
  clear hr15_
  refine Ops_step (R_move rfl) rfl rfl ?_
  refine Exists.elim (ho11_.lend hI.st (Le.no _)) fun Hb17_0_ hb17_0_ => ?_
  refine Ops_call (C_func TCtB.bd37 rfl) rfl rfl ?_
  refine (sealskinref07_Keyed_ok (x0 := (cut x0 32 (x0.length : Int))) (x1 := ((r6_0 ++ x2) ++ x3)) hb17_0_.1 (hg.up (hI.le.trans hb17_0_.2.1)) hc15_ (hs15_.up hb17_0_.2.1) ho11_.cap hb17_0_.2.2 h).mono ?_
  rintro _ w17_ ⟨r17_0, L17_, H17_, rfl, hI17_, hn17_0, h⟩
  refine Exists.elim (hI.callB hb17_0_.2.1 hI17_ (by simp)) fun L170_ h17_ => Exists.elim h17_ fun H170_ h17_ => ?_
  have hz17_ := hI.size
  replace hI := h17_.1
  have u17_ := h17_.2.1
  have hl17_ := h17_.2.2.1
  have hh17_ := h17_.2.2.2
  clear h17_
  clear hI17_ u17_ hl17_
  refine ⟨_, rfl, ?_⟩
  have hI0_ := hI
  refine Ops_to (R_alloc TCtB.zr52) rfl rfl ?_
  rintro _ w18_ ⟨b18_, rfl, hb18_, hB18_, hF18_⟩
  replace hI := hI.fr0 hF18_
  have ht18_ : Tok H170_ _ b18_ 52 ((Arr.mk (n := 32) (List.replicate 32 (0 : UInt8))).l.map vb) := ⟨hB18_.to (by rw [List.map_replicate]; rfl), Out.ge hI0_.st (Nat.le_of_eq hb18_.symm)⟩
  have hge_b18_ : w.heap.size ≤ b18_ := hb18_ ▸ hI0_.size
  clear hB18_ hb18_ hI0_ hF18_
  refine Ops_to0 (R_storeN TCtB.sz52 (by simp [hn17_0]) rfl rfl ht18_.blk (by simp [(List.length_replicate ..), hn17_0]) (all_enc _)) rfl ?_
  rintro _ w19_ ⟨hB19_, hF19_⟩
  replace hI := hI.tok hF19_ (out1 ht18_.out) (new1 hge_b18_)
  replace ht18_ : Tok H170_ _ b18_ 52 (r17_0.l.map vb) := ⟨hB19_.to (arr_over (((List.length_replicate ..)).trans (hn17_0).symm)), ht18_.out⟩
  clear hF19_ hB19_
  refine Ops_nil ?_
  refine then_n (hK14_ _ _ ?_)
  clear hK14_ K14_
  refine W_keepB [10] fun B20 hB20_ => ?_
  simp only [pickE, lookE, putE, zipE, args0, Nat.reduceAdd, Nat.zero_add, List.cons_append, List.nil_append, Nat.reduceBEq, cond_true, cond_false] at hB20_
  subst hB20_
  refine W_seq_k fun K21_ hK21_ => ?_
  refine W_region [some 30, some 31, some 32, some 8] rfl ?_
  refine Ops_to (R_buildSlice0 TCtB.el22) rfl rfl ?_
  rintro _ w22_ ⟨b22_, rfl, hb22_, hB22_, hF22_⟩
  have ho22_ : OwnS w.heap.size 5 Gh.no H170_ _ (some ⟨b22_, 0, none⟩) 0 ([] : List UInt8) := OwnS.ofBlk hI.st hb22_ hB22_ (all2_sc' _) rfl (by have := hI.size; omega) (by show 0 ≤ maxLen; decide)
  replace hI := hI.fr0 hF22_
  replace ht18_ := ht18_.fr0 hF22_
  clear hF22_ hB22_
  have hy23_ : (List.take 16 r17_0.l).length = 16 := len_take (n := 32) hn17_0 (by decide)
  refine Exists.elim (ht18_.freeze hge_b18_ hI) fun L23_ h23_ => Exists.elim h23_ fun H23_ h23_ => ?_
  replace hI := h23_.1
  have u23_ := h23_.2.1
  have hs23_ := h23_.2.2.take 16
  have hc23_ : (List.take 16 r17_0.l).length ≤ 32 := by omega
  replace ho22_ := ho22_.up (Le.refl _) u23_ (ho22_.ne ht18_.blk (by decide))
  clear h23_ u23_ ht18_
  refine Ops_step (X_sliceArr (ys := List.take 16 r17_0.l) Tryd.underlying52 TCtB.sz5 rfl ⟨_, _, rfl, rfl⟩ (by decide) hy23_) rfl rfl ?_
  have hk25_ := h.1
  replace h := h.2
  refine Ops_to (X_append (α := UInt8) (xs := ([] : List UInt8)) (ys := (List.take 16 r17_0.l)) TCtB.el22 rfl rfl ho22_ (Srcs.sc (Srcs.ofSl Tryd.underlying22 (hs23_.up hI.sub) hI.st (by decide))) hI.st hk25_ (by decide) hI.size) rfl rfl ?_
  rintro _ w24_ ⟨A24_, c24_, rfl, ho24_, hF24_, hbk24_⟩
  clear hbk24_
  replace hI := hI.tok hF24_ ho22_.out (ho22_.new (Nat.le_refl _))
  clear hF24_ ho22_
  refine Ops_step (R_assign rfl) rfl rfl ?_
  refine Ops_nil ?_
  refine then_n (hK21_ _ _ ?_)
  clear hK21_ K21_
  refine W_ret ?_
  refine ⟨_, ⟨_, _, rfl, rfl, rfl⟩, ?_⟩
  exact ⟨A24_, c24_, (([] : List UInt8) ++ (List.take 16 r17_0.l)), _, _, rfl, hI, (ho24_.hl (Le.no _)), h⟩

set_option maxHeartbeats 4000000 in
theorem sealskinref08_Seal_ok {G : Gh} {w : World} (hS : St G w) (hg : GL G) {A0 : Option Addr} {c0 : Nat} {x0 : List UInt8} (hc0 : x0.length ≤ c0) (hs0 : Sl G A0 x0) {x1 : BitVec 64} {A2 : Option Addr} {c2 : Nat} {x2 : List UInt8} (hc2 : x2.length ≤ c2) (hs2 : Sl G A2 x2) {A3 : Option Addr} {c3 : Nat} {x3 : List UInt8} (hc3 : x3.length ≤ c3) (hs3 : Sl G A3 x3) {Q : (List UInt8) → Int → Prop} (h : sealskinref08_Seal x0 x1 x2 x3 Q) : Calls Tryd.prog 18 #[.slice A0 x0.length c0, w64 x1, .slice A2 x2.length c2, .slice A3 x3.length c3] w fun e w2 => ∃ (A0 : Option Addr) (c0 : Nat) (r0 : List UInt8) (r1 : Int) (L H : Gh), e = .returned (.tuple #[.slice A0 r0.length c0, vi r1]) ∧ Inv [] G w L H w2 ∧ OwnS w.heap.size 5 L H w2 A0 c0 r0 ∧ Q r0 r1 := by
  unfold sealskinref08_Seal at h
  have hI := Inv.start (M := []) hS
  refine calls_W 31 Tryd.func18 rfl Tryd.ntmps18 rfl [.tmp 8, .tmp 9] rfl ?_
  refine W_seq_k fun K1_ hK1_ => ?_
  refine W_region [some 8, some 9] rfl ?_
  refine Ops_step (R_assign rfl) rfl rfl ?_
  refine Ops_step (R_assign rfl) rfl rfl ?_
  refine Ops_nil ?_
  refine then_n (hK1_ _ _ ?_)
  clear hK1_ K1_
  refine W_seq_k fun K2_ hK2_ => ?_
  refine W_seq_k fun K3_ hK3_ => ?_
  refine W_region [some 12, some 13, some 14] rfl ?_
  refine Ops_step (R_move rfl) rfl rfl ?_
  refine Ops_step (R_len Tryd.underlying22 rfl rfl) rfl rfl ?_
  refine Ops_step (R_neq rfl rfl) rfl rfl ?_
  refine Ops_nil ?_
  refine then_n (hK3_ _ _ ?_)
  clear hK3_ K3_
  refine W_if rfl (fun hc4_ => ?_) (fun hc4_ => ?_)
  · replace h := h.1 hc4_
    refine W_seq_k fun K5_ hK5_ => ?_
    refine W_region [some 8, some 9] rfl ?_
    refine Ops_step (R_assign rfl) rfl rfl ?_
    refine Ops_step (R_assign rfl) rfl rfl ?_
    refine Ops_nil ?_
    refine then_n (hK5_ _ _ ?_)
    clear hK5_ K5_
    refine W_keepB [8, 9] fun B6 hB6_ => ?_
    simp only [pickE, lookE, putE, zipE, args0, Nat.reduceAdd, Nat.zero_add, List.cons_append, List.nil_append, Nat.reduceBEq, cond_true, cond_false] at hB6_
    subst hB6_
    refine W_ret ?_
    refine then_ret ?_
    clear hK2_ K2_
    refine ⟨_, ⟨_, _, rfl, rfl, ⟨_, _, rfl, rfl, rfl⟩⟩, ?_⟩
    exact ⟨none, 0, [], 1, _, _, rfl, hI, OwnS.nil, h⟩
  · replace h := h.2 hc4_
    refine W_skip ?_
    refine then_n (hK2_ _ _ ?_)
    clear hK2_ K2_
    refine W_seq_k fun K7_ hK7_ => ?_
    refine W_region [some 16, some 17, some 18, some 19, some 15, some 20, some 21, some 10, some 11] rfl ?_
    refine Ops_step (R_move rfl) rfl rfl ?_
    refine Ops_step (R_move rfl) rfl rfl ?_
    refine Ops_step (R_move rfl) rfl rfl ?_
    refine Ops_call (C_func TCtB.bd17 rfl) rfl rfl ?_
    refine (sealskinref08_Turn_ok (x0 := x0) (x1 := x1) (x2 := x3) hI.st (hg.up hI.le) hc0 hs0 hc3 hs3 h).mono ?_
    rintro _ w8_ ⟨A8_0, c8_0, r8_0, r8_1, L8_, H8_, rfl, hI8_, ho8_0, h⟩
    refine Exists.elim (hI.call hI8_ (by simp)) fun L80_ h8_ => ?_
    have hz8_ := hI.size
    replace hI := h8_.1
    have u8_ := h8_.2.1
    have hl8_ := h8_.2.2
    clear h8_
    replace hs0 := hs0.up u8_.hh
    replace hs2 := hs2.up u8_.hh
    replace ho8_0 := OwnS.backS ho8_0 hz8_ (Le.refl _)
    clear hI8_ u8_ hl8_
    refine ⟨_, rfl, ?_⟩
    refine Exists.elim (ho8_0.freeze hI) fun L9_ h9_ => Exists.elim h9_ fun H9_ h9_ => ?_
    replace hI := h9_.1
    have u9_ := h9_.2.1
    have hs9_ := h9_.2.2.1 (Le.no _)
    have hc9_ := ho8_0.cap
    replace hs0 := hs0.up u9_.hh
    replace hs2 := hs2.up u9_.hh
    clear h9_ u9_ ho8_0
    refine Ops_step (R_move rfl) rfl rfl ?_
    refine Ops_step (R_extract (v := .slice A8_0 r8_0.length c8_0) rfl rfl) rfl rfl ?_
    refine Ops_step (R_extract (v := vi r8_1) rfl rfl) rfl rfl ?_
    refine Ops_step (R_assign rfl) rfl rfl ?_
    refine Ops_step (R_assign rfl) rfl rfl ?_
    refine Ops_nil ?_
    refine then_n (hK7_ _ _ ?_)
    clear hK7_ K7_
    refine W_keepB [0, 1, 2, 10] fun B10 hB10_ => ?_
    simp only [pickE, lookE, putE, zipE, args0, Nat.reduceAdd, Nat.zero_add, List.cons_append, List.nil_append, Nat.reduceBEq, cond_true, cond_false] at hB10_
    subst hB10_
    refine W_seq_k fun K11_ hK11_ => ?_
    refine W_region [some 22, some 23, some 24, some 25, some 26, some 27, some 28, some 29, some 30, some 8, some 9] rfl ?_
    refine Ops_to (R_buildSlice0 TCtB.el22) rfl rfl ?_
    rintro _ w12_ ⟨b12_, rfl, hb12_, hB12_, hF12_⟩
    have ho12_ : OwnS w.heap.size 5 Gh.no H9_ _ (some ⟨b12_, 0, none⟩) 0 ([] : List UInt8) := OwnS.ofBlk hI.st hb12_ hB12_ (all2_sc' _) rfl (by have := hI.size; omega) (by show 0 ≤ maxLen; decide)
    replace hI := hI.fr0 hF12_
    clear hF12_ hB12_
    refine Ops_step (R_move rfl) rfl rfl ?_
    have hk14_ := h.1
    replace h := h.2
    refine Ops_to (X_append (α := UInt8) (xs := ([] : List UInt8)) (ys := r8_0) TCtB.el22 rfl rfl ho12_ (Srcs.sc (Srcs.ofSl Tryd.underlying22 (hs9_.up hI.sub) hI.st (by decide))) hI.st hk14_ (by decide) hI.size) rfl rfl ?_
    rintro _ w13_ ⟨A13_, c13_, rfl, ho13_, hF13_, hbk13_⟩
    clear hbk13_
    replace hI := hI.tok hF13_ ho12_.out (ho12_.new (Nat.le_refl _))
    clear hF13_ ho12_
    refine Ops_step (R_move rfl) rfl rfl ?_
    refine Ops_step (R_move rfl) rfl rfl ?_
    refine Ops_step (R_move rfl) rfl rfl ?_
    refine Ops_step (R_move rfl) rfl rfl ?_
    refine Ops_call (C_func TCtB.bd28 rfl) rfl rfl ?_
    refine (sealskinref08_tag_ok (x0 := x0) (x1 := x1) (x2 := x2) (x3 := r8_0) hI.st (hg.up hI.le) hc0 hs0 hc2 hs2 hc9_ (hs9_.up hI.sub) h).mono ?_
    have hlo15_0_ho13_ := ho13_.lt
    rintro _ w15_ ⟨A15_0, c15_0, r15_0, L15_, H15_, rfl, hI15_, ho15_0, h⟩
    refine Exists.elim (hI.call hI15_ (by simp)) fun L150_ h15_ => ?_
    have hz15_ := hI.size
    replace hI := h15_.1
    have u15_ := h15_.2.1
    have hl15_ := h15_.2.2
    clear h15_
    replace ho13_ := ho13_.up (Le.refl _) u15_ (by simp)
    have hsp15_0_ho13_ : ∀ i ∈ bk A15_0 c15_0, i ∉ bk A13_ c13_ := sep_new ho15_0.off hlo15_0_ho13_
    replace ho15_0 := OwnS.backS ho15_0 hz15_ (Le.refl _)
    clear hI15_ u15_ hl15_
    refine ⟨_, rfl, ?_⟩
    refine Exists.elim (ho15_0.freeze hI) fun L16_ h16_ => Exists.elim h16_ fun H16_ h16_ => ?_
    replace hI := h16_.1
    have u16_ := h16_.2.1
    have hs16_ := h16_.2.2.1 (Le.no _)
    have hc16_ := ho15_0.cap
    replace ho13_ := ho13_.up (Le.refl _) u16_ (sep_sym hsp15_0_ho13_)
    clear h16_ u16_ ho15_0
    have hk18_ := h.1
    replace h := h.2
    refine Ops_to (X_append (α := UInt8) (xs := (([] : List UInt8) ++ r8_0)) (ys := r15_0) TCtB.el22 rfl rfl ho13_ (Srcs.sc (Srcs.ofSl Tryd.underlying22 (hs16_.up hI.sub) hI.st (by decide))) hI.st hk18_ (by decide) hI.size) rfl rfl ?_
    rintro _ w17_ ⟨A17_, c17_, rfl, ho17_, hF17_, hbk17_⟩
    clear hbk17_
    replace hI := hI.tok hF17_ ho13_.out (ho13_.new (Nat.le_refl _))
    clear hF17_ ho13_
    refine Ops_step (R_assign rfl) rfl rfl ?_
    refine Ops_step (R_assign rfl) rfl rfl ?_
    refine Ops_nil ?_
    refine then_n (hK11_ _ _ ?_)
    clear hK11_ K11_
    refine W_keepB [8, 9] fun B19 hB19_ => ?_
    simp only [pickE, lookE, putE, zipE, args0, Nat.reduceAdd, Nat.zero_add, List.cons_append, List.nil_append, Nat.reduceBEq, cond_true, cond_false] at hB19_
    subst hB19_
    refine W_ret ?_
    refine ⟨_, ⟨_, _, rfl, rfl, ⟨_, _, rfl, rfl, rfl⟩⟩, ?_⟩
    exact ⟨A17_, c17_, ((([] : List UInt8) ++ r8_0) ++ r15_0), 0, _, _, rfl, hI, (ho17_.hl (Le.no _)), h⟩

set_option maxHeartbeats 4000000 in
theorem sealskinref08_Open_ok {G : Gh} {w : World} (hS : St G w) (hg : GL G) {A0 : Option Addr} {c0 : Nat} {x0 : List UInt8} (hc0 : x0.length ≤ c0) (hs0 : Sl G A0 x0) {x1 : BitVec 64} {A2 : Option Addr} {c2 : Nat} {x2 : List UInt8} (hc2 : x2.length ≤ c2) (hs2 : Sl G A2 x2) {A3 : Option Addr} {c3 : Nat} {x3 : List UInt8} (hc3 : x3.length ≤ c3) (hs3 : Sl G A3 x3) {Q : (List UInt8) → Int → Prop} (h : sealskinref08_Open x0 x1 x2 x3 Q) : Calls Tryd.prog 19 #[.slice A0 x0.length c0, w64 x1, .slice A2 x2.length c2, .slice A3 x3.length c3] w fun e w2 => ∃ (A0 : Option Addr) (c0 : Nat) (r0 : List UInt8) (r1 : Int) (L H : Gh), e = .returned (.tuple #[.slice A0 r0.length c0, vi r1]) ∧ Inv [] G w L H w2 ∧ OwnS w.heap.size 5 L H w2 A0 c0 r0 ∧ Q r0 r1 := by
  unfold sealskinref08_Open at h
  have hI := Inv.start (M := []) hS
  refine calls_W 40 Tryd.func19 rfl Tryd.ntmps19 rfl [.tmp 8, .tmp 9] rfl ?_
  refine W_seq_k fun K1_ hK1_ => ?_
  refine W_region [some 8, some 9] rfl ?_
  refine Ops_step (R_assign rfl) rfl rfl ?_
  refine Ops_step (R_assign rfl) rfl rfl ?_
  refine Ops_nil ?_
  refine then_n (hK1_ _ _ ?_)
  clear hK1_ K1_
  refine W_seq_k fun K2_ hK2_ => ?_
  refine W_seq_k fun K3_ hK3_ => ?_
  refine W_region [some 11, some 12, some 13] rfl ?_
  refine Ops_step (R_move rfl) rfl rfl ?_
  refine Ops_step (R_len Tryd.underlying22 rfl rfl) rfl rfl ?_
  refine Ops_step (R_neq rfl rfl) rfl rfl ?_
  refine Ops_nil ?_
  refine then_n (hK3_ _ _ ?_)
  clear hK3_ K3_
  refine W_if rfl (fun hc4_ => ?_) (fun hc4_ => ?_)
  · replace h := h.1 hc4_
    refine W_seq_k fun K5_ hK5_ => ?_
    refine W_region [some 8, some 9] rfl ?_
    refine Ops_step (R_assign rfl) rfl rfl ?_
    refine Ops_step (R_assign rfl) rfl rfl ?_
    refine Ops_nil ?_
    refine then_n (hK5_ _ _ ?_)
    clear hK5_ K5_
    refine W_keepB [8, 9] fun B6 hB6_ => ?_
    simp only [pickE, lookE, putE, zipE, args0, Nat.reduceAdd, Nat.zero_add, List.cons_append, List.nil_append, Nat.reduceBEq, cond_true, cond_false] at hB6_
    subst hB6_
    refine W_ret ?_
    refine then_ret ?_
    clear hK2_ K2_
    refine ⟨_, ⟨_, _, rfl, rfl, ⟨_, _, rfl, rfl, rfl⟩⟩, ?_⟩
    exact ⟨none, 0, [], 1, _, _, rfl, hI, OwnS.nil, h⟩
  · replace h := h.2 hc4_
    refine W_skip ?_
    refine then_n (hK2_ _ _ ?_)
    clear hK2_ K2_
    refine W_seq_k fun K7_ hK7_ => ?_
    refine W_seq_k fun K8_ hK8_ => ?_
    refine W_region [some 14, some 15, some 16] rfl ?_
    refine Ops_step (R_move rfl) rfl rfl ?_
    refine Ops_step (R_len Tryd.underlying22 rfl rfl) rfl rfl ?_
    refine Ops_step (R_lss rfl rfl) rfl rfl ?_
    refine Ops_nil ?_
    refine then_n (hK8_ _ _ ?_)
    clear hK8_ K8_
    refine W_keepB [0, 1, 2, 3, 16] fun B9 hB9_ => ?_
    simp only [pickE, lookE, putE, zipE, args0, Nat.reduceAdd, Nat.zero_add, List.cons_append, List.nil_append, Nat.reduceBEq, cond_true, cond_false] at hB9_
    subst hB9_
    refine W_if rfl (fun hc10_ => ?_) (fun hc10_ => ?_)
    · replace h := h.1 hc10_
      refine W_seq_k fun K11_ hK11_ => ?_
      refine W_region [some 8, some 9] rfl ?_
      refine Ops_step (R_assign rfl) rfl rfl ?_
      refine Ops_step (R_assign rfl) rfl rfl ?_
      refine Ops_nil ?_
      refine then_n (hK11_ _ _ ?_)
      clear hK11_ K11_
      refine W_ret ?_
      refine then_ret ?_
      clear hK7_ K7_
      refine ⟨_, ⟨_, _, rfl, rfl, ⟨_, _, rfl, rfl, rfl⟩⟩, ?_⟩
      exact ⟨none, 0, [], 2, _, _, rfl, hI, OwnS.nil, h⟩
    · replace h := h.2 hc10_
      refine W_skip ?_
      refine then_n (hK7_ _ _ ?_)
      clear hK7_ K7_
      refine W_seq_k fun K12_ hK12_ => ?_
      refine W_region [some 17, some 18, some 19, some 20, some 21, some 10] rfl ?_
      refine Ops_step (R_move rfl) rfl rfl ?_
      refine Ops_step (R_move rfl) rfl rfl ?_
      refine Ops_step (R_len Tryd.underlying22 rfl rfl) rfl rfl ?_
      have hk13_ := h.1
      replace h := h.2
      refine Ops_step (R_sub rfl rfl (wI hk13_.1 hk13_.2)) rfl rfl ?_
      have hk15_ := h.1
      replace h := h.2
      have hk16_ := h.1
      replace h := h.2
      refine Exists.elim (cut_ex (n := 1) (l := 0) (h := ((x3.length : Int) - 16)) hs3 rfl (by decide) hc3 (Int.le_refl 0) hk15_ hk16_) fun A14_ h14_ => Exists.elim h14_ fun c14_ h14_ => ?_
      have hr14_ := h14_.1
      have hc14_ := h14_.2.1
      have hs14_ := h14_.2.2
      clear h14_
      refine Ops_step (X_slice (xs := x3) Tryd.underlying22 TCtB.sz5 rfl hr14_ hc3 rfl rfl (Int.le_refl 0) hk15_ hk16_) rfl rfl ?_
      clear hr14_
      refine Ops_step (R_assign rfl) rfl rfl ?_
      refine Ops_nil ?_
      refine then_n (hK12_ _ _ ?_)
      clear hK12_ K12_
      refine W_keepB [0, 1, 2, 3, 10] fun B17 hB17_ => ?_
      simp only [pickE, lookE, putE, zipE, args0, Nat.reduceAdd, Nat.zero_add, List.cons_append, List.nil_append, Nat.reduceBEq, cond_true, cond_false] at hB17_
      subst hB17_
      refine W_seq_k fun K18_ hK18_ => ?_
      refine W_seq_k fun K19_ hK19_ => ?_
      refine W_drawF [some 22, some 23, some 24, some 25, some 26, some 27, some 28, some 29, some 30, some 31, some 32, some 33] [(0, true), (1, true), (2, true), (3, true), (6, true), (7, true), (8, true), (9, true), (10, true), (4, false), (5, true), (11, true)] TCtB.hm rfl (by kernel_rfl) fun ops20_ w20_ hops20_ hF20_ => ?_
      replace hI := hI.fr0 hF20_
      clear hF20_
      refine HS_pure (fun w_ => R_move rfl) rfl rfl ?_
      refine HS_pure (fun w_ => R_move rfl) rfl rfl ?_
      refine HS_pure (fun w_ => R_move rfl) rfl rfl ?_
      refine HS_pure (fun w_ => R_move rfl) rfl rfl ?_
      refine HS_pure (fun w_ => R_move rfl) rfl rfl ?_
      refine HS_pure (fun w_ => R_move rfl) rfl rfl ?_
      refine HS_pure (fun w_ => R_len Tryd.underlying22 rfl rfl) rfl rfl ?_
      have hk22_ := h.1
      replace h := h.2
      have hk23_ := h.1
      replace h := h.2
      refine Exists.elim (cut_ex (n := 1) (l := ((cut x3 0 ((x3.length : Int) - 16)).length : Int)) (h := (x3.length : Int)) hs3 rfl (by decide) hc3 hk22_ hk23_ (Int.le_refl _)) fun A21_ h21_ => Exists.elim h21_ fun c21_ h21_ => ?_
      have hr21_ := h21_.1
      have hc21_ := h21_.2.1
      have hs21_ := h21_.2.2
      clear h21_
      refine HS_pure (fun w_ => X_slice (xs := x3) Tryd.underlying22 TCtB.sz5 rfl hr21_ hc3 rfl rfl hk22_ hk23_ (Int.le_refl _)) rfl rfl ?_
      clear hr21_
      refine HS_held (fun w_ => Rd w_ A21_ ((cut x3 ((cut x3 0 ((x3.length : Int) - 16)).length : Int) (x3.length : Int)).map Sc.enc)) (fun w_ hw_ => X_bytesStr (bs := (cut x3 ((cut x3 0 ((x3.length : Int) - 16)).length : Int) (x3.length : Int))) Tryd.underlying22 Tryd.underlying5 Tryd.underlying9 rfl rfl hw_) (hs21_.fz.rd hI.st) rfl rfl ?_
      refine HS_call [10] _ rfl (by rw [hops20_]; kernel_rfl) (C_func TCtB.bd28 rfl) rfl rfl ?_
      refine (sealskinref08_tag_ok (x0 := x0) (x1 := x1) (x2 := x2) (x3 := (cut x3 0 ((x3.length : Int) - 16))) hI.st (hg.up hI.le) hc0 hs0 hc2 hs2 hc14_ hs14_ h).mono ?_
      rintro _ w24_ ⟨A24_0, c24_0, r24_0, L24_, H24_, rfl, hI24_, ho24_0, h⟩
      refine Exists.elim (hI.call hI24_ (by simp)) fun L240_ h24_ => ?_
      have hz24_ := hI.size
      replace hI := h24_.1
      have u24_ := h24_.2.1
      have hl24_ := h24_.2.2
      clear h24_
      replace hs0 := hs0.up u24_.hh
      replace hs14_ := hs14_.up u24_.hh
      replace hs21_ := hs21_.up u24_.hh
      replace ho24_0 := OwnS.backS ho24_0 hz24_ (Le.refl _)
      clear hI24_ u24_ hl24_
      refine ⟨_, rfl, ⟨(hs21_.fz.rd hI.st), trivial⟩, ?_⟩
      refine Exists.elim (ho24_0.freeze hI) fun L25_ h25_ => Exists.elim h25_ fun H25_ h25_ => ?_
      replace hI := h25_.1
      have u25_ := h25_.2.1
      have hs25_ := h25_.2.2.1 (Le.no _)
      have hc25_ := ho24_0.cap
      replace hs0 := hs0.up u25_.hh
      replace hs14_ := hs14_.up u25_.hh
      replace hs21_ := hs21_.up u25_.hh
      clear h25_ u25_ ho24_0
      refine HS_held (fun w_ => Rd w_ A24_0 (r24_0.map Sc.enc)) (fun w_ hw_ => X_bytesStr (bs := r24_0) Tryd.underlying22 Tryd.underlying5 Tryd.underlying9 rfl rfl hw_) ((hs25_.up hI.sub).fz.rd hI.st) rfl rfl ?_
      refine HS_pure (fun w_ => R_strNeB rfl rfl) rfl rfl ?_
      refine HS_nil ?_
      clear hops20_
      refine then_n (hK19_ _ _ ?_)
      clear hK19_ K19_
      refine W_keepB [0, 1, 10, 33] fun B26 hB26_ => ?_
      simp only [pickE, lookE, putE, zipE, args0, Nat.reduceAdd, Nat.zero_add, List.cons_append, List.nil_append, Nat.reduceBEq, cond_true, cond_false] at hB26_
      subst hB26_
      refine W_if rfl (fun hc27_ => ?_) (fun hc27_ => ?_)
      · replace h := h.1 hc27_
        refine W_seq_k fun K28_ hK28_ => ?_
        refine W_region [some 8, some 9] rfl ?_
        refine Ops_step (R_assign rfl) rfl rfl ?_
        refine Ops_step (R_assign rfl) rfl rfl ?_
        refine Ops_nil ?_
        refine then_n (hK28_ _ _ ?_)
        clear hK28_ K28_
        refine W_ret ?_
        refine then_ret ?_
        clear hK18_ K18_
        refine ⟨_, ⟨_, _, rfl, rfl, ⟨_, _, rfl, rfl, rfl⟩⟩, ?_⟩
        exact ⟨none, 0, [], 121, _, _, rfl, hI, OwnS.nil, h⟩
      · replace h := h.2 hc27_
        refine W_skip ?_
        refine then_n (hK18_ _ _ ?_)
        clear hK18_ K18_
        refine W_seq_k fun K29_ hK29_ => ?_
        refine W_region [some 34, some 35, some 36, some 37, some 38, some 39, some 8, some 9] rfl ?_
        refine Ops_step (R_move rfl) rfl rfl ?_
        refine Ops_step (R_move rfl) rfl rfl ?_
        refine Ops_step (R_move rfl) rfl rfl ?_
        refine Ops_call (C_func TCtB.bd17 rfl) rfl rfl ?_
        refine (sealskinref08_Turn_ok (x0 := x0) (x1 := x1) (x2 := (cut x3 0 ((x3.length : Int) - 16))) hI.st (hg.up hI.le) hc0 hs0 hc14_ hs14_ h).mono ?_
        rintro _ w30_ ⟨A30_0, c30_0, r30_0, r30_1, L30_, H30_, rfl, hI30_, ho30_0, h⟩
        refine Exists.elim (hI.call hI30_ (by simp)) fun L300_ h30_ => ?_
        have hz30_ := hI.size
        replace hI := h30_.1
        have u30_ := h30_.2.1
        have hl30_ := h30_.2.2
        clear h30_
        replace ho30_0 := OwnS.backS ho30_0 hz30_ (Le.refl _)
        clear hI30_ u30_ hl30_
        refine ⟨_, rfl, ?_⟩
        refine Ops_step (R_extract (v := .slice A30_0 r30_0.length c30_0) rfl rfl) rfl rfl ?_
        refine Ops_step (R_extract (v := vi r30_1) rfl rfl) rfl rfl ?_
        refine Ops_step (R_assign rfl) rfl rfl ?_
        refine Ops_step (R_assign rfl) rfl rfl ?_
        refine Ops_nil ?_
        refine then_n (hK29_ _ _ ?_)
        clear hK29_ K29_
        refine W_keepB [8, 9] fun B31 hB31_ => ?_
        simp only [pickE, lookE, putE, zipE, args0, Nat.reduceAdd, Nat.zero_add, List.cons_append, List.nil_append, Nat.reduceBEq, cond_true, cond_false] at hB31_
        subst hB31_
        refine W_ret ?_
        refine ⟨_, ⟨_, _, rfl, rfl, ⟨_, _, rfl, rfl, rfl⟩⟩, ?_⟩
        exact ⟨A30_0, c30_0, r30_0, r30_1, _, _, rfl, hI, (ho30_0.hl (Le.no _)), h⟩

set_option maxHeartbeats 4000000 in
theorem sealskinlaw08_long_1_ok {G : Gh} {w : World} (hS : St G w) (hg : GL G) {A0 : Option Addr} {c0 : Nat} {x0 : List UInt8} (hc0 : x0.length ≤ c0) (hs0 : Sl G A0 x0) {Q : Bool → Prop} (h : sealskinlaw08_long_1 x0 Q) : Calls Tryd.prog 23 #[.slice A0 x0.length c0] w fun e w2 => ∃ (r0 : Bool) (L H : Gh), e = .returned (.bool r0) ∧ Inv [] G w L H w2 ∧ Q r0 := by
  unfold sealskinlaw08_long_1 at h
  have hI := Inv.start (M := []) hS
  refine calls_W 6 Tryd.func23 rfl Tryd.ntmps23 rfl [.tmp 2] rfl ?_
  refine W_seq_k fun K1_ hK1_ => ?_
  refine W_region [some 2] rfl ?_
  refine Ops_step (R_assign rfl) rfl rfl ?_
  refine Ops_nil ?_
  refine then_n (hK1_ _ _ ?_)
  clear hK1_ K1_
  refine W_seq_k fun K2_ hK2_ => ?_
  refine W_region [some 3, some 4, some 5, some 2] rfl ?_
  refine Ops_step (R_move rfl) rfl rfl ?_
  refine Ops_step (R_len Tryd.underlying22 rfl rfl) rfl rfl ?_
  refine Ops_step (R_gtr rfl rfl) rfl rfl ?_
  refine Ops_step (R_assign rfl) rfl rfl ?_
  refine Ops_nil ?_
  refine then_n (hK2_ _ _ ?_)
  clear hK2_ K2_
  refine W_ret ?_
  refine ⟨_, ⟨_, _, rfl, rfl, rfl⟩, ?_⟩
  exact ⟨(decide ((x0.length : Int) > 4096)), _, _, rfl, hI, h⟩

set_option maxHeartbeats 4000000 in
theorem slices_IndexFunc_long_ok {G : Gh} {w : World} (hS : St G w) (hg : GL G) {A0 : Option Addr} {c0 : Nat} {x0 : List (List UInt8)} (hc0 : x0.length ≤ c0) (hs0 : Sl G A0 x0) {Q : Int → Prop} (h : slices_IndexFunc_long x0 Q) : Calls Tryd.prog 30 #[.slice A0 x0.length c0, .func (.func 23) #[] #[]] w fun e w2 => ∃ (r0 : Int) (L H : Gh), e = .returned (vi r0) ∧ Inv [] G w L H w2 ∧ Q r0 := by
  unfold slices_IndexFunc_long at h
  have hI := Inv.start (M := []) hS
  refine calls_W 19 Tryd.func30 rfl Tryd.ntmps30 rfl [.tmp 4] rfl ?_
  refine W_seq_k fun K1_ hK1_ => ?_
  refine W_region [some 4] rfl ?_
  refine Ops_step (R_assign rfl) rfl rfl ?_
  refine Ops_nil ?_
  refine then_n (hK1_ _ _ ?_)
  clear hK1_ K1_
  refine Exists.elim h fun J2_ h => ?_
  have hr2_ := h.1
  replace h := h.2
  refine W_seq_join [] [] (fun vs w2 => ∃  (L H : Gh), vs = [] ∧ J2_ ∧ Inv [] G w L H w2 ∧ Le Gh.no L ∧ Le G H ∧ True) (fun B2 hB2_ => ?_) (fun B2 hB2_ => ?_)
  · simp only [pickE, lookE, putE, zipE, args0, Nat.reduceAdd, Nat.zero_add, List.cons_append, List.nil_append, Nat.reduceBEq, cond_true, cond_false] at hB2_
    subst hB2_
    clear hr2_
    have hll2_ := Le.refl Gh.no
    have hhh2_ := Le.refl G
    refine W_seq_k fun K3_ hK3_ => ?_
    refine W_region [some 6, some 7, some 8] rfl ?_
    refine Ops_step (R_move rfl) rfl rfl ?_
    refine Ops_step (R_len Tryd.underlying37 rfl rfl) rfl rfl ?_
    refine Ops_step (R_move rfl) rfl rfl ?_
    refine Ops_nil ?_
    refine then_n (hK3_ _ _ ?_)
    clear hK3_ K3_
    refine W_block ?_
    refine Exists.elim h fun I4_ h => Exists.elim h fun n4_ h => ?_
    have h0_ := h.1
    have hs4_ := h.2
    clear h
    refine W_loopB [0, 1, 7] [8] (fun m vs w2 => ∃ (x8_4 : Int) (L H : Gh), vs = [vi x8_4] ∧ I4_ m x8_4 ∧ Inv [] G w L H w2 ∧ Le Gh.no L ∧ Le G H ∧ True) n4_ _ rfl ⟨0, _, _, rfl, h0_, hI, Le.refl _, Le.refl _, trivial⟩ fun B4 hB4_ => ?_
    clear h0_
    simp only [pickE, lookE, putE, zipE, args0, Nat.reduceAdd, Nat.zero_add, List.cons_append, List.nil_append, Nat.reduceBEq, cond_true, cond_false] at hB4_
    subst hB4_
    rintro m4_ _ w4_ ⟨x8_4, L4_, H4_, rfl, hJ4_, hI4_, hll4_, hhh4_, -⟩
    replace hI := hI4_
    clear hI4_
    have h := hs4_ m4_ x8_4 hJ4_
    clear hs4_ hJ4_
    replace hs0 := hs0.up hhh4_
    replace hll2_ := hll2_.trans hll4_
    replace hhh2_ := hhh2_.trans hhh4_
    refine W_seq_k fun K5_ hK5_ => ?_
    refine W_region [some 9] rfl ?_
    refine Ops_step (R_lss rfl rfl) rfl rfl ?_
    refine Ops_nil ?_
    refine then_n (hK5_ _ _ ?_)
    clear hK5_ K5_
    refine W_seq_k fun K6_ hK6_ => ?_
    refine W_if rfl (fun hc7_ => ?_) (fun hc7_ => ?_)
    · replace h := h.1 hc7_
      refine W_skip ?_
      refine then_n (hK6_ _ _ ?_)
      clear hK6_ K6_
      refine W_seq_k fun K8_ hK8_ => ?_
      refine W_block ?_
      refine W_seq_k fun K9_ hK9_ => ?_
      refine W_region [some 10, some 5] rfl ?_
      refine Ops_step (R_move rfl) rfl rfl ?_
      refine Ops_step (R_assign rfl) rfl rfl ?_
      refine Ops_nil ?_
      refine then_n (hK9_ _ _ ?_)
      clear hK9_ K9_
      refine W_seq_k fun K10_ hK10_ => ?_
      refine W_region [some 11, some 12, some 13, some 14, some 15, some 16] rfl ?_
      refine Ops_step (R_move rfl) rfl rfl ?_
      refine Ops_step (R_move rfl) rfl rfl ?_
      refine Ops_step (R_move rfl) rfl rfl ?_
      refine Exists.elim h fun x11_ h => ?_
      have hx11_ := h.1
      replace h := h.2
      have ha11_ := (hs0.atL hx11_).1
      refine Exists.elim (hs0.atL hx11_).2 fun A11_ hA11_ => Exists.elim hA11_ fun c11_ hA11_ => ?_
      have hc11_ := hA11_.1
      have hs11_ := hA11_.2.1
      have hg11_ := hA11_.2.2
      clear hA11_
      refine Ops_step (R_indexSl Tryd.underlying37 TCtB.sz22 rfl rfl hx11_.1 hx11_.lt ha11_) rfl rfl ?_
      refine Ops_step (R_load TCtB.ag22 rfl (hI.st _ _ hg11_)) rfl rfl ?_
      refine Ops_call (C_val TCtB.bd23 rfl rfl) rfl rfl ?_
      refine (sealskinlaw08_long_1_ok (x0 := x11_) hI.st (hg.up hI.le) hc11_ hs11_ h).mono ?_
      rintro _ w12_ ⟨r12_0, L12_, H12_, rfl, hI12_, h⟩
      refine Exists.elim (hI.call hI12_ (by simp)) fun L120_ h12_ => ?_
      have hz12_ := hI.size
      replace hI := h12_.1
      have u12_ := h12_.2.1
      have hl12_ := h12_.2.2
      clear h12_
      replace hs0 := hs0.up u12_.hh
      replace hll2_ := hll2_.trans u12_.ll
      replace hhh2_ := hhh2_.trans u12_.hh
      replace hll4_ := hll4_.trans u12_.ll
      replace hhh4_ := hhh4_.trans u12_.hh
      replace hg11_ := u12_.hh _ _ hg11_
      clear hI12_ u12_ hl12_
      refine ⟨_, rfl, ?_⟩
      refine Ops_nil ?_
      refine then_n (hK10_ _ _ ?_)
      clear hK10_ K10_
      refine W_keepB [0, 1, 5, 7, 8, 16] fun B13 hB13_ => ?_
      simp only [pickE, lookE, putE, zipE, args0, Nat.reduceAdd, Nat.zero_add, List.cons_append, List.nil_append, Nat.reduceBEq, cond_true, cond_false] at hB13_
      subst hB13_
      refine W_cond rfl (fun hc14_ => ?_) (fun hc14_ => ?_)
      · replace h := h.1 hc14_
        refine W_seq_k fun K15_ hK15_ => ?_
        refine W_region [some 17, some 4] rfl ?_
        refine Ops_step (R_move rfl) rfl rfl ?_
        refine Ops_step (R_assign rfl) rfl rfl ?_
        refine Ops_nil ?_
        refine then_n (hK15_ _ _ ?_)
        clear hK15_ K15_
        refine W_keepB [4] fun B16 hB16_ => ?_
        simp only [pickE, lookE, putE, zipE, args0, Nat.reduceAdd, Nat.zero_add, List.cons_append, List.nil_append, Nat.reduceBEq, cond_true, cond_false] at hB16_
        subst hB16_
        refine W_ret ?_
        refine block_ret ?_
        refine then_ret ?_
        clear hK8_ K8_
        refine then_ret ?_
        refine block_ret ?_
        refine then_ret ?_
        refine ⟨_, ⟨_, _, rfl, rfl, rfl⟩, ?_⟩
        exact ⟨x8_4, _, _, rfl, hI, h⟩
      · replace h := h.2 hc14_
        refine W_skip ?_
        refine block_n ?_
        refine then_n (hK8_ _ _ ?_)
        clear hK8_ K8_
        refine W_region [some 18, some 8] rfl ?_
        have hk17_ := h.1
        replace h := h.2
        refine Ops_step (R_add rfl rfl (wI hk17_.1 hk17_.2)) rfl rfl ?_
        refine Ops_step (R_move rfl) rfl rfl ?_
        refine Ops_nil ?_
        refine then_n ?_
        exact h.elim fun m_ h => ⟨m_, _, h.1, rfl, ⟨(x8_4 + 1), _, _, rfl, h.2, hI, hll4_, hhh4_, trivial⟩, ⟨rfl, rfl, rfl, trivial⟩⟩
    · replace h := h.2 hc7_
      refine W_exit ?_
      refine then_exit ?_
      clear hK6_ K6_
      refine then_exit ?_
      refine block_exit ?_
      refine then_n ?_
      exact ⟨_, rfl, ⟨_, _, rfl, h, hI, hll2_, hhh2_, trivial⟩, trivial⟩
  · simp only [pickE, lookE, putE, zipE, args0, Nat.reduceAdd, Nat.zero_add, List.cons_append, List.nil_append, Nat.reduceBEq, cond_true, cond_false] at hB2_
    subst hB2_
    clear h
    rintro _ w2_ ⟨L2_, H2_, rfl, hJ2_, hI2_, hll2_, hhh2_, -⟩
    replace hI := hI2_
    clear hI2_
    have h := hr2_ hJ2_
    clear hr2_ hJ2_
    refine W_seq_k fun K18_ hK18_ => ?_
    refine W_region [some 4] rfl ?_
    refine Ops_step (R_assign rfl) rfl rfl ?_
    refine Ops_nil ?_
    refine then_n (hK18_ _ _ ?_)
    clear hK18_ K18_
    refine W_ret ?_
    refine ⟨_, ⟨_, _, rfl, rfl, rfl⟩, ?_⟩
    exact ⟨(-1), _, _, rfl, hI, h⟩

set_option maxHeartbeats 4000000 in
theorem slices_ContainsFunc_long_ok {G : Gh} {w : World} (hS : St G w) (hg : GL G) {A0 : Option Addr} {c0 : Nat} {x0 : List (List UInt8)} (hc0 : x0.length ≤ c0) (hs0 : Sl G A0 x0) {Q : Bool → Prop} (h : slices_ContainsFunc_long x0 Q) : Calls Tryd.prog 22 #[.slice A0 x0.length c0, .func (.func 23) #[] #[]] w fun e w2 => ∃ (r0 : Bool) (L H : Gh), e = .returned (.bool r0) ∧ Inv [] G w L H w2 ∧ Q r0 := by
  unfold slices_ContainsFunc_long at h
  have hI := Inv.start (M := []) hS
  refine calls_W 9 Tryd.func22 rfl Tryd.ntmps22 rfl [.tmp 4] rfl ?_
  refine W_seq_k fun K1_ hK1_ => ?_
  refine W_region [some 4] rfl ?_
  refine Ops_step (R_assign rfl) rfl rfl ?_
  refine Ops_nil ?_
  refine then_n (hK1_ _ _ ?_)
  clear hK1_ K1_
  refine W_seq_k fun K2_ hK2_ => ?_
  refine W_region [some 5, some 6, some 7, some 8, some 4] rfl ?_
  refine Ops_step (R_move rfl) rfl rfl ?_
  refine Ops_step (R_move rfl) rfl rfl ?_
  refine Ops_call (C_func TCtB.bd30 rfl) rfl rfl ?_
  refine (slices_IndexFunc_long_ok (x0 := x0) hI.st (hg.up hI.le) hc0 hs0 h).mono ?_
  rintro _ w3_ ⟨r3_0, L3_, H3_, rfl, hI3_, h⟩
  refine Exists.elim (hI.call hI3_ (by simp)) fun L30_ h3_ => ?_
  have hz3_ := hI.size
  replace hI := h3_.1
  have u3_ := h3_.2.1
  have hl3_ := h3_.2.2
  clear h3_
  clear hI3_ u3_ hl3_
  refine ⟨_, rfl, ?_⟩
  refine Ops_step (R_geq rfl rfl) rfl rfl ?_
  refine Ops_step (R_assign rfl) rfl rfl ?_
  refine Ops_nil ?_
  refine then_n (hK2_ _ _ ?_)
  clear hK2_ K2_
  refine W_keepB [4] fun B4 hB4_ => ?_
  simp only [pickE, lookE, putE, zipE, args0, Nat.reduceAdd, Nat.zero_add, List.cons_append, List.nil_append, Nat.reduceBEq, cond_true, cond_false] at hB4_
  subst hB4_
  refine W_ret ?_
  refine ⟨_, ⟨_, _, rfl, rfl, rfl⟩, ?_⟩
  exact ⟨(decide (r3_0 ≥ 0)), _, _, rfl, hI, h⟩

set_option maxHeartbeats 4000000 in
theorem sealskinlaw08_long_ok {G : Gh} {w : World} (hS : St G w) (hg : GL G) {A0 : Option Addr} {c0 : Nat} {x0 : List (List UInt8)} (hc0 : x0.length ≤ c0) (hs0 : Sl G A0 x0) {Q : Bool → Prop} (h : sealskinlaw08_long x0 Q) : Calls Tryd.prog 10 #[.slice A0 x0.length c0] w fun e w2 => ∃ (r0 : Bool) (L H : Gh), e = .returned (.bool r0) ∧ Inv [] G w L H w2 ∧ Q r0 := by
  unfold sealskinlaw08_long at h
  have hI := Inv.start (M := []) hS
  refine calls_W 5 Tryd.func10 rfl Tryd.ntmps10 rfl [.tmp 2] rfl ?_
  refine W_seq_k fun K1_ hK1_ => ?_
  refine W_region [some 2] rfl ?_
  refine Ops_step (R_assign rfl) rfl rfl ?_
  refine Ops_nil ?_
  refine then_n (hK1_ _ _ ?_)
  clear hK1_ K1_
  refine W_seq_k fun K2_ hK2_ => ?_
  refine W_region [some 3, some 4, some 2] rfl ?_
  refine Ops_step (R_move rfl) rfl rfl ?_
  refine Ops_call (C_func TCtB.bd22 rfl) rfl rfl ?_
  refine (slices_ContainsFunc_long_ok (x0 := x0) hI.st (hg.up hI.le) hc0 hs0 h).mono ?_
  rintro _ w3_ ⟨r3_0, L3_, H3_, rfl, hI3_, h⟩
  refine Exists.elim (hI.call hI3_ (by simp)) fun L30_ h3_ => ?_
  have hz3_ := hI.size
  replace hI := h3_.1
  have u3_ := h3_.2.1
  have hl3_ := h3_.2.2
  clear h3_
  clear hI3_ u3_ hl3_
  refine ⟨_, rfl, ?_⟩
  refine Ops_step (R_assign rfl) rfl rfl ?_
  refine Ops_nil ?_
  refine then_n (hK2_ _ _ ?_)
  clear hK2_ K2_
  refine W_ret ?_
  refine ⟨_, ⟨_, _, rfl, rfl, rfl⟩, ?_⟩
  exact ⟨r3_0, _, _, rfl, hI, h⟩

set_option maxHeartbeats 4000000 in
theorem sealskinlaw08_awake_ok {G : Gh} {w : World} (hS : St G w) (hg : GL G)  {Q : Bool → Prop} (h : sealskinlaw08_awake  Q) : Calls Tryd.prog 11 #[] w fun e w2 => ∃ (r0 : Bool) (L H : Gh), e = .returned (.bool r0) ∧ Inv [] G w L H w2 ∧ Q r0 := by
  unfold sealskinlaw08_awake at h
  have hI := Inv.start (M := []) hS
  refine calls_W 71 Tryd.func11 rfl Tryd.ntmps11 rfl [.tmp 0] rfl ?_
  refine W_seq_k fun K1_ hK1_ => ?_
  refine W_region [some 0] rfl ?_
  refine Ops_step (R_assign rfl) rfl rfl ?_
  refine Ops_nil ?_
  refine then_n (hK1_ _ _ ?_)
  clear hK1_ K1_
  refine W_seq_k fun K2_ hK2_ => ?_
  refine W_drawS [some 11, some 12, some 13, some 10, some 14, some 15, some 1, some 2] (.two 0 (.l 1 (.l 2 (.q 3 (.q 4 (.q 5 (.q 6 (.q 7 .done))))))) 1 (.l 0 (.l 2 (.q 3 (.q 4 (.q 5 (.q 6 (.q 7 .done)))))))) TCtB.hm rfl (by kernel_rfl) fun ops3_ w3_ hops3_ hF3_ => ?_
  replace hI := hI.fr0 hF3_
  clear hF3_
  refine HS_two ?_ ?_
  · refine Stp_to [] _ rfl (by rw [hops3_]; kernel_rfl) (X_makeZ (n := 32) (z := (0 : UInt8)) (bytes := 1) Tryd.underlying22 (by kernel_rfl) rfl rfl rfl (by decide) (by decide)) rfl rfl ?_
    rintro _ w4_ ⟨b4_, rfl, hb4_, hB4_, hF4_⟩
    have ho4_ : OwnS w.heap.size 5 Gh.no G _ (some ⟨b4_, 0, none⟩) 32 ((List.replicate 32 (0 : UInt8)) : List UInt8) := OwnS.ofBlk hI.st hb4_ hB4_ (all2_sc' _) (flat_sc _) (by have := hI.size; omega) (by show 32 ≤ maxLen; decide)
    replace hI := hI.fr0 hF4_
    clear hF4_ hB4_
    refine ⟨trivial, ?_⟩
    have hlo5_ho4_ := ho4_.lt
    refine HS_to [] _ rfl (by rw [hops3_]; kernel_rfl) (X_makeZ (n := 8) (z := (0 : UInt8)) (bytes := 1) Tryd.underlying22 (by kernel_rfl) rfl rfl rfl (by decide) (by decide)) rfl rfl ?_
    rintro _ w5_ ⟨b5_, rfl, hb5_, hB5_, hF5_⟩
    have ho5_ : OwnS w.heap.size 5 Gh.no G _ (some ⟨b5_, 0, none⟩) 8 ((List.replicate 8 (0 : UInt8)) : List UInt8) := OwnS.ofBlk hI.st hb5_ hB5_ (all2_sc' _) (flat_sc _) (by have := hI.size; omega) (by show 8 ≤ maxLen; decide)
    replace hI := hI.fr0 hF5_
    replace ho4_ := ho4_.fr0 hF5_
    clear hF5_ hB5_
    have hsp5_ho4_ : ∀ i ∈ bk (some ⟨b5_, 0, none⟩) 8, i ∉ bk (some ⟨b4_, 0, none⟩) 32 := sep_new (fun i_ hi_ => by have := (bk_of hi_).1; simp only [blkOf, List.mem_singleton] at this; omega) hlo5_ho4_
    refine ⟨trivial, ?_⟩
    refine Exists.elim (ho4_.lend hI.st (Le.no _)) fun Hb6_0_ hb6_0_ => ?_
    refine Exists.elim (ho5_.lend hb6_0_.1 ((Le.no _).trans hb6_0_.2.1)) fun Hb6_1_ hb6_1_ => ?_
    refine HS_call [] _ rfl (by rw [hops3_]; kernel_rfl) (C_func TCtB.bd12 rfl) rfl rfl ?_
    refine (cipher_Turn_ok (x0 := ((List.replicate 32 (0 : UInt8)) : List UInt8)) (x1 := (0#64)) (x2 := ((List.replicate 8 (0 : UInt8)) : List UInt8)) hb6_1_.1 (hg.up (hI.le.trans (hb6_0_.2.1.trans hb6_1_.2.1))) (Nat.le_refl _) (hb6_0_.2.2.up hb6_1_.2.1) (Nat.le_refl _) hb6_1_.2.2 h).mono ?_
    rintro _ w6_ ⟨A6_0, c6_0, r6_0, r6_1, L6_, H6_, rfl, hI6_, ho6_0, h⟩
    refine Exists.elim (hI.callB (hb6_0_.2.1.trans hb6_1_.2.1) hI6_ (by simp)) fun L60_ h6_ => Exists.elim h6_ fun H60_ h6_ => ?_
    have hz6_ := hI.size
    replace hI := h6_.1
    have u6_ := h6_.2.1
    have hl6_ := h6_.2.2.1
    have hh6_ := h6_.2.2.2
    clear h6_
    replace ho6_0 := OwnS.backS ho6_0 hz6_ hh6_
    clear hI6_ u6_ hl6_
    refine ⟨_, rfl, trivial, ?_⟩
    refine Exists.elim (ho6_0.freeze hI) fun L7_ h7_ => Exists.elim h7_ fun H7_ h7_ => ?_
    replace hI := h7_.1
    have u7_ := h7_.2.1
    have hs7_ := h7_.2.2.1 (Le.no _)
    have hc7_ := ho6_0.cap
    clear h7_ u7_ ho6_0
    refine HS_pure (fun w_ => R_move rfl) rfl rfl ?_
    refine HS_pure (fun w_ => R_extract (v := .slice A6_0 r6_0.length c6_0) rfl rfl) rfl rfl ?_
    refine HS_pure (fun w_ => R_extract (v := vi r6_1) rfl rfl) rfl rfl ?_
    refine HS_pure (fun w_ => R_assign rfl) rfl rfl ?_
    refine HS_pure (fun w_ => R_assign rfl) rfl rfl ?_
    refine HS_nil ?_
    clear hops3_
    refine then_n (hK2_ _ _ ?_)
    clear hK2_ K2_
    refine W_keepB [1, 2] fun B8 hB8_ => ?_
    simp only [pickE, lookE, putE, zipE, args0, Nat.reduceAdd, Nat.zero_add, List.cons_append, List.nil_append, Nat.reduceBEq, cond_true, cond_false] at hB8_
    subst hB8_
    refine W_seq_k fun K9_ hK9_ => ?_
    refine W_region [some 16, some 3] rfl ?_
    refine Ops_to (X_makeZ (n := 64) (z := (0 : UInt8)) (bytes := 1) Tryd.underlying22 (by kernel_rfl) rfl rfl rfl (by decide) (by decide)) rfl rfl ?_
    rintro _ w10_ ⟨b10_, rfl, hb10_, hB10_, hF10_⟩
    have ho10_ : OwnS w.heap.size 5 Gh.no H7_ _ (some ⟨b10_, 0, none⟩) 64 ((List.replicate 64 (0 : UInt8)) : List UInt8) := OwnS.ofBlk hI.st hb10_ hB10_ (all2_sc' _) (flat_sc _) (by have := hI.size; omega) (by show 64 ≤ maxLen; decide)
    replace hI := hI.fr0 hF10_
    clear hF10_ hB10_
    refine Ops_step (R_assign rfl) rfl rfl ?_
    refine Ops_nil ?_
    refine then_n (hK9_ _ _ ?_)
    clear hK9_ K9_
    refine W_seq_k fun K11_ hK11_ => ?_
    refine W_region [some 18, some 19, some 20, some 21, some 22, some 23, some 17, some 24, some 25, some 4, some 5] rfl ?_
    refine Ops_step (R_move rfl) rfl rfl ?_
    have hlo12_ho10_ := ho10_.lt
    refine Ops_to (R_buildSlice TCtB.el22 TCtB.zr5 (by decide) (by decide) rfl rfl) rfl rfl ?_
    rintro _ w12_ ⟨b12_, rfl, hb12_, hB12_, hF12_⟩
    have ho12_ : OwnS w.heap.size 5 Gh.no H7_ _ (some ⟨b12_, 0, none⟩) 1 ([(104 : UInt8)] : List UInt8) := OwnS.ofBlk hI.st hb12_ hB12_ (all2_sc' _) rfl (by have := hI.size; omega) (by show 1 ≤ maxLen; decide)
    replace hI := hI.fr0 hF12_
    replace ho10_ := ho10_.fr0 hF12_
    clear hF12_ hB12_
    have hsp12_ho10_ : ∀ i ∈ bk (some ⟨b12_, 0, none⟩) 1, i ∉ bk (some ⟨b10_, 0, none⟩) 64 := sep_new (fun i_ hi_ => by have := (bk_of hi_).1; simp only [blkOf, List.mem_singleton] at this; omega) hlo12_ho10_
    refine Ops_to (X_convB (xs := ([(104 : UInt8)] : List UInt8)) Tryd.underlying22 Tryd.underlying5 rfl rfl (by show 0 < 1; decide) ho12_) rfl rfl ?_
    rintro _ w13_ ⟨rfl, hR13_, hF13_⟩
    refine Exists.elim (Inv.ownRd ho12_ hI hF13_ hR13_) fun L13_ h13_ => Exists.elim h13_ fun H13_ h13_ => ?_
    replace hI := h13_.1
    have u13_ := h13_.2.1
    have hs13_ := h13_.2.2
    have hc13_ := ho12_.cap
    replace hs7_ := hs7_.up u13_.ll
    replace ho10_ := ho10_.up (Le.refl _) u13_ (sep_sym hsp12_ho10_)
    clear h13_ u13_ hR13_ hF13_ ho12_
    have hlo14_ho10_ := ho10_.lt
    refine Ops_to (R_buildSlice TCtB.el22 TCtB.zr5 (by decide) (by decide) rfl rfl) rfl rfl ?_
    rintro _ w14_ ⟨b14_, rfl, hb14_, hB14_, hF14_⟩
    have ho14_ : OwnS w.heap.size 5 Gh.no H13_ _ (some ⟨b14_, 0, none⟩) 3 ([(97 : UInt8), (98 : UInt8), (99 : UInt8)] : List UInt8) := OwnS.ofBlk hI.st hb14_ hB14_ (all2_sc' _) rfl (by have := hI.size; omega) (by show 3 ≤ maxLen; decide)
    replace hI := hI.fr0 hF14_
    replace ho10_ := ho10_.fr0 hF14_
    clear hF14_ hB14_
    have hsp14_ho10_ : ∀ i ∈ bk (some ⟨b14_, 0, none⟩) 3, i ∉ bk (some ⟨b10_, 0, none⟩) 64 := sep_new (fun i_ hi_ => by have := (bk_of hi_).1; simp only [blkOf, List.mem_singleton] at this; omega) hlo14_ho10_
    refine Ops_to (X_convB (xs := ([(97 : UInt8), (98 : UInt8), (99 : UInt8)] : List UInt8)) Tryd.underlying22 Tryd.underlying5 rfl rfl (by show 0 < 3; decide) ho14_) rfl rfl ?_
    rintro _ w15_ ⟨rfl, hR15_, hF15_⟩
    refine Exists.elim (Inv.ownRd ho14_ hI hF15_ hR15_) fun L15_ h15_ => Exists.elim h15_ fun H15_ h15_ => ?_
    replace hI := h15_.1
    have u15_ := h15_.2.1
    have hs15_ := h15_.2.2
    have hc15_ := ho14_.cap
    replace hs7_ := hs7_.up u15_.ll
    replace ho10_ := ho10_.up (Le.refl _) u15_ (sep_sym hsp14_ho10_)
    replace hs13_ := hs13_.up u15_.ll
    clear h15_ u15_ hR15_ hF15_ ho14_
    refine Exists.elim (ho10_.lend hI.st (Le.no _)) fun Hb16_0_ hb16_0_ => ?_
    refine Ops_call (C_func TCtB.bd14 rfl) rfl rfl ?_
    refine (cipher_Seal_ok (x0 := ((List.replicate 64 (0 : UInt8)) : List UInt8)) (x1 := (7#64)) (x2 := ([(104 : UInt8)] : List UInt8)) (x3 := ([(97 : UInt8), (98 : UInt8), (99 : UInt8)] : List UInt8)) hb16_0_.1 (hg.up (hI.le.trans hb16_0_.2.1)) (Nat.le_refl _) hb16_0_.2.2 hc13_ ((hs13_.up hI.sub).up hb16_0_.2.1) hc15_ ((hs15_.up hI.sub).up hb16_0_.2.1) h).mono ?_
    have hlo16_0_ho10_ := ho10_.lt
    rintro _ w16_ ⟨A16_0, c16_0, r16_0, r16_1, L16_, H16_, rfl, hI16_, ho16_0, h⟩
    refine Exists.elim (hI.callB hb16_0_.2.1 hI16_ (by simp)) fun L160_ h16_ => Exists.elim h16_ fun H160_ h16_ => ?_
    have hz16_ := hI.size
    replace hI := h16_.1
    have u16_ := h16_.2.1
    have hl16_ := h16_.2.2.1
    have hh16_ := h16_.2.2.2
    clear h16_
    replace hs7_ := hs7_.up u16_.ll
    replace ho10_ := ho10_.up (Le.refl _) u16_ (by simp)
    have hsp16_0_ho10_ : ∀ i ∈ bk A16_0 c16_0, i ∉ bk (some ⟨b10_, 0, none⟩) 64 := sep_new ho16_0.off hlo16_0_ho10_
    replace ho16_0 := OwnS.backS ho16_0 hz16_ hh16_
    clear hI16_ u16_ hl16_
    refine ⟨_, rfl, ?_⟩
    refine Exists.elim (ho16_0.freeze hI) fun L17_ h17_ => Exists.elim h17_ fun H17_ h17_ => ?_
    replace hI := h17_.1
    have u17_ := h17_.2.1
    have hs17_ := h17_.2.2.1 (Le.no _)
    have hc17_ := ho16_0.cap
    replace hs7_ := hs7_.up u17_.ll
    replace ho10_ := ho10_.up (Le.refl _) u17_ (sep_sym hsp16_0_ho10_)
    clear h17_ u17_ ho16_0
    refine Ops_step (R_move rfl) rfl rfl ?_
    refine Ops_step (R_extract (v := .slice A16_0 r16_0.length c16_0) rfl rfl) rfl rfl ?_
    refine Ops_step (R_extract (v := vi r16_1) rfl rfl) rfl rfl ?_
    refine Ops_step (R_assign rfl) rfl rfl ?_
    refine Ops_step (R_assign rfl) rfl rfl ?_
    refine Ops_nil ?_
    refine then_n (hK11_ _ _ ?_)
    clear hK11_ K11_
    refine W_keepB [1, 2, 3, 4, 5] fun B18 hB18_ => ?_
    simp only [pickE, lookE, putE, zipE, args0, Nat.reduceAdd, Nat.zero_add, List.cons_append, List.nil_append, Nat.reduceBEq, cond_true, cond_false] at hB18_
    subst hB18_
    refine W_seq_k fun K19_ hK19_ => ?_
    refine W_region [some 27, some 28, some 29, some 30, some 31, some 26, some 32, some 33, some 6, some 7] rfl ?_
    refine Ops_step (R_move rfl) rfl rfl ?_
    have hlo20_ho10_ := ho10_.lt
    refine Ops_to (R_buildSlice TCtB.el22 TCtB.zr5 (by decide) (by decide) rfl rfl) rfl rfl ?_
    rintro _ w20_ ⟨b20_, rfl, hb20_, hB20_, hF20_⟩
    have ho20_ : OwnS w.heap.size 5 Gh.no H17_ _ (some ⟨b20_, 0, none⟩) 1 ([(104 : UInt8)] : List UInt8) := OwnS.ofBlk hI.st hb20_ hB20_ (all2_sc' _) rfl (by have := hI.size; omega) (by show 1 ≤ maxLen; decide)
    replace hI := hI.fr0 hF20_
    replace ho10_ := ho10_.fr0 hF20_
    clear hF20_ hB20_
    have hsp20_ho10_ : ∀ i ∈ bk (some ⟨b20_, 0, none⟩) 1, i ∉ bk (some ⟨b10_, 0, none⟩) 64 := sep_new (fun i_ hi_ => by have := (bk_of hi_).1; simp only [blkOf, List.mem_singleton] at this; omega) hlo20_ho10_
    refine Ops_to (X_convB (xs := ([(104 : UInt8)] : List UInt8)) Tryd.underlying22 Tryd.underlying5 rfl rfl (by show 0 < 1; decide) ho20_) rfl rfl ?_
    rintro _ w21_ ⟨rfl, hR21_, hF21_⟩
    refine Exists.elim (Inv.ownRd ho20_ hI hF21_ hR21_) fun L21_ h21_ => Exists.elim h21_ fun H21_ h21_ => ?_
    replace hI := h21_.1
    have u21_ := h21_.2.1
    have hs21_ := h21_.2.2
    have hc21_ := ho20_.cap
    replace hs7_ := hs7_.up u21_.ll
    replace ho10_ := ho10_.up (Le.refl _) u21_ (sep_sym hsp20_ho10_)
    replace hs17_ := hs17_.up u21_.ll
    clear h21_ u21_ hR21_ hF21_ ho20_
    refine Ops_step (R_move rfl) rfl rfl ?_
    refine Exists.elim (ho10_.lend hI.st (Le.no _)) fun Hb22_0_ hb22_0_ => ?_
    refine Ops_call (C_func TCtB.bd15 rfl) rfl rfl ?_
    refine (cipher_Open_ok (x0 := ((List.replicate 64 (0 : UInt8)) : List UInt8)) (x1 := (7#64)) (x2 := ([(104 : UInt8)] : List UInt8)) (x3 := r16_0) hb22_0_.1 (hg.up (hI.le.trans hb22_0_.2.1)) (Nat.le_refl _) hb22_0_.2.2 hc21_ ((hs21_.up hI.sub).up hb22_0_.2.1) hc17_ ((hs17_.up hI.sub).up hb22_0_.2.1) h).mono ?_
    have hlo22_0_ho10_ := ho10_.lt
    rintro _ w22_ ⟨A22_0, c22_0, r22_0, r22_1, L22_, H22_, rfl, hI22_, ho22_0, h⟩
    refine Exists.elim (hI.callB hb22_0_.2.1 hI22_ (by simp)) fun L220_ h22_ => Exists.elim h22_ fun H220_ h22_ => ?_
    have hz22_ := hI.size
    replace hI := h22_.1
    have u22_ := h22_.2.1
    have hl22_ := h22_.2.2.1
    have hh22_ := h22_.2.2.2
    clear h22_
    replace hs7_ := hs7_.up u22_.ll
    replace ho10_ := ho10_.up (Le.refl _) u22_ (by simp)
    replace hs17_ := hs17_.up u22_.ll
    have hsp22_0_ho10_ : ∀ i ∈ bk A22_0 c22_0, i ∉ bk (some ⟨b10_, 0, none⟩) 64 := sep_new ho22_0.off hlo22_0_ho10_
    replace ho22_0 := OwnS.backS ho22_0 hz22_ hh22_
    clear hI22_ u22_ hl22_
    refine ⟨_, rfl, ?_⟩
    refine Exists.elim (ho22_0.freeze hI) fun L23_ h23_ => Exists.elim h23_ fun H23_ h23_ => ?_
    replace hI := h23_.1
    have u23_ := h23_.2.1
    have hs23_ := h23_.2.2.1 (Le.no _)
    have hc23_ := ho22_0.cap
    replace hs7_ := hs7_.up u23_.ll
    replace ho10_ := ho10_.up (Le.refl _) u23_ (sep_sym hsp22_0_ho10_)
    replace hs17_ := hs17_.up u23_.ll
    clear h23_ u23_ ho22_0
    refine Ops_step (R_move rfl) rfl rfl ?_
    refine Ops_step (R_extract (v := .slice A22_0 r22_0.length c22_0) rfl rfl) rfl rfl ?_
    refine Ops_step (R_extract (v := vi r22_1) rfl rfl) rfl rfl ?_
    refine Ops_step (R_assign rfl) rfl rfl ?_
    refine Ops_step (R_assign rfl) rfl rfl ?_
    refine Ops_nil ?_
    refine then_n (hK19_ _ _ ?_)
    clear hK19_ K19_
    refine W_keepB [1, 2, 3, 4, 5, 6, 7] fun B24 hB24_ => ?_
    simp only [pickE, lookE, putE, zipE, args0, Nat.reduceAdd, Nat.zero_add, List.cons_append, List.nil_append, Nat.reduceBEq, cond_true, cond_false] at hB24_
    subst hB24_
    refine W_seq_k fun K25_ hK25_ => ?_
    refine W_region [some 35, some 36, some 37, some 38, some 39, some 34, some 40, some 41, some 8, some 9] rfl ?_
    refine Ops_step (R_move rfl) rfl rfl ?_
    have hlo26_ho10_ := ho10_.lt
    refine Ops_to (R_buildSlice TCtB.el22 TCtB.zr5 (by decide) (by decide) rfl rfl) rfl rfl ?_
    rintro _ w26_ ⟨b26_, rfl, hb26_, hB26_, hF26_⟩
    have ho26_ : OwnS w.heap.size 5 Gh.no H23_ _ (some ⟨b26_, 0, none⟩) 1 ([(105 : UInt8)] : List UInt8) := OwnS.ofBlk hI.st hb26_ hB26_ (all2_sc' _) rfl (by have := hI.size; omega) (by show 1 ≤ maxLen; decide)
    replace hI := hI.fr0 hF26_
    replace ho10_ := ho10_.fr0 hF26_
    clear hF26_ hB26_
    have hsp26_ho10_ : ∀ i ∈ bk (some ⟨b26_, 0, none⟩) 1, i ∉ bk (some ⟨b10_, 0, none⟩) 64 := sep_new (fun i_ hi_ => by have := (bk_of hi_).1; simp only [blkOf, List.mem_singleton] at this; omega) hlo26_ho10_
    refine Ops_to (X_convB (xs := ([(105 : UInt8)] : List UInt8)) Tryd.underlying22 Tryd.underlying5 rfl rfl (by show 0 < 1; decide) ho26_) rfl rfl ?_
    rintro _ w27_ ⟨rfl, hR27_, hF27_⟩
    refine Exists.elim (Inv.ownRd ho26_ hI hF27_ hR27_) fun L27_ h27_ => Exists.elim h27_ fun H27_ h27_ => ?_
    replace hI := h27_.1
    have u27_ := h27_.2.1
    have hs27_ := h27_.2.2
    have hc27_ := ho26_.cap
    replace hs7_ := hs7_.up u27_.ll
    replace ho10_ := ho10_.up (Le.refl _) u27_ (sep_sym hsp26_ho10_)
    replace hs17_ := hs17_.up u27_.ll
    replace hs23_ := hs23_.up u27_.ll
    clear h27_ u27_ hR27_ hF27_ ho26_
    refine Ops_step (R_move rfl) rfl rfl ?_
    refine Exists.elim (ho10_.lend hI.st (Le.no _)) fun Hb28_0_ hb28_0_ => ?_
    refine Ops_call (C_func TCtB.bd15 rfl) rfl rfl ?_
    refine (cipher_Open_ok (x0 := ((List.replicate 64 (0 : UInt8)) : List UInt8)) (x1 := (7#64)) (x2 := ([(105 : UInt8)] : List UInt8)) (x3 := r16_0) hb28_0_.1 (hg.up (hI.le.trans hb28_0_.2.1)) (Nat.le_refl _) hb28_0_.2.2 hc27_ ((hs27_.up hI.sub).up hb28_0_.2.1) hc17_ ((hs17_.up hI.sub).up hb28_0_.2.1) h).mono ?_
    rintro _ w28_ ⟨A28_0, c28_0, r28_0, r28_1, L28_, H28_, rfl, hI28_, ho28_0, h⟩
    refine Exists.elim (hI.callB hb28_0_.2.1 hI28_ (by simp)) fun L280_ h28_ => Exists.elim h28_ fun H280_ h28_ => ?_
    have hz28_ := hI.size
    replace hI := h28_.1
    have u28_ := h28_.2.1
    have hl28_ := h28_.2.2.1
    have hh28_ := h28_.2.2.2
    clear h28_
    replace hs7_ := hs7_.up u28_.ll
    replace hs17_ := hs17_.up u28_.ll
    replace hs23_ := hs23_.up u28_.ll
    replace ho28_0 := OwnS.backS ho28_0 hz28_ hh28_
    clear hI28_ u28_ hl28_
    refine ⟨_, rfl, ?_⟩
    refine Exists.elim (ho28_0.freeze hI) fun L29_ h29_ => Exists.elim h29_ fun H29_ h29_ => ?_
    replace hI := h29_.1
    have u29_ := h29_.2.1
    have hs29_ := h29_.2.2.1 (Le.no _)
    have hc29_ := ho28_0.cap
    replace hs7_ := hs7_.up u29_.ll
    replace hs17_ := hs17_.up u29_.ll
    replace hs23_ := hs23_.up u29_.ll
    clear h29_ u29_ ho28_0
    refine Ops_step (R_move rfl) rfl rfl ?_
    refine Ops_step (R_extract (v := .slice A28_0 r28_0.length c28_0) rfl rfl) rfl rfl ?_
    refine Ops_step (R_extract (v := vi r28_1) rfl rfl) rfl rfl ?_
    refine Ops_step (R_assign rfl) rfl rfl ?_
    refine Ops_step (R_assign rfl) rfl rfl ?_
    refine Ops_nil ?_
    refine then_n (hK25_ _ _ ?_)
    clear hK25_ K25_
    refine W_keepB [1, 2, 4, 5, 6, 7, 9] fun B30 hB30_ => ?_
    simp only [pickE, lookE, putE, zipE, args0, Nat.reduceAdd, Nat.zero_add, List.cons_append, List.nil_append, Nat.reduceBEq, cond_true, cond_false] at hB30_
    subst hB30_
    refine W_seq_k fun K31_ hK31_ => ?_
    refine W_region [some 42, some 43, some 44, some 45, some 46, some 47, some 48, some 49, some 50, some 51, some 52, some 53, some 54, some 55, some 56, some 57, some 58, some 59, some 60, some 61, some 62, some 63, some 64, some 65, some 66, some 67, some 68, some 69, some 70, some 0] rfl ?_
    refine Ops_step (R_move rfl) rfl rfl ?_
    refine Ops_to (R_buildSlice TCtB.el22 TCtB.zr5 (by decide) (by decide) rfl rfl) rfl rfl ?_
    rintro _ w32_ ⟨b32_, rfl, hb32_, hB32_, hF32_⟩
    have ho32_ : OwnS w.heap.size 5 Gh.no H29_ _ (some ⟨b32_, 0, none⟩) 8 ([(118 : UInt8), (184 : UInt8), (224 : UInt8), (173 : UInt8), (160 : UInt8), (241 : UInt8), (61 : UInt8), (144 : UInt8)] : List UInt8) := OwnS.ofBlk hI.st hb32_ hB32_ (all2_sc' _) rfl (by have := hI.size; omega) (by show 8 ≤ maxLen; decide)
    replace hI := hI.fr0 hF32_
    clear hF32_ hB32_
    refine Exists.elim (ho32_.lend hI.st (Le.no _)) fun Hb33_0_ hb33_0_ => ?_
    refine Ops_call (C_func TCtB.bd13 rfl) rfl rfl ?_
    refine (bytes_Equal_ok (x0 := r6_0) (x1 := ([(118 : UInt8), (184 : UInt8), (224 : UInt8), (173 : UInt8), (160 : UInt8), (241 : UInt8), (61 : UInt8), (144 : UInt8)] : List UInt8)) hb33_0_.1 (hg.up (hI.le.trans hb33_0_.2.1)) hc7_ ((hs7_.up hI.sub).up hb33_0_.2.1) (Nat.le_refl _) hb33_0_.2.2 h).mono ?_
    rintro _ w33_ ⟨r33_0, L33_, H33_, rfl, hI33_, h⟩
    refine Exists.elim (hI.callB hb33_0_.2.1 hI33_ (by simp)) fun L330_ h33_ => Exists.elim h33_ fun H330_ h33_ => ?_
    have hz33_ := hI.size
    replace hI := h33_.1
    have u33_ := h33_.2.1
    have hl33_ := h33_.2.2.1
    have hh33_ := h33_.2.2.2
    clear h33_
    replace hs17_ := hs17_.up u33_.ll
    replace hs23_ := hs23_.up u33_.ll
    clear hI33_ u33_ hl33_
    refine ⟨_, rfl, ?_⟩
    refine Ops_step (R_move rfl) rfl rfl ?_
    refine Ops_splitB 45 rfl (fun hg34_ => ?_) (fun hg34_ => ?_)
    · replace h := h.1 hg34_
      refine Ops_step (R_move rfl) rfl rfl ?_
      refine Ops_step (R_eql rfl rfl) rfl rfl ?_
      refine Ops_step (R_pick_true rfl rfl) rfl rfl ?_
      refine Ops_step (R_move rfl) rfl rfl ?_
      refine Ops_split 49 rfl (fun hg35_ => ?_) (fun hg35_ => ?_)
      · replace h := h.1 hg35_
        refine Ops_step (R_move rfl) rfl rfl ?_
        refine Ops_step (R_eql rfl rfl) rfl rfl ?_
        refine Ops_step (R_pick_true rfl rfl) rfl rfl ?_
        refine Ops_step (R_move rfl) rfl rfl ?_
        refine Ops_split 53 rfl (fun hg36_ => ?_) (fun hg36_ => ?_)
        · replace h := h.1 hg36_
          refine Ops_step (R_move rfl) rfl rfl ?_
          refine Ops_step (R_len Tryd.underlying22 rfl rfl) rfl rfl ?_
          refine Ops_step (R_eql rfl rfl) rfl rfl ?_
          refine Ops_step (R_pick_true rfl rfl) rfl rfl ?_
          refine Ops_step (R_move rfl) rfl rfl ?_
          refine Ops_split 58 rfl (fun hg37_ => ?_) (fun hg37_ => ?_)
          · replace h := h.1 hg37_
            refine Ops_step (R_move rfl) rfl rfl ?_
            refine Ops_step (X_bytesStr (bs := r22_0) Tryd.underlying22 Tryd.underlying5 Tryd.underlying9 rfl rfl ((hs23_.up hI.sub).fz.rd hI.st)) rfl rfl ?_
            refine Ops_step (R_strEqB rfl rfl) rfl rfl ?_
            refine Ops_step (R_pick_true rfl rfl) rfl rfl ?_
            refine Ops_step (R_move rfl) rfl rfl ?_
            refine Ops_split 63 rfl (fun hg38_ => ?_) (fun hg38_ => ?_)
            · replace h := h.1 hg38_
              refine Ops_step (R_move rfl) rfl rfl ?_
              refine Ops_step (R_eql rfl rfl) rfl rfl ?_
              refine Ops_step (R_pick_true rfl rfl) rfl rfl ?_
              refine Ops_step (R_move rfl) rfl rfl ?_
              refine Ops_split 67 rfl (fun hg39_ => ?_) (fun hg39_ => ?_)
              · replace h := h.1 hg39_
                refine Ops_step (R_move rfl) rfl rfl ?_
                refine Ops_step (R_eql rfl rfl) rfl rfl ?_
                refine Ops_step (R_pick_true rfl rfl) rfl rfl ?_
                refine Ops_step (R_assign rfl) rfl rfl ?_
                refine Ops_nil ?_
                refine then_n (hK31_ _ _ ?_)
                clear hK31_ K31_
                refine W_keepB [0] fun B40 hB40_ => ?_
                simp only [pickE, lookE, putE, zipE, args0, Nat.reduceAdd, Nat.zero_add, List.cons_append, List.nil_append, Nat.reduceBEq, cond_true, cond_false] at hB40_
                subst hB40_
                refine W_ret ?_
                refine ⟨_, ⟨_, _, rfl, rfl, rfl⟩, ?_⟩
                exact ⟨(decide (r28_1 = 121)), _, _, rfl, hI, h⟩
              · replace h := h.2 hg39_
                refine Ops_pass rfl rfl ?_
                refine Ops_pass rfl rfl ?_
                refine Ops_step (R_pick_false rfl rfl) rfl rfl ?_
                refine Ops_step (R_assign rfl) rfl rfl ?_
                refine Ops_nil ?_
                refine then_n (hK31_ _ _ ?_)
                clear hK31_ K31_
                refine W_keepB [0] fun B41 hB41_ => ?_
                simp only [pickE, lookE, putE, zipE, args0, Nat.reduceAdd, Nat.zero_add, List.cons_append, List.nil_append, Nat.reduceBEq, cond_true, cond_false] at hB41_
                subst hB41_
                refine W_ret ?_
                refine ⟨_, ⟨_, _, rfl, rfl, rfl⟩, ?_⟩
                exact ⟨false, _, _, rfl, hI, h⟩
            · replace h := h.2 hg38_
              refine Ops_pass rfl rfl ?_
              refine Ops_pass rfl rfl ?_
              refine Ops_step (R_pick_false rfl rfl) rfl rfl ?_
              refine Ops_step (R_move rfl) rfl rfl ?_
              refine Ops_pass rfl rfl ?_
              refine Ops_pass rfl rfl ?_
              refine Ops_step (R_pick_false rfl rfl) rfl rfl ?_
              refine Ops_step (R_assign rfl) rfl rfl ?_
              refine Ops_nil ?_
              refine then_n (hK31_ _ _ ?_)
              clear hK31_ K31_
              refine W_keepB [0] fun B42 hB42_ => ?_
              simp only [pickE, lookE, putE, zipE, args0, Nat.reduceAdd, Nat.zero_add, List.cons_append, List.nil_append, Nat.reduceBEq, cond_true, cond_false] at hB42_
              subst hB42_
              refine W_ret ?_
              refine ⟨_, ⟨_, _, rfl, rfl, rfl⟩, ?_⟩
              exact ⟨false, _, _, rfl, hI, h⟩
          · replace h := h.2 hg37_
            refine Ops_pass rfl rfl ?_
            refine Ops_pass rfl rfl ?_
            refine Ops_pass rfl rfl ?_
            refine Ops_step (R_pick_false rfl rfl) rfl rfl ?_
            refine Ops_step (R_move rfl) rfl rfl ?_
            refine Ops_pass rfl rfl ?_
            refine Ops_pass rfl rfl ?_
            refine Ops_step (R_pick_false rfl rfl) rfl rfl ?_
            refine Ops_step (R_move rfl) rfl rfl ?_
            refine Ops_pass rfl rfl ?_
            refine Ops_pass rfl rfl ?_
            refine Ops_step (R_pick_false rfl rfl) rfl rfl ?_
            refine Ops_step (R_assign rfl) rfl rfl ?_
            refine Ops_nil ?_
            refine then_n (hK31_ _ _ ?_)
            clear hK31_ K31_
            refine W_keepB [0] fun B43 hB43_ => ?_
            simp only [pickE, lookE, putE, zipE, args0, Nat.reduceAdd, Nat.zero_add, List.cons_append, List.nil_append, Nat.reduceBEq, cond_true, cond_false] at hB43_
            subst hB43_
            refine W_ret ?_
            refine ⟨_, ⟨_, _, rfl, rfl, rfl⟩, ?_⟩
            exact ⟨false, _, _, rfl, hI, h⟩
        · replace h := h.2 hg36_
          refine Ops_pass rfl rfl ?_
          refine Ops_pass rfl rfl ?_
          refine Ops_pass rfl rfl ?_
          refine Ops_step (R_pick_false rfl rfl) rfl rfl ?_
          refine Ops_step (R_move rfl) rfl rfl ?_
          refine Ops_pass rfl rfl ?_
          refine Ops_pass rfl rfl ?_
          refine Ops_pass rfl rfl ?_
          refine Ops_step (R_pick_false rfl rfl) rfl rfl ?_
          refine Ops_step (R_move rfl) rfl rfl ?_
          refine Ops_pass rfl rfl ?_
          refine Ops_pass rfl rfl ?_
          refine Ops_step (R_pick_false rfl rfl) rfl rfl ?_
          refine Ops_step (R_move rfl) rfl rfl ?_
          refine Ops_pass rfl rfl ?_
          refine Ops_pass rfl rfl ?_
          refine Ops_step (R_pick_false rfl rfl) rfl rfl ?_
          refine Ops_step (R_assign rfl) rfl rfl ?_
          refine Ops_nil ?_
          refine then_n (hK31_ _ _ ?_)
          clear hK31_ K31_
          refine W_keepB [0] fun B44 hB44_ => ?_
          simp only [pickE, lookE, putE, zipE, args0, Nat.reduceAdd, Nat.zero_add, List.cons_append, List.nil_append, Nat.reduceBEq, cond_true, cond_false] at hB44_
          subst hB44_
          refine W_ret ?_
          refine ⟨_, ⟨_, _, rfl, rfl, rfl⟩, ?_⟩
          exact ⟨false, _, _, rfl, hI, h⟩
      · replace h := h.2 hg35_
        refine Ops_pass rfl rfl ?_
        refine Ops_pass rfl rfl ?_
        refine Ops_step (R_pick_false rfl rfl) rfl rfl ?_
        refine Ops_step (R_move rfl) rfl rfl ?_
        refine Ops_pass rfl rfl ?_
        refine Ops_pass rfl rfl ?_
        refine Ops_pass rfl rfl ?_
        refine Ops_step (R_pick_false rfl rfl) rfl rfl ?_
        refine Ops_step (R_move rfl) rfl rfl ?_
        refine Ops_pass rfl rfl ?_
        refine Ops_pass rfl rfl ?_
        refine Ops_pass rfl rfl ?_
        refine Ops_step (R_pick_false rfl rfl) rfl rfl ?_
        refine Ops_step (R_move rfl) rfl rfl ?_
        refine Ops_pass rfl rfl ?_
        refine Ops_pass rfl rfl ?_
        refine Ops_step (R_pick_false rfl rfl) rfl rfl ?_
        refine Ops_step (R_move rfl) rfl rfl ?_
        refine Ops_pass rfl rfl ?_
        refine Ops_pass rfl rfl ?_
        refine Ops_step (R_pick_false rfl rfl) rfl rfl ?_
        refine Ops_step (R_assign rfl) rfl rfl ?_
        refine Ops_nil ?_
        refine then_n (hK31_ _ _ ?_)
        clear hK31_ K31_
        refine W_keepB [0] fun B45 hB45_ => ?_
        simp only [pickE, lookE, putE, zipE, args0, Nat.reduceAdd, Nat.zero_add, List.cons_append, List.nil_append, Nat.reduceBEq, cond_true, cond_false] at hB45_
        subst hB45_
        refine W_ret ?_
        refine ⟨_, ⟨_, _, rfl, rfl, rfl⟩, ?_⟩
        exact ⟨false, _, _, rfl, hI, h⟩
    · replace h := h.2 hg34_
      refine Ops_pass rfl rfl ?_
      refine Ops_pass rfl rfl ?_
      refine Ops_step (R_pick_false rfl rfl) rfl rfl ?_
      refine Ops_step (R_move rfl) rfl rfl ?_
      refine Ops_pass rfl rfl ?_
      refine Ops_pass rfl rfl ?_
      refine Ops_step (R_pick_false rfl rfl) rfl rfl ?_
      refine Ops_step (R_move rfl) rfl rfl ?_
      refine Ops_pass rfl rfl ?_
      refine Ops_pass rfl rfl ?_
      refine Ops_pass rfl rfl ?_
      refine Ops_step (R_pick_false rfl rfl) rfl rfl ?_
      refine Ops_step (R_move rfl) rfl rfl ?_
      refine Ops_pass rfl rfl ?_
      refine Ops_pass rfl rfl ?_
      refine Ops_pass rfl rfl ?_
      refine Ops_step (R_pick_false rfl rfl) rfl rfl ?_
      refine Ops_step (R_move rfl) rfl rfl ?_
      refine Ops_pass rfl rfl ?_
      refine Ops_pass rfl rfl ?_
      refine Ops_step (R_pick_false rfl rfl) rfl rfl ?_
      refine Ops_step (R_move rfl) rfl rfl ?_
      refine Ops_pass rfl rfl ?_
      refine Ops_pass rfl rfl ?_
      refine Ops_step (R_pick_false rfl rfl) rfl rfl ?_
      refine Ops_step (R_assign rfl) rfl rfl ?_
      refine Ops_nil ?_
      refine then_n (hK31_ _ _ ?_)
      clear hK31_ K31_
      refine W_keepB [0] fun B46 hB46_ => ?_
      simp only [pickE, lookE, putE, zipE, args0, Nat.reduceAdd, Nat.zero_add, List.cons_append, List.nil_append, Nat.reduceBEq, cond_true, cond_false] at hB46_
      subst hB46_
      refine W_ret ?_
      refine ⟨_, ⟨_, _, rfl, rfl, rfl⟩, ?_⟩
      exact ⟨false, _, _, rfl, hI, h⟩
  · refine Stp_to [] _ rfl (by rw [hops3_]; kernel_rfl) (X_makeZ (n := 8) (z := (0 : UInt8)) (bytes := 1) Tryd.underlying22 (by kernel_rfl) rfl rfl rfl (by decide) (by decide)) rfl rfl ?_
    rintro _ w4_ ⟨b4_, rfl, hb4_, hB4_, hF4_⟩
    have ho4_ : OwnS w.heap.size 5 Gh.no G _ (some ⟨b4_, 0, none⟩) 8 ((List.replicate 8 (0 : UInt8)) : List UInt8) := OwnS.ofBlk hI.st hb4_ hB4_ (all2_sc' _) (flat_sc _) (by have := hI.size; omega) (by show 8 ≤ maxLen; decide)
    replace hI := hI.fr0 hF4_
    clear hF4_ hB4_
    refine ⟨trivial, ?_⟩
    have hlo5_ho4_ := ho4_.lt
    refine HS_to [] _ rfl (by rw [hops3_]; kernel_rfl) (X_makeZ (n := 32) (z := (0 : UInt8)) (bytes := 1) Tryd.underlying22 (by kernel_rfl) rfl rfl rfl (by decide) (by decide)) rfl rfl ?_
    rintro _ w5_ ⟨b5_, rfl, hb5_, hB5_, hF5_⟩
    have ho5_ : OwnS w.heap.size 5 Gh.no G _ (some ⟨b5_, 0, none⟩) 32 ((List.replicate 32 (0 : UInt8)) : List UInt8) := OwnS.ofBlk hI.st hb5_ hB5_ (all2_sc' _) (flat_sc _) (by have := hI.size; omega) (by show 32 ≤ maxLen; decide)
    replace hI := hI.fr0 hF5_
    replace ho4_ := ho4_.fr0 hF5_
    clear hF5_ hB5_
    have hsp5_ho4_ : ∀ i ∈ bk (some ⟨b5_, 0, none⟩) 32, i ∉ bk (some ⟨b4_, 0, none⟩) 8 := sep_new (fun i_ hi_ => by have := (bk_of hi_).1; simp only [blkOf, List.mem_singleton] at this; omega) hlo5_ho4_
    refine ⟨trivial, ?_⟩
    refine Exists.elim (ho5_.lend hI.st (Le.no _)) fun Hb6_0_ hb6_0_ => ?_
    refine Exists.elim (ho4_.lend hb6_0_.1 ((Le.no _).trans hb6_0_.2.1)) fun Hb6_1_ hb6_1_ => ?_
    refine HS_call [] _ rfl (by rw [hops3_]; kernel_rfl) (C_func TCtB.bd12 rfl) rfl rfl ?_
    refine (cipher_Turn_ok (x0 := ((List.replicate 32 (0 : UInt8)) : List UInt8)) (x1 := (0#64)) (x2 := ((List.replicate 8 (0 : UInt8)) : List UInt8)) hb6_1_.1 (hg.up (hI.le.trans (hb6_0_.2.1.trans hb6_1_.2.1))) (Nat.le_refl _) (hb6_0_.2.2.up hb6_1_.2.1) (Nat.le_refl _) hb6_1_.2.2 h).mono ?_
    rintro _ w6_ ⟨A6_0, c6_0, r6_0, r6_1, L6_, H6_, rfl, hI6_, ho6_0, h⟩
    refine Exists.elim (hI.callB (hb6_0_.2.1.trans hb6_1_.2.1) hI6_ (by simp)) fun L60_ h6_ => Exists.elim h6_ fun H60_ h6_ => ?_
    have hz6_ := hI.size
    replace hI := h6_.1
    have u6_ := h6_.2.1
    have hl6_ := h6_.2.2.1
    have hh6_ := h6_.2.2.2
    clear h6_
    replace ho6_0 := OwnS.backS ho6_0 hz6_ hh6_
    clear hI6_ u6_ hl6_
    refine ⟨_, rfl, trivial, ?_⟩
    refine Exists.elim (ho6_0.freeze hI) fun L7_ h7_ => Exists.elim h7_ fun H7_ h7_ => ?_
    replace hI := h7_.1
    have u7_ := h7_.2.1
    have hs7_ := h7_.2.2.1 (Le.no _)
    have hc7_ := ho6_0.cap
    clear h7_ u7_ ho6_0
    refine HS_pure (fun w_ => R_move rfl) rfl rfl ?_
    refine HS_pure (fun w_ => R_extract (v := .slice A6_0 r6_0.length c6_0) rfl rfl) rfl rfl ?_
    refine HS_pure (fun w_ => R_extract (v := vi r6_1) rfl rfl) rfl rfl ?_
    refine HS_pure (fun w_ => R_assign rfl) rfl rfl ?_
    refine HS_pure (fun w_ => R_assign rfl) rfl rfl ?_
    refine HS_nil ?_
    clear hops3_
    refine then_n (hK2_ _ _ ?_)
    clear hK2_ K2_
    refine W_keepB [1, 2] fun B8 hB8_ => ?_
    simp only [pickE, lookE, putE, zipE, args0, Nat.reduceAdd, Nat.zero_add, List.cons_append, List.nil_append, Nat.reduceBEq, cond_true, cond_false] at hB8_
    subst hB8_
    refine W_seq_k fun K9_ hK9_ => ?_
    refine W_region [some 16, some 3] rfl ?_
    refine Ops_to (X_makeZ (n := 64) (z := (0 : UInt8)) (bytes := 1) Tryd.underlying22 (by kernel_rfl) rfl rfl rfl (by decide) (by decide)) rfl rfl ?_
    rintro _ w10_ ⟨b10_, rfl, hb10_, hB10_, hF10_⟩
    have ho10_ : OwnS w.heap.size 5 Gh.no H7_ _ (some ⟨b10_, 0, none⟩) 64 ((List.replicate 64 (0 : UInt8)) : List UInt8) := OwnS.ofBlk hI.st hb10_ hB10_ (all2_sc' _) (flat_sc _) (by have := hI.size; omega) (by show 64 ≤ maxLen; decide)
    replace hI := hI.fr0 hF10_
    clear hF10_ hB10_
    refine Ops_step (R_assign rfl) rfl rfl ?_
    refine Ops_nil ?_
    refine then_n (hK9_ _ _ ?_)
    clear hK9_ K9_
    refine W_seq_k fun K11_ hK11_ => ?_
    refine W_region [some 18, some 19, some 20, some 21, some 22, some 23, some 17, some 24, some 25, some 4, some 5] rfl ?_
    refine Ops_step (R_move rfl) rfl rfl ?_
    have hlo12_ho10_ := ho10_.lt
    refine Ops_to (R_buildSlice TCtB.el22 TCtB.zr5 (by decide) (by decide) rfl rfl) rfl rfl ?_
    rintro _ w12_ ⟨b12_, rfl, hb12_, hB12_, hF12_⟩
    have ho12_ : OwnS w.heap.size 5 Gh.no H7_ _ (some ⟨b12_, 0, none⟩) 1 ([(104 : UInt8)] : List UInt8) := OwnS.ofBlk hI.st hb12_ hB12_ (all2_sc' _) rfl (by have := hI.size; omega) (by show 1 ≤ maxLen; decide)
    replace hI := hI.fr0 hF12_
    replace ho10_ := ho10_.fr0 hF12_
    clear hF12_ hB12_
    have hsp12_ho10_ : ∀ i ∈ bk (some ⟨b12_, 0, none⟩) 1, i ∉ bk (some ⟨b10_, 0, none⟩) 64 := sep_new (fun i_ hi_ => by have := (bk_of hi_).1; simp only [blkOf, List.mem_singleton] at this; omega) hlo12_ho10_
    refine Ops_to (X_convB (xs := ([(104 : UInt8)] : List UInt8)) Tryd.underlying22 Tryd.underlying5 rfl rfl (by show 0 < 1; decide) ho12_) rfl rfl ?_
    rintro _ w13_ ⟨rfl, hR13_, hF13_⟩
    refine Exists.elim (Inv.ownRd ho12_ hI hF13_ hR13_) fun L13_ h13_ => Exists.elim h13_ fun H13_ h13_ => ?_
    replace hI := h13_.1
    have u13_ := h13_.2.1
    have hs13_ := h13_.2.2
    have hc13_ := ho12_.cap
    replace hs7_ := hs7_.up u13_.ll
    replace ho10_ := ho10_.up (Le.refl _) u13_ (sep_sym hsp12_ho10_)
    clear h13_ u13_ hR13_ hF13_ ho12_
    have hlo14_ho10_ := ho10_.lt
    refine Ops_to (R_buildSlice TCtB.el22 TCtB.zr5 (by decide) (by decide) rfl rfl) rfl rfl ?_
    rintro _ w14_ ⟨b14_, rfl, hb14_, hB14_, hF14_⟩
    have ho14_ : OwnS w.heap.size 5 Gh.no H13_ _ (some ⟨b14_, 0, none⟩) 3 ([(97 : UInt8), (98 : UInt8), (99 : UInt8)] : List UInt8) := OwnS.ofBlk hI.st hb14_ hB14_ (all2_sc' _) rfl (by have := hI.size; omega) (by show 3 ≤ maxLen; decide)
    replace hI := hI.fr0 hF14_
    replace ho10_ := ho10_.fr0 hF14_
    clear hF14_ hB14_
    have hsp14_ho10_ : ∀ i ∈ bk (some ⟨b14_, 0, none⟩) 3, i ∉ bk (some ⟨b10_, 0, none⟩) 64 := sep_new (fun i_ hi_ => by have := (bk_of hi_).1; simp only [blkOf, List.mem_singleton] at this; omega) hlo14_ho10_
    refine Ops_to (X_convB (xs := ([(97 : UInt8), (98 : UInt8), (99 : UInt8)] : List UInt8)) Tryd.underlying22 Tryd.underlying5 rfl rfl (by show 0 < 3; decide) ho14_) rfl rfl ?_
    rintro _ w15_ ⟨rfl, hR15_, hF15_⟩
    refine Exists.elim (Inv.ownRd ho14_ hI hF15_ hR15_) fun L15_ h15_ => Exists.elim h15_ fun H15_ h15_ => ?_
    replace hI := h15_.1
    have u15_ := h15_.2.1
    have hs15_ := h15_.2.2
    have hc15_ := ho14_.cap
    replace hs7_ := hs7_.up u15_.ll
    replace ho10_ := ho10_.up (Le.refl _) u15_ (sep_sym hsp14_ho10_)
    replace hs13_ := hs13_.up u15_.ll
    clear h15_ u15_ hR15_ hF15_ ho14_
    refine Exists.elim (ho10_.lend hI.st (Le.no _)) fun Hb16_0_ hb16_0_ => ?_
    refine Ops_call (C_func TCtB.bd14 rfl) rfl rfl ?_
    refine (cipher_Seal_ok (x0 := ((List.replicate 64 (0 : UInt8)) : List UInt8)) (x1 := (7#64)) (x2 := ([(104 : UInt8)] : List UInt8)) (x3 := ([(97 : UInt8), (98 : UInt8), (99 : UInt8)] : List UInt8)) hb16_0_.1 (hg.up (hI.le.trans hb16_0_.2.1)) (Nat.le_refl _) hb16_0_.2.2 hc13_ ((hs13_.up hI.sub).up hb16_0_.2.1) hc15_ ((hs15_.up hI.sub).up hb16_0_.2.1) h).mono ?_
    have hlo16_0_ho10_ := ho10_.lt
    rintro _ w16_ ⟨A16_0, c16_0, r16_0, r16_1, L16_, H16_, rfl, hI16_, ho16_0, h⟩
    refine Exists.elim (hI.callB hb16_0_.2.1 hI16_ (by simp)) fun L160_ h16_ => Exists.elim h16_ fun H160_ h16_ => ?_
    have hz16_ := hI.size
    replace hI := h16_.1
    have u16_ := h16_.2.1
    have hl16_ := h16_.2.2.1
    have hh16_ := h16_.2.2.2
    clear h16_
    replace hs7_ := hs7_.up u16_.ll
    replace ho10_ := ho10_.up (Le.refl _) u16_ (by simp)
    have hsp16_0_ho10_ : ∀ i ∈ bk A16_0 c16_0, i ∉ bk (some ⟨b10_, 0, none⟩) 64 := sep_new ho16_0.off hlo16_0_ho10_
    replace ho16_0 := OwnS.backS ho16_0 hz16_ hh16_
    clear hI16_ u16_ hl16_
    refine ⟨_, rfl, ?_⟩
    refine Exists.elim (ho16_0.freeze hI) fun L17_ h17_ => Exists.elim h17_ fun H17_ h17_ => ?_
    replace hI := h17_.1
    have u17_ := h17_.2.1
    have hs17_ := h17_.2.2.1 (Le.no _)
    have hc17_ := ho16_0.cap
    replace hs7_ := hs7_.up u17_.ll
    replace ho10_ := ho10_.up (Le.refl _) u17_ (sep_sym hsp16_0_ho10_)
    clear h17_ u17_ ho16_0
    refine Ops_step (R_move rfl) rfl rfl ?_
    refine Ops_step (R_extract (v := .slice A16_0 r16_0.length c16_0) rfl rfl) rfl rfl ?_
    refine Ops_step (R_extract (v := vi r16_1) rfl rfl) rfl rfl ?_
    refine Ops_step (R_assign rfl) rfl rfl ?_
    refine Ops_step (R_assign rfl) rfl rfl ?_
    refine Ops_nil ?_
    refine then_n (hK11_ _ _ ?_)
    clear hK11_ K11_
    refine W_keepB [1, 2, 3, 4, 5] fun B18 hB18_ => ?_
    simp only [pickE, lookE, putE, zipE, args0, Nat.reduceAdd, Nat.zero_add, List.cons_append, List.nil_append, Nat.reduceBEq, cond_true, cond_false] at hB18_
    subst hB18_
    refine W_seq_k fun K19_ hK19_ => ?_
    refine W_region [some 27, some 28, some 29, some 30, some 31, some 26, some 32, some 33, some 6, some 7] rfl ?_
    refine Ops_step (R_move rfl) rfl rfl ?_
    have hlo20_ho10_ := ho10_.lt
    refine Ops_to (R_buildSlice TCtB.el22 TCtB.zr5 (by decide) (by decide) rfl rfl) rfl rfl ?_
    rintro _ w20_ ⟨b20_, rfl, hb20_, hB20_, hF20_⟩
    have ho20_ : OwnS w.heap.size 5 Gh.no H17_ _ (some ⟨b20_, 0, none⟩) 1 ([(104 : UInt8)] : List UInt8) := OwnS.ofBlk hI.st hb20_ hB20_ (all2_sc' _) rfl (by have := hI.size; omega) (by show 1 ≤ maxLen; decide)
    replace hI := hI.fr0 hF20_
    replace ho10_ := ho10_.fr0 hF20_
    clear hF20_ hB20_
    have hsp20_ho10_ : ∀ i ∈ bk (some ⟨b20_, 0, none⟩) 1, i ∉ bk (some ⟨b10_, 0, none⟩) 64 := sep_new (fun i_ hi_ => by have := (bk_of hi_).1; simp only [blkOf, List.mem_singleton] at this; omega) hlo20_ho10_
    refine Ops_to (X_convB (xs := ([(104 : UInt8)] : List UInt8)) Tryd.underlying22 Tryd.underlying5 rfl rfl (by show 0 < 1; decide) ho20_) rfl rfl ?_
    rintro _ w21_ ⟨rfl, hR21_, hF21_⟩
    refine Exists.elim (Inv.ownRd ho20_ hI hF21_ hR21_) fun L21_ h21_ => Exists.elim h21_ fun H21_ h21_ => ?_
    replace hI := h21_.1
    have u21_ := h21_.2.1
    have hs21_ := h21_.2.2
    have hc21_ := ho20_.cap
    replace hs7_ := hs7_.up u21_.ll
    replace ho10_ := ho10_.up (Le.refl _) u21_ (sep_sym hsp20_ho10_)
    replace hs17_ := hs17_.up u21_.ll
    clear h21_ u21_ hR21_ hF21_ ho20_
    refine Ops_step (R_move rfl) rfl rfl ?_
    refine Exists.elim (ho10_.lend hI.st (Le.no _)) fun Hb22_0_ hb22_0_ => ?_
    refine Ops_call (C_func TCtB.bd15 rfl) rfl rfl ?_
    refine (cipher_Open_ok (x0 := ((List.replicate 64 (0 : UInt8)) : List UInt8)) (x1 := (7#64)) (x2 := ([(104 : UInt8)] : List UInt8)) (x3 := r16_0) hb22_0_.1 (hg.up (hI.le.trans hb22_0_.2.1)) (Nat.le_refl _) hb22_0_.2.2 hc21_ ((hs21_.up hI.sub).up hb22_0_.2.1) hc17_ ((hs17_.up hI.sub).up hb22_0_.2.1) h).mono ?_
    have hlo22_0_ho10_ := ho10_.lt
    rintro _ w22_ ⟨A22_0, c22_0, r22_0, r22_1, L22_, H22_, rfl, hI22_, ho22_0, h⟩
    refine Exists.elim (hI.callB hb22_0_.2.1 hI22_ (by simp)) fun L220_ h22_ => Exists.elim h22_ fun H220_ h22_ => ?_
    have hz22_ := hI.size
    replace hI := h22_.1
    have u22_ := h22_.2.1
    have hl22_ := h22_.2.2.1
    have hh22_ := h22_.2.2.2
    clear h22_
    replace hs7_ := hs7_.up u22_.ll
    replace ho10_ := ho10_.up (Le.refl _) u22_ (by simp)
    replace hs17_ := hs17_.up u22_.ll
    have hsp22_0_ho10_ : ∀ i ∈ bk A22_0 c22_0, i ∉ bk (some ⟨b10_, 0, none⟩) 64 := sep_new ho22_0.off hlo22_0_ho10_
    replace ho22_0 := OwnS.backS ho22_0 hz22_ hh22_
    clear hI22_ u22_ hl22_
    refine ⟨_, rfl, ?_⟩
    refine Exists.elim (ho22_0.freeze hI) fun L23_ h23_ => Exists.elim h23_ fun H23_ h23_ => ?_
    replace hI := h23_.1
    have u23_ := h23_.2.1
    have hs23_ := h23_.2.2.1 (Le.no _)
    have hc23_ := ho22_0.cap
    replace hs7_ := hs7_.up u23_.ll
    replace ho10_ := ho10_.up (Le.refl _) u23_ (sep_sym hsp22_0_ho10_)
    replace hs17_ := hs17_.up u23_.ll
    clear h23_ u23_ ho22_0
    refine Ops_step (R_move rfl) rfl rfl ?_
    refine Ops_step (R_extract (v := .slice A22_0 r22_0.length c22_0) rfl rfl) rfl rfl ?_
    refine Ops_step (R_extract (v := vi r22_1) rfl rfl) rfl rfl ?_
    refine Ops_step (R_assign rfl) rfl rfl ?_
    refine Ops_step (R_assign rfl) rfl rfl ?_
    refine Ops_nil ?_
    refine then_n (hK19_ _ _ ?_)
    clear hK19_ K19_
    refine W_keepB [1, 2, 3, 4, 5, 6, 7] fun B24 hB24_ => ?_
    simp only [pickE, lookE, putE, zipE, args0, Nat.reduceAdd, Nat.zero_add, List.cons_append, List.nil_append, Nat.reduceBEq, cond_true, cond_false] at hB24_
    subst hB24_
    refine W_seq_k fun K25_ hK25_ => ?_
    refine W_region [some 35, some 36, some 37, some 38, some 39, some 34, some 40, some 41, some 8, some 9] rfl ?_
    refine Ops_step (R_move rfl) rfl rfl ?_
    have hlo26_ho10_ := ho10_.lt
    refine Ops_to (R_buildSlice TCtB.el22 TCtB.zr5 (by decide) (by decide) rfl rfl) rfl rfl ?_
    rintro _ w26_ ⟨b26_, rfl, hb26_, hB26_, hF26_⟩
    have ho26_ : OwnS w.heap.size 5 Gh.no H23_ _ (some ⟨b26_, 0, none⟩) 1 ([(105 : UInt8)] : List UInt8) := OwnS.ofBlk hI.st hb26_ hB26_ (all2_sc' _) rfl (by have := hI.size; omega) (by show 1 ≤ maxLen; decide)
    replace hI := hI.fr0 hF26_
    replace ho10_ := ho10_.fr0 hF26_
    clear hF26_ hB26_
    have hsp26_ho10_ : ∀ i ∈ bk (some ⟨b26_, 0, none⟩) 1, i ∉ bk (some ⟨b10_, 0, none⟩) 64 := sep_new (fun i_ hi_ => by have := (bk_of hi_).1; simp only [blkOf, List.mem_singleton] at this; omega) hlo26_ho10_
    refine Ops_to (X_convB (xs := ([(105 : UInt8)] : List UInt8)) Tryd.underlying22 Tryd.underlying5 rfl rfl (by show 0 < 1; decide) ho26_) rfl rfl ?_
    rintro _ w27_ ⟨rfl, hR27_, hF27_⟩
    refine Exists.elim (Inv.ownRd ho26_ hI hF27_ hR27_) fun L27_ h27_ => Exists.elim h27_ fun H27_ h27_ => ?_
    replace hI := h27_.1
    have u27_ := h27_.2.1
    have hs27_ := h27_.2.2
    have hc27_ := ho26_.cap
    replace hs7_ := hs7_.up u27_.ll
    replace ho10_ := ho10_.up (Le.refl _) u27_ (sep_sym hsp26_ho10_)
    replace hs17_ := hs17_.up u27_.ll
    replace hs23_ := hs23_.up u27_.ll
    clear h27_ u27_ hR27_ hF27_ ho26_
    refine Ops_step (R_move rfl) rfl rfl ?_
    refine Exists.elim (ho10_.lend hI.st (Le.no _)) fun Hb28_0_ hb28_0_ => ?_
    refine Ops_call (C_func TCtB.bd15 rfl) rfl rfl ?_
    refine (cipher_Open_ok (x0 := ((List.replicate 64 (0 : UInt8)) : List UInt8)) (x1 := (7#64)) (x2 := ([(105 : UInt8)] : List UInt8)) (x3 := r16_0) hb28_0_.1 (hg.up (hI.le.trans hb28_0_.2.1)) (Nat.le_refl _) hb28_0_.2.2 hc27_ ((hs27_.up hI.sub).up hb28_0_.2.1) hc17_ ((hs17_.up hI.sub).up hb28_0_.2.1) h).mono ?_
    rintro _ w28_ ⟨A28_0, c28_0, r28_0, r28_1, L28_, H28_, rfl, hI28_, ho28_0, h⟩
    refine Exists.elim (hI.callB hb28_0_.2.1 hI28_ (by simp)) fun L280_ h28_ => Exists.elim h28_ fun H280_ h28_ => ?_
    have hz28_ := hI.size
    replace hI := h28_.1
    have u28_ := h28_.2.1
    have hl28_ := h28_.2.2.1
    have hh28_ := h28_.2.2.2
    clear h28_
    replace hs7_ := hs7_.up u28_.ll
    replace hs17_ := hs17_.up u28_.ll
    replace hs23_ := hs23_.up u28_.ll
    replace ho28_0 := OwnS.backS ho28_0 hz28_ hh28_
    clear hI28_ u28_ hl28_
    refine ⟨_, rfl, ?_⟩
    refine Exists.elim (ho28_0.freeze hI) fun L29_ h29_ => Exists.elim h29_ fun H29_ h29_ => ?_
    replace hI := h29_.1
    have u29_ := h29_.2.1
    have hs29_ := h29_.2.2.1 (Le.no _)
    have hc29_ := ho28_0.cap
    replace hs7_ := hs7_.up u29_.ll
    replace hs17_ := hs17_.up u29_.ll
    replace hs23_ := hs23_.up u29_.ll
    clear h29_ u29_ ho28_0
    refine Ops_step (R_move rfl) rfl rfl ?_
    refine Ops_step (R_extract (v := .slice A28_0 r28_0.length c28_0) rfl rfl) rfl rfl ?_
    refine Ops_step (R_extract (v := vi r28_1) rfl rfl) rfl rfl ?_
    refine Ops_step (R_assign rfl) rfl rfl ?_
    refine Ops_step (R_assign rfl) rfl rfl ?_
    refine Ops_nil ?_
    refine then_n (hK25_ _ _ ?_)
    clear hK25_ K25_
    refine W_keepB [1, 2, 4, 5, 6, 7, 9] fun B30 hB30_ => ?_
    simp only [pickE, lookE, putE, zipE, args0, Nat.reduceAdd, Nat.zero_add, List.cons_append, List.nil_append, Nat.reduceBEq, cond_true, cond_false] at hB30_
    subst hB30_
    refine W_seq_k fun K31_ hK31_ => ?_
    refine W_region [some 42, some 43, some 44, some 45, some 46, some 47, some 48, some 49, some 50, some 51, some 52, some 53, some 54, some 55, some 56, some 57, some 58, some 59, some 60, some 61, some 62, some 63, some 64, some 65, some 66, some 67, some 68, some 69, some 70, some 0] rfl ?_
    refine Ops_step (R_move rfl) rfl rfl ?_
    refine Ops_to (R_buildSlice TCtB.el22 TCtB.zr5 (by decide) (by decide) rfl rfl) rfl rfl ?_
    rintro _ w32_ ⟨b32_, rfl, hb32_, hB32_, hF32_⟩
    have ho32_ : OwnS w.heap.size 5 Gh.no H29_ _ (some ⟨b32_, 0, none⟩) 8 ([(118 : UInt8), (184 : UInt8), (224 : UInt8), (173 : UInt8), (160 : UInt8), (241 : UInt8), (61 : UInt8), (144 : UInt8)] : List UInt8) := OwnS.ofBlk hI.st hb32_ hB32_ (all2_sc' _) rfl (by have := hI.size; omega) (by show 8 ≤ maxLen; decide)
    replace hI := hI.fr0 hF32_
    clear hF32_ hB32_
    refine Exists.elim (ho32_.lend hI.st (Le.no _)) fun Hb33_0_ hb33_0_ => ?_
    refine Ops_call (C_func TCtB.bd13 rfl) rfl rfl ?_
    refine (bytes_Equal_ok (x0 := r6_0) (x1 := ([(118 : UInt8), (184 : UInt8), (224 : UInt8), (173 : UInt8), (160 : UInt8), (241 : UInt8), (61 : UInt8), (144 : UInt8)] : List UInt8)) hb33_0_.1 (hg.up (hI.le.trans hb33_0_.2.1)) hc7_ ((hs7_.up hI.sub).up hb33_0_.2.1) (Nat.le_refl _) hb33_0_.2.2 h).mono ?_
    rintro _ w33_ ⟨r33_0, L33_, H33_, rfl, hI33_, h⟩
    refine Exists.elim (hI.callB hb33_0_.2.1 hI33_ (by simp)) fun L330_ h33_ => Exists.elim h33_ fun H330_ h33_ => ?_
    have hz33_ := hI.size
    replace hI := h33_.1
    have u33_ := h33_.2.1
    have hl33_ := h33_.2.2.1
    have hh33_ := h33_.2.2.2
    clear h33_
    replace hs17_ := hs17_.up u33_.ll
    replace hs23_ := hs23_.up u33_.ll
    clear hI33_ u33_ hl33_
    refine ⟨_, rfl, ?_⟩
    refine Ops_step (R_move rfl) rfl rfl ?_
    refine Ops_splitB 45 rfl (fun hg34_ => ?_) (fun hg34_ => ?_)
    · replace h := h.1 hg34_
      refine Ops_step (R_move rfl) rfl rfl ?_
      refine Ops_step (R_eql rfl rfl) rfl rfl ?_
      refine Ops_step (R_pick_true rfl rfl) rfl rfl ?_
      refine Ops_step (R_move rfl) rfl rfl ?_
      refine Ops_split 49 rfl (fun hg35_ => ?_) (fun hg35_ => ?_)
      · replace h := h.1 hg35_
        refine Ops_step (R_move rfl) rfl rfl ?_
        refine Ops_step (R_eql rfl rfl) rfl rfl ?_
        refine Ops_step (R_pick_true rfl rfl) rfl rfl ?_
        refine Ops_step (R_move rfl) rfl rfl ?_
        refine Ops_split 53 rfl (fun hg36_ => ?_) (fun hg36_ => ?_)
        · replace h := h.1 hg36_
          refine Ops_step (R_move rfl) rfl rfl ?_
          refine Ops_step (R_len Tryd.underlying22 rfl rfl) rfl rfl ?_
          refine Ops_step (R_eql rfl rfl) rfl rfl ?_
          refine Ops_step (R_pick_true rfl rfl) rfl rfl ?_
          refine Ops_step (R_move rfl) rfl rfl ?_
          refine Ops_split 58 rfl (fun hg37_ => ?_) (fun hg37_ => ?_)
          · replace h := h.1 hg37_
            refine Ops_step (R_move rfl) rfl rfl ?_
            refine Ops_step (X_bytesStr (bs := r22_0) Tryd.underlying22 Tryd.underlying5 Tryd.underlying9 rfl rfl ((hs23_.up hI.sub).fz.rd hI.st)) rfl rfl ?_
            refine Ops_step (R_strEqB rfl rfl) rfl rfl ?_
            refine Ops_step (R_pick_true rfl rfl) rfl rfl ?_
            refine Ops_step (R_move rfl) rfl rfl ?_
            refine Ops_split 63 rfl (fun hg38_ => ?_) (fun hg38_ => ?_)
            · replace h := h.1 hg38_
              refine Ops_step (R_move rfl) rfl rfl ?_
              refine Ops_step (R_eql rfl rfl) rfl rfl ?_
              refine Ops_step (R_pick_true rfl rfl) rfl rfl ?_
              refine Ops_step (R_move rfl) rfl rfl ?_
              refine Ops_split 67 rfl (fun hg39_ => ?_) (fun hg39_ => ?_)
              · replace h := h.1 hg39_
                refine Ops_step (R_move rfl) rfl rfl ?_
                refine Ops_step (R_eql rfl rfl) rfl rfl ?_
                refine Ops_step (R_pick_true rfl rfl) rfl rfl ?_
                refine Ops_step (R_assign rfl) rfl rfl ?_
                refine Ops_nil ?_
                refine then_n (hK31_ _ _ ?_)
                clear hK31_ K31_
                refine W_keepB [0] fun B40 hB40_ => ?_
                simp only [pickE, lookE, putE, zipE, args0, Nat.reduceAdd, Nat.zero_add, List.cons_append, List.nil_append, Nat.reduceBEq, cond_true, cond_false] at hB40_
                subst hB40_
                refine W_ret ?_
                refine ⟨_, ⟨_, _, rfl, rfl, rfl⟩, ?_⟩
                exact ⟨(decide (r28_1 = 121)), _, _, rfl, hI, h⟩
              · replace h := h.2 hg39_
                refine Ops_pass rfl rfl ?_
                refine Ops_pass rfl rfl ?_
                refine Ops_step (R_pick_false rfl rfl) rfl rfl ?_
                refine Ops_step (R_assign rfl) rfl rfl ?_
                refine Ops_nil ?_
                refine then_n (hK31_ _ _ ?_)
                clear hK31_ K31_
                refine W_keepB [0] fun B41 hB41_ => ?_
                simp only [pickE, lookE, putE, zipE, args0, Nat.reduceAdd, Nat.zero_add, List.cons_append, List.nil_append, Nat.reduceBEq, cond_true, cond_false] at hB41_
                subst hB41_
                refine W_ret ?_
                refine ⟨_, ⟨_, _, rfl, rfl, rfl⟩, ?_⟩
                exact ⟨false, _, _, rfl, hI, h⟩
            · replace h := h.2 hg38_
              refine Ops_pass rfl rfl ?_
              refine Ops_pass rfl rfl ?_
              refine Ops_step (R_pick_false rfl rfl) rfl rfl ?_
              refine Ops_step (R_move rfl) rfl rfl ?_
              refine Ops_pass rfl rfl ?_
              refine Ops_pass rfl rfl ?_
              refine Ops_step (R_pick_false rfl rfl) rfl rfl ?_
              refine Ops_step (R_assign rfl) rfl rfl ?_
              refine Ops_nil ?_
              refine then_n (hK31_ _ _ ?_)
              clear hK31_ K31_
              refine W_keepB [0] fun B42 hB42_ => ?_
              simp only [pickE, lookE, putE, zipE, args0, Nat.reduceAdd, Nat.zero_add, List.cons_append, List.nil_append, Nat.reduceBEq, cond_true, cond_false] at hB42_
              subst hB42_
              refine W_ret ?_
              refine ⟨_, ⟨_, _, rfl, rfl, rfl⟩, ?_⟩
              exact ⟨false, _, _, rfl, hI, h⟩
          · replace h := h.2 hg37_
            refine Ops_pass rfl rfl ?_
            refine Ops_pass rfl rfl ?_
            refine Ops_pass rfl rfl ?_
            refine Ops_step (R_pick_false rfl rfl) rfl rfl ?_
            refine Ops_step (R_move rfl) rfl rfl ?_
            refine Ops_pass rfl rfl ?_
            refine Ops_pass rfl rfl ?_
            refine Ops_step (R_pick_false rfl rfl) rfl rfl ?_
            refine Ops_step (R_move rfl) rfl rfl ?_
            refine Ops_pass rfl rfl ?_
            refine Ops_pass rfl rfl ?_
            refine Ops_step (R_pick_false rfl rfl) rfl rfl ?_
            refine Ops_step (R_assign rfl) rfl rfl ?_
            refine Ops_nil ?_
            refine then_n (hK31_ _ _ ?_)
            clear hK31_ K31_
            refine W_keepB [0] fun B43 hB43_ => ?_
            simp only [pickE, lookE, putE, zipE, args0, Nat.reduceAdd, Nat.zero_add, List.cons_append, List.nil_append, Nat.reduceBEq, cond_true, cond_false] at hB43_
            subst hB43_
            refine W_ret ?_
            refine ⟨_, ⟨_, _, rfl, rfl, rfl⟩, ?_⟩
            exact ⟨false, _, _, rfl, hI, h⟩
        · replace h := h.2 hg36_
          refine Ops_pass rfl rfl ?_
          refine Ops_pass rfl rfl ?_
          refine Ops_pass rfl rfl ?_
          refine Ops_step (R_pick_false rfl rfl) rfl rfl ?_
          refine Ops_step (R_move rfl) rfl rfl ?_
          refine Ops_pass rfl rfl ?_
          refine Ops_pass rfl rfl ?_
          refine Ops_pass rfl rfl ?_
          refine Ops_step (R_pick_false rfl rfl) rfl rfl ?_
          refine Ops_step (R_move rfl) rfl rfl ?_
          refine Ops_pass rfl rfl ?_
          refine Ops_pass rfl rfl ?_
          refine Ops_step (R_pick_false rfl rfl) rfl rfl ?_
          refine Ops_step (R_move rfl) rfl rfl ?_
          refine Ops_pass rfl rfl ?_
          refine Ops_pass rfl rfl ?_
          refine Ops_step (R_pick_false rfl rfl) rfl rfl ?_
          refine Ops_step (R_assign rfl) rfl rfl ?_
          refine Ops_nil ?_
          refine then_n (hK31_ _ _ ?_)
          clear hK31_ K31_
          refine W_keepB [0] fun B44 hB44_ => ?_
          simp only [pickE, lookE, putE, zipE, args0, Nat.reduceAdd, Nat.zero_add, List.cons_append, List.nil_append, Nat.reduceBEq, cond_true, cond_false] at hB44_
          subst hB44_
          refine W_ret ?_
          refine ⟨_, ⟨_, _, rfl, rfl, rfl⟩, ?_⟩
          exact ⟨false, _, _, rfl, hI, h⟩
      · replace h := h.2 hg35_
        refine Ops_pass rfl rfl ?_
        refine Ops_pass rfl rfl ?_
        refine Ops_step (R_pick_false rfl rfl) rfl rfl ?_
        refine Ops_step (R_move rfl) rfl rfl ?_
        refine Ops_pass rfl rfl ?_
        refine Ops_pass rfl rfl ?_
        refine Ops_pass rfl rfl ?_
        refine Ops_step (R_pick_false rfl rfl) rfl rfl ?_
        refine Ops_step (R_move rfl) rfl rfl ?_
        refine Ops_pass rfl rfl ?_
        refine Ops_pass rfl rfl ?_
        refine Ops_pass rfl rfl ?_
        refine Ops_step (R_pick_false rfl rfl) rfl rfl ?_
        refine Ops_step (R_move rfl) rfl rfl ?_
        refine Ops_pass rfl rfl ?_
        refine Ops_pass rfl rfl ?_
        refine Ops_step (R_pick_false rfl rfl) rfl rfl ?_
        refine Ops_step (R_move rfl) rfl rfl ?_
        refine Ops_pass rfl rfl ?_
        refine Ops_pass rfl rfl ?_
        refine Ops_step (R_pick_false rfl rfl) rfl rfl ?_
        refine Ops_step (R_assign rfl) rfl rfl ?_
        refine Ops_nil ?_
        refine then_n (hK31_ _ _ ?_)
        clear hK31_ K31_
        refine W_keepB [0] fun B45 hB45_ => ?_
        simp only [pickE, lookE, putE, zipE, args0, Nat.reduceAdd, Nat.zero_add, List.cons_append, List.nil_append, Nat.reduceBEq, cond_true, cond_false] at hB45_
        subst hB45_
        refine W_ret ?_
        refine ⟨_, ⟨_, _, rfl, rfl, rfl⟩, ?_⟩
        exact ⟨false, _, _, rfl, hI, h⟩
    · replace h := h.2 hg34_
      refine Ops_pass rfl rfl ?_
      refine Ops_pass rfl rfl ?_
      refine Ops_step (R_pick_false rfl rfl) rfl rfl ?_
      refine Ops_step (R_move rfl) rfl rfl ?_
      refine Ops_pass rfl rfl ?_
      refine Ops_pass rfl rfl ?_
      refine Ops_step (R_pick_false rfl rfl) rfl rfl ?_
      refine Ops_step (R_move rfl) rfl rfl ?_
      refine Ops_pass rfl rfl ?_
      refine Ops_pass rfl rfl ?_
      refine Ops_pass rfl rfl ?_
      refine Ops_step (R_pick_false rfl rfl) rfl rfl ?_
      refine Ops_step (R_move rfl) rfl rfl ?_
      refine Ops_pass rfl rfl ?_
      refine Ops_pass rfl rfl ?_
      refine Ops_pass rfl rfl ?_
      refine Ops_step (R_pick_false rfl rfl) rfl rfl ?_
      refine Ops_step (R_move rfl) rfl rfl ?_
      refine Ops_pass rfl rfl ?_
      refine Ops_pass rfl rfl ?_
      refine Ops_step (R_pick_false rfl rfl) rfl rfl ?_
      refine Ops_step (R_move rfl) rfl rfl ?_
      refine Ops_pass rfl rfl ?_
      refine Ops_pass rfl rfl ?_
      refine Ops_step (R_pick_false rfl rfl) rfl rfl ?_
      refine Ops_step (R_assign rfl) rfl rfl ?_
      refine Ops_nil ?_
      refine then_n (hK31_ _ _ ?_)
      clear hK31_ K31_
      refine W_keepB [0] fun B46 hB46_ => ?_
      simp only [pickE, lookE, putE, zipE, args0, Nat.reduceAdd, Nat.zero_add, List.cons_append, List.nil_append, Nat.reduceBEq, cond_true, cond_false] at hB46_
      subst hB46_
      refine W_ret ?_
      refine ⟨_, ⟨_, _, rfl, rfl, rfl⟩, ?_⟩
      exact ⟨false, _, _, rfl, hI, h⟩

set_option maxHeartbeats 4000000 in
theorem sealskinlaw08_CipherTurns_ok {G : Gh} {w : World} (hS : St G w) (hg : GL G) {A0 : Option Addr} {c0 : Nat} {x0 : List UInt8} (hc0 : x0.length ≤ c0) (hs0 : Sl G A0 x0) {x1 : BitVec 64} {A2 : Option Addr} {c2 : Nat} {x2 : List UInt8} (hc2 : x2.length ≤ c2) (hs2 : Sl G A2 x2) {Q : Bool → Prop} (h : sealskinlaw08_CipherTurns x0 x1 x2 Q) : Calls Tryd.prog 5 #[.slice A0 x0.length c0, w64 x1, .slice A2 x2.length c2] w fun e w2 => ∃ (r0 : Bool) (L H : Gh), e = .returned (.bool r0) ∧ Inv [] G w L H w2 ∧ Q r0 := by
  unfold sealskinlaw08_CipherTurns at h
  have hI := Inv.start (M := []) hS
  refine calls_W 57 Tryd.func5 rfl Tryd.ntmps5 rfl [.tmp 6] rfl ?_
  refine W_seq_k fun K1_ hK1_ => ?_
  refine W_region [some 6] rfl ?_
  refine Ops_step (R_assign rfl) rfl rfl ?_
  refine Ops_nil ?_
  refine then_n (hK1_ _ _ ?_)
  clear hK1_ K1_
  refine W_seq_k fun K2_ hK2_ => ?_
  refine W_seq_k fun K3_ hK3_ => ?_
  refine W_region [some 13, some 14, some 15, some 16] rfl ?_
  refine Ops_step (R_move rfl) rfl rfl ?_
  refine Ops_step (R_move rfl) rfl rfl ?_
  refine Ops_to (R_buildSlice TCtB.el37 TCtB.zr22 (by decide) (by decide) rfl rfl) rfl rfl ?_
  rintro _ w4_ ⟨b4_, rfl, hb4_, hB4_, hF4_⟩
  have ho4_ : OwnS w.heap.size 22 G G _ (some ⟨b4_, 0, none⟩) 2 ([x0, x2] : List (List UInt8)) := OwnS.ofBlk (css := [[.slice A0 x0.length c0], [.slice A2 x2.length c2]]) hI.st hb4_ hB4_ (.cons ⟨A0, c0, rfl, hc0, hs0⟩ (.cons ⟨A2, c2, rfl, hc2, hs2⟩ .nil)) rfl (by have := hI.size; omega) (by show 2 ≤ maxLen; decide)
  replace hI := hI.fr0 hF4_
  clear hF4_ hB4_
  refine Exists.elim (ho4_.lend hI.st (Le.refl _)) fun Hb5_0_ hb5_0_ => ?_
  refine Ops_call (C_func TCtB.bd10 rfl) rfl rfl ?_
  refine (sealskinlaw08_long_ok (x0 := ([x0, x2] : List (List UInt8))) hb5_0_.1 (hg.up (hI.le.trans hb5_0_.2.1)) (Nat.le_refl _) hb5_0_.2.2 h).mono ?_
  rintro _ w5_ ⟨r5_0, L5_, H5_, rfl, hI5_, h⟩
  refine Exists.elim (hI.callB hb5_0_.2.1 hI5_ (by simp)) fun L50_ h5_ => Exists.elim h5_ fun H50_ h5_ => ?_
  have hz5_ := hI.size
  replace hI := h5_.1
  have u5_ := h5_.2.1
  have hl5_ := h5_.2.2.1
  have hh5_ := h5_.2.2.2
  clear h5_
  replace hs0 := hs0.up u5_.hh
  replace hs2 := hs2.up u5_.hh
  clear hI5_ u5_ hl5_
  refine ⟨_, rfl, ?_⟩
  refine Ops_nil ?_
  refine then_n (hK3_ _ _ ?_)
  clear hK3_ K3_
  refine W_cond rfl (fun hc6_ => ?_) (fun hc6_ => ?_)
  · replace h := h.1 hc6_
    refine W_seq_k fun K7_ hK7_ => ?_
    refine W_region [some 17, some 6] rfl ?_
    refine Ops_call (C_func TCtB.bd11 rfl) rfl rfl ?_
    refine (sealskinlaw08_awake_ok  hI.st (hg.up hI.le)  h).mono ?_
    rintro _ w8_ ⟨r8_0, L8_, H8_, rfl, hI8_, h⟩
    refine Exists.elim (hI.call hI8_ (by simp)) fun L80_ h8_ => ?_
    have hz8_ := hI.size
    replace hI := h8_.1
    have u8_ := h8_.2.1
    have hl8_ := h8_.2.2
    clear h8_
    clear hI8_ u8_ hl8_
    refine ⟨_, rfl, ?_⟩
    refine Ops_step (R_assign rfl) rfl rfl ?_
    refine Ops_nil ?_
    refine then_n (hK7_ _ _ ?_)
    clear hK7_ K7_
    refine W_keepB [6] fun B9 hB9_ => ?_
    simp only [pickE, lookE, putE, zipE, args0, Nat.reduceAdd, Nat.zero_add, List.cons_append, List.nil_append, Nat.reduceBEq, cond_true, cond_false] at hB9_
    subst hB9_
    refine W_ret ?_
    refine then_ret ?_
    clear hK2_ K2_
    refine ⟨_, ⟨_, _, rfl, rfl, rfl⟩, ?_⟩
    exact ⟨r8_0, _, _, rfl, hI, h⟩
  · replace h := h.2 hc6_
    refine W_skip ?_
    refine then_n (hK2_ _ _ ?_)
    clear hK2_ K2_
    refine W_seq_k fun K10_ hK10_ => ?_
    refine W_region [some 18, some 19, some 20, some 21, some 7, some 8] rfl ?_
    refine Ops_step (R_move rfl) rfl rfl ?_
    refine Ops_call (C_func TCtB.bd16 rfl) rfl rfl ?_
    refine (slices_Clone_sl_byte_byte_ok (x0 := x2) hI.st (hg.up hI.le) hc2 hs2 h).mono ?_
    rintro _ w11_ ⟨A11_0, c11_0, r11_0, L11_, H11_, rfl, hI11_, ho11_0, h⟩
    refine Exists.elim (hI.call hI11_ (by simp)) fun L110_ h11_ => ?_
    have hz11_ := hI.size
    replace hI := h11_.1
    have u11_ := h11_.2.1
    have hl11_ := h11_.2.2
    clear h11_
    replace hs0 := hs0.up u11_.hh
    replace hs2 := hs2.up u11_.hh
    replace ho11_0 := OwnS.backS ho11_0 hz11_ (Le.refl _)
    clear hI11_ u11_ hl11_
    refine ⟨_, rfl, ?_⟩
    refine Exists.elim (ho11_0.freeze hI) fun L12_ h12_ => Exists.elim h12_ fun H12_ h12_ => ?_
    replace hI := h12_.1
    have u12_ := h12_.2.1
    have hs12_ := h12_.2.2.1 (Le.no _)
    have hc12_ := ho11_0.cap
    replace hs0 := hs0.up u12_.hh
    replace hs2 := hs2.up u12_.hh
    clear h12_ u12_ ho11_0
    refine Ops_step (R_move rfl) rfl rfl ?_
    refine Ops_call (C_func TCtB.bd16 rfl) rfl rfl ?_
    refine (slices_Clone_sl_byte_byte_ok (x0 := x0) hI.st (hg.up hI.le) hc0 hs0 h).mono ?_
    rintro _ w13_ ⟨A13_0, c13_0, r13_0, L13_, H13_, rfl, hI13_, ho13_0, h⟩
    refine Exists.elim (hI.call hI13_ (by simp)) fun L130_ h13_ => ?_
    have hz13_ := hI.size
    replace hI := h13_.1
    have u13_ := h13_.2.1
    have hl13_ := h13_.2.2
    clear h13_
    replace hs0 := hs0.up u13_.hh
    replace hs2 := hs2.up u13_.hh
    replace hs12_ := hs12_.up u13_.ll
    replace ho13_0 := OwnS.backS ho13_0 hz13_ (Le.refl _)
    clear hI13_ u13_ hl13_
    refine ⟨_, rfl, ?_⟩
    refine Exists.elim (ho13_0.freeze hI) fun L14_ h14_ => Exists.elim h14_ fun H14_ h14_ => ?_
    replace hI := h14_.1
    have u14_ := h14_.2.1
    have hs14_ := h14_.2.2.1 (Le.no _)
    have hc14_ := ho13_0.cap
    replace hs0 := hs0.up u14_.hh
    replace hs2 := hs2.up u14_.hh
    replace hs12_ := hs12_.up u14_.ll
    clear h14_ u14_ ho13_0
    refine Ops_step (R_assign rfl) rfl rfl ?_
    refine Ops_step (R_assign rfl) rfl rfl ?_
    refine Ops_nil ?_
    refine then_n (hK10_ _ _ ?_)
    clear hK10_ K10_
    refine W_keepB [0, 1, 2, 7, 8] fun B15 hB15_ => ?_
    simp only [pickE, lookE, putE, zipE, args0, Nat.reduceAdd, Nat.zero_add, List.cons_append, List.nil_append, Nat.reduceBEq, cond_true, cond_false] at hB15_
    subst hB15_
    refine W_seq_k fun K16_ hK16_ => ?_
    refine W_region [some 23, some 24, some 25, some 26, some 22, some 27, some 28, some 9, some 10] rfl ?_
    refine Ops_step (R_move rfl) rfl rfl ?_
    refine Ops_step (R_move rfl) rfl rfl ?_
    refine Ops_step (R_move rfl) rfl rfl ?_
    refine Ops_call (C_func TCtB.bd12 rfl) rfl rfl ?_
    refine (cipher_Turn_ok (x0 := r13_0) (x1 := x1) (x2 := r11_0) hI.st (hg.up hI.le) hc14_ (hs14_.up hI.sub) hc12_ (hs12_.up hI.sub) h).mono ?_
    rintro _ w17_ ⟨A17_0, c17_0, r17_0, r17_1, L17_, H17_, rfl, hI17_, ho17_0, h⟩
    refine Exists.elim (hI.call hI17_ (by simp)) fun L170_ h17_ => ?_
    have hz17_ := hI.size
    replace hI := h17_.1
    have u17_ := h17_.2.1
    have hl17_ := h17_.2.2
    clear h17_
    replace hs0 := hs0.up u17_.hh
    replace hs2 := hs2.up u17_.hh
    replace hs12_ := hs12_.up u17_.ll
    replace hs14_ := hs14_.up u17_.ll
    replace ho17_0 := OwnS.backS ho17_0 hz17_ (Le.refl _)
    clear hI17_ u17_ hl17_
    refine ⟨_, rfl, ?_⟩
    refine Exists.elim (ho17_0.freeze hI) fun L18_ h18_ => Exists.elim h18_ fun H18_ h18_ => ?_
    replace hI := h18_.1
    have u18_ := h18_.2.1
    have hs18_ := h18_.2.2.1 (Le.no _)
    have hc18_ := ho17_0.cap
    replace hs0 := hs0.up u18_.hh
    replace hs2 := hs2.up u18_.hh
    replace hs12_ := hs12_.up u18_.ll
    replace hs14_ := hs14_.up u18_.ll
    clear h18_ u18_ ho17_0
    refine Ops_step (R_move rfl) rfl rfl ?_
    refine Ops_step (R_extract (v := .slice A17_0 r17_0.length c17_0) rfl rfl) rfl rfl ?_
    refine Ops_step (R_extract (v := vi r17_1) rfl rfl) rfl rfl ?_
    refine Ops_step (R_assign rfl) rfl rfl ?_
    refine Ops_step (R_assign rfl) rfl rfl ?_
    refine Ops_nil ?_
    refine then_n (hK16_ _ _ ?_)
    clear hK16_ K16_
    refine W_keepB [0, 1, 2, 7, 8, 9, 10] fun B19 hB19_ => ?_
    simp only [pickE, lookE, putE, zipE, args0, Nat.reduceAdd, Nat.zero_add, List.cons_append, List.nil_append, Nat.reduceBEq, cond_true, cond_false] at hB19_
    subst hB19_
    refine W_seq_k fun K20_ hK20_ => ?_
    refine W_region [some 30, some 31, some 32, some 33, some 29, some 34, some 35, some 11, some 12] rfl ?_
    refine Ops_step (R_move rfl) rfl rfl ?_
    refine Ops_step (R_move rfl) rfl rfl ?_
    refine Ops_step (R_move rfl) rfl rfl ?_
    refine Ops_call (C_func TCtB.bd17 rfl) rfl rfl ?_
    refine (sealskinref08_Turn_ok (x0 := x0) (x1 := x1) (x2 := x2) hI.st (hg.up hI.le) hc0 hs0 hc2 hs2 h).mono ?_
    rintro _ w21_ ⟨A21_0, c21_0, r21_0, r21_1, L21_, H21_, rfl, hI21_, ho21_0, h⟩
    refine Exists.elim (hI.call hI21_ (by simp)) fun L210_ h21_ => ?_
    have hz21_ := hI.size
    replace hI := h21_.1
    have u21_ := h21_.2.1
    have hl21_ := h21_.2.2
    clear h21_
    replace hs0 := hs0.up u21_.hh
    replace hs2 := hs2.up u21_.hh
    replace hs12_ := hs12_.up u21_.ll
    replace hs14_ := hs14_.up u21_.ll
    replace hs18_ := hs18_.up u21_.ll
    replace ho21_0 := OwnS.backS ho21_0 hz21_ (Le.refl _)
    clear hI21_ u21_ hl21_
    refine ⟨_, rfl, ?_⟩
    refine Exists.elim (ho21_0.freeze hI) fun L22_ h22_ => Exists.elim h22_ fun H22_ h22_ => ?_
    replace hI := h22_.1
    have u22_ := h22_.2.1
    have hs22_ := h22_.2.2.1 (Le.no _)
    have hc22_ := ho21_0.cap
    replace hs0 := hs0.up u22_.hh
    replace hs2 := hs2.up u22_.hh
    replace hs12_ := hs12_.up u22_.ll
    replace hs14_ := hs14_.up u22_.ll
    replace hs18_ := hs18_.up u22_.ll
    clear h22_ u22_ ho21_0
    refine Ops_step (R_move rfl) rfl rfl ?_
    refine Ops_step (R_extract (v := .slice A21_0 r21_0.length c21_0) rfl rfl) rfl rfl ?_
    refine Ops_step (R_extract (v := vi r21_1) rfl rfl) rfl rfl ?_
    refine Ops_step (R_assign rfl) rfl rfl ?_
    refine Ops_step (R_assign rfl) rfl rfl ?_
    refine Ops_nil ?_
    refine then_n (hK20_ _ _ ?_)
    clear hK20_ K20_
    refine W_keepB [0, 2, 7, 8, 9, 10, 11, 12] fun B23 hB23_ => ?_
    simp only [pickE, lookE, putE, zipE, args0, Nat.reduceAdd, Nat.zero_add, List.cons_append, List.nil_append, Nat.reduceBEq, cond_true, cond_false] at hB23_
    subst hB23_
    refine W_seq_k fun K24_ hK24_ => ?_
    refine W_region [some 36, some 37, some 38, some 39, some 40, some 41, some 42, some 43, some 44, some 45, some 46, some 47, some 48, some 49, some 50, some 51, some 52, some 53, some 54, some 55, some 56, some 6] rfl ?_
    refine Ops_step (R_move rfl) rfl rfl ?_
    refine Ops_step (R_move rfl) rfl rfl ?_
    refine Ops_call (C_func TCtB.bd13 rfl) rfl rfl ?_
    refine (bytes_Equal_ok (x0 := r17_0) (x1 := r21_0) hI.st (hg.up hI.le) hc18_ (hs18_.up hI.sub) hc22_ (hs22_.up hI.sub) h).mono ?_
    rintro _ w25_ ⟨r25_0, L25_, H25_, rfl, hI25_, h⟩
    refine Exists.elim (hI.call hI25_ (by simp)) fun L250_ h25_ => ?_
    have hz25_ := hI.size
    replace hI := h25_.1
    have u25_ := h25_.2.1
    have hl25_ := h25_.2.2
    clear h25_
    replace hs0 := hs0.up u25_.hh
    replace hs2 := hs2.up u25_.hh
    replace hs12_ := hs12_.up u25_.ll
    replace hs14_ := hs14_.up u25_.ll
    clear hI25_ u25_ hl25_
    refine ⟨_, rfl, ?_⟩
    refine Ops_step (R_move rfl) rfl rfl ?_
    refine Ops_splitB 39 rfl (fun hg26_ => ?_) (fun hg26_ => ?_)
    · replace h := h.1 hg26_
      refine Ops_step (R_move rfl) rfl rfl ?_
      refine Ops_step (R_move rfl) rfl rfl ?_
      refine Ops_step (R_eql rfl rfl) rfl rfl ?_
      refine Ops_step (R_pick_true rfl rfl) rfl rfl ?_
      refine Ops_step (R_move rfl) rfl rfl ?_
      refine Ops_split 44 rfl (fun hg27_ => ?_) (fun hg27_ => ?_)
      · replace h := h.1 hg27_
        refine Ops_step (R_move rfl) rfl rfl ?_
        refine Ops_step (R_move rfl) rfl rfl ?_
        refine Ops_call (C_func TCtB.bd13 rfl) rfl rfl ?_
        refine (bytes_Equal_ok (x0 := r11_0) (x1 := x2) hI.st (hg.up hI.le) hc12_ (hs12_.up hI.sub) hc2 hs2 h).mono ?_
        rintro _ w28_ ⟨r28_0, L28_, H28_, rfl, hI28_, h⟩
        refine Exists.elim (hI.call hI28_ (by simp)) fun L280_ h28_ => ?_
        have hz28_ := hI.size
        replace hI := h28_.1
        have u28_ := h28_.2.1
        have hl28_ := h28_.2.2
        clear h28_
        replace hs0 := hs0.up u28_.hh
        replace hs14_ := hs14_.up u28_.ll
        clear hI28_ u28_ hl28_
        refine ⟨_, rfl, ?_⟩
        refine Ops_step (R_pick_true rfl rfl) rfl rfl ?_
        refine Ops_step (R_move rfl) rfl rfl ?_
        refine Ops_splitB 49 rfl (fun hg29_ => ?_) (fun hg29_ => ?_)
        · replace h := h.1 hg29_
          refine Ops_step (R_move rfl) rfl rfl ?_
          refine Ops_step (R_move rfl) rfl rfl ?_
          refine Ops_call (C_func TCtB.bd13 rfl) rfl rfl ?_
          refine (bytes_Equal_ok (x0 := r13_0) (x1 := x0) hI.st (hg.up hI.le) hc14_ (hs14_.up hI.sub) hc0 hs0 h).mono ?_
          rintro _ w30_ ⟨r30_0, L30_, H30_, rfl, hI30_, h⟩
          refine Exists.elim (hI.call hI30_ (by simp)) fun L300_ h30_ => ?_
          have hz30_ := hI.size
          replace hI := h30_.1
          have u30_ := h30_.2.1
          have hl30_ := h30_.2.2
          clear h30_
          clear hI30_ u30_ hl30_
          refine ⟨_, rfl, ?_⟩
          refine Ops_step (R_pick_true rfl rfl) rfl rfl ?_
          refine Ops_step (R_move rfl) rfl rfl ?_
          refine Ops_splitB 54 rfl (fun hg31_ => ?_) (fun hg31_ => ?_)
          · replace h := h.1 hg31_
            refine Ops_call (C_func TCtB.bd11 rfl) rfl rfl ?_
            refine (sealskinlaw08_awake_ok  hI.st (hg.up hI.le)  h).mono ?_
            rintro _ w32_ ⟨r32_0, L32_, H32_, rfl, hI32_, h⟩
            refine Exists.elim (hI.call hI32_ (by simp)) fun L320_ h32_ => ?_
            have hz32_ := hI.size
            replace hI := h32_.1
            have u32_ := h32_.2.1
            have hl32_ := h32_.2.2
            clear h32_
            clear hI32_ u32_ hl32_
            refine ⟨_, rfl, ?_⟩
            refine Ops_step (R_pick_true rfl rfl) rfl rfl ?_
            refine Ops_step (R_assign rfl) rfl rfl ?_
            refine Ops_nil ?_
            refine then_n (hK24_ _ _ ?_)
            clear hK24_ K24_
            refine W_keepB [6] fun B33 hB33_ => ?_
            simp only [pickE, lookE, putE, zipE, args0, Nat.reduceAdd, Nat.zero_add, List.cons_append, List.nil_append, Nat.reduceBEq, cond_true, cond_false] at hB33_
            subst hB33_
            refine W_ret ?_
            refine ⟨_, ⟨_, _, rfl, rfl, rfl⟩, ?_⟩
            exact ⟨r32_0, _, _, rfl, hI, h⟩
          · replace h := h.2 hg31_
            refine Ops_pass rfl rfl ?_
            refine Ops_step (R_pick_false rfl rfl) rfl rfl ?_
            refine Ops_step (R_assign rfl) rfl rfl ?_
            refine Ops_nil ?_
            refine then_n (hK24_ _ _ ?_)
            clear hK24_ K24_
            refine W_keepB [6] fun B34 hB34_ => ?_
            simp only [pickE, lookE, putE, zipE, args0, Nat.reduceAdd, Nat.zero_add, List.cons_append, List.nil_append, Nat.reduceBEq, cond_true, cond_false] at hB34_
            subst hB34_
            refine W_ret ?_
            refine ⟨_, ⟨_, _, rfl, rfl, rfl⟩, ?_⟩
            exact ⟨false, _, _, rfl, hI, h⟩
        · replace h := h.2 hg29_
          refine Ops_pass rfl rfl ?_
          refine Ops_pass rfl rfl ?_
          refine Ops_pass rfl rfl ?_
          refine Ops_step (R_pick_false rfl rfl) rfl rfl ?_
          refine Ops_step (R_move rfl) rfl rfl ?_
          refine Ops_pass rfl rfl ?_
          refine Ops_step (R_pick_false rfl rfl) rfl rfl ?_
          refine Ops_step (R_assign rfl) rfl rfl ?_
          refine Ops_nil ?_
          refine then_n (hK24_ _ _ ?_)
          clear hK24_ K24_
          refine W_keepB [6] fun B35 hB35_ => ?_
          simp only [pickE, lookE, putE, zipE, args0, Nat.reduceAdd, Nat.zero_add, List.cons_append, List.nil_append, Nat.reduceBEq, cond_true, cond_false] at hB35_
          subst hB35_
          refine W_ret ?_
          refine ⟨_, ⟨_, _, rfl, rfl, rfl⟩, ?_⟩
          exact ⟨false, _, _, rfl, hI, h⟩
      · replace h := h.2 hg27_
        refine Ops_pass rfl rfl ?_
        refine Ops_pass rfl rfl ?_
        refine Ops_pass rfl rfl ?_
        refine Ops_step (R_pick_false rfl rfl) rfl rfl ?_
        refine Ops_step (R_move rfl) rfl rfl ?_
        refine Ops_pass rfl rfl ?_
        refine Ops_pass rfl rfl ?_
        refine Ops_pass rfl rfl ?_
        refine Ops_step (R_pick_false rfl rfl) rfl rfl ?_
        refine Ops_step (R_move rfl) rfl rfl ?_
        refine Ops_pass rfl rfl ?_
        refine Ops_step (R_pick_false rfl rfl) rfl rfl ?_
        refine Ops_step (R_assign rfl) rfl rfl ?_
        refine Ops_nil ?_
        refine then_n (hK24_ _ _ ?_)
        clear hK24_ K24_
        refine W_keepB [6] fun B36 hB36_ => ?_
        simp only [pickE, lookE, putE, zipE, args0, Nat.reduceAdd, Nat.zero_add, List.cons_append, List.nil_append, Nat.reduceBEq, cond_true, cond_false] at hB36_
        subst hB36_
        refine W_ret ?_
        refine ⟨_, ⟨_, _, rfl, rfl, rfl⟩, ?_⟩
        exact ⟨false, _, _, rfl, hI, h⟩
    · replace h := h.2 hg26_
      refine Ops_pass rfl rfl ?_
      refine Ops_pass rfl rfl ?_
      refine Ops_pass rfl rfl ?_
      refine Ops_step (R_pick_false rfl rfl) rfl rfl ?_
      refine Ops_step (R_move rfl) rfl rfl ?_
      refine Ops_pass rfl rfl ?_
      refine Ops_pass rfl rfl ?_
      refine Ops_pass rfl rfl ?_
      refine Ops_step (R_pick_false rfl rfl) rfl rfl ?_
      refine Ops_step (R_move rfl) rfl rfl ?_
      refine Ops_pass rfl rfl ?_
      refine Ops_pass rfl rfl ?_
      refine Ops_pass rfl rfl ?_
      refine Ops_step (R_pick_false rfl rfl) rfl rfl ?_
      refine Ops_step (R_move rfl) rfl rfl ?_
      refine Ops_pass rfl rfl ?_
      refine Ops_step (R_pick_false rfl rfl) rfl rfl ?_
      refine Ops_step (R_assign rfl) rfl rfl ?_
      refine Ops_nil ?_
      refine then_n (hK24_ _ _ ?_)
      clear hK24_ K24_
      refine W_keepB [6] fun B37 hB37_ => ?_
      simp only [pickE, lookE, putE, zipE, args0, Nat.reduceAdd, Nat.zero_add, List.cons_append, List.nil_append, Nat.reduceBEq, cond_true, cond_false] at hB37_
      subst hB37_
      refine W_ret ?_
      refine ⟨_, ⟨_, _, rfl, rfl, rfl⟩, ?_⟩
      exact ⟨false, _, _, rfl, hI, h⟩

set_option maxHeartbeats 4000000 in
theorem sealskinlaw08_CipherSeals_ok {G : Gh} {w : World} (hS : St G w) (hg : GL G) {A0 : Option Addr} {c0 : Nat} {x0 : List UInt8} (hc0 : x0.length ≤ c0) (hs0 : Sl G A0 x0) {x1 : BitVec 64} {A2 : Option Addr} {c2 : Nat} {x2 : List UInt8} (hc2 : x2.length ≤ c2) (hs2 : Sl G A2 x2) {A3 : Option Addr} {c3 : Nat} {x3 : List UInt8} (hc3 : x3.length ≤ c3) (hs3 : Sl G A3 x3) {Q : Bool → Prop} (h : sealskinlaw08_CipherSeals x0 x1 x2 x3 Q) : Calls Tryd.prog 6 #[.slice A0 x0.length c0, w64 x1, .slice A2 x2.length c2, .slice A3 x3.length c3] w fun e w2 => ∃ (r0 : Bool) (L H : Gh), e = .returned (.bool r0) ∧ Inv [] G w L H w2 ∧ Q r0 := by
  unfold sealskinlaw08_CipherSeals at h
  have hI := Inv.start (M := []) hS
  refine calls_W 54 Tryd.func6 rfl Tryd.ntmps6 rfl [.tmp 8] rfl ?_
  refine W_seq_k fun K1_ hK1_ => ?_
  refine W_region [some 8] rfl ?_
  refine Ops_step (R_assign rfl) rfl rfl ?_
  refine Ops_nil ?_
  refine then_n (hK1_ _ _ ?_)
  clear hK1_ K1_
  refine W_seq_k fun K2_ hK2_ => ?_
  refine W_seq_k fun K3_ hK3_ => ?_
  refine W_region [some 14, some 15, some 16, some 17, some 18] rfl ?_
  refine Ops_step (R_move rfl) rfl rfl ?_
  refine Ops_step (R_move rfl) rfl rfl ?_
  refine Ops_step (R_move rfl) rfl rfl ?_
  refine Ops_to (R_buildSlice TCtB.el37 TCtB.zr22 (by decide) (by decide) rfl rfl) rfl rfl ?_
  rintro _ w4_ ⟨b4_, rfl, hb4_, hB4_, hF4_⟩
  have ho4_ : OwnS w.heap.size 22 G G _ (some ⟨b4_, 0, none⟩) 3 ([x0, x2, x3] : List (List UInt8)) := OwnS.ofBlk (css := [[.slice A0 x0.length c0], [.slice A2 x2.length c2], [.slice A3 x3.length c3]]) hI.st hb4_ hB4_ (.cons ⟨A0, c0, rfl, hc0, hs0⟩ (.cons ⟨A2, c2, rfl, hc2, hs2⟩ (.cons ⟨A3, c3, rfl, hc3, hs3⟩ .nil))) rfl (by have := hI.size; omega) (by show 3 ≤ maxLen; decide)
  replace hI := hI.fr0 hF4_
  clear hF4_ hB4_
  refine Exists.elim (ho4_.lend hI.st (Le.refl _)) fun Hb5_0_ hb5_0_ => ?_
  refine Ops_call (C_func TCtB.bd10 rfl) rfl rfl ?_
  refine (sealskinlaw08_long_ok (x0 := ([x0, x2, x3] : List (List UInt8))) hb5_0_.1 (hg.up (hI.le.trans hb5_0_.2.1)) (Nat.le_refl _) hb5_0_.2.2 h).mono ?_
  rintro _ w5_ ⟨r5_0, L5_, H5_, rfl, hI5_, h⟩
  refine Exists.elim (hI.callB hb5_0_.2.1 hI5_ (by simp)) fun L50_ h5_ => Exists.elim h5_ fun H50_ h5_ => ?_
  have hz5_ := hI.size
  replace hI := h5_.1
  have u5_ := h5_.2.1
  have hl5_ := h5_.2.2.1
  have hh5_ := h5_.2.2.2
  clear h5_
  replace hs0 := hs0.up u5_.hh
  replace hs2 := hs2.up u5_.hh
  replace hs3 := hs3.up u5_.hh
  clear hI5_ u5_ hl5_
  refine ⟨_, rfl, ?_⟩
  refine Ops_nil ?_
  refine then_n (hK3_ _ _ ?_)
  clear hK3_ K3_
  refine W_cond rfl (fun hc6_ => ?_) (fun hc6_ => ?_)
  · replace h := h.1 hc6_
    refine W_seq_k fun K7_ hK7_ => ?_
    refine W_region [some 19, some 8] rfl ?_
    refine Ops_call (C_func TCtB.bd11 rfl) rfl rfl ?_
    refine (sealskinlaw08_awake_ok  hI.st (hg.up hI.le)  h).mono ?_
    rintro _ w8_ ⟨r8_0, L8_, H8_, rfl, hI8_, h⟩
    refine Exists.elim (hI.call hI8_ (by simp)) fun L80_ h8_ => ?_
    have hz8_ := hI.size
    replace hI := h8_.1
    have u8_ := h8_.2.1
    have hl8_ := h8_.2.2
    clear h8_
    clear hI8_ u8_ hl8_
    refine ⟨_, rfl, ?_⟩
    refine Ops_step (R_assign rfl) rfl rfl ?_
    refine Ops_nil ?_
    refine then_n (hK7_ _ _ ?_)
    clear hK7_ K7_
    refine W_keepB [8] fun B9 hB9_ => ?_
    simp only [pickE, lookE, putE, zipE, args0, Nat.reduceAdd, Nat.zero_add, List.cons_append, List.nil_append, Nat.reduceBEq, cond_true, cond_false] at hB9_
    subst hB9_
    refine W_ret ?_
    refine then_ret ?_
    clear hK2_ K2_
    refine ⟨_, ⟨_, _, rfl, rfl, rfl⟩, ?_⟩
    exact ⟨r8_0, _, _, rfl, hI, h⟩
  · replace h := h.2 hc6_
    refine W_skip ?_
    refine then_n (hK2_ _ _ ?_)
    clear hK2_ K2_
    refine W_keepB [0, 1, 2, 3] fun B10 hB10_ => ?_
    simp only [pickE, lookE, putE, zipE, args0, Nat.reduceAdd, Nat.zero_add, List.cons_append, List.nil_append, Nat.reduceBEq, cond_true, cond_false] at hB10_
    subst hB10_
    refine W_seq_k fun K11_ hK11_ => ?_
    refine W_region [some 20, some 21, some 9] rfl ?_
    refine Ops_step (R_move rfl) rfl rfl ?_
    refine Ops_call (C_func TCtB.bd16 rfl) rfl rfl ?_
    refine (slices_Clone_sl_byte_byte_ok (x0 := x3) hI.st (hg.up hI.le) hc3 hs3 h).mono ?_
    rintro _ w12_ ⟨A12_0, c12_0, r12_0, L12_, H12_, rfl, hI12_, ho12_0, h⟩
    refine Exists.elim (hI.call hI12_ (by simp)) fun L120_ h12_ => ?_
    have hz12_ := hI.size
    replace hI := h12_.1
    have u12_ := h12_.2.1
    have hl12_ := h12_.2.2
    clear h12_
    replace hs0 := hs0.up u12_.hh
    replace hs2 := hs2.up u12_.hh
    replace hs3 := hs3.up u12_.hh
    replace ho12_0 := OwnS.backS ho12_0 hz12_ (Le.refl _)
    clear hI12_ u12_ hl12_
    refine ⟨_, rfl, ?_⟩
    refine Exists.elim (ho12_0.freeze hI) fun L13_ h13_ => Exists.elim h13_ fun H13_ h13_ => ?_
    replace hI := h13_.1
    have u13_ := h13_.2.1
    have hs13_ := h13_.2.2.1 (Le.no _)
    have hc13_ := ho12_0.cap
    replace hs0 := hs0.up u13_.hh
    replace hs2 := hs2.up u13_.hh
    replace hs3 := hs3.up u13_.hh
    clear h13_ u13_ ho12_0
    refine Ops_step (R_assign rfl) rfl rfl ?_
    refine Ops_nil ?_
    refine then_n (hK11_ _ _ ?_)
    clear hK11_ K11_
    refine W_seq_k fun K14_ hK14_ => ?_
    refine W_region [some 23, some 24, some 25, some 26, some 27, some 22, some 28, some 29, some 10, some 11] rfl ?_
    refine Ops_step (R_move rfl) rfl rfl ?_
    refine Ops_step (R_move rfl) rfl rfl ?_
    refine Ops_step (R_move rfl) rfl rfl ?_
    refine Ops_step (R_move rfl) rfl rfl ?_
    refine Ops_call (C_func TCtB.bd14 rfl) rfl rfl ?_
    refine (cipher_Seal_ok (x0 := x0) (x1 := x1) (x2 := x2) (x3 := r12_0) hI.st (hg.up hI.le) hc0 hs0 hc2 hs2 hc13_ (hs13_.up hI.sub) h).mono ?_
    rintro _ w15_ ⟨A15_0, c15_0, r15_0, r15_1, L15_, H15_, rfl, hI15_, ho15_0, h⟩
    refine Exists.elim (hI.call hI15_ (by simp)) fun L150_ h15_ => ?_
    have hz15_ := hI.size
    replace hI := h15_.1
    have u15_ := h15_.2.1
    have hl15_ := h15_.2.2
    clear h15_
    replace hs0 := hs0.up u15_.hh
    replace hs2 := hs2.up u15_.hh
    replace hs3 := hs3.up u15_.hh
    replace hs13_ := hs13_.up u15_.ll
    replace ho15_0 := OwnS.backS ho15_0 hz15_ (Le.refl _)
    clear hI15_ u15_ hl15_
    refine ⟨_, rfl, ?_⟩
    refine Exists.elim (ho15_0.freeze hI) fun L16_ h16_ => Exists.elim h16_ fun H16_ h16_ => ?_
    replace hI := h16_.1
    have u16_ := h16_.2.1
    have hs16_ := h16_.2.2.1 (Le.no _)
    have hc16_ := ho15_0.cap
    replace hs0 := hs0.up u16_.hh
    replace hs2 := hs2.up u16_.hh
    replace hs3 := hs3.up u16_.hh
    replace hs13_ := hs13_.up u16_.ll
    clear h16_ u16_ ho15_0
    refine Ops_step (R_move rfl) rfl rfl ?_
    refine Ops_step (R_extract (v := .slice A15_0 r15_0.length c15_0) rfl rfl) rfl rfl ?_
    refine Ops_step (R_extract (v := vi r15_1) rfl rfl) rfl rfl ?_
    refine Ops_step (R_assign rfl) rfl rfl ?_
    refine Ops_step (R_assign rfl) rfl rfl ?_
    refine Ops_nil ?_
    refine then_n (hK14_ _ _ ?_)
    clear hK14_ K14_
    refine W_keepB [0, 1, 2, 3, 9, 10, 11] fun B17 hB17_ => ?_
    simp only [pickE, lookE, putE, zipE, args0, Nat.reduceAdd, Nat.zero_add, List.cons_append, List.nil_append, Nat.reduceBEq, cond_true, cond_false] at hB17_
    subst hB17_
    refine W_seq_k fun K18_ hK18_ => ?_
    refine W_region [some 31, some 32, some 33, some 34, some 35, some 30, some 36, some 37, some 12, some 13] rfl ?_
    refine Ops_step (R_move rfl) rfl rfl ?_
    refine Ops_step (R_move rfl) rfl rfl ?_
    refine Ops_step (R_move rfl) rfl rfl ?_
    refine Ops_step (R_move rfl) rfl rfl ?_
    refine Ops_call (C_func TCtB.bd18 rfl) rfl rfl ?_
    refine (sealskinref08_Seal_ok (x0 := x0) (x1 := x1) (x2 := x2) (x3 := x3) hI.st (hg.up hI.le) hc0 hs0 hc2 hs2 hc3 hs3 h).mono ?_
    rintro _ w19_ ⟨A19_0, c19_0, r19_0, r19_1, L19_, H19_, rfl, hI19_, ho19_0, h⟩
    refine Exists.elim (hI.call hI19_ (by simp)) fun L190_ h19_ => ?_
    have hz19_ := hI.size
    replace hI := h19_.1
    have u19_ := h19_.2.1
    have hl19_ := h19_.2.2
    clear h19_
    replace hs3 := hs3.up u19_.hh
    replace hs13_ := hs13_.up u19_.ll
    replace hs16_ := hs16_.up u19_.ll
    replace ho19_0 := OwnS.backS ho19_0 hz19_ (Le.refl _)
    clear hI19_ u19_ hl19_
    refine ⟨_, rfl, ?_⟩
    refine Exists.elim (ho19_0.freeze hI) fun L20_ h20_ => Exists.elim h20_ fun H20_ h20_ => ?_
    replace hI := h20_.1
    have u20_ := h20_.2.1
    have hs20_ := h20_.2.2.1 (Le.no _)
    have hc20_ := ho19_0.cap
    replace hs3 := hs3.up u20_.hh
    replace hs13_ := hs13_.up u20_.ll
    replace hs16_ := hs16_.up u20_.ll
    clear h20_ u20_ ho19_0
    refine Ops_step (R_move rfl) rfl rfl ?_
    refine Ops_step (R_extract (v := .slice A19_0 r19_0.length c19_0) rfl rfl) rfl rfl ?_
    refine Ops_step (R_extract (v := vi r19_1) rfl rfl) rfl rfl ?_
    refine Ops_step (R_assign rfl) rfl rfl ?_
    refine Ops_step (R_assign rfl) rfl rfl ?_
    refine Ops_nil ?_
    refine then_n (hK18_ _ _ ?_)
    clear hK18_ K18_
    refine W_keepB [3, 9, 10, 11, 12, 13] fun B21 hB21_ => ?_
    simp only [pickE, lookE, putE, zipE, args0, Nat.reduceAdd, Nat.zero_add, List.cons_append, List.nil_append, Nat.reduceBEq, cond_true, cond_false] at hB21_
    subst hB21_
    refine W_seq_k fun K22_ hK22_ => ?_
    refine W_region [some 38, some 39, some 40, some 41, some 42, some 43, some 44, some 45, some 46, some 47, some 48, some 49, some 50, some 51, some 52, some 53, some 8] rfl ?_
    refine Ops_step (R_move rfl) rfl rfl ?_
    refine Ops_step (R_move rfl) rfl rfl ?_
    refine Ops_call (C_func TCtB.bd13 rfl) rfl rfl ?_
    refine (bytes_Equal_ok (x0 := r15_0) (x1 := r19_0) hI.st (hg.up hI.le) hc16_ (hs16_.up hI.sub) hc20_ (hs20_.up hI.sub) h).mono ?_
    rintro _ w23_ ⟨r23_0, L23_, H23_, rfl, hI23_, h⟩
    refine Exists.elim (hI.call hI23_ (by simp)) fun L230_ h23_ => ?_
    have hz23_ := hI.size
    replace hI := h23_.1
    have u23_ := h23_.2.1
    have hl23_ := h23_.2.2
    clear h23_
    replace hs3 := hs3.up u23_.hh
    replace hs13_ := hs13_.up u23_.ll
    clear hI23_ u23_ hl23_
    refine ⟨_, rfl, ?_⟩
    refine Ops_step (R_move rfl) rfl rfl ?_
    refine Ops_splitB 41 rfl (fun hg24_ => ?_) (fun hg24_ => ?_)
    · replace h := h.1 hg24_
      refine Ops_step (R_move rfl) rfl rfl ?_
      refine Ops_step (R_move rfl) rfl rfl ?_
      refine Ops_step (R_eql rfl rfl) rfl rfl ?_
      refine Ops_step (R_pick_true rfl rfl) rfl rfl ?_
      refine Ops_step (R_move rfl) rfl rfl ?_
      refine Ops_split 46 rfl (fun hg25_ => ?_) (fun hg25_ => ?_)
      · replace h := h.1 hg25_
        refine Ops_step (R_move rfl) rfl rfl ?_
        refine Ops_step (R_move rfl) rfl rfl ?_
        refine Ops_call (C_func TCtB.bd13 rfl) rfl rfl ?_
        refine (bytes_Equal_ok (x0 := r12_0) (x1 := x3) hI.st (hg.up hI.le) hc13_ (hs13_.up hI.sub) hc3 hs3 h).mono ?_
        rintro _ w26_ ⟨r26_0, L26_, H26_, rfl, hI26_, h⟩
        refine Exists.elim (hI.call hI26_ (by simp)) fun L260_ h26_ => ?_
        have hz26_ := hI.size
        replace hI := h26_.1
        have u26_ := h26_.2.1
        have hl26_ := h26_.2.2
        clear h26_
        clear hI26_ u26_ hl26_
        refine ⟨_, rfl, ?_⟩
        refine Ops_step (R_pick_true rfl rfl) rfl rfl ?_
        refine Ops_step (R_move rfl) rfl rfl ?_
        refine Ops_splitB 51 rfl (fun hg27_ => ?_) (fun hg27_ => ?_)
        · replace h := h.1 hg27_
          refine Ops_call (C_func TCtB.bd11 rfl) rfl rfl ?_
          refine (sealskinlaw08_awake_ok  hI.st (hg.up hI.le)  h).mono ?_
          rintro _ w28_ ⟨r28_0, L28_, H28_, rfl, hI28_, h⟩
          refine Exists.elim (hI.call hI28_ (by simp)) fun L280_ h28_ => ?_
          have hz28_ := hI.size
          replace hI := h28_.1
          have u28_ := h28_.2.1
          have hl28_ := h28_.2.2
          clear h28_
          clear hI28_ u28_ hl28_
          refine ⟨_, rfl, ?_⟩
          refine Ops_step (R_pick_true rfl rfl) rfl rfl ?_
          refine Ops_step (R_assign rfl) rfl rfl ?_
          refine Ops_nil ?_
          refine then_n (hK22_ _ _ ?_)
          clear hK22_ K22_
          refine W_keepB [8] fun B29 hB29_ => ?_
          simp only [pickE, lookE, putE, zipE, args0, Nat.reduceAdd, Nat.zero_add, List.cons_append, List.nil_append, Nat.reduceBEq, cond_true, cond_false] at hB29_
          subst hB29_
          refine W_ret ?_
          refine ⟨_, ⟨_, _, rfl, rfl, rfl⟩, ?_⟩
          exact ⟨r28_0, _, _, rfl, hI, h⟩
        · replace h := h.2 hg27_
          refine Ops_pass rfl rfl ?_
          refine Ops_step (R_pick_false rfl rfl) rfl rfl ?_
          refine Ops_step (R_assign rfl) rfl rfl ?_
          refine Ops_nil ?_
          refine then_n (hK22_ _ _ ?_)
          clear hK22_ K22_
          refine W_keepB [8] fun B30 hB30_ => ?_
          simp only [pickE, lookE, putE, zipE, args0, Nat.reduceAdd, Nat.zero_add, List.cons_append, List.nil_append, Nat.reduceBEq, cond_true, cond_false] at hB30_
          subst hB30_
          refine W_ret ?_
          refine ⟨_, ⟨_, _, rfl, rfl, rfl⟩, ?_⟩
          exact ⟨false, _, _, rfl, hI, h⟩
      · replace h := h.2 hg25_
        refine Ops_pass rfl rfl ?_
        refine Ops_pass rfl rfl ?_
        refine Ops_pass rfl rfl ?_
        refine Ops_step (R_pick_false rfl rfl) rfl rfl ?_
        refine Ops_step (R_move rfl) rfl rfl ?_
        refine Ops_pass rfl rfl ?_
        refine Ops_step (R_pick_false rfl rfl) rfl rfl ?_
        refine Ops_step (R_assign rfl) rfl rfl ?_
        refine Ops_nil ?_
        refine then_n (hK22_ _ _ ?_)
        clear hK22_ K22_
        refine W_keepB [8] fun B31 hB31_ => ?_
        simp only [pickE, lookE, putE, zipE, args0, Nat.reduceAdd, Nat.zero_add, List.cons_append, List.nil_append, Nat.reduceBEq, cond_true, cond_false] at hB31_
        subst hB31_
        refine W_ret ?_
        refine ⟨_, ⟨_, _, rfl, rfl, rfl⟩, ?_⟩
        exact ⟨false, _, _, rfl, hI, h⟩
    · replace h := h.2 hg24_
      refine Ops_pass rfl rfl ?_
      refine Ops_pass rfl rfl ?_
      refine Ops_pass rfl rfl ?_
      refine Ops_step (R_pick_false rfl rfl) rfl rfl ?_
      refine Ops_step (R_move rfl) rfl rfl ?_
      refine Ops_pass rfl rfl ?_
      refine Ops_pass rfl rfl ?_
      refine Ops_pass rfl rfl ?_
      refine Ops_step (R_pick_false rfl rfl) rfl rfl ?_
      refine Ops_step (R_move rfl) rfl rfl ?_
      refine Ops_pass rfl rfl ?_
      refine Ops_step (R_pick_false rfl rfl) rfl rfl ?_
      refine Ops_step (R_assign rfl) rfl rfl ?_
      refine Ops_nil ?_
      refine then_n (hK22_ _ _ ?_)
      clear hK22_ K22_
      refine W_keepB [8] fun B32 hB32_ => ?_
      simp only [pickE, lookE, putE, zipE, args0, Nat.reduceAdd, Nat.zero_add, List.cons_append, List.nil_append, Nat.reduceBEq, cond_true, cond_false] at hB32_
      subst hB32_
      refine W_ret ?_
      refine ⟨_, ⟨_, _, rfl, rfl, rfl⟩, ?_⟩
      exact ⟨false, _, _, rfl, hI, h⟩

set_option maxHeartbeats 4000000 in
theorem sealskinlaw08_CipherOpens_ok {G : Gh} {w : World} (hS : St G w) (hg : GL G) {A0 : Option Addr} {c0 : Nat} {x0 : List UInt8} (hc0 : x0.length ≤ c0) (hs0 : Sl G A0 x0) {x1 : BitVec 64} {A2 : Option Addr} {c2 : Nat} {x2 : List UInt8} (hc2 : x2.length ≤ c2) (hs2 : Sl G A2 x2) {A3 : Option Addr} {c3 : Nat} {x3 : List UInt8} (hc3 : x3.length ≤ c3) (hs3 : Sl G A3 x3) {Q : Bool → Prop} (h : sealskinlaw08_CipherOpens x0 x1 x2 x3 Q) : Calls Tryd.prog 7 #[.slice A0 x0.length c0, w64 x1, .slice A2 x2.length c2, .slice A3 x3.length c3] w fun e w2 => ∃ (r0 : Bool) (L H : Gh), e = .returned (.bool r0) ∧ Inv [] G w L H w2 ∧ Q r0 := by
  unfold sealskinlaw08_CipherOpens at h
  have hI := Inv.start (M := []) hS
  refine calls_W 54 Tryd.func7 rfl Tryd.ntmps7 rfl [.tmp 8] rfl ?_
  refine W_seq_k fun K1_ hK1_ => ?_
  refine W_region [some 8] rfl ?_
  refine Ops_step (R_assign rfl) rfl rfl ?_
  refine Ops_nil ?_
  refine then_n (hK1_ _ _ ?_)
  clear hK1_ K1_
  refine W_seq_k fun K2_ hK2_ => ?_
  refine W_seq_k fun K3_ hK3_ => ?_
  refine W_region [some 14, some 15, some 16, some 17, some 18] rfl ?_
  refine Ops_step (R_move rfl) rfl rfl ?_
  refine Ops_step (R_move rfl) rfl rfl ?_
  refine Ops_step (R_move rfl) rfl rfl ?_
  refine Ops_to (R_buildSlice TCtB.el37 TCtB.zr22 (by decide) (by decide) rfl rfl) rfl rfl ?_
  rintro _ w4_ ⟨b4_, rfl, hb4_, hB4_, hF4_⟩
  have ho4_ : OwnS w.heap.size 22 G G _ (some ⟨b4_, 0, none⟩) 3 ([x0, x2, x3] : List (List UInt8)) := OwnS.ofBlk (css := [[.slice A0 x0.length c0], [.slice A2 x2.length c2], [.slice A3 x3.length c3]]) hI.st hb4_ hB4_ (.cons ⟨A0, c0, rfl, hc0, hs0⟩ (.cons ⟨A2, c2, rfl, hc2, hs2⟩ (.cons ⟨A3, c3, rfl, hc3, hs3⟩ .nil))) rfl (by have := hI.size; omega) (by show 3 ≤ maxLen; decide)
  replace hI := hI.fr0 hF4_
  clear hF4_ hB4_
  refine Exists.elim (ho4_.lend hI.st (Le.refl _)) fun Hb5_0_ hb5_0_ => ?_
  refine Ops_call (C_func TCtB.bd10 rfl) rfl rfl ?_
  refine (sealskinlaw08_long_ok (x0 := ([x0, x2, x3] : List (List UInt8))) hb5_0_.1 (hg.up (hI.le.trans hb5_0_.2.1)) (Nat.le_refl _) hb5_0_.2.2 h).mono ?_
  rintro _ w5_ ⟨r5_0, L5_, H5_, rfl, hI5_, h⟩
  refine Exists.elim (hI.callB hb5_0_.2.1 hI5_ (by simp)) fun L50_ h5_ => Exists.elim h5_ fun H50_ h5_ => ?_
  have hz5_ := hI.size
  replace hI := h5_.1
  have u5_ := h5_.2.1
  have hl5_ := h5_.2.2.1
  have hh5_ := h5_.2.2.2
  clear h5_
  replace hs0 := hs0.up u5_.hh
  replace hs2 := hs2.up u5_.hh
  replace hs3 := hs3.up u5_.hh
  clear hI5_ u5_ hl5_
  refine ⟨_, rfl, ?_⟩
  refine Ops_nil ?_
  refine then_n (hK3_ _ _ ?_)
  clear hK3_ K3_
  refine W_cond rfl (fun hc6_ => ?_) (fun hc6_ => ?_)
  · replace h := h.1 hc6_
    refine W_seq_k fun K7_ hK7_ => ?_
    refine W_region [some 19, some 8] rfl ?_
    refine Ops_call (C_func TCtB.bd11 rfl) rfl rfl ?_
    refine (sealskinlaw08_awake_ok  hI.st (hg.up hI.le)  h).mono ?_
    rintro _ w8_ ⟨r8_0, L8_, H8_, rfl, hI8_, h⟩
    refine Exists.elim (hI.call hI8_ (by simp)) fun L80_ h8_ => ?_
    have hz8_ := hI.size
    replace hI := h8_.1
    have u8_ := h8_.2.1
    have hl8_ := h8_.2.2
    clear h8_
    clear hI8_ u8_ hl8_
    refine ⟨_, rfl, ?_⟩
    refine Ops_step (R_assign rfl) rfl rfl ?_
    refine Ops_nil ?_
    refine then_n (hK7_ _ _ ?_)
    clear hK7_ K7_
    refine W_keepB [8] fun B9 hB9_ => ?_
    simp only [pickE, lookE, putE, zipE, args0, Nat.reduceAdd, Nat.zero_add, List.cons_append, List.nil_append, Nat.reduceBEq, cond_true, cond_false] at hB9_
    subst hB9_
    refine W_ret ?_
    refine then_ret ?_
    clear hK2_ K2_
    refine ⟨_, ⟨_, _, rfl, rfl, rfl⟩, ?_⟩
    exact ⟨r8_0, _, _, rfl, hI, h⟩
  · replace h := h.2 hc6_
    refine W_skip ?_
    refine then_n (hK2_ _ _ ?_)
    clear hK2_ K2_
    refine W_keepB [0, 1, 2, 3] fun B10 hB10_ => ?_
    simp only [pickE, lookE, putE, zipE, args0, Nat.reduceAdd, Nat.zero_add, List.cons_append, List.nil_append, Nat.reduceBEq, cond_true, cond_false] at hB10_
    subst hB10_
    refine W_seq_k fun K11_ hK11_ => ?_
    refine W_region [some 20, some 21, some 9] rfl ?_
    refine Ops_step (R_move rfl) rfl rfl ?_
    refine Ops_call (C_func TCtB.bd16 rfl) rfl rfl ?_
    refine (slices_Clone_sl_byte_byte_ok (x0 := x3) hI.st (hg.up hI.le) hc3 hs3 h).mono ?_
    rintro _ w12_ ⟨A12_0, c12_0, r12_0, L12_, H12_, rfl, hI12_, ho12_0, h⟩
    refine Exists.elim (hI.call hI12_ (by simp)) fun L120_ h12_ => ?_
    have hz12_ := hI.size
    replace hI := h12_.1
    have u12_ := h12_.2.1
    have hl12_ := h12_.2.2
    clear h12_
    replace hs0 := hs0.up u12_.hh
    replace hs2 := hs2.up u12_.hh
    replace hs3 := hs3.up u12_.hh
    replace ho12_0 := OwnS.backS ho12_0 hz12_ (Le.refl _)
    clear hI12_ u12_ hl12_
    refine ⟨_, rfl, ?_⟩
    refine Exists.elim (ho12_0.freeze hI) fun L13_ h13_ => Exists.elim h13_ fun H13_ h13_ => ?_
    replace hI := h13_.1
    have u13_ := h13_.2.1
    have hs13_ := h13_.2.2.1 (Le.no _)
    have hc13_ := ho12_0.cap
    replace hs0 := hs0.up u13_.hh
    replace hs2 := hs2.up u13_.hh
    replace hs3 := hs3.up u13_.hh
    clear h13_ u13_ ho12_0
    refine Ops_step (R_assign rfl) rfl rfl ?_
    refine Ops_nil ?_
    refine then_n (hK11_ _ _ ?_)
    clear hK11_ K11_
    refine W_seq_k fun K14_ hK14_ => ?_
    refine W_region [some 23, some 24, some 25, some 26, some 27, some 22, some 28, some 29, some 10, some 11] rfl ?_
    refine Ops_step (R_move rfl) rfl rfl ?_
    refine Ops_step (R_move rfl) rfl rfl ?_
    refine Ops_step (R_move rfl) rfl rfl ?_
    refine Ops_step (R_move rfl) rfl rfl ?_
    refine Ops_call (C_func TCtB.bd15 rfl) rfl rfl ?_
    refine (cipher_Open_ok (x0 := x0) (x1 := x1) (x2 := x2) (x3 := r12_0) hI.st (hg.up hI.le) hc0 hs0 hc2 hs2 hc13_ (hs13_.up hI.sub) h).mono ?_
    rintro _ w15_ ⟨A15_0, c15_0, r15_0, r15_1, L15_, H15_, rfl, hI15_, ho15_0, h⟩
    refine Exists.elim (hI.call hI15_ (by simp)) fun L150_ h15_ => ?_
    have hz15_ := hI.size
    replace hI := h15_.1
    have u15_ := h15_.2.1
    have hl15_ := h15_.2.2
    clear h15_
    replace hs0 := hs0.up u15_.hh
    replace hs2 := hs2.up u15_.hh
    replace hs3 := hs3.up u15_.hh
    replace hs13_ := hs13_.up u15_.ll
    replace ho15_0 := OwnS.backS ho15_0 hz15_ (Le.refl _)
    clear hI15_ u15_ hl15_
    refine ⟨_, rfl, ?_⟩
    refine Exists.elim (ho15_0.freeze hI) fun L16_ h16_ => Exists.elim h16_ fun H16_ h16_ => ?_
    replace hI := h16_.1
    have u16_ := h16_.2.1
    have hs16_ := h16_.2.2.1 (Le.no _)
    have hc16_ := ho15_0.cap
    replace hs0 := hs0.up u16_.hh
    replace hs2 := hs2.up u16_.hh
    replace hs3 := hs3.up u16_.hh
    replace hs13_ := hs13_.up u16_.ll
    clear h16_ u16_ ho15_0
    refine Ops_step (R_move rfl) rfl rfl ?_
    refine Ops_step (R_extract (v := .slice A15_0 r15_0.length c15_0) rfl rfl) rfl rfl ?_
    refine Ops_step (R_extract (v := vi r15_1) rfl rfl) rfl rfl ?_
    refine Ops_step (R_assign rfl) rfl rfl ?_
    refine Ops_step (R_assign rfl) rfl rfl ?_
    refine Ops_nil ?_
    refine then_n (hK14_ _ _ ?_)
    clear hK14_ K14_
    refine W_keepB [0, 1, 2, 3, 9, 10, 11] fun B17 hB17_ => ?_
    simp only [pickE, lookE, putE, zipE, args0, Nat.reduceAdd, Nat.zero_add, List.cons_append, List.nil_append, Nat.reduceBEq, cond_true, cond_false] at hB17_
    subst hB17_
    refine W_seq_k fun K18_ hK18_ => ?_
    refine W_region [some 31, some 32, some 33, some 34, some 35, some 30, some 36, some 37, some 12, some 13] rfl ?_
    refine Ops_step (R_move rfl) rfl rfl ?_
    refine Ops_step (R_move rfl) rfl rfl ?_
    refine Ops_step (R_move rfl) rfl rfl ?_
    refine Ops_step (R_move rfl) rfl rfl ?_
    refine Ops_call (C_func TCtB.bd19 rfl) rfl rfl ?_
    refine (sealskinref08_Open_ok (x0 := x0) (x1 := x1) (x2 := x2) (x3 := x3) hI.st (hg.up hI.le) hc0 hs0 hc2 hs2 hc3 hs3 h).mono ?_
    rintro _ w19_ ⟨A19_0, c19_0, r19_0, r19_1, L19_, H19_, rfl, hI19_, ho19_0, h⟩
    refine Exists.elim (hI.call hI19_ (by simp)) fun L190_ h19_ => ?_
    have hz19_ := hI.size
    replace hI := h19_.1
    have u19_ := h19_.2.1
    have hl19_ := h19_.2.2
    clear h19_
    replace hs3 := hs3.up u19_.hh
    replace hs13_ := hs13_.up u19_.ll
    replace hs16_ := hs16_.up u19_.ll
    replace ho19_0 := OwnS.backS ho19_0 hz19_ (Le.refl _)
    clear hI19_ u19_ hl19_
    refine ⟨_, rfl, ?_⟩
    refine Exists.elim (ho19_0.freeze hI) fun L20_ h20_ => Exists.elim h20_ fun H20_ h20_ => ?_
    replace hI := h20_.1
    have u20_ := h20_.2.1
    have hs20_ := h20_.2.2.1 (Le.no _)
    have hc20_ := ho19_0.cap
    replace hs3 := hs3.up u20_.hh
    replace hs13_ := hs13_.up u20_.ll
    replace hs16_ := hs16_.up u20_.ll
    clear h20_ u20_ ho19_0
    refine Ops_step (R_move rfl) rfl rfl ?_
    refine Ops_step (R_extract (v := .slice A19_0 r19_0.length c19_0) rfl rfl) rfl rfl ?_
    refine Ops_step (R_extract (v := vi r19_1) rfl rfl) rfl rfl ?_
    refine Ops_step (R_assign rfl) rfl rfl ?_
    refine Ops_step (R_assign rfl) rfl rfl ?_
    refine Ops_nil ?_
    refine then_n (hK18_ _ _ ?_)
    clear hK18_ K18_
    refine W_keepB [3, 9, 10, 11, 12, 13] fun B21 hB21_ => ?_
    simp only [pickE, lookE, putE, zipE, args0, Nat.reduceAdd, Nat.zero_add, List.cons_append, List.nil_append, Nat.reduceBEq, cond_true, cond_false] at hB21_
    subst hB21_
    refine W_seq_k fun K22_ hK22_ => ?_
    refine W_region [some 38, some 39, some 40, some 41, some 42, some 43, some 44, some 45, some 46, some 47, some 48, some 49, some 50, some 51, some 52, some 53, some 8] rfl ?_
    refine Ops_step (R_move rfl) rfl rfl ?_
    refine Ops_step (R_move rfl) rfl rfl ?_
    refine Ops_call (C_func TCtB.bd13 rfl) rfl rfl ?_
    refine (bytes_Equal_ok (x0 := r15_0) (x1 := r19_0) hI.st (hg.up hI.le) hc16_ (hs16_.up hI.sub) hc20_ (hs20_.up hI.sub) h).mono ?_
    rintro _ w23_ ⟨r23_0, L23_, H23_, rfl, hI23_, h⟩
    refine Exists.elim (hI.call hI23_ (by simp)) fun L230_ h23_ => ?_
    have hz23_ := hI.size
    replace hI := h23_.1
    have u23_ := h23_.2.1
    have hl23_ := h23_.2.2
    clear h23_
    replace hs3 := hs3.up u23_.hh
    replace hs13_ := hs13_.up u23_.ll
    clear hI23_ u23_ hl23_
    refine ⟨_, rfl, ?_⟩
    refine Ops_step (R_move rfl) rfl rfl ?_
    refine Ops_splitB 41 rfl (fun hg24_ => ?_) (fun hg24_ => ?_)
    · replace h := h.1 hg24_
      refine Ops_step (R_move rfl) rfl rfl ?_
      refine Ops_step (R_move rfl) rfl rfl ?_
      refine Ops_step (R_eql rfl rfl) rfl rfl ?_
      refine Ops_step (R_pick_true rfl rfl) rfl rfl ?_
      refine Ops_step (R_move rfl) rfl rfl ?_
      refine Ops_split 46 rfl (fun hg25_ => ?_) (fun hg25_ => ?_)
      · replace h := h.1 hg25_
        refine Ops_step (R_move rfl) rfl rfl ?_
        refine Ops_step (R_move rfl) rfl rfl ?_
        refine Ops_call (C_func TCtB.bd13 rfl) rfl rfl ?_
        refine (bytes_Equal_ok (x0 := r12_0) (x1 := x3) hI.st (hg.up hI.le) hc13_ (hs13_.up hI.sub) hc3 hs3 h).mono ?_
        rintro _ w26_ ⟨r26_0, L26_, H26_, rfl, hI26_, h⟩
        refine Exists.elim (hI.call hI26_ (by simp)) fun L260_ h26_ => ?_
        have hz26_ := hI.size
        replace hI := h26_.1
        have u26_ := h26_.2.1
        have hl26_ := h26_.2.2
        clear h26_
        clear hI26_ u26_ hl26_
        refine ⟨_, rfl, ?_⟩
        refine Ops_step (R_pick_true rfl rfl) rfl rfl ?_
        refine Ops_step (R_move rfl) rfl rfl ?_
        refine Ops_splitB 51 rfl (fun hg27_ => ?_) (fun hg27_ => ?_)
        · replace h := h.1 hg27_
          refine Ops_call (C_func TCtB.bd11 rfl) rfl rfl ?_
          refine (sealskinlaw08_awake_ok  hI.st (hg.up hI.le)  h).mono ?_
          rintro _ w28_ ⟨r28_0, L28_, H28_, rfl, hI28_, h⟩
          refine Exists.elim (hI.call hI28_ (by simp)) fun L280_ h28_ => ?_
          have hz28_ := hI.size
          replace hI := h28_.1
          have u28_ := h28_.2.1
          have hl28_ := h28_.2.2
          clear h28_
          clear hI28_ u28_ hl28_
          refine ⟨_, rfl, ?_⟩
          refine Ops_step (R_pick_true rfl rfl) rfl rfl ?_
          refine Ops_step (R_assign rfl) rfl rfl ?_
          refine Ops_nil ?_
          refine then_n (hK22_ _ _ ?_)
          clear hK22_ K22_
          refine W_keepB [8] fun B29 hB29_ => ?_
          simp only [pickE, lookE, putE, zipE, args0, Nat.reduceAdd, Nat.zero_add, List.cons_append, List.nil_append, Nat.reduceBEq, cond_true, cond_false] at hB29_
          subst hB29_
          refine W_ret ?_
          refine ⟨_, ⟨_, _, rfl, rfl, rfl⟩, ?_⟩
          exact ⟨r28_0, _, _, rfl, hI, h⟩
        · replace h := h.2 hg27_
          refine Ops_pass rfl rfl ?_
          refine Ops_step (R_pick_false rfl rfl) rfl rfl ?_
          refine Ops_step (R_assign rfl) rfl rfl ?_
          refine Ops_nil ?_
          refine then_n (hK22_ _ _ ?_)
          clear hK22_ K22_
          refine W_keepB [8] fun B30 hB30_ => ?_
          simp only [pickE, lookE, putE, zipE, args0, Nat.reduceAdd, Nat.zero_add, List.cons_append, List.nil_append, Nat.reduceBEq, cond_true, cond_false] at hB30_
          subst hB30_
          refine W_ret ?_
          refine ⟨_, ⟨_, _, rfl, rfl, rfl⟩, ?_⟩
          exact ⟨false, _, _, rfl, hI, h⟩
      · replace h := h.2 hg25_
        refine Ops_pass rfl rfl ?_
        refine Ops_pass rfl rfl ?_
        refine Ops_pass rfl rfl ?_
        refine Ops_step (R_pick_false rfl rfl) rfl rfl ?_
        refine Ops_step (R_move rfl) rfl rfl ?_
        refine Ops_pass rfl rfl ?_
        refine Ops_step (R_pick_false rfl rfl) rfl rfl ?_
        refine Ops_step (R_assign rfl) rfl rfl ?_
        refine Ops_nil ?_
        refine then_n (hK22_ _ _ ?_)
        clear hK22_ K22_
        refine W_keepB [8] fun B31 hB31_ => ?_
        simp only [pickE, lookE, putE, zipE, args0, Nat.reduceAdd, Nat.zero_add, List.cons_append, List.nil_append, Nat.reduceBEq, cond_true, cond_false] at hB31_
        subst hB31_
        refine W_ret ?_
        refine ⟨_, ⟨_, _, rfl, rfl, rfl⟩, ?_⟩
        exact ⟨false, _, _, rfl, hI, h⟩
    · replace h := h.2 hg24_
      refine Ops_pass rfl rfl ?_
      refine Ops_pass rfl rfl ?_
      refine Ops_pass rfl rfl ?_
      refine Ops_step (R_pick_false rfl rfl) rfl rfl ?_
      refine Ops_step (R_move rfl) rfl rfl ?_
      refine Ops_pass rfl rfl ?_
      refine Ops_pass rfl rfl ?_
      refine Ops_pass rfl rfl ?_
      refine Ops_step (R_pick_false rfl rfl) rfl rfl ?_
      refine Ops_step (R_move rfl) rfl rfl ?_
      refine Ops_pass rfl rfl ?_
      refine Ops_step (R_pick_false rfl rfl) rfl rfl ?_
      refine Ops_step (R_assign rfl) rfl rfl ?_
      refine Ops_nil ?_
      refine then_n (hK22_ _ _ ?_)
      clear hK22_ K22_
      refine W_keepB [8] fun B32 hB32_ => ?_
      simp only [pickE, lookE, putE, zipE, args0, Nat.reduceAdd, Nat.zero_add, List.cons_append, List.nil_append, Nat.reduceBEq, cond_true, cond_false] at hB32_
      subst hB32_
      refine W_ret ?_
      refine ⟨_, ⟨_, _, rfl, rfl, rfl⟩, ?_⟩
      exact ⟨false, _, _, rfl, hI, h⟩

set_option maxHeartbeats 4000000 in
theorem sealskinlaw08_CipherBack_ok {G : Gh} {w : World} (hS : St G w) (hg : GL G) {A0 : Option Addr} {c0 : Nat} {x0 : List UInt8} (hc0 : x0.length ≤ c0) (hs0 : Sl G A0 x0) {x1 : BitVec 64} {A2 : Option Addr} {c2 : Nat} {x2 : List UInt8} (hc2 : x2.length ≤ c2) (hs2 : Sl G A2 x2) {A3 : Option Addr} {c3 : Nat} {x3 : List UInt8} (hc3 : x3.length ≤ c3) (hs3 : Sl G A3 x3) {Q : Bool → Prop} (h : sealskinlaw08_CipherBack x0 x1 x2 x3 Q) : Calls Tryd.prog 3 #[.slice A0 x0.length c0, w64 x1, .slice A2 x2.length c2, .slice A3 x3.length c3] w fun e w2 => ∃ (r0 : Bool) (L H : Gh), e = .returned (.bool r0) ∧ Inv [] G w L H w2 ∧ Q r0 := by
  unfold sealskinlaw08_CipherBack at h
  have hI := Inv.start (M := []) hS
  refine calls_W 105 Tryd.func3 rfl Tryd.ntmps3 rfl [.tmp 8] rfl ?_
  refine W_seq_k fun K1_ hK1_ => ?_
  refine W_region [some 8] rfl ?_
  refine Ops_step (R_assign rfl) rfl rfl ?_
  refine Ops_nil ?_
  refine then_n (hK1_ _ _ ?_)
  clear hK1_ K1_
  refine W_seq_k fun K2_ hK2_ => ?_
  refine W_seq_k fun K3_ hK3_ => ?_
  refine W_region [some 17, some 18, some 19, some 20, some 21] rfl ?_
  refine Ops_step (R_move rfl) rfl rfl ?_
  refine Ops_step (R_move rfl) rfl rfl ?_
  refine Ops_step (R_move rfl) rfl rfl ?_
  refine Ops_to (R_buildSlice TCtB.el37 TCtB.zr22 (by decide) (by decide) rfl rfl) rfl rfl ?_
  rintro _ w4_ ⟨b4_, rfl, hb4_, hB4_, hF4_⟩
  have ho4_ : OwnS w.heap.size 22 G G _ (some ⟨b4_, 0, none⟩) 3 ([x0, x2, x3] : List (List UInt8)) := OwnS.ofBlk (css := [[.slice A0 x0.length c0], [.slice A2 x2.length c2], [.slice A3 x3.length c3]]) hI.st hb4_ hB4_ (.cons ⟨A0, c0, rfl, hc0, hs0⟩ (.cons ⟨A2, c2, rfl, hc2, hs2⟩ (.cons ⟨A3, c3, rfl, hc3, hs3⟩ .nil))) rfl (by have := hI.size; omega) (by show 3 ≤ maxLen; decide)
  replace hI := hI.fr0 hF4_
  clear hF4_ hB4_
  refine Exists.elim (ho4_.lend hI.st (Le.refl _)) fun Hb5_0_ hb5_0_ => ?_
  refine Ops_call (C_func TCtB.bd10 rfl) rfl rfl ?_
  refine (sealskinlaw08_long_ok (x0 := ([x0, x2, x3] : List (List UInt8))) hb5_0_.1 (hg.up (hI.le.trans hb5_0_.2.1)) (Nat.le_refl _) hb5_0_.2.2 h).mono ?_
  rintro _ w5_ ⟨r5_0, L5_, H5_, rfl, hI5_, h⟩
  refine Exists.elim (hI.callB hb5_0_.2.1 hI5_ (by simp)) fun L50_ h5_ => Exists.elim h5_ fun H50_ h5_ => ?_
  have hz5_ := hI.size
  replace hI := h5_.1
  have u5_ := h5_.2.1
  have hl5_ := h5_.2.2.1
  have hh5_ := h5_.2.2.2
  clear h5_
  replace hs0 := hs0.up u5_.hh
  replace hs2 := hs2.up u5_.hh
  replace hs3 := hs3.up u5_.hh
  clear hI5_ u5_ hl5_
  refine ⟨_, rfl, ?_⟩
  refine Ops_nil ?_
  refine then_n (hK3_ _ _ ?_)
  clear hK3_ K3_
  refine W_cond rfl (fun hc6_ => ?_) (fun hc6_ => ?_)
  · replace h := h.1 hc6_
    refine W_seq_k fun K7_ hK7_ => ?_
    refine W_region [some 22, some 8] rfl ?_
    refine Ops_call (C_func TCtB.bd11 rfl) rfl rfl ?_
    refine (sealskinlaw08_awake_ok  hI.st (hg.up hI.le)  h).mono ?_
    rintro _ w8_ ⟨r8_0, L8_, H8_, rfl, hI8_, h⟩
    refine Exists.elim (hI.call hI8_ (by simp)) fun L80_ h8_ => ?_
    have hz8_ := hI.size
    replace hI := h8_.1
    have u8_ := h8_.2.1
    have hl8_ := h8_.2.2
    clear h8_
    clear hI8_ u8_ hl8_
    refine ⟨_, rfl, ?_⟩
    refine Ops_step (R_assign rfl) rfl rfl ?_
    refine Ops_nil ?_
    refine then_n (hK7_ _ _ ?_)
    clear hK7_ K7_
    refine W_keepB [8] fun B9 hB9_ => ?_
    simp only [pickE, lookE, putE, zipE, args0, Nat.reduceAdd, Nat.zero_add, List.cons_append, List.nil_append, Nat.reduceBEq, cond_true, cond_false] at hB9_
    subst hB9_
    refine W_ret ?_
    refine then_ret ?_
    clear hK2_ K2_
    refine ⟨_, ⟨_, _, rfl, rfl, rfl⟩, ?_⟩
    exact ⟨r8_0, _, _, rfl, hI, h⟩
  · replace h := h.2 hc6_
    refine W_skip ?_
    refine then_n (hK2_ _ _ ?_)
    clear hK2_ K2_
    refine W_keepB [0, 1, 2, 3] fun B10 hB10_ => ?_
    simp only [pickE, lookE, putE, zipE, args0, Nat.reduceAdd, Nat.zero_add, List.cons_append, List.nil_append, Nat.reduceBEq, cond_true, cond_false] at hB10_
    subst hB10_
    refine W_seq_k fun K11_ hK11_ => ?_
    refine W_region [some 24, some 25, some 26, some 27, some 23, some 28, some 29, some 9, some 10] rfl ?_
    refine Ops_step (R_move rfl) rfl rfl ?_
    refine Ops_step (R_move rfl) rfl rfl ?_
    refine Ops_step (R_move rfl) rfl rfl ?_
    refine Ops_call (C_func TCtB.bd12 rfl) rfl rfl ?_
    refine (cipher_Turn_ok (x0 := x0) (x1 := x1) (x2 := x3) hI.st (hg.up hI.le) hc0 hs0 hc3 hs3 h).mono ?_
    rintro _ w12_ ⟨A12_0, c12_0, r12_0, r12_1, L12_, H12_, rfl, hI12_, ho12_0, h⟩
    refine Exists.elim (hI.call hI12_ (by simp)) fun L120_ h12_ => ?_
    have hz12_ := hI.size
    replace hI := h12_.1
    have u12_ := h12_.2.1
    have hl12_ := h12_.2.2
    clear h12_
    replace hs0 := hs0.up u12_.hh
    replace hs2 := hs2.up u12_.hh
    replace hs3 := hs3.up u12_.hh
    replace ho12_0 := OwnS.backS ho12_0 hz12_ (Le.refl _)
    clear hI12_ u12_ hl12_
    refine ⟨_, rfl, ?_⟩
    refine Exists.elim (ho12_0.freeze hI) fun L13_ h13_ => Exists.elim h13_ fun H13_ h13_ => ?_
    replace hI := h13_.1
    have u13_ := h13_.2.1
    have hs13_ := h13_.2.2.1 (Le.no _)
    have hc13_ := ho12_0.cap
    replace hs0 := hs0.up u13_.hh
    replace hs2 := hs2.up u13_.hh
    replace hs3 := hs3.up u13_.hh
    clear h13_ u13_ ho12_0
    refine Ops_step (R_move rfl) rfl rfl ?_
    refine Ops_step (R_extract (v := .slice A12_0 r12_0.length c12_0) rfl rfl) rfl rfl ?_
    refine Ops_step (R_extract (v := vi r12_1) rfl rfl) rfl rfl ?_
    refine Ops_step (R_assign rfl) rfl rfl ?_
    refine Ops_step (R_assign rfl) rfl rfl ?_
    refine Ops_nil ?_
    refine then_n (hK11_ _ _ ?_)
    clear hK11_ K11_
    refine W_keepB [0, 1, 2, 3, 9, 10] fun B14 hB14_ => ?_
    simp only [pickE, lookE, putE, zipE, args0, Nat.reduceAdd, Nat.zero_add, List.cons_append, List.nil_append, Nat.reduceBEq, cond_true, cond_false] at hB14_
    subst hB14_
    refine W_seq_k fun K15_ hK15_ => ?_
    refine W_region [some 31, some 32, some 33, some 34, some 30, some 35, some 36, some 11, some 12] rfl ?_
    refine Ops_step (R_move rfl) rfl rfl ?_
    refine Ops_step (R_move rfl) rfl rfl ?_
    refine Ops_step (R_move rfl) rfl rfl ?_
    refine Ops_call (C_func TCtB.bd12 rfl) rfl rfl ?_
    refine (cipher_Turn_ok (x0 := x0) (x1 := x1) (x2 := r12_0) hI.st (hg.up hI.le) hc0 hs0 hc13_ (hs13_.up hI.sub) h).mono ?_
    rintro _ w16_ ⟨A16_0, c16_0, r16_0, r16_1, L16_, H16_, rfl, hI16_, ho16_0, h⟩
    refine Exists.elim (hI.call hI16_ (by simp)) fun L160_ h16_ => ?_
    have hz16_ := hI.size
    replace hI := h16_.1
    have u16_ := h16_.2.1
    have hl16_ := h16_.2.2
    clear h16_
    replace hs0 := hs0.up u16_.hh
    replace hs2 := hs2.up u16_.hh
    replace hs3 := hs3.up u16_.hh
    replace ho16_0 := OwnS.backS ho16_0 hz16_ (Le.refl _)
    clear hI16_ u16_ hl16_
    refine ⟨_, rfl, ?_⟩
    refine Exists.elim (ho16_0.freeze hI) fun L17_ h17_ => Exists.elim h17_ fun H17_ h17_ => ?_
    replace hI := h17_.1
    have u17_ := h17_.2.1
    have hs17_ := h17_.2.2.1 (Le.no _)
    have hc17_ := ho16_0.cap
    replace hs0 := hs0.up u17_.hh
    replace hs2 := hs2.up u17_.hh
    replace hs3 := hs3.up u17_.hh
    clear h17_ u17_ ho16_0
    refine Ops_step (R_move rfl) rfl rfl ?_
    refine Ops_step (R_extract (v := .slice A16_0 r16_0.length c16_0) rfl rfl) rfl rfl ?_
    refine Ops_step (R_extract (v := vi r16_1) rfl rfl) rfl rfl ?_
    refine Ops_step (R_assign rfl) rfl rfl ?_
    refine Ops_step (R_assign rfl) rfl rfl ?_
    refine Ops_nil ?_
    refine then_n (hK15_ _ _ ?_)
    clear hK15_ K15_
    refine W_keepB [0, 1, 2, 3, 10, 11, 12] fun B18 hB18_ => ?_
    simp only [pickE, lookE, putE, zipE, args0, Nat.reduceAdd, Nat.zero_add, List.cons_append, List.nil_append, Nat.reduceBEq, cond_true, cond_false] at hB18_
    subst hB18_
    refine W_seq_k fun K19_ hK19_ => ?_
    refine Exists.elim h fun J20_ h => ?_
    have hr20_ := h.1
    replace h := h.2
    refine W_seq_join [0, 1, 2, 3] [57] (fun vs w2 => ∃ (x57_20 : Bool) (L H : Gh), vs = [.bool x57_20] ∧ J20_ x57_20 ∧ Inv [] G w L H w2 ∧ Le L17_ L ∧ Le H17_ H ∧ True) (fun B20 hB20_ => ?_) (fun B20 hB20_ => ?_)
    · simp only [pickE, lookE, putE, zipE, args0, Nat.reduceAdd, Nat.zero_add, List.cons_append, List.nil_append, Nat.reduceBEq, cond_true, cond_false] at hB20_
      subst hB20_
      clear hr20_
      have hll20_ := Le.refl L17_
      have hhh20_ := Le.refl H17_
      refine W_region [some 37, some 38, some 39, some 40, some 41, some 42, some 43, some 44, some 45, some 46, some 47, some 48, some 49, some 50, some 51, some 52, some 53, some 54, some 55, some 56, some 57] rfl ?_
      refine Ops_step (R_move rfl) rfl rfl ?_
      refine Ops_step (R_move rfl) rfl rfl ?_
      refine Ops_step (R_neq rfl rfl) rfl rfl ?_
      refine Ops_step (R_move rfl) rfl rfl ?_
      refine Ops_split 40 rfl (fun hg21_ => ?_) (fun hg21_ => ?_)
      · replace h := h.1 hg21_
        refine Ops_pass rfl rfl ?_
        refine Ops_pass rfl rfl ?_
        refine Ops_pass rfl rfl ?_
        refine Ops_passU rfl rfl ?_
        refine Ops_passU rfl rfl ?_
        refine Ops_passU rfl rfl ?_
        refine Ops_passU rfl rfl ?_
        refine Ops_pass rfl rfl ?_
        refine Ops_step (R_pick_true rfl rfl) rfl rfl ?_
        refine Ops_step (R_move rfl) rfl rfl ?_
        refine Ops_pass rfl rfl ?_
        refine Ops_pass rfl rfl ?_
        refine Ops_pass rfl rfl ?_
        refine Ops_pass rfl rfl ?_
        refine Ops_pass rfl rfl ?_
        refine Ops_pass rfl rfl ?_
        refine Ops_step (R_pick_true rfl rfl) rfl rfl ?_
        refine Ops_nil ?_
        refine then_n ?_
        exact ⟨_, rfl, ⟨true, _, _, rfl, h, hI, hll20_, hhh20_, trivial⟩, ⟨rfl, rfl, rfl, rfl, trivial⟩⟩
      · replace h := h.2 hg21_
        refine Ops_step (R_move rfl) rfl rfl ?_
        refine Ops_step (R_eql rfl rfl) rfl rfl ?_
        refine Ops_step (R_move rfl) rfl rfl ?_
        refine Ops_split 43 rfl (fun hg22_ => ?_) (fun hg22_ => ?_)
        · replace h := h.1 hg22_
          refine Ops_step (R_move rfl) rfl rfl ?_
          refine Ops_step (R_move rfl) rfl rfl ?_
          refine Ops_call (C_func TCtB.bd13 rfl) rfl rfl ?_
          refine (bytes_Equal_ok (x0 := r16_0) (x1 := x3) hI.st (hg.up hI.le) hc17_ (hs17_.up hI.sub) hc3 hs3 h).mono ?_
          rintro _ w23_ ⟨r23_0, L23_, H23_, rfl, hI23_, h⟩
          refine Exists.elim (hI.call hI23_ (by simp)) fun L230_ h23_ => ?_
          have hz23_ := hI.size
          replace hI := h23_.1
          have u23_ := h23_.2.1
          have hl23_ := h23_.2.2
          clear h23_
          replace hs0 := hs0.up u23_.hh
          replace hs2 := hs2.up u23_.hh
          replace hs3 := hs3.up u23_.hh
          replace hll20_ := hll20_.trans u23_.ll
          replace hhh20_ := hhh20_.trans u23_.hh
          clear hI23_ u23_ hl23_
          refine ⟨_, rfl, ?_⟩
          refine Ops_step (R_not rfl) rfl rfl ?_
          refine Ops_step (R_pick_true rfl rfl) rfl rfl ?_
          refine Ops_step (R_pick_false rfl rfl) rfl rfl ?_
          refine Ops_step (R_move rfl) rfl rfl ?_
          refine Ops_splitB 50 rfl (fun hg24_ => ?_) (fun hg24_ => ?_)
          · replace h := h.1 hg24_
            refine Ops_pass rfl rfl ?_
            refine Ops_pass rfl rfl ?_
            refine Ops_pass rfl rfl ?_
            refine Ops_pass rfl rfl ?_
            refine Ops_pass rfl rfl ?_
            refine Ops_pass rfl rfl ?_
            refine Ops_step (R_pick_true rfl rfl) rfl rfl ?_
            refine Ops_nil ?_
            refine then_n ?_
            exact ⟨_, rfl, ⟨true, _, _, rfl, h, hI, hll20_, hhh20_, trivial⟩, ⟨rfl, rfl, rfl, rfl, trivial⟩⟩
          · replace h := h.2 hg24_
            refine Ops_step (R_move rfl) rfl rfl ?_
            refine Ops_step (R_eql rfl rfl) rfl rfl ?_
            refine Ops_step (R_move rfl) rfl rfl ?_
            refine Ops_step (R_len Tryd.underlying22 rfl rfl) rfl rfl ?_
            refine Ops_step (R_geq rfl rfl) rfl rfl ?_
            refine Ops_step (R_boolNe Tryd.underlying4 rfl rfl) rfl rfl ?_
            refine Ops_step (R_pick_false rfl rfl) rfl rfl ?_
            refine Ops_nil ?_
            refine then_n ?_
            exact ⟨_, rfl, ⟨(!((decide (r12_1 = 0)) == (decide ((x0.length : Int) ≥ 32)))), _, _, rfl, h, hI, hll20_, hhh20_, trivial⟩, ⟨rfl, rfl, rfl, rfl, trivial⟩⟩
        · replace h := h.2 hg22_
          refine Ops_pass rfl rfl ?_
          refine Ops_pass rfl rfl ?_
          refine Ops_pass rfl rfl ?_
          refine Ops_pass rfl rfl ?_
          refine Ops_step (R_pick_false rfl rfl) rfl rfl ?_
          refine Ops_step (R_pick_false rfl rfl) rfl rfl ?_
          refine Ops_step (R_move rfl) rfl rfl ?_
          refine Ops_step (R_move rfl) rfl rfl ?_
          refine Ops_step (R_eql rfl rfl) rfl rfl ?_
          refine Ops_step (R_move rfl) rfl rfl ?_
          refine Ops_step (R_len Tryd.underlying22 rfl rfl) rfl rfl ?_
          refine Ops_step (R_geq rfl rfl) rfl rfl ?_
          refine Ops_step (R_boolNe Tryd.underlying4 rfl rfl) rfl rfl ?_
          refine Ops_step (R_pick_false rfl rfl) rfl rfl ?_
          refine Ops_nil ?_
          refine then_n ?_
          exact ⟨_, rfl, ⟨(!((decide (r12_1 = 0)) == (decide ((x0.length : Int) ≥ 32)))), _, _, rfl, h, hI, hll20_, hhh20_, trivial⟩, ⟨rfl, rfl, rfl, rfl, trivial⟩⟩
    · simp only [pickE, lookE, putE, zipE, args0, Nat.reduceAdd, Nat.zero_add, List.cons_append, List.nil_append, Nat.reduceBEq, cond_true, cond_false] at hB20_
      subst hB20_
      clear h
      rintro _ w20_ ⟨x57_20, L20_, H20_, rfl, hJ20_, hI20_, hll20_, hhh20_, -⟩
      replace hI := hI20_
      clear hI20_
      have h := hr20_ x57_20 hJ20_
      clear hr20_ hJ20_
      replace hs0 := hs0.up hhh20_
      replace hs2 := hs2.up hhh20_
      replace hs3 := hs3.up hhh20_
      refine W_cond rfl (fun hc25_ => ?_) (fun hc25_ => ?_)
      · replace h := h.1 hc25_
        refine W_seq_k fun K26_ hK26_ => ?_
        refine W_region [some 8] rfl ?_
        refine Ops_step (R_assign rfl) rfl rfl ?_
        refine Ops_nil ?_
        refine then_n (hK26_ _ _ ?_)
        clear hK26_ K26_
        refine W_ret ?_
        refine then_ret ?_
        clear hK19_ K19_
        refine ⟨_, ⟨_, _, rfl, rfl, rfl⟩, ?_⟩
        exact ⟨false, _, _, rfl, hI, h⟩
      · replace h := h.2 hc25_
        refine W_skip ?_
        refine then_n (hK19_ _ _ ?_)
        clear hK19_ K19_
        refine W_seq_k fun K27_ hK27_ => ?_
        refine W_region [some 59, some 60, some 61, some 62, some 63, some 58, some 64, some 65, some 13, some 14] rfl ?_
        refine Ops_step (R_move rfl) rfl rfl ?_
        refine Ops_step (R_move rfl) rfl rfl ?_
        refine Ops_step (R_move rfl) rfl rfl ?_
        refine Ops_step (R_move rfl) rfl rfl ?_
        refine Ops_call (C_func TCtB.bd14 rfl) rfl rfl ?_
        refine (cipher_Seal_ok (x0 := x0) (x1 := x1) (x2 := x2) (x3 := x3) hI.st (hg.up hI.le) hc0 hs0 hc2 hs2 hc3 hs3 h).mono ?_
        rintro _ w28_ ⟨A28_0, c28_0, r28_0, r28_1, L28_, H28_, rfl, hI28_, ho28_0, h⟩
        refine Exists.elim (hI.call hI28_ (by simp)) fun L280_ h28_ => ?_
        have hz28_ := hI.size
        replace hI := h28_.1
        have u28_ := h28_.2.1
        have hl28_ := h28_.2.2
        clear h28_
        replace hs0 := hs0.up u28_.hh
        replace hs2 := hs2.up u28_.hh
        replace hs3 := hs3.up u28_.hh
        replace ho28_0 := OwnS.backS ho28_0 hz28_ (Le.refl _)
        clear hI28_ u28_ hl28_
        refine ⟨_, rfl, ?_⟩
        refine Exists.elim (ho28_0.freeze hI) fun L29_ h29_ => Exists.elim h29_ fun H29_ h29_ => ?_
        replace hI := h29_.1
        have u29_ := h29_.2.1
        have hs29_ := h29_.2.2.1 (Le.no _)
        have hc29_ := ho28_0.cap
        replace hs0 := hs0.up u29_.hh
        replace hs2 := hs2.up u29_.hh
        replace hs3 := hs3.up u29_.hh
        clear h29_ u29_ ho28_0
        refine Ops_step (R_move rfl) rfl rfl ?_
        refine Ops_step (R_extract (v := .slice A28_0 r28_0.length c28_0) rfl rfl) rfl rfl ?_
        refine Ops_step (R_extract (v := vi r28_1) rfl rfl) rfl rfl ?_
        refine Ops_step (R_assign rfl) rfl rfl ?_
        refine Ops_step (R_assign rfl) rfl rfl ?_
        refine Ops_nil ?_
        refine then_n (hK27_ _ _ ?_)
        clear hK27_ K27_
        refine W_keepB [0, 1, 2, 3, 13, 14] fun B30 hB30_ => ?_
        simp only [pickE, lookE, putE, zipE, args0, Nat.reduceAdd, Nat.zero_add, List.cons_append, List.nil_append, Nat.reduceBEq, cond_true, cond_false] at hB30_
        subst hB30_
        refine W_seq_k fun K31_ hK31_ => ?_
        refine W_seq_k fun K32_ hK32_ => ?_
        refine W_region [some 66, some 67] rfl ?_
        refine Ops_step (R_move rfl) rfl rfl ?_
        refine Ops_step (R_neq rfl rfl) rfl rfl ?_
        refine Ops_nil ?_
        refine then_n (hK32_ _ _ ?_)
        clear hK32_ K32_
        refine W_if rfl (fun hc33_ => ?_) (fun hc33_ => ?_)
        · replace h := h.1 hc33_
          refine W_seq_k fun K34_ hK34_ => ?_
          refine W_region [some 68, some 69, some 70, some 71, some 72, some 73, some 74, some 75, some 76, some 77, some 78, some 8] rfl ?_
          refine Ops_step (R_move rfl) rfl rfl ?_
          refine Ops_step (R_len Tryd.underlying22 rfl rfl) rfl rfl ?_
          refine Ops_step (R_neq rfl rfl) rfl rfl ?_
          refine Ops_step (R_move rfl) rfl rfl ?_
          refine Ops_split 71 rfl (fun hg35_ => ?_) (fun hg35_ => ?_)
          · replace h := h.1 hg35_
            refine Ops_step (R_move rfl) rfl rfl ?_
            refine Ops_step (R_len Tryd.underlying22 rfl rfl) rfl rfl ?_
            refine Ops_step (R_eql rfl rfl) rfl rfl ?_
            refine Ops_step (R_pick_true rfl rfl) rfl rfl ?_
            refine Ops_step (R_move rfl) rfl rfl ?_
            refine Ops_split 76 rfl (fun hg36_ => ?_) (fun hg36_ => ?_)
            · replace h := h.1 hg36_
              refine Ops_call (C_func TCtB.bd11 rfl) rfl rfl ?_
              refine (sealskinlaw08_awake_ok  hI.st (hg.up hI.le)  h).mono ?_
              rintro _ w37_ ⟨r37_0, L37_, H37_, rfl, hI37_, h⟩
              refine Exists.elim (hI.call hI37_ (by simp)) fun L370_ h37_ => ?_
              have hz37_ := hI.size
              replace hI := h37_.1
              have u37_ := h37_.2.1
              have hl37_ := h37_.2.2
              clear h37_
              clear hI37_ u37_ hl37_
              refine ⟨_, rfl, ?_⟩
              refine Ops_step (R_pick_true rfl rfl) rfl rfl ?_
              refine Ops_step (R_assign rfl) rfl rfl ?_
              refine Ops_nil ?_
              refine then_n (hK34_ _ _ ?_)
              clear hK34_ K34_
              refine W_keepB [8] fun B38 hB38_ => ?_
              simp only [pickE, lookE, putE, zipE, args0, Nat.reduceAdd, Nat.zero_add, List.cons_append, List.nil_append, Nat.reduceBEq, cond_true, cond_false] at hB38_
              subst hB38_
              refine W_ret ?_
              refine then_ret ?_
              clear hK31_ K31_
              refine ⟨_, ⟨_, _, rfl, rfl, rfl⟩, ?_⟩
              exact ⟨r37_0, _, _, rfl, hI, h⟩
            · replace h := h.2 hg36_
              refine Ops_pass rfl rfl ?_
              refine Ops_step (R_pick_false rfl rfl) rfl rfl ?_
              refine Ops_step (R_assign rfl) rfl rfl ?_
              refine Ops_nil ?_
              refine then_n (hK34_ _ _ ?_)
              clear hK34_ K34_
              refine W_keepB [8] fun B39 hB39_ => ?_
              simp only [pickE, lookE, putE, zipE, args0, Nat.reduceAdd, Nat.zero_add, List.cons_append, List.nil_append, Nat.reduceBEq, cond_true, cond_false] at hB39_
              subst hB39_
              refine W_ret ?_
              refine then_ret ?_
              clear hK31_ K31_
              refine ⟨_, ⟨_, _, rfl, rfl, rfl⟩, ?_⟩
              exact ⟨false, _, _, rfl, hI, h⟩
          · replace h := h.2 hg35_
            refine Ops_pass rfl rfl ?_
            refine Ops_pass rfl rfl ?_
            refine Ops_pass rfl rfl ?_
            refine Ops_step (R_pick_false rfl rfl) rfl rfl ?_
            refine Ops_step (R_move rfl) rfl rfl ?_
            refine Ops_pass rfl rfl ?_
            refine Ops_step (R_pick_false rfl rfl) rfl rfl ?_
            refine Ops_step (R_assign rfl) rfl rfl ?_
            refine Ops_nil ?_
            refine then_n (hK34_ _ _ ?_)
            clear hK34_ K34_
            refine W_keepB [8] fun B40 hB40_ => ?_
            simp only [pickE, lookE, putE, zipE, args0, Nat.reduceAdd, Nat.zero_add, List.cons_append, List.nil_append, Nat.reduceBEq, cond_true, cond_false] at hB40_
            subst hB40_
            refine W_ret ?_
            refine then_ret ?_
            clear hK31_ K31_
            refine ⟨_, ⟨_, _, rfl, rfl, rfl⟩, ?_⟩
            exact ⟨false, _, _, rfl, hI, h⟩
        · replace h := h.2 hc33_
          refine W_skip ?_
          refine then_n (hK31_ _ _ ?_)
          clear hK31_ K31_
          refine W_seq_k fun K41_ hK41_ => ?_
          refine W_region [some 80, some 81, some 82, some 83, some 84, some 79, some 85, some 86, some 15, some 16] rfl ?_
          refine Ops_step (R_move rfl) rfl rfl ?_
          refine Ops_step (R_move rfl) rfl rfl ?_
          refine Ops_step (R_move rfl) rfl rfl ?_
          refine Ops_step (R_move rfl) rfl rfl ?_
          refine Ops_call (C_func TCtB.bd15 rfl) rfl rfl ?_
          refine (cipher_Open_ok (x0 := x0) (x1 := x1) (x2 := x2) (x3 := r28_0) hI.st (hg.up hI.le) hc0 hs0 hc2 hs2 hc29_ (hs29_.up hI.sub) h).mono ?_
          rintro _ w42_ ⟨A42_0, c42_0, r42_0, r42_1, L42_, H42_, rfl, hI42_, ho42_0, h⟩
          refine Exists.elim (hI.call hI42_ (by simp)) fun L420_ h42_ => ?_
          have hz42_ := hI.size
          replace hI := h42_.1
          have u42_ := h42_.2.1
          have hl42_ := h42_.2.2
          clear h42_
          replace hs3 := hs3.up u42_.hh
          replace hs29_ := hs29_.up u42_.ll
          replace ho42_0 := OwnS.backS ho42_0 hz42_ (Le.refl _)
          clear hI42_ u42_ hl42_
          refine ⟨_, rfl, ?_⟩
          refine Exists.elim (ho42_0.freeze hI) fun L43_ h43_ => Exists.elim h43_ fun H43_ h43_ => ?_
          replace hI := h43_.1
          have u43_ := h43_.2.1
          have hs43_ := h43_.2.2.1 (Le.no _)
          have hc43_ := ho42_0.cap
          replace hs3 := hs3.up u43_.hh
          replace hs29_ := hs29_.up u43_.ll
          clear h43_ u43_ ho42_0
          refine Ops_step (R_move rfl) rfl rfl ?_
          refine Ops_step (R_extract (v := .slice A42_0 r42_0.length c42_0) rfl rfl) rfl rfl ?_
          refine Ops_step (R_extract (v := vi r42_1) rfl rfl) rfl rfl ?_
          refine Ops_step (R_assign rfl) rfl rfl ?_
          refine Ops_step (R_assign rfl) rfl rfl ?_
          refine Ops_nil ?_
          refine then_n (hK41_ _ _ ?_)
          clear hK41_ K41_
          refine W_keepB [3, 13, 15, 16] fun B44 hB44_ => ?_
          simp only [pickE, lookE, putE, zipE, args0, Nat.reduceAdd, Nat.zero_add, List.cons_append, List.nil_append, Nat.reduceBEq, cond_true, cond_false] at hB44_
          subst hB44_
          refine W_seq_k fun K45_ hK45_ => ?_
          refine W_region [some 87, some 88, some 89, some 90, some 91, some 92, some 93, some 94, some 95, some 96, some 97, some 98, some 99, some 100, some 101, some 102, some 103, some 104, some 8] rfl ?_
          refine Ops_step (R_move rfl) rfl rfl ?_
          refine Ops_step (R_eql rfl rfl) rfl rfl ?_
          refine Ops_step (R_move rfl) rfl rfl ?_
          refine Ops_split 89 rfl (fun hg46_ => ?_) (fun hg46_ => ?_)
          · replace h := h.1 hg46_
            refine Ops_step (R_move rfl) rfl rfl ?_
            refine Ops_step (R_move rfl) rfl rfl ?_
            refine Ops_call (C_func TCtB.bd13 rfl) rfl rfl ?_
            refine (bytes_Equal_ok (x0 := r42_0) (x1 := x3) hI.st (hg.up hI.le) hc43_ (hs43_.up hI.sub) hc3 hs3 h).mono ?_
            rintro _ w47_ ⟨r47_0, L47_, H47_, rfl, hI47_, h⟩
            refine Exists.elim (hI.call hI47_ (by simp)) fun L470_ h47_ => ?_
            have hz47_ := hI.size
            replace hI := h47_.1
            have u47_ := h47_.2.1
            have hl47_ := h47_.2.2
            clear h47_
            replace hs3 := hs3.up u47_.hh
            replace hs29_ := hs29_.up u47_.ll
            clear hI47_ u47_ hl47_
            refine ⟨_, rfl, ?_⟩
            refine Ops_step (R_pick_true rfl rfl) rfl rfl ?_
            refine Ops_step (R_move rfl) rfl rfl ?_
            refine Ops_splitB 94 rfl (fun hg48_ => ?_) (fun hg48_ => ?_)
            · replace h := h.1 hg48_
              refine Ops_step (R_move rfl) rfl rfl ?_
              refine Ops_step (R_len Tryd.underlying22 rfl rfl) rfl rfl ?_
              refine Ops_step (R_move rfl) rfl rfl ?_
              refine Ops_step (R_len Tryd.underlying22 rfl rfl) rfl rfl ?_
              have hk49_ := h.1
              replace h := h.2
              refine Ops_step (R_add rfl rfl (wI hk49_.1 hk49_.2)) rfl rfl ?_
              refine Ops_step (R_eql rfl rfl) rfl rfl ?_
              refine Ops_step (R_pick_true rfl rfl) rfl rfl ?_
              refine Ops_step (R_move rfl) rfl rfl ?_
              refine Ops_split 102 rfl (fun hg50_ => ?_) (fun hg50_ => ?_)
              · replace h := h.1 hg50_
                refine Ops_call (C_func TCtB.bd11 rfl) rfl rfl ?_
                refine (sealskinlaw08_awake_ok  hI.st (hg.up hI.le)  h).mono ?_
                rintro _ w51_ ⟨r51_0, L51_, H51_, rfl, hI51_, h⟩
                refine Exists.elim (hI.call hI51_ (by simp)) fun L510_ h51_ => ?_
                have hz51_ := hI.size
                replace hI := h51_.1
                have u51_ := h51_.2.1
                have hl51_ := h51_.2.2
                clear h51_
                clear hI51_ u51_ hl51_
                refine ⟨_, rfl, ?_⟩
                refine Ops_step (R_pick_true rfl rfl) rfl rfl ?_
                refine Ops_step (R_assign rfl) rfl rfl ?_
                refine Ops_nil ?_
                refine then_n (hK45_ _ _ ?_)
                clear hK45_ K45_
                refine W_keepB [8] fun B52 hB52_ => ?_
                simp only [pickE, lookE, putE, zipE, args0, Nat.reduceAdd, Nat.zero_add, List.cons_append, List.nil_append, Nat.reduceBEq, cond_true, cond_false] at hB52_
                subst hB52_
                refine W_ret ?_
                refine ⟨_, ⟨_, _, rfl, rfl, rfl⟩, ?_⟩
                exact ⟨r51_0, _, _, rfl, hI, h⟩
              · replace h := h.2 hg50_
                refine Ops_pass rfl rfl ?_
                refine Ops_step (R_pick_false rfl rfl) rfl rfl ?_
                refine Ops_step (R_assign rfl) rfl rfl ?_
                refine Ops_nil ?_
                refine then_n (hK45_ _ _ ?_)
                clear hK45_ K45_
                refine W_keepB [8] fun B53 hB53_ => ?_
                simp only [pickE, lookE, putE, zipE, args0, Nat.reduceAdd, Nat.zero_add, List.cons_append, List.nil_append, Nat.reduceBEq, cond_true, cond_false] at hB53_
                subst hB53_
                refine W_ret ?_
                refine ⟨_, ⟨_, _, rfl, rfl, rfl⟩, ?_⟩
                exact ⟨false, _, _, rfl, hI, h⟩
            · replace h := h.2 hg48_
              refine Ops_pass rfl rfl ?_
              refine Ops_pass rfl rfl ?_
              refine Ops_pass rfl rfl ?_
              refine Ops_pass rfl rfl ?_
              refine Ops_pass rfl rfl ?_
              refine Ops_pass rfl rfl ?_
              refine Ops_step (R_pick_false rfl rfl) rfl rfl ?_
              refine Ops_step (R_move rfl) rfl rfl ?_
              refine Ops_pass rfl rfl ?_
              refine Ops_step (R_pick_false rfl rfl) rfl rfl ?_
              refine Ops_step (R_assign rfl) rfl rfl ?_
              refine Ops_nil ?_
              refine then_n (hK45_ _ _ ?_)
              clear hK45_ K45_
              refine W_keepB [8] fun B54 hB54_ => ?_
              simp only [pickE, lookE, putE, zipE, args0, Nat.reduceAdd, Nat.zero_add, List.cons_append, List.nil_append, Nat.reduceBEq, cond_true, cond_false] at hB54_
              subst hB54_
              refine W_ret ?_
              refine ⟨_, ⟨_, _, rfl, rfl, rfl⟩, ?_⟩
              exact ⟨false, _, _, rfl, hI, h⟩
          · replace h := h.2 hg46_
            refine Ops_pass rfl rfl ?_
            refine Ops_pass rfl rfl ?_
            refine Ops_pass rfl rfl ?_
            refine Ops_step (R_pick_false rfl rfl) rfl rfl ?_
            refine Ops_step (R_move rfl) rfl rfl ?_
            refine Ops_pass rfl rfl ?_
            refine Ops_pass rfl rfl ?_
            refine Ops_pass rfl rfl ?_
            refine Ops_pass rfl rfl ?_
            refine Ops_pass rfl rfl ?_
            refine Ops_pass rfl rfl ?_
            refine Ops_step (R_pick_false rfl rfl) rfl rfl ?_
            refine Ops_step (R_move rfl) rfl rfl ?_
            refine Ops_pass rfl rfl ?_
            refine Ops_step (R_pick_false rfl rfl) rfl rfl ?_
            refine Ops_step (R_assign rfl) rfl rfl ?_
            refine Ops_nil ?_
            refine then_n (hK45_ _ _ ?_)
            clear hK45_ K45_
            refine W_keepB [8] fun B55 hB55_ => ?_
            simp only [pickE, lookE, putE, zipE, args0, Nat.reduceAdd, Nat.zero_add, List.cons_append, List.nil_append, Nat.reduceBEq, cond_true, cond_false] at hB55_
            subst hB55_
            refine W_ret ?_
            refine ⟨_, ⟨_, _, rfl, rfl, rfl⟩, ?_⟩
            exact ⟨false, _, _, rfl, hI, h⟩

set_option maxHeartbeats 4000000 in
theorem sealskinlaw08_CipherForm_ok {G : Gh} {w : World} (hS : St G w) (hg : GL G) {A0 : Option Addr} {c0 : Nat} {x0 : List UInt8} (hc0 : x0.length ≤ c0) (hs0 : Sl G A0 x0) {x1 : BitVec 64} {A2 : Option Addr} {c2 : Nat} {x2 : List UInt8} (hc2 : x2.length ≤ c2) (hs2 : Sl G A2 x2) {A3 : Option Addr} {c3 : Nat} {x3 : List UInt8} (hc3 : x3.length ≤ c3) (hs3 : Sl G A3 x3) {Q : Bool → Prop} (h : sealskinlaw08_CipherForm x0 x1 x2 x3 Q) : Calls Tryd.prog 4 #[.slice A0 x0.length c0, w64 x1, .slice A2 x2.length c2, .slice A3 x3.length c3] w fun e w2 => ∃ (r0 : Bool) (L H : Gh), e = .returned (.bool r0) ∧ Inv [] G w L H w2 ∧ Q r0 := by
  unfold sealskinlaw08_CipherForm at h
  have hI := Inv.start (M := []) hS
  refine calls_W 53 Tryd.func4 rfl Tryd.ntmps4 rfl [.tmp 8] rfl ?_
  refine W_seq_k fun K1_ hK1_ => ?_
  refine W_region [some 8] rfl ?_
  refine Ops_step (R_assign rfl) rfl rfl ?_
  refine Ops_nil ?_
  refine then_n (hK1_ _ _ ?_)
  clear hK1_ K1_
  refine W_seq_k fun K2_ hK2_ => ?_
  refine W_seq_k fun K3_ hK3_ => ?_
  refine W_region [some 13, some 14, some 15, some 16, some 17] rfl ?_
  refine Ops_step (R_move rfl) rfl rfl ?_
  refine Ops_step (R_move rfl) rfl rfl ?_
  refine Ops_step (R_move rfl) rfl rfl ?_
  refine Ops_to (R_buildSlice TCtB.el37 TCtB.zr22 (by decide) (by decide) rfl rfl) rfl rfl ?_
  rintro _ w4_ ⟨b4_, rfl, hb4_, hB4_, hF4_⟩
  have ho4_ : OwnS w.heap.size 22 G G _ (some ⟨b4_, 0, none⟩) 3 ([x0, x2, x3] : List (List UInt8)) := OwnS.ofBlk (css := [[.slice A0 x0.length c0], [.slice A2 x2.length c2], [.slice A3 x3.length c3]]) hI.st hb4_ hB4_ (.cons ⟨A0, c0, rfl, hc0, hs0⟩ (.cons ⟨A2, c2, rfl, hc2, hs2⟩ (.cons ⟨A3, c3, rfl, hc3, hs3⟩ .nil))) rfl (by have := hI.size; omega) (by show 3 ≤ maxLen; decide)
  replace hI := hI.fr0 hF4_
  clear hF4_ hB4_
  refine Exists.elim (ho4_.lend hI.st (Le.refl _)) fun Hb5_0_ hb5_0_ => ?_
  refine Ops_call (C_func TCtB.bd10 rfl) rfl rfl ?_
  refine (sealskinlaw08_long_ok (x0 := ([x0, x2, x3] : List (List UInt8))) hb5_0_.1 (hg.up (hI.le.trans hb5_0_.2.1)) (Nat.le_refl _) hb5_0_.2.2 h).mono ?_
  rintro _ w5_ ⟨r5_0, L5_, H5_, rfl, hI5_, h⟩
  refine Exists.elim (hI.callB hb5_0_.2.1 hI5_ (by simp)) fun L50_ h5_ => Exists.elim h5_ fun H50_ h5_ => ?_
  have hz5_ := hI.size
  replace hI := h5_.1
  have u5_ := h5_.2.1
  have hl5_ := h5_.2.2.1
  have hh5_ := h5_.2.2.2
  clear h5_
  replace hs0 := hs0.up u5_.hh
  replace hs2 := hs2.up u5_.hh
  replace hs3 := hs3.up u5_.hh
  clear hI5_ u5_ hl5_
  refine ⟨_, rfl, ?_⟩
  refine Ops_nil ?_
  refine then_n (hK3_ _ _ ?_)
  clear hK3_ K3_
  refine W_cond rfl (fun hc6_ => ?_) (fun hc6_ => ?_)
  · replace h := h.1 hc6_
    refine W_seq_k fun K7_ hK7_ => ?_
    refine W_region [some 18, some 8] rfl ?_
    refine Ops_call (C_func TCtB.bd11 rfl) rfl rfl ?_
    refine (sealskinlaw08_awake_ok  hI.st (hg.up hI.le)  h).mono ?_
    rintro _ w8_ ⟨r8_0, L8_, H8_, rfl, hI8_, h⟩
    refine Exists.elim (hI.call hI8_ (by simp)) fun L80_ h8_ => ?_
    have hz8_ := hI.size
    replace hI := h8_.1
    have u8_ := h8_.2.1
    have hl8_ := h8_.2.2
    clear h8_
    clear hI8_ u8_ hl8_
    refine ⟨_, rfl, ?_⟩
    refine Ops_step (R_assign rfl) rfl rfl ?_
    refine Ops_nil ?_
    refine then_n (hK7_ _ _ ?_)
    clear hK7_ K7_
    refine W_keepB [8] fun B9 hB9_ => ?_
    simp only [pickE, lookE, putE, zipE, args0, Nat.reduceAdd, Nat.zero_add, List.cons_append, List.nil_append, Nat.reduceBEq, cond_true, cond_false] at hB9_
    subst hB9_
    refine W_ret ?_
    refine then_ret ?_
    clear hK2_ K2_
    refine ⟨_, ⟨_, _, rfl, rfl, rfl⟩, ?_⟩
    exact ⟨r8_0, _, _, rfl, hI, h⟩
  · replace h := h.2 hc6_
    refine W_skip ?_
    refine then_n (hK2_ _ _ ?_)
    clear hK2_ K2_
    refine W_keepB [0, 1, 2, 3] fun B10 hB10_ => ?_
    simp only [pickE, lookE, putE, zipE, args0, Nat.reduceAdd, Nat.zero_add, List.cons_append, List.nil_append, Nat.reduceBEq, cond_true, cond_false] at hB10_
    subst hB10_
    refine W_seq_k fun K11_ hK11_ => ?_
    refine W_region [some 20, some 21, some 22, some 23, some 24, some 19, some 25, some 26, some 9, some 10] rfl ?_
    refine Ops_step (R_move rfl) rfl rfl ?_
    refine Ops_step (R_move rfl) rfl rfl ?_
    refine Ops_step (R_move rfl) rfl rfl ?_
    refine Ops_step (R_move rfl) rfl rfl ?_
    refine Ops_call (C_func TCtB.bd15 rfl) rfl rfl ?_
    refine (cipher_Open_ok (x0 := x0) (x1 := x1) (x2 := x2) (x3 := x3) hI.st (hg.up hI.le) hc0 hs0 hc2 hs2 hc3 hs3 h).mono ?_
    rintro _ w12_ ⟨A12_0, c12_0, r12_0, r12_1, L12_, H12_, rfl, hI12_, ho12_0, h⟩
    refine Exists.elim (hI.call hI12_ (by simp)) fun L120_ h12_ => ?_
    have hz12_ := hI.size
    replace hI := h12_.1
    have u12_ := h12_.2.1
    have hl12_ := h12_.2.2
    clear h12_
    replace hs0 := hs0.up u12_.hh
    replace hs2 := hs2.up u12_.hh
    replace hs3 := hs3.up u12_.hh
    replace ho12_0 := OwnS.backS ho12_0 hz12_ (Le.refl _)
    clear hI12_ u12_ hl12_
    refine ⟨_, rfl, ?_⟩
    refine Exists.elim (ho12_0.freeze hI) fun L13_ h13_ => Exists.elim h13_ fun H13_ h13_ => ?_
    replace hI := h13_.1
    have u13_ := h13_.2.1
    have hs13_ := h13_.2.2.1 (Le.no _)
    have hc13_ := ho12_0.cap
    replace hs0 := hs0.up u13_.hh
    replace hs2 := hs2.up u13_.hh
    replace hs3 := hs3.up u13_.hh
    clear h13_ u13_ ho12_0
    refine Ops_step (R_move rfl) rfl rfl ?_
    refine Ops_step (R_extract (v := .slice A12_0 r12_0.length c12_0) rfl rfl) rfl rfl ?_
    refine Ops_step (R_extract (v := vi r12_1) rfl rfl) rfl rfl ?_
    refine Ops_step (R_assign rfl) rfl rfl ?_
    refine Ops_step (R_assign rfl) rfl rfl ?_
    refine Ops_nil ?_
    refine then_n (hK11_ _ _ ?_)
    clear hK11_ K11_
    refine W_keepB [0, 1, 2, 3, 9, 10] fun B14 hB14_ => ?_
    simp only [pickE, lookE, putE, zipE, args0, Nat.reduceAdd, Nat.zero_add, List.cons_append, List.nil_append, Nat.reduceBEq, cond_true, cond_false] at hB14_
    subst hB14_
    refine W_seq_k fun K15_ hK15_ => ?_
    refine W_seq_k fun K16_ hK16_ => ?_
    refine W_region [some 27, some 28] rfl ?_
    refine Ops_step (R_move rfl) rfl rfl ?_
    refine Ops_step (R_neq rfl rfl) rfl rfl ?_
    refine Ops_nil ?_
    refine then_n (hK16_ _ _ ?_)
    clear hK16_ K16_
    refine W_if rfl (fun hc17_ => ?_) (fun hc17_ => ?_)
    · replace h := h.1 hc17_
      refine W_seq_k fun K18_ hK18_ => ?_
      refine W_region [some 29, some 30, some 31, some 32, some 33, some 34, some 8] rfl ?_
      refine Ops_step (R_move rfl) rfl rfl ?_
      refine Ops_step (R_len Tryd.underlying22 rfl rfl) rfl rfl ?_
      refine Ops_step (R_eql rfl rfl) rfl rfl ?_
      refine Ops_step (R_move rfl) rfl rfl ?_
      refine Ops_split 32 rfl (fun hg19_ => ?_) (fun hg19_ => ?_)
      · replace h := h.1 hg19_
        refine Ops_call (C_func TCtB.bd11 rfl) rfl rfl ?_
        refine (sealskinlaw08_awake_ok  hI.st (hg.up hI.le)  h).mono ?_
        rintro _ w20_ ⟨r20_0, L20_, H20_, rfl, hI20_, h⟩
        refine Exists.elim (hI.call hI20_ (by simp)) fun L200_ h20_ => ?_
        have hz20_ := hI.size
        replace hI := h20_.1
        have u20_ := h20_.2.1
        have hl20_ := h20_.2.2
        clear h20_
        clear hI20_ u20_ hl20_
        refine ⟨_, rfl, ?_⟩
        refine Ops_step (R_pick_true rfl rfl) rfl rfl ?_
        refine Ops_step (R_assign rfl) rfl rfl ?_
        refine Ops_nil ?_
        refine then_n (hK18_ _ _ ?_)
        clear hK18_ K18_
        refine W_keepB [8] fun B21 hB21_ => ?_
        simp only [pickE, lookE, putE, zipE, args0, Nat.reduceAdd, Nat.zero_add, List.cons_append, List.nil_append, Nat.reduceBEq, cond_true, cond_false] at hB21_
        subst hB21_
        refine W_ret ?_
        refine then_ret ?_
        clear hK15_ K15_
        refine ⟨_, ⟨_, _, rfl, rfl, rfl⟩, ?_⟩
        exact ⟨r20_0, _, _, rfl, hI, h⟩
      · replace h := h.2 hg19_
        refine Ops_pass rfl rfl ?_
        refine Ops_step (R_pick_false rfl rfl) rfl rfl ?_
        refine Ops_step (R_assign rfl) rfl rfl ?_
        refine Ops_nil ?_
        refine then_n (hK18_ _ _ ?_)
        clear hK18_ K18_
        refine W_keepB [8] fun B22 hB22_ => ?_
        simp only [pickE, lookE, putE, zipE, args0, Nat.reduceAdd, Nat.zero_add, List.cons_append, List.nil_append, Nat.reduceBEq, cond_true, cond_false] at hB22_
        subst hB22_
        refine W_ret ?_
        refine then_ret ?_
        clear hK15_ K15_
        refine ⟨_, ⟨_, _, rfl, rfl, rfl⟩, ?_⟩
        exact ⟨false, _, _, rfl, hI, h⟩
    · replace h := h.2 hc17_
      refine W_skip ?_
      refine then_n (hK15_ _ _ ?_)
      clear hK15_ K15_
      refine W_seq_k fun K23_ hK23_ => ?_
      refine W_region [some 36, some 37, some 38, some 39, some 40, some 35, some 41, some 42, some 11, some 12] rfl ?_
      refine Ops_step (R_move rfl) rfl rfl ?_
      refine Ops_step (R_move rfl) rfl rfl ?_
      refine Ops_step (R_move rfl) rfl rfl ?_
      refine Ops_step (R_move rfl) rfl rfl ?_
      refine Ops_call (C_func TCtB.bd14 rfl) rfl rfl ?_
      refine (cipher_Seal_ok (x0 := x0) (x1 := x1) (x2 := x2) (x3 := r12_0) hI.st (hg.up hI.le) hc0 hs0 hc2 hs2 hc13_ (hs13_.up hI.sub) h).mono ?_
      rintro _ w24_ ⟨A24_0, c24_0, r24_0, r24_1, L24_, H24_, rfl, hI24_, ho24_0, h⟩
      refine Exists.elim (hI.call hI24_ (by simp)) fun L240_ h24_ => ?_
      have hz24_ := hI.size
      replace hI := h24_.1
      have u24_ := h24_.2.1
      have hl24_ := h24_.2.2
      clear h24_
      replace hs3 := hs3.up u24_.hh
      replace ho24_0 := OwnS.backS ho24_0 hz24_ (Le.refl _)
      clear hI24_ u24_ hl24_
      refine ⟨_, rfl, ?_⟩
      refine Exists.elim (ho24_0.freeze hI) fun L25_ h25_ => Exists.elim h25_ fun H25_ h25_ => ?_
      replace hI := h25_.1
      have u25_ := h25_.2.1
      have hs25_ := h25_.2.2.1 (Le.no _)
      have hc25_ := ho24_0.cap
      replace hs3 := hs3.up u25_.hh
      clear h25_ u25_ ho24_0
      refine Ops_step (R_move rfl) rfl rfl ?_
      refine Ops_step (R_extract (v := .slice A24_0 r24_0.length c24_0) rfl rfl) rfl rfl ?_
      refine Ops_step (R_extract (v := vi r24_1) rfl rfl) rfl rfl ?_
      refine Ops_step (R_assign rfl) rfl rfl ?_
      refine Ops_step (R_assign rfl) rfl rfl ?_
      refine Ops_nil ?_
      refine then_n (hK23_ _ _ ?_)
      clear hK23_ K23_
      refine W_keepB [3, 11, 12] fun B26 hB26_ => ?_
      simp only [pickE, lookE, putE, zipE, args0, Nat.reduceAdd, Nat.zero_add, List.cons_append, List.nil_append, Nat.reduceBEq, cond_true, cond_false] at hB26_
      subst hB26_
      refine W_seq_k fun K27_ hK27_ => ?_
      refine W_region [some 43, some 44, some 45, some 46, some 47, some 48, some 49, some 50, some 51, some 52, some 8] rfl ?_
      refine Ops_step (R_move rfl) rfl rfl ?_
      refine Ops_step (R_eql rfl rfl) rfl rfl ?_
      refine Ops_step (R_move rfl) rfl rfl ?_
      refine Ops_split 45 rfl (fun hg28_ => ?_) (fun hg28_ => ?_)
      · replace h := h.1 hg28_
        refine Ops_step (R_move rfl) rfl rfl ?_
        refine Ops_step (R_move rfl) rfl rfl ?_
        refine Ops_call (C_func TCtB.bd13 rfl) rfl rfl ?_
        refine (bytes_Equal_ok (x0 := r24_0) (x1 := x3) hI.st (hg.up hI.le) hc25_ (hs25_.up hI.sub) hc3 hs3 h).mono ?_
        rintro _ w29_ ⟨r29_0, L29_, H29_, rfl, hI29_, h⟩
        refine Exists.elim (hI.call hI29_ (by simp)) fun L290_ h29_ => ?_
        have hz29_ := hI.size
        replace hI := h29_.1
        have u29_ := h29_.2.1
        have hl29_ := h29_.2.2
        clear h29_
        clear hI29_ u29_ hl29_
        refine ⟨_, rfl, ?_⟩
        refine Ops_step (R_pick_true rfl rfl) rfl rfl ?_
        refine Ops_step (R_move rfl) rfl rfl ?_
        refine Ops_splitB 50 rfl (fun hg30_ => ?_) (fun hg30_ => ?_)
        · replace h := h.1 hg30_
          refine Ops_call (C_func TCtB.bd11 rfl) rfl rfl ?_
          refine (sealskinlaw08_awake_ok  hI.st (hg.up hI.le)  h).mono ?_
          rintro _ w31_ ⟨r31_0, L31_, H31_, rfl, hI31_, h⟩
          refine Exists.elim (hI.call hI31_ (by simp)) fun L310_ h31_ => ?_
          have hz31_ := hI.size
          replace hI := h31_.1
          have u31_ := h31_.2.1
          have hl31_ := h31_.2.2
          clear h31_
          clear hI31_ u31_ hl31_
          refine ⟨_, rfl, ?_⟩
          refine Ops_step (R_pick_true rfl rfl) rfl rfl ?_
          refine Ops_step (R_assign rfl) rfl rfl ?_
          refine Ops_nil ?_
          refine then_n (hK27_ _ _ ?_)
          clear hK27_ K27_
          refine W_keepB [8] fun B32 hB32_ => ?_
          simp only [pickE, lookE, putE, zipE, args0, Nat.reduceAdd, Nat.zero_add, List.cons_append, List.nil_append, Nat.reduceBEq, cond_true, cond_false] at hB32_
          subst hB32_
          refine W_ret ?_
          refine ⟨_, ⟨_, _, rfl, rfl, rfl⟩, ?_⟩
          exact ⟨r31_0, _, _, rfl, hI, h⟩
        · replace h := h.2 hg30_
          refine Ops_pass rfl rfl ?_
          refine Ops_step (R_pick_false rfl rfl) rfl rfl ?_
          refine Ops_step (R_assign rfl) rfl rfl ?_
          refine Ops_nil ?_
          refine then_n (hK27_ _ _ ?_)
          clear hK27_ K27_
          refine W_keepB [8] fun B33 hB33_ => ?_
          simp only [pickE, lookE, putE, zipE, args0, Nat.reduceAdd, Nat.zero_add, List.cons_append, List.nil_append, Nat.reduceBEq, cond_true, cond_false] at hB33_
          subst hB33_
          refine W_ret ?_
          refine ⟨_, ⟨_, _, rfl, rfl, rfl⟩, ?_⟩
          exact ⟨false, _, _, rfl, hI, h⟩
      · replace h := h.2 hg28_
        refine Ops_pass rfl rfl ?_
        refine Ops_pass rfl rfl ?_
        refine Ops_pass rfl rfl ?_
        refine Ops_step (R_pick_false rfl rfl) rfl rfl ?_
        refine Ops_step (R_move rfl) rfl rfl ?_
        refine Ops_pass rfl rfl ?_
        refine Ops_step (R_pick_false rfl rfl) rfl rfl ?_
        refine Ops_step (R_assign rfl) rfl rfl ?_
        refine Ops_nil ?_
        refine then_n (hK27_ _ _ ?_)
        clear hK27_ K27_
        refine W_keepB [8] fun B34 hB34_ => ?_
        simp only [pickE, lookE, putE, zipE, args0, Nat.reduceAdd, Nat.zero_add, List.cons_append, List.nil_append, Nat.reduceBEq, cond_true, cond_false] at hB34_
        subst hB34_
        refine W_ret ?_
        refine ⟨_, ⟨_, _, rfl, rfl, rfl⟩, ?_⟩
        exact ⟨false, _, _, rfl, hI, h⟩

set_option maxHeartbeats 4000000 in
theorem sealskinlaw08_CipherTells_ok {G : Gh} {w : World} (hS : St G w) (hg : GL G) {A0 : Option Addr} {c0 : Nat} {x0 : List UInt8} (hc0 : x0.length ≤ c0) (hs0 : Sl G A0 x0) {x1 : BitVec 64} {A2 : Option Addr} {c2 : Nat} {x2 : List UInt8} (hc2 : x2.length ≤ c2) (hs2 : Sl G A2 x2) {A3 : Option Addr} {c3 : Nat} {x3 : List UInt8} (hc3 : x3.length ≤ c3) (hs3 : Sl G A3 x3) {x4 : Int} {x5 : Int} {Q : Bool → Prop} (h : sealskinlaw08_CipherTells x0 x1 x2 x3 x4 x5 Q) : Calls Tryd.prog 8 #[.slice A0 x0.length c0, w64 x1, .slice A2 x2.length c2, .slice A3 x3.length c3, vi x4, vi x5] w fun e w2 => ∃ (r0 : Bool) (L H : Gh), e = .returned (.bool r0) ∧ Inv [] G w L H w2 ∧ Q r0 := by
  unfold sealskinlaw08_CipherTells at h
  have hI := Inv.start (M := []) hS
  refine calls_W 91 Tryd.func8 rfl Tryd.ntmps8 rfl [.tmp 12] rfl ?_
  refine W_seq_k fun K1_ hK1_ => ?_
  refine W_region [some 12] rfl ?_
  refine Ops_step (R_assign rfl) rfl rfl ?_
  refine Ops_nil ?_
  refine then_n (hK1_ _ _ ?_)
  clear hK1_ K1_
  refine W_seq_k fun K2_ hK2_ => ?_
  refine W_seq_k fun K3_ hK3_ => ?_
  refine W_region [some 20, some 21, some 22, some 23, some 24] rfl ?_
  refine Ops_step (R_move rfl) rfl rfl ?_
  refine Ops_step (R_move rfl) rfl rfl ?_
  refine Ops_step (R_move rfl) rfl rfl ?_
  refine Ops_to (R_buildSlice TCtB.el37 TCtB.zr22 (by decide) (by decide) rfl rfl) rfl rfl ?_
  rintro _ w4_ ⟨b4_, rfl, hb4_, hB4_, hF4_⟩
  have ho4_ : OwnS w.heap.size 22 G G _ (some ⟨b4_, 0, none⟩) 3 ([x0, x2, x3] : List (List UInt8)) := OwnS.ofBlk (css := [[.slice A0 x0.length c0], [.slice A2 x2.length c2], [.slice A3 x3.length c3]]) hI.st hb4_ hB4_ (.cons ⟨A0, c0, rfl, hc0, hs0⟩ (.cons ⟨A2, c2, rfl, hc2, hs2⟩ (.cons ⟨A3, c3, rfl, hc3, hs3⟩ .nil))) rfl (by have := hI.size; omega) (by show 3 ≤ maxLen; decide)
  replace hI := hI.fr0 hF4_
  clear hF4_ hB4_
  refine Exists.elim (ho4_.lend hI.st (Le.refl _)) fun Hb5_0_ hb5_0_ => ?_
  refine Ops_call (C_func TCtB.bd10 rfl) rfl rfl ?_
  refine (sealskinlaw08_long_ok (x0 := ([x0, x2, x3] : List (List UInt8))) hb5_0_.1 (hg.up (hI.le.trans hb5_0_.2.1)) (Nat.le_refl _) hb5_0_.2.2 h).mono ?_
  rintro _ w5_ ⟨r5_0, L5_, H5_, rfl, hI5_, h⟩
  refine Exists.elim (hI.callB hb5_0_.2.1 hI5_ (by simp)) fun L50_ h5_ => Exists.elim h5_ fun H50_ h5_ => ?_
  have hz5_ := hI.size
  replace hI := h5_.1
  have u5_ := h5_.2.1
  have hl5_ := h5_.2.2.1
  have hh5_ := h5_.2.2.2
  clear h5_
  replace hs0 := hs0.up u5_.hh
  replace hs2 := hs2.up u5_.hh
  replace hs3 := hs3.up u5_.hh
  clear hI5_ u5_ hl5_
  refine ⟨_, rfl, ?_⟩
  refine Ops_nil ?_
  refine then_n (hK3_ _ _ ?_)
  clear hK3_ K3_
  refine W_cond rfl (fun hc6_ => ?_) (fun hc6_ => ?_)
  · replace h := h.1 hc6_
    refine W_seq_k fun K7_ hK7_ => ?_
    refine W_region [some 25, some 12] rfl ?_
    refine Ops_call (C_func TCtB.bd11 rfl) rfl rfl ?_
    refine (sealskinlaw08_awake_ok  hI.st (hg.up hI.le)  h).mono ?_
    rintro _ w8_ ⟨r8_0, L8_, H8_, rfl, hI8_, h⟩
    refine Exists.elim (hI.call hI8_ (by simp)) fun L80_ h8_ => ?_
    have hz8_ := hI.size
    replace hI := h8_.1
    have u8_ := h8_.2.1
    have hl8_ := h8_.2.2
    clear h8_
    clear hI8_ u8_ hl8_
    refine ⟨_, rfl, ?_⟩
    refine Ops_step (R_assign rfl) rfl rfl ?_
    refine Ops_nil ?_
    refine then_n (hK7_ _ _ ?_)
    clear hK7_ K7_
    refine W_keepB [12] fun B9 hB9_ => ?_
    simp only [pickE, lookE, putE, zipE, args0, Nat.reduceAdd, Nat.zero_add, List.cons_append, List.nil_append, Nat.reduceBEq, cond_true, cond_false] at hB9_
    subst hB9_
    refine W_ret ?_
    refine then_ret ?_
    clear hK2_ K2_
    refine ⟨_, ⟨_, _, rfl, rfl, rfl⟩, ?_⟩
    exact ⟨r8_0, _, _, rfl, hI, h⟩
  · replace h := h.2 hc6_
    refine W_skip ?_
    refine then_n (hK2_ _ _ ?_)
    clear hK2_ K2_
    refine W_keepB [0, 1, 2, 3, 4, 5] fun B10 hB10_ => ?_
    simp only [pickE, lookE, putE, zipE, args0, Nat.reduceAdd, Nat.zero_add, List.cons_append, List.nil_append, Nat.reduceBEq, cond_true, cond_false] at hB10_
    subst hB10_
    refine W_seq_k fun K11_ hK11_ => ?_
    refine W_region [some 27, some 28, some 29, some 30, some 31, some 26, some 32, some 33, some 13, some 14] rfl ?_
    refine Ops_step (R_move rfl) rfl rfl ?_
    refine Ops_step (R_move rfl) rfl rfl ?_
    refine Ops_step (R_move rfl) rfl rfl ?_
    refine Ops_step (R_move rfl) rfl rfl ?_
    refine Ops_call (C_func TCtB.bd14 rfl) rfl rfl ?_
    refine (cipher_Seal_ok (x0 := x0) (x1 := x1) (x2 := x2) (x3 := x3) hI.st (hg.up hI.le) hc0 hs0 hc2 hs2 hc3 hs3 h).mono ?_
    rintro _ w12_ ⟨A12_0, c12_0, r12_0, r12_1, L12_, H12_, rfl, hI12_, ho12_0, h⟩
    refine Exists.elim (hI.call hI12_ (by simp)) fun L120_ h12_ => ?_
    have hz12_ := hI.size
    replace hI := h12_.1
    have u12_ := h12_.2.1
    have hl12_ := h12_.2.2
    clear h12_
    replace hs0 := hs0.up u12_.hh
    replace hs2 := hs2.up u12_.hh
    replace hs3 := hs3.up u12_.hh
    replace ho12_0 := OwnS.backS ho12_0 hz12_ (Le.refl _)
    clear hI12_ u12_ hl12_
    refine ⟨_, rfl, ?_⟩
    refine Exists.elim (ho12_0.freeze hI) fun L13_ h13_ => Exists.elim h13_ fun H13_ h13_ => ?_
    replace hI := h13_.1
    have u13_ := h13_.2.1
    have hs13_ := h13_.2.2.1 (Le.no _)
    have hc13_ := ho12_0.cap
    replace hs0 := hs0.up u13_.hh
    replace hs2 := hs2.up u13_.hh
    replace hs3 := hs3.up u13_.hh
    clear h13_ u13_ ho12_0
    refine Ops_step (R_move rfl) rfl rfl ?_
    refine Ops_step (R_extract (v := .slice A12_0 r12_0.length c12_0) rfl rfl) rfl rfl ?_
    refine Ops_step (R_extract (v := vi r12_1) rfl rfl) rfl rfl ?_
    refine Ops_step (R_assign rfl) rfl rfl ?_
    refine Ops_step (R_assign rfl) rfl rfl ?_
    refine Ops_nil ?_
    refine then_n (hK11_ _ _ ?_)
    clear hK11_ K11_
    refine W_keepB [0, 1, 2, 3, 4, 5, 13, 14] fun B14 hB14_ => ?_
    simp only [pickE, lookE, putE, zipE, args0, Nat.reduceAdd, Nat.zero_add, List.cons_append, List.nil_append, Nat.reduceBEq, cond_true, cond_false] at hB14_
    subst hB14_
    refine W_seq_k fun K15_ hK15_ => ?_
    refine W_seq_k fun K16_ hK16_ => ?_
    refine W_region [some 34, some 35] rfl ?_
    refine Ops_step (R_move rfl) rfl rfl ?_
    refine Ops_step (R_neq rfl rfl) rfl rfl ?_
    refine Ops_nil ?_
    refine then_n (hK16_ _ _ ?_)
    clear hK16_ K16_
    refine W_if rfl (fun hc17_ => ?_) (fun hc17_ => ?_)
    · replace h := h.1 hc17_
      refine W_seq_k fun K18_ hK18_ => ?_
      refine W_region [some 36, some 12] rfl ?_
      refine Ops_call (C_func TCtB.bd11 rfl) rfl rfl ?_
      refine (sealskinlaw08_awake_ok  hI.st (hg.up hI.le)  h).mono ?_
      rintro _ w19_ ⟨r19_0, L19_, H19_, rfl, hI19_, h⟩
      refine Exists.elim (hI.call hI19_ (by simp)) fun L190_ h19_ => ?_
      have hz19_ := hI.size
      replace hI := h19_.1
      have u19_ := h19_.2.1
      have hl19_ := h19_.2.2
      clear h19_
      clear hI19_ u19_ hl19_
      refine ⟨_, rfl, ?_⟩
      refine Ops_step (R_assign rfl) rfl rfl ?_
      refine Ops_nil ?_
      refine then_n (hK18_ _ _ ?_)
      clear hK18_ K18_
      refine W_keepB [12] fun B20 hB20_ => ?_
      simp only [pickE, lookE, putE, zipE, args0, Nat.reduceAdd, Nat.zero_add, List.cons_append, List.nil_append, Nat.reduceBEq, cond_true, cond_false] at hB20_
      subst hB20_
      refine W_ret ?_
      refine then_ret ?_
      clear hK15_ K15_
      refine ⟨_, ⟨_, _, rfl, rfl, rfl⟩, ?_⟩
      exact ⟨r19_0, _, _, rfl, hI, h⟩
    · replace h := h.2 hc17_
      refine W_skip ?_
      refine then_n (hK15_ _ _ ?_)
      clear hK15_ K15_
      refine W_seq_k fun K21_ hK21_ => ?_
      refine W_seq_k fun K22_ hK22_ => ?_
      refine W_region [some 37, some 38, some 39, some 40, some 41, some 42] rfl ?_
      refine Ops_step (R_move rfl) rfl rfl ?_
      refine Ops_step (R_len Tryd.underlying22 rfl rfl) rfl rfl ?_
      refine Ops_step (R_move rfl) rfl rfl ?_
      refine Ops_step (R_len Tryd.underlying22 rfl rfl) rfl rfl ?_
      have hk23_ := h.1
      replace h := h.2
      refine Ops_step (R_add rfl rfl (wI hk23_.1 hk23_.2)) rfl rfl ?_
      refine Ops_step (R_neq rfl rfl) rfl rfl ?_
      refine Ops_nil ?_
      refine then_n (hK22_ _ _ ?_)
      clear hK22_ K22_
      refine W_keepB [0, 1, 2, 3, 4, 5, 13, 42] fun B24 hB24_ => ?_
      simp only [pickE, lookE, putE, zipE, args0, Nat.reduceAdd, Nat.zero_add, List.cons_append, List.nil_append, Nat.reduceBEq, cond_true, cond_false] at hB24_
      subst hB24_
      refine W_if rfl (fun hc25_ => ?_) (fun hc25_ => ?_)
      · replace h := h.1 hc25_
        refine W_seq_k fun K26_ hK26_ => ?_
        refine W_region [some 12] rfl ?_
        refine Ops_step (R_assign rfl) rfl rfl ?_
        refine Ops_nil ?_
        refine then_n (hK26_ _ _ ?_)
        clear hK26_ K26_
        refine W_keepB [12] fun B27 hB27_ => ?_
        simp only [pickE, lookE, putE, zipE, args0, Nat.reduceAdd, Nat.zero_add, List.cons_append, List.nil_append, Nat.reduceBEq, cond_true, cond_false] at hB27_
        subst hB27_
        refine W_ret ?_
        refine then_ret ?_
        clear hK21_ K21_
        refine ⟨_, ⟨_, _, rfl, rfl, rfl⟩, ?_⟩
        exact ⟨false, _, _, rfl, hI, h⟩
      · replace h := h.2 hc25_
        refine W_skip ?_
        refine then_n (hK21_ _ _ ?_)
        clear hK21_ K21_
        refine W_seq_k fun K28_ hK28_ => ?_
        refine W_region [some 43, some 44, some 15] rfl ?_
        refine Ops_step (R_move rfl) rfl rfl ?_
        refine Ops_call (C_func TCtB.bd16 rfl) rfl rfl ?_
        refine (slices_Clone_sl_byte_byte_ok (x0 := r12_0) hI.st (hg.up hI.le) hc13_ (hs13_.up hI.sub) h).mono ?_
        rintro _ w29_ ⟨A29_0, c29_0, r29_0, L29_, H29_, rfl, hI29_, ho29_0, h⟩
        refine Exists.elim (hI.call hI29_ (by simp)) fun L290_ h29_ => ?_
        have hz29_ := hI.size
        replace hI := h29_.1
        have u29_ := h29_.2.1
        have hl29_ := h29_.2.2
        clear h29_
        replace hs0 := hs0.up u29_.hh
        replace hs2 := hs2.up u29_.hh
        replace hs3 := hs3.up u29_.hh
        replace ho29_0 := OwnS.backS ho29_0 hz29_ (Le.refl _)
        clear hI29_ u29_ hl29_
        refine ⟨_, rfl, ?_⟩
        refine Ops_step (R_assign rfl) rfl rfl ?_
        refine Ops_nil ?_
        refine then_n (hK28_ _ _ ?_)
        clear hK28_ K28_
        refine W_seq_k fun K30_ hK30_ => ?_
        refine W_region [some 45, some 46, some 47, some 48, some 49, some 50, some 51, some 52, some 53, some 54, some 55, some 56, some 57, some 58, some 59, some 60, some 61, none] rfl ?_
        refine Ops_step (R_move rfl) rfl rfl ?_
        refine Ops_step (R_move rfl) rfl rfl ?_
        refine Ops_step (R_len Tryd.underlying22 rfl rfl) rfl rfl ?_
        refine Ops_step (R_move rfl) rfl rfl ?_
        refine Ops_step (R_conv Tryd.underlying3 Tryd.underlying34 rfl (cI_64 _)) rfl rfl ?_
        refine Ops_step (R_rem rfl rfl (by decide) (rem64 (BitVec.ofInt 64 x4) (16#64))) rfl rfl ?_
        have hk31_ := h.1
        replace h := h.2
        refine Ops_step (R_conv Tryd.underlying34 Tryd.underlying3 rfl (c64_I _ hk31_)) rfl rfl ?_
        have hk32_ := h.1
        replace h := h.2
        refine Ops_step (R_add rfl rfl (wI hk32_.1 hk32_.2)) rfl rfl ?_
        refine Exists.elim h fun x33_ h => ?_
        have hx33_ := h.1
        replace h := h.2
        have ha33_ := (ho29_0.atS hx33_).1
        refine Ops_step (R_indexSl Tryd.underlying22 TCtB.sz5 rfl rfl hx33_.1 hx33_.lt ha33_) rfl rfl ?_
        refine Ops_step (R_load TCtB.ag5 rfl (ho29_0.atS hx33_).2) rfl rfl ?_
        refine Ops_step (R_move rfl) rfl rfl ?_
        refine Ops_step (R_conv Tryd.underlying3 Tryd.underlying34 rfl (cI_64 _)) rfl rfl ?_
        refine Ops_step (R_rem rfl rfl (by decide) (rem64 (BitVec.ofInt 64 x5) (255#64))) rfl rfl ?_
        refine Ops_step (R_add rfl rfl (add64 (1#64) ((BitVec.ofInt 64 x5) % (255#64)))) rfl rfl ?_
        refine Ops_step (R_conv Tryd.underlying34 Tryd.underlying5 rfl (c64_8 _)) rfl rfl ?_
        refine Ops_step (R_xor rfl rfl (xor8 x33_ (UInt8.ofBitVec (((1#64) + ((BitVec.ofInt 64 x5) % (255#64))).setWidth 8)))) rfl rfl ?_
        refine Exists.elim h fun x34_ h => ?_
        have hx34_ := h.1
        replace h := h.2
        have ha34_ := (ho29_0.atS hx34_).1
        refine Ops_step (R_indexSl Tryd.underlying22 TCtB.sz5 rfl rfl hx34_.1 hx34_.lt ha34_) rfl rfl ?_
        refine Ops_to0 (X_storeOwn TCtB.sz5 rfl rfl ho29_0 hx34_) rfl ?_
        rintro _ w35_ ⟨ho35_, hF35_⟩
        replace hI := hI.tok hF35_ ho29_0.out (ho29_0.new (Nat.le_refl _))
        clear hF35_ ho29_0
        have hpl35_ : (put r29_0 ((x3.length : Int) + (((BitVec.ofInt 64 x4) % (16#64)).toNat : Int)) (x33_ ^^^ (UInt8.ofBitVec (((1#64) + ((BitVec.ofInt 64 x5) % (255#64))).setWidth 8)))).length = r29_0.length := by simp only [put, List.length_set]
        refine Ops_re 15 (v := .slice A29_0 r29_0.length c29_0) (v' := .slice A29_0 (put r29_0 ((x3.length : Int) + (((BitVec.ofInt 64 x4) % (16#64)).toNat : Int)) (x33_ ^^^ (UInt8.ofBitVec (((1#64) + ((BitVec.ofInt 64 x5) % (255#64))).setWidth 8)))).length c29_0) rfl (by rw [hpl35_]) ?_
        refine Ops_re 45 (v := .slice A29_0 r29_0.length c29_0) (v' := .slice A29_0 (put r29_0 ((x3.length : Int) + (((BitVec.ofInt 64 x4) % (16#64)).toNat : Int)) (x33_ ^^^ (UInt8.ofBitVec (((1#64) + ((BitVec.ofInt 64 x5) % (255#64))).setWidth 8)))).length c29_0) rfl (by rw [hpl35_]) ?_
        refine Ops_nil ?_
        refine then_n (hK30_ _ _ ?_)
        clear hK30_ K30_
        refine W_keepB [0, 1, 2, 15] fun B36 hB36_ => ?_
        simp only [pickE, lookE, putE, zipE, args0, Nat.reduceAdd, Nat.zero_add, List.cons_append, List.nil_append, Nat.reduceBEq, cond_true, cond_false] at hB36_
        subst hB36_
        refine W_seq_k fun K37_ hK37_ => ?_
        refine W_region [some 63, some 64, some 65, some 66, some 67, some 62, some 68, some 69, some 16, some 17] rfl ?_
        refine Ops_step (R_move rfl) rfl rfl ?_
        refine Ops_step (R_move rfl) rfl rfl ?_
        refine Ops_step (R_move rfl) rfl rfl ?_
        refine Ops_step (R_move rfl) rfl rfl ?_
        refine Exists.elim (ho35_.lend hI.st (Le.no _)) fun Hb38_0_ hb38_0_ => ?_
        refine Ops_call (C_func TCtB.bd15 rfl) rfl rfl ?_
        refine (cipher_Open_ok (x0 := x0) (x1 := x1) (x2 := x2) (x3 := (put r29_0 ((x3.length : Int) + (((BitVec.ofInt 64 x4) % (16#64)).toNat : Int)) (x33_ ^^^ (UInt8.ofBitVec (((1#64) + ((BitVec.ofInt 64 x5) % (255#64))).setWidth 8))))) hb38_0_.1 (hg.up (hI.le.trans hb38_0_.2.1)) hc0 (hs0.up hb38_0_.2.1) hc2 (hs2.up hb38_0_.2.1) ho35_.cap hb38_0_.2.2 h).mono ?_
        have hlo38_0_ho35_ := ho35_.lt
        rintro _ w38_ ⟨A38_0, c38_0, r38_0, r38_1, L38_, H38_, rfl, hI38_, ho38_0, h⟩
        refine Exists.elim (hI.callB hb38_0_.2.1 hI38_ (by simp)) fun L380_ h38_ => Exists.elim h38_ fun H380_ h38_ => ?_
        have hz38_ := hI.size
        replace hI := h38_.1
        have u38_ := h38_.2.1
        have hl38_ := h38_.2.2.1
        have hh38_ := h38_.2.2.2
        clear h38_
        replace hs0 := hs0.up u38_.hh
        replace hs2 := hs2.up u38_.hh
        replace ho35_ := ho35_.up (Le.refl _) u38_ (by simp)
        have hsp38_0_ho35_ : ∀ i ∈ bk A38_0 c38_0, i ∉ bk A29_0 c29_0 := sep_new ho38_0.off hlo38_0_ho35_
        replace ho38_0 := OwnS.backS ho38_0 hz38_ hh38_
        clear hI38_ u38_ hl38_
        refine ⟨_, rfl, ?_⟩
        refine Exists.elim (ho38_0.freeze hI) fun L39_ h39_ => Exists.elim h39_ fun H39_ h39_ => ?_
        replace hI := h39_.1
        have u39_ := h39_.2.1
        have hs39_ := h39_.2.2.1 (Le.no _)
        have hc39_ := ho38_0.cap
        replace hs0 := hs0.up u39_.hh
        replace hs2 := hs2.up u39_.hh
        replace ho35_ := ho35_.up (Le.refl _) u39_ (sep_sym hsp38_0_ho35_)
        clear h39_ u39_ ho38_0
        refine Ops_step (R_move rfl) rfl rfl ?_
        refine Ops_step (R_extract (v := .slice A38_0 r38_0.length c38_0) rfl rfl) rfl rfl ?_
        refine Ops_step (R_extract (v := vi r38_1) rfl rfl) rfl rfl ?_
        refine Ops_step (R_assign rfl) rfl rfl ?_
        refine Ops_step (R_assign rfl) rfl rfl ?_
        refine Ops_nil ?_
        refine then_n (hK37_ _ _ ?_)
        clear hK37_ K37_
        refine W_keepB [0, 1, 2, 15, 17] fun B40 hB40_ => ?_
        simp only [pickE, lookE, putE, zipE, args0, Nat.reduceAdd, Nat.zero_add, List.cons_append, List.nil_append, Nat.reduceBEq, cond_true, cond_false] at hB40_
        subst hB40_
        refine W_seq_k fun K41_ hK41_ => ?_
        refine W_region [some 71, some 72, some 73, some 74, some 75, some 76, some 77, some 78, some 79, some 70, some 80, some 81, some 18, some 19] rfl ?_
        refine Ops_step (R_move rfl) rfl rfl ?_
        refine Ops_step (R_move rfl) rfl rfl ?_
        refine Ops_step (R_move rfl) rfl rfl ?_
        refine Ops_step (R_move rfl) rfl rfl ?_
        refine Ops_step (R_move rfl) rfl rfl ?_
        refine Ops_step (R_len Tryd.underlying22 rfl rfl) rfl rfl ?_
        refine Ops_step (R_min rfl rfl _root_.rfl) rfl rfl ?_
        refine Exists.elim (ho35_.freeze hI) fun L43_ h43_ => Exists.elim h43_ fun H43_ h43_ => ?_
        replace hI := h43_.1
        have u43_ := h43_.2.1
        have hs43_ := h43_.2.2.1 (Le.no _)
        have hc43_ := ho35_.cap
        replace hs0 := hs0.up u43_.hh
        replace hs2 := hs2.up u43_.hh
        clear h43_ u43_ ho35_
        have hk44_ := h.1
        replace h := h.2
        have hk45_ := h.1
        replace h := h.2
        refine Exists.elim (cut_ex (n := 1) (l := 0) (h := (min ((put r29_0 ((x3.length : Int) + (((BitVec.ofInt 64 x4) % (16#64)).toNat : Int)) (x33_ ^^^ (UInt8.ofBitVec (((1#64) + ((BitVec.ofInt 64 x5) % (255#64))).setWidth 8)))).length : Int) 15)) (hs43_.up hI.sub) rfl (by decide) hc43_ (Int.le_refl 0) hk44_ hk45_) fun A42_ h42_ => Exists.elim h42_ fun c42_ h42_ => ?_
        have hr42_ := h42_.1
        have hc42_ := h42_.2.1
        have hs42_ := h42_.2.2
        clear h42_
        refine Ops_step (X_slice (xs := (put r29_0 ((x3.length : Int) + (((BitVec.ofInt 64 x4) % (16#64)).toNat : Int)) (x33_ ^^^ (UInt8.ofBitVec (((1#64) + ((BitVec.ofInt 64 x5) % (255#64))).setWidth 8))))) Tryd.underlying22 TCtB.sz5 rfl hr42_ hc43_ rfl rfl (Int.le_refl 0) hk44_ hk45_) rfl rfl ?_
        clear hr42_
        refine Ops_call (C_func TCtB.bd15 rfl) rfl rfl ?_
        refine (cipher_Open_ok (x0 := x0) (x1 := x1) (x2 := x2) (x3 := (cut (put r29_0 ((x3.length : Int) + (((BitVec.ofInt 64 x4) % (16#64)).toNat : Int)) (x33_ ^^^ (UInt8.ofBitVec (((1#64) + ((BitVec.ofInt 64 x5) % (255#64))).setWidth 8)))) 0 (min ((put r29_0 ((x3.length : Int) + (((BitVec.ofInt 64 x4) % (16#64)).toNat : Int)) (x33_ ^^^ (UInt8.ofBitVec (((1#64) + ((BitVec.ofInt 64 x5) % (255#64))).setWidth 8)))).length : Int) 15))) hI.st (hg.up hI.le) hc0 hs0 hc2 hs2 hc42_ hs42_ h).mono ?_
        rintro _ w46_ ⟨A46_0, c46_0, r46_0, r46_1, L46_, H46_, rfl, hI46_, ho46_0, h⟩
        refine Exists.elim (hI.call hI46_ (by simp)) fun L460_ h46_ => ?_
        have hz46_ := hI.size
        replace hI := h46_.1
        have u46_ := h46_.2.1
        have hl46_ := h46_.2.2
        clear h46_
        replace ho46_0 := OwnS.backS ho46_0 hz46_ (Le.refl _)
        clear hI46_ u46_ hl46_
        refine ⟨_, rfl, ?_⟩
        refine Exists.elim (ho46_0.freeze hI) fun L47_ h47_ => Exists.elim h47_ fun H47_ h47_ => ?_
        replace hI := h47_.1
        have u47_ := h47_.2.1
        have hs47_ := h47_.2.2.1 (Le.no _)
        have hc47_ := ho46_0.cap
        clear h47_ u47_ ho46_0
        refine Ops_step (R_move rfl) rfl rfl ?_
        refine Ops_step (R_extract (v := .slice A46_0 r46_0.length c46_0) rfl rfl) rfl rfl ?_
        refine Ops_step (R_extract (v := vi r46_1) rfl rfl) rfl rfl ?_
        refine Ops_step (R_assign rfl) rfl rfl ?_
        refine Ops_step (R_assign rfl) rfl rfl ?_
        refine Ops_nil ?_
        refine then_n (hK41_ _ _ ?_)
        clear hK41_ K41_
        refine W_keepB [17, 19] fun B48 hB48_ => ?_
        simp only [pickE, lookE, putE, zipE, args0, Nat.reduceAdd, Nat.zero_add, List.cons_append, List.nil_append, Nat.reduceBEq, cond_true, cond_false] at hB48_
        subst hB48_
        refine W_seq_k fun K49_ hK49_ => ?_
        refine W_region [some 82, some 83, some 84, some 85, some 86, some 87, some 88, some 89, some 90, some 12] rfl ?_
        refine Ops_step (R_move rfl) rfl rfl ?_
        refine Ops_step (R_eql rfl rfl) rfl rfl ?_
        refine Ops_step (R_move rfl) rfl rfl ?_
        refine Ops_split 84 rfl (fun hg50_ => ?_) (fun hg50_ => ?_)
        · replace h := h.1 hg50_
          refine Ops_step (R_move rfl) rfl rfl ?_
          refine Ops_step (R_eql rfl rfl) rfl rfl ?_
          refine Ops_step (R_pick_true rfl rfl) rfl rfl ?_
          refine Ops_step (R_move rfl) rfl rfl ?_
          refine Ops_split 88 rfl (fun hg51_ => ?_) (fun hg51_ => ?_)
          · replace h := h.1 hg51_
            refine Ops_call (C_func TCtB.bd11 rfl) rfl rfl ?_
            refine (sealskinlaw08_awake_ok  hI.st (hg.up hI.le)  h).mono ?_
            rintro _ w52_ ⟨r52_0, L52_, H52_, rfl, hI52_, h⟩
            refine Exists.elim (hI.call hI52_ (by simp)) fun L520_ h52_ => ?_
            have hz52_ := hI.size
            replace hI := h52_.1
            have u52_ := h52_.2.1
            have hl52_ := h52_.2.2
            clear h52_
            clear hI52_ u52_ hl52_
            refine ⟨_, rfl, ?_⟩
            refine Ops_step (R_pick_true rfl rfl) rfl rfl ?_
            refine Ops_step (R_assign rfl) rfl rfl ?_
            refine Ops_nil ?_
            refine then_n (hK49_ _ _ ?_)
            clear hK49_ K49_
            refine W_keepB [12] fun B53 hB53_ => ?_
            simp only [pickE, lookE, putE, zipE, args0, Nat.reduceAdd, Nat.zero_add, List.cons_append, List.nil_append, Nat.reduceBEq, cond_true, cond_false] at hB53_
            subst hB53_
            refine W_ret ?_
            refine ⟨_, ⟨_, _, rfl, rfl, rfl⟩, ?_⟩
            exact ⟨r52_0, _, _, rfl, hI, h⟩
          · replace h := h.2 hg51_
            refine Ops_pass rfl rfl ?_
            refine Ops_step (R_pick_false rfl rfl) rfl rfl ?_
            refine Ops_step (R_assign rfl) rfl rfl ?_
            refine Ops_nil ?_
            refine then_n (hK49_ _ _ ?_)
            clear hK49_ K49_
            refine W_keepB [12] fun B54 hB54_ => ?_
            simp only [pickE, lookE, putE, zipE, args0, Nat.reduceAdd, Nat.zero_add, List.cons_append, List.nil_append, Nat.reduceBEq, cond_true, cond_false] at hB54_
            subst hB54_
            refine W_ret ?_
            refine ⟨_, ⟨_, _, rfl, rfl, rfl⟩, ?_⟩
            exact ⟨false, _, _, rfl, hI, h⟩
        · replace h := h.2 hg50_
          refine Ops_pass rfl rfl ?_
          refine Ops_pass rfl rfl ?_
          refine Ops_step (R_pick_false rfl rfl) rfl rfl ?_
          refine Ops_step (R_move rfl) rfl rfl ?_
          refine Ops_pass rfl rfl ?_
          refine Ops_step (R_pick_false rfl rfl) rfl rfl ?_
          refine Ops_step (R_assign rfl) rfl rfl ?_
          refine Ops_nil ?_
          refine then_n (hK49_ _ _ ?_)
          clear hK49_ K49_
          refine W_keepB [12] fun B55 hB55_ => ?_
          simp only [pickE, lookE, putE, zipE, args0, Nat.reduceAdd, Nat.zero_add, List.cons_append, List.nil_append, Nat.reduceBEq, cond_true, cond_false] at hB55_
          subst hB55_
          refine W_ret ?_
          refine ⟨_, ⟨_, _, rfl, rfl, rfl⟩, ?_⟩
          exact ⟨false, _, _, rfl, hI, h⟩

end Go.Proofs.YtohneemghiehdaaDoor
