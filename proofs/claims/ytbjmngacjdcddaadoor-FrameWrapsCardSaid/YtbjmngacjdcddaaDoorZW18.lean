/- What is shown of the program on the way to the law. -/
import Derived.Test.YtbjmngacjdcddaaDoorZW2
import Derived.Test.YtbjmngacjdcddaaDoorZW7
import Derived.Test.YtbjmngacjdcddaaDoorZW17
import Derived.Test.YtbjmngacjdcddaaDoorProg
set_option linter.unusedVariables false
set_option linter.unusedSimpArgs false
set_option maxHeartbeats 4000000
namespace Go.Proofs.YtbjmngacjdcddaaDoor
open Go Go.Sx Go.Lx
namespace TFtD
theorem hm : Tryd.prog.follows .mixedOrders = true := by kernel_rfl
theorem bd52 : bodied Tryd.prog 52 = true := by kernel_rfl
theorem bd54 : bodied Tryd.prog 54 = true := by kernel_rfl
theorem bd72 : bodied Tryd.prog 72 = true := by kernel_rfl
theorem bd73 : bodied Tryd.prog 73 = true := by kernel_rfl
theorem bd74 : bodied Tryd.prog 74 = true := by kernel_rfl
theorem bd75 : bodied Tryd.prog 75 = true := by kernel_rfl
theorem bd76 : bodied Tryd.prog 76 = true := by kernel_rfl
theorem bd78 : bodied Tryd.prog 78 = true := by kernel_rfl
theorem bd79 : bodied Tryd.prog 79 = true := by kernel_rfl
theorem el30 : Elem Tryd.prog 30 5 1 1 := Elem.of (by kernel_rfl)
theorem el56 : Elem Tryd.prog 56 3 1 8 := Elem.of (by kernel_rfl)
theorem el99 : Elem Tryd.prog 99 30 1 24 := Elem.of (by kernel_rfl)
theorem sz5 : sz Tryd.prog 5 = some 1 := by kernel_rfl
theorem sz96 : sz Tryd.prog 96 = some 32 := by kernel_rfl
theorem zr3 : zr Tryd.prog 3 = some ([.int .i64 0]) := by kernel_rfl
theorem zr30 : zr Tryd.prog 30 = some ([.slice none 0 0]) := by kernel_rfl
theorem zr96 : zr Tryd.prog 96 = some (List.replicate 32 (.int .u8 0)) := by kernel_rfl
end TFtD
open TFtD
theorem cipher_tag_ok {G : Gh} {w : World} (hS : St G w) (hg : GL G) {A0 : Option Addr} {c0 : Nat} {x0 : List UInt8} (hc0 : x0.length ≤ c0) (hs0 : Sl G A0 x0) {x1 : BitVec 64} {A2 : Option Addr} {c2 : Nat} {x2 : List UInt8} (hc2 : x2.length ≤ c2) (hs2 : Sl G A2 x2) {A3 : Option Addr} {c3 : Nat} {x3 : List UInt8} (hc3 : x3.length ≤ c3) (hs3 : Sl G A3 x3) {Q : (List UInt8) → Prop} (h : cipher_tag x0 x1 x2 x3 Q) : Calls Tryd.prog 73 #[.slice A0 x0.length c0, w64 x1, .slice A2 x2.length c2, .slice A3 x3.length c3] w fun e w2 => ∃ (A0 : Option Addr) (c0 : Nat) (r0 : List UInt8) (L H : Gh), e = .returned (.slice A0 r0.length c0) ∧ Inv [] G w L H w2 ∧ r0.length ≤ c0 ∧ Sl L A0 r0 ∧ Q r0 := by
 unfold cipher_tag at h
 have hI := Inv.start (M := []) hS
 refine calls_W 29 Tryd.func73 rfl Tryd.ntmps73 rfl [.tmp 8] rfl ?_
 refine W_seq_k fun K1 k1 => ?_
 refine W_region [8] rfl (Ops_step (R_assign rfl) rfl rfl ?_)
 refine Ops_nil ?_
 refine then_n (k1 _ _ ?_)
 clear k1 K1
 refine W_seq_k fun K2 k2 => ?_
 refine W_region [11, 12, 13, 14, 15, 16, 17, 18, 19, 20, 9] rfl (Ops_step (R_move rfl) rfl rfl (Ops_step (R_shr rfl rfl (by decide) (shr64 x1 1 (by decide))) rfl rfl ?_))
 have hk3_ := h.1
 replace h := h.2
 refine Ops_step (R_conv Tryd.underlying72 Tryd.underlying3 rfl (c64_I _ hk3_)) rfl rfl (Ops_step (R_move rfl) rfl rfl (Ops_step (R_and rfl rfl (and64 x1 (1#64))) rfl rfl ?_))
 have hk4_ := h.1
 replace h := h.2
 refine Ops_step (R_conv Tryd.underlying72 Tryd.underlying3 rfl (c64_I _ hk4_)) rfl rfl (Ops_step (R_move rfl) rfl rfl (Ops_step (R_len Tryd.underlying30 rfl rfl) rfl rfl ?_))
 refine Ops_to (R_buildSlice el56 zr3 (by decide) (by decide) rfl rfl) rfl rfl ?_
 rintro _ w5_ ⟨b5_, rfl, hb5_, hB5_, hF5_⟩
 have ho5_ : OwnS w.heap.size 3 Gh.no G _ (some ⟨b5_, 0, none⟩) 3 ([((x1 >>> (1 : Nat)).toNat : Int), ((x1 &&& (1#64)).toNat : Int), (x2.length : Int)] : List Int) := OwnS.ofBlk hI.st hb5_ hB5_ (all2_sc' _) rfl (by have := hI.size; omega) (by show 3 ≤ maxLen; decide)
 replace hI := hI.fr0 hF5_
 clear hF5_ hB5_
 refine Exists.elim (ho5_.lend hI.st (Le.no _)) fun Hb6_0_ hb6_0_ => ?_
 refine Ops_call (C_func bd52 rfl) rfl rfl ?_
 refine (octet_Put_ok (x0 := []) (x1 := ([((x1 >>> (1 : Nat)).toNat : Int), ((x1 &&& (1#64)).toNat : Int), (x2.length : Int)] : List Int)) hb6_0_.1 (hg.up (hI.le.trans hb6_0_.2.1)) (Nat.le_refl 0) Sl.nil (Nat.le_refl _) hb6_0_.2.2 h).mono ?_
 rintro _ w6_ ⟨A6_0, c6_0, r6_0, L6_, H6_, rfl, hI6_, ho6_0, h⟩
 refine Exists.elim (hI.callB hb6_0_.2.1 hI6_ (by simp)) fun L60_ h6_ => Exists.elim h6_ fun H60_ h6_ => ?_
 have hz6_ := hI.size
 replace hI := h6_.1
 have u6_ := h6_.2.1
 have hl6_ := h6_.2.2.1
 have hh6_ := h6_.2.2.2
 clear h6_
 replace hs0 := hs0.up u6_.hh
 replace hs2 := hs2.up u6_.hh
 replace hs3 := hs3.up u6_.hh
 replace ho6_0 := OwnS.backS ho6_0 hz6_ hh6_
 clear hI6_ u6_ hl6_
 refine ⟨_, rfl, ?_⟩
 refine Exists.elim (ho6_0.freeze hI) fun L7_ h7_ => Exists.elim h7_ fun H7_ h7_ => ?_
 replace hI := h7_.1
 have u7_ := h7_.2.1
 have hs7_ := h7_.2.2.1 (Le.no _)
 have hc7_ := ho6_0.cap
 replace hs0 := hs0.up u7_.hh
 replace hs2 := hs2.up u7_.hh
 replace hs3 := hs3.up u7_.hh
 clear h7_ u7_ ho6_0
 refine Ops_step (R_assign rfl) rfl rfl ?_
 refine Ops_nil ?_
 refine then_n (k2 _ _ ?_)
 clear k2 K2
 refine W_keepB [0, 2, 3, 9] fun B_ b_ => ?_
 simp only [e_, Nat.reduceAdd, Nat.reduceBEq] at b_
 subst b_
 refine W_seq_k fun K9 k9 => ?_
 refine W_region [21, 22, 23, 24, 25, 26, 27, 10, none] rfl (Ops_step (R_move rfl) rfl rfl ?_)
 have hk11_ := h.1
 replace h := h.2
 refine Exists.elim (cut_ex (n := 1) (l := 32) (h := 64) hs0 rfl (by decide) hc0 (by decide) (by decide) hk11_) fun A10_ h10_ => Exists.elim h10_ fun c10_ h10_ => ?_
 have hr10_ := h10_.1
 have hc10_ := h10_.2.1
 have hs10_ := h10_.2.2
 clear h10_
 refine Ops_step (X_slice (xs := x0) Tryd.underlying30 sz5 rfl hr10_ hc0 rfl rfl (by decide) (by decide) hk11_) rfl rfl ?_
 clear hr10_
 refine Ops_step (R_move rfl) rfl rfl (Ops_step (R_move rfl) rfl rfl (Ops_step (R_move rfl) rfl rfl ?_))
 refine Ops_to (R_buildSlice el99 zr30 (by decide) (by decide) rfl rfl) rfl rfl ?_
 rintro _ w12_ ⟨b12_, rfl, hb12_, hB12_, hF12_⟩
 have ho12_ : OwnS w.heap.size 30 H7_ H7_ _ (some ⟨b12_, 0, none⟩) 3 ([r6_0, x2, x3] : List (List UInt8)) := OwnS.ofBlk (css := [[.slice A6_0 r6_0.length c6_0], [.slice A2 x2.length c2], [.slice A3 x3.length c3]]) hI.st hb12_ hB12_ (.cons ⟨A6_0, c6_0, rfl, hc7_, (hs7_.up hI.sub)⟩ (.cons ⟨A2, c2, rfl, hc2, hs2⟩ (.cons ⟨A3, c3, rfl, hc3, hs3⟩ .nil))) rfl (by have := hI.size; omega) (by show 3 ≤ maxLen; decide)
 replace hI := hI.fr0 hF12_
 clear hF12_ hB12_
 refine Exists.elim (ho12_.lend hI.st (Le.refl _)) fun Hb13_0_ hb13_0_ => ?_
 refine Ops_call (C_func bd78 rfl) rfl rfl ?_
 refine (hash_Keyed_ok (x0 := (cut x0 32 64)) (x1 := ([r6_0, x2, x3] : List (List UInt8))) hb13_0_.1 (hg.up (hI.le.trans hb13_0_.2.1)) hc10_ (hs10_.up hb13_0_.2.1) (Nat.le_refl _) hb13_0_.2.2 h).mono ?_
 rintro _ w13_ ⟨r13_0, L13_, H13_, rfl, hI13_, hn13_0, h⟩
 refine Exists.elim (hI.callB hb13_0_.2.1 hI13_ (by simp)) fun L130_ h13_ => Exists.elim h13_ fun H130_ h13_ => ?_
 have hz13_ := hI.size
 replace hI := h13_.1
 have u13_ := h13_.2.1
 have hl13_ := h13_.2.2.1
 have hh13_ := h13_.2.2.2
 clear h13_
 clear hI13_ u13_ hl13_
 refine ⟨_, rfl, ?_⟩
 have hI0_ := hI
 refine Ops_to (R_alloc zr96) rfl rfl ?_
 rintro _ w14_ ⟨b14_, rfl, hb14_, hB14_, hF14_⟩
 replace hI := hI.fr0 hF14_
 have ht14_ : Tok H130_ _ b14_ 96 ((Arr.mk (n := 32) (List.replicate 32 (0 : UInt8))).l.map vb) := ⟨hB14_.to (by rw [List.map_replicate]; rfl), Out.ge hI0_.st (Nat.le_of_eq hb14_.symm)⟩
 have hge_b14_ : w.heap.size ≤ b14_ := hb14_ ▸ hI0_.size
 clear hB14_ hb14_ hI0_ hF14_
 refine Ops_to0 (R_storeN sz96 (by simp [hn13_0]) rfl rfl ht14_.blk (by simp [(List.length_replicate ..), hn13_0]) (all_enc _)) rfl ?_
 rintro _ w15_ ⟨hB15_, hF15_⟩
 replace hI := hI.tok hF15_ (out1 ht14_.out) (new1 hge_b14_)
 replace ht14_ : Tok H130_ _ b14_ 96 (r13_0.l.map vb) := ⟨hB15_.to (arr_over (((List.length_replicate ..)).trans (hn13_0).symm)), ht14_.out⟩
 clear hF15_ hB15_
 refine Ops_nil ?_
 refine then_n (k9 _ _ ?_)
 clear k9 K9
 refine W_keepB [10] fun B_ b_ => ?_
 simp only [e_, Nat.reduceAdd, Nat.reduceBEq] at b_
 subst b_
 refine W_seq_k fun K17 k17 => ?_
 refine W_region [28, 8] rfl ?_
 have hy18_ : (List.take 16 r13_0.l).length = 16 := len_take (n := 32) hn13_0 (by decide)
 refine Exists.elim (ht14_.freeze hge_b14_ hI) fun L18_ h18_ => Exists.elim h18_ fun H18_ h18_ => ?_
 replace hI := h18_.1
 have u18_ := h18_.2.1
 have hs18_ := h18_.2.2.take 16
 have hc18_ : (List.take 16 r13_0.l).length ≤ 32 := by omega
 clear h18_ u18_ ht14_
 refine Ops_step (X_sliceArr (ys := List.take 16 r13_0.l) Tryd.underlying96 sz5 rfl ⟨_, _, rfl, rfl⟩ (by decide) hy18_) rfl rfl ?_
 refine Ops_step (R_assign rfl) rfl rfl ?_
 refine Ops_nil ?_
 refine then_n (k17 _ _ ?_)
 clear k17 K17
 refine W_ret ?_
 refine ⟨_, ⟨_, _, rfl, rfl, rfl⟩, ?_⟩
 exact ⟨(some ⟨b14_, 0, none⟩), 32, (List.take 16 r13_0.l), _, _, rfl, hI, hc18_, hs18_, h⟩

theorem cipher_Seal_ok {G : Gh} {w : World} (hS : St G w) (hg : GL G) {A0 : Option Addr} {c0 : Nat} {x0 : List UInt8} (hc0 : x0.length ≤ c0) (hs0 : Sl G A0 x0) {x1 : BitVec 64} {A2 : Option Addr} {c2 : Nat} {x2 : List UInt8} (hc2 : x2.length ≤ c2) (hs2 : Sl G A2 x2) {A3 : Option Addr} {c3 : Nat} {x3 : List UInt8} (hc3 : x3.length ≤ c3) (hs3 : Sl G A3 x3) {Q : (List UInt8) → Int → Prop} (h : cipher_Seal x0 x1 x2 x3 Q) : Calls Tryd.prog 59 #[.slice A0 x0.length c0, w64 x1, .slice A2 x2.length c2, .slice A3 x3.length c3] w fun e w2 => ∃ (A0 : Option Addr) (c0 : Nat) (r0 : List UInt8) (r1 : Int) (L H : Gh), e = .returned (.tuple #[.slice A0 r0.length c0, vi r1]) ∧ Inv [] G w L H w2 ∧ OwnS w.heap.size 5 L H w2 A0 c0 r0 ∧ Q r0 r1 := by
 unfold cipher_Seal at h
 have hI := Inv.start (M := []) hS
 refine calls_W 29 Tryd.func59 rfl Tryd.ntmps59 rfl [.tmp 8, .tmp 9] rfl ?_
 refine W_seq_k fun K1 k1 => ?_
 refine W_region [8, 9] rfl (Ops_step (R_assign rfl) rfl rfl (Ops_step (R_assign rfl) rfl rfl ?_))
 refine Ops_nil ?_
 refine then_n (k1 _ _ ?_)
 clear k1 K1
 refine W_seq_k fun K2 k2 => ?_
 refine W_seq_k fun K3 k3 => ?_
 refine W_region [12, 13, 14] rfl (Ops_step (R_move rfl) rfl rfl (Ops_step (R_len Tryd.underlying30 rfl rfl) rfl rfl (Ops_step (R_neq rfl rfl) rfl rfl ?_)))
 refine Ops_nil ?_
 refine then_n (k3 _ _ ?_)
 clear k3 K3
 refine W_if rfl (fun hc4_ => ?_) (fun hc4_ => ?_)
 ·
  replace h := h.1 hc4_
  refine W_seq_k fun K5 k5 => ?_
  refine W_region [8, 9] rfl (Ops_step (R_assign rfl) rfl rfl (Ops_step (R_assign rfl) rfl rfl ?_))
  refine Ops_nil ?_
  refine then_n (k5 _ _ ?_)
  clear k5 K5
  refine W_keepB [8, 9] fun B_ b_ => ?_
  simp only [e_, Nat.reduceAdd, Nat.reduceBEq] at b_
  subst b_
  refine W_ret ?_
  refine then_ret ?_
  clear k2 K2
  refine ⟨_, ⟨_, _, rfl, rfl, ⟨_, _, rfl, rfl, rfl⟩⟩, ?_⟩
  exact ⟨none, 0, [], 1, _, _, rfl, hI, OwnS.nil, h⟩
 ·
  replace h := h.2 hc4_
  refine W_skip ?_
  refine then_n (k2 _ _ ?_)
  clear k2 K2
  refine W_seq_k fun K7 k7 => ?_
  refine W_region [16, 17, 18, 19, 15, 20, 21, 10, 11] rfl (Ops_step (R_move rfl) rfl rfl (Ops_step (R_move rfl) rfl rfl (Ops_step (R_move rfl) rfl rfl ?_)))
  refine Ops_call (C_func bd74 rfl) rfl rfl ?_
  refine (cipher_Turn_ok (x0 := x0) (x1 := x1) (x2 := x3) hI.st (hg.up hI.le) hc0 hs0 hc3 hs3 h).mono ?_
  rintro _ w8_ ⟨A8_0, c8_0, r8_0, r8_1, L8_, H8_, rfl, hI8_, ho8_0, h⟩
  refine Exists.elim (hI.call hI8_ (by simp)) fun L80_ h8_ => ?_
  have hz8_ := hI.size
  replace hI := h8_.1
  have u8_ := h8_.2.1
  have hl8_ := h8_.2.2
  clear h8_
  replace hs0 := hs0.up u8_.hh
  replace hs2 := hs2.up u8_.hh
  replace ho8_0 := OwnS.backS ho8_0 hz8_ (Le.refl _)
  clear hI8_ u8_ hl8_
  refine ⟨_, rfl, ?_⟩
  refine Ops_step (R_move rfl) rfl rfl ?_
  refine Ops_step (R_extract (v := .slice A8_0 r8_0.length c8_0) rfl rfl) rfl rfl ?_
  refine Ops_step (R_extract (v := vi r8_1) rfl rfl) rfl rfl ?_
  refine Ops_step (R_assign rfl) rfl rfl (Ops_step (R_assign rfl) rfl rfl ?_)
  refine Ops_nil ?_
  refine then_n (k7 _ _ ?_)
  clear k7 K7
  refine W_keepB [0, 1, 2, 10] fun B_ b_ => ?_
  simp only [e_, Nat.reduceAdd, Nat.reduceBEq] at b_
  subst b_
  refine W_seq_k fun K10 k10 => ?_
  refine W_region [22, 23, 24, 25, 26, 27, 28, 8, 9] rfl (Ops_step (R_move rfl) rfl rfl (Ops_step (R_move rfl) rfl rfl (Ops_step (R_move rfl) rfl rfl (Ops_step (R_move rfl) rfl rfl ?_))))
  refine Ops_step (R_move rfl) rfl rfl ?_
  refine Exists.elim (ho8_0.lend hI.st (Le.no _)) fun Hb11_0_ hb11_0_ => ?_
  refine Ops_call (C_func bd73 rfl) rfl rfl ?_
  refine (cipher_tag_ok (x0 := x0) (x1 := x1) (x2 := x2) (x3 := r8_0) hb11_0_.1 (hg.up (hI.le.trans hb11_0_.2.1)) hc0 (hs0.up hb11_0_.2.1) hc2 (hs2.up hb11_0_.2.1) ho8_0.cap hb11_0_.2.2 h).mono ?_
  rintro _ w11_ ⟨A11_0, c11_0, r11_0, L11_, H11_, rfl, hI11_, hc11_0, hs11_0, h⟩
  refine Exists.elim (hI.callB hb11_0_.2.1 hI11_ (by simp)) fun L110_ h11_ => Exists.elim h11_ fun H110_ h11_ => ?_
  have hz11_ := hI.size
  replace hI := h11_.1
  have u11_ := h11_.2.1
  have hl11_ := h11_.2.2.1
  have hh11_ := h11_.2.2.2
  clear h11_
  replace ho8_0 := ho8_0.up (Le.refl _) u11_ (by simp)
  replace hs11_0 := hs11_0.up hl11_
  clear hI11_ u11_ hl11_
  refine ⟨_, rfl, ?_⟩
  have hk13_ := h.1
  replace h := h.2
  refine Ops_to (X_append (α := UInt8) (xs := r8_0) (ys := r11_0) el30 rfl rfl ho8_0 (Srcs.sc (Srcs.ofSl Tryd.underlying30 (hs11_0.up hI.sub) hI.st (by decide))) hI.st hk13_ (by decide) hI.size) rfl rfl ?_
  rintro _ w12_ ⟨A12_, c12_, rfl, ho12_, hF12_, hbk12_⟩
  clear hbk12_
  replace hI := hI.tok hF12_ ho8_0.out (ho8_0.new (Nat.le_refl _))
  clear hF12_ ho8_0
  refine Ops_step (R_assign rfl) rfl rfl (Ops_step (R_assign rfl) rfl rfl ?_)
  refine Ops_nil ?_
  refine then_n (k10 _ _ ?_)
  clear k10 K10
  refine W_keepB [8, 9] fun B_ b_ => ?_
  simp only [e_, Nat.reduceAdd, Nat.reduceBEq] at b_
  subst b_
  refine W_ret ?_
  refine ⟨_, ⟨_, _, rfl, rfl, ⟨_, _, rfl, rfl, rfl⟩⟩, ?_⟩
  exact ⟨A12_, c12_, (r8_0 ++ r11_0), 0, _, _, rfl, hI, (ho12_.hl (Le.no _)), h⟩

theorem cipher_Open_ok {G : Gh} {w : World} (hS : St G w) (hg : GL G) {A0 : Option Addr} {c0 : Nat} {x0 : List UInt8} (hc0 : x0.length ≤ c0) (hs0 : Sl G A0 x0) {x1 : BitVec 64} {A2 : Option Addr} {c2 : Nat} {x2 : List UInt8} (hc2 : x2.length ≤ c2) (hs2 : Sl G A2 x2) {A3 : Option Addr} {c3 : Nat} {x3 : List UInt8} (hc3 : x3.length ≤ c3) (hs3 : Sl G A3 x3) {Q : (List UInt8) → Int → Prop} (h : cipher_Open x0 x1 x2 x3 Q) : Calls Tryd.prog 48 #[.slice A0 x0.length c0, w64 x1, .slice A2 x2.length c2, .slice A3 x3.length c3] w fun e w2 => ∃ (A0 : Option Addr) (c0 : Nat) (r0 : List UInt8) (r1 : Int) (L H : Gh), e = .returned (.tuple #[.slice A0 r0.length c0, vi r1]) ∧ Inv [] G w L H w2 ∧ OwnS w.heap.size 5 L H w2 A0 c0 r0 ∧ Q r0 r1 := by
 unfold cipher_Open at h
 have hI := Inv.start (M := []) hS
 refine calls_W 44 Tryd.func48 rfl Tryd.ntmps48 rfl [.tmp 8, .tmp 9] rfl ?_
 refine W_seq_k fun K1 k1 => ?_
 refine W_region [8, 9] rfl (Ops_step (R_assign rfl) rfl rfl (Ops_step (R_assign rfl) rfl rfl ?_))
 refine Ops_nil ?_
 refine then_n (k1 _ _ ?_)
 clear k1 K1
 refine W_seq_k fun K2 k2 => ?_
 refine W_block ?_
 refine W_seq_k fun K3 k3 => ?_
 refine W_region [13, 14, 15, 12] rfl (Ops_step (R_move rfl) rfl rfl (Ops_step (R_len Tryd.underlying30 rfl rfl) rfl rfl (Ops_step (R_neq rfl rfl) rfl rfl (Ops_step (R_assign rfl) rfl rfl ?_))))
 refine Ops_nil ?_
 refine then_n (k3 _ _ ?_)
 clear k3 K3
 refine W_if rfl (fun hc4_ => ?_) (fun hc4_ => ?_)
 ·
  replace h := h.1 hc4_
  refine W_seq_k fun K5 k5 => ?_
  refine W_region [8, 9] rfl (Ops_step (R_assign rfl) rfl rfl (Ops_step (R_assign rfl) rfl rfl ?_))
  refine Ops_nil ?_
  refine then_n (k5 _ _ ?_)
  clear k5 K5
  refine W_keepB [8, 9] fun B_ b_ => ?_
  simp only [e_, Nat.reduceAdd, Nat.reduceBEq] at b_
  subst b_
  refine W_ret ?_
  refine block_ret ?_
  refine then_ret ?_
  clear k2 K2
  refine ⟨_, ⟨_, _, rfl, rfl, ⟨_, _, rfl, rfl, rfl⟩⟩, ?_⟩
  exact ⟨none, 0, [], 1, _, _, rfl, hI, OwnS.nil, h⟩
 ·
  replace h := h.2 hc4_
  refine W_seq_k fun K7 k7 => ?_
  refine W_region [17, 18, 19, 16] rfl (Ops_step (R_move rfl) rfl rfl (Ops_step (R_len Tryd.underlying30 rfl rfl) rfl rfl (Ops_step (R_lss rfl rfl) rfl rfl (Ops_step (R_assign rfl) rfl rfl ?_))))
  refine Ops_nil ?_
  refine then_n (k7 _ _ ?_)
  clear k7 K7
  refine W_keepB [0, 1, 2, 3, 16] fun B_ b_ => ?_
  simp only [e_, Nat.reduceAdd, Nat.reduceBEq] at b_
  subst b_
  refine W_if rfl (fun hc9_ => ?_) (fun hc9_ => ?_)
  ·
   replace h := h.1 hc9_
   refine W_seq_k fun K10 k10 => ?_
   refine W_region [8, 9] rfl (Ops_step (R_assign rfl) rfl rfl (Ops_step (R_assign rfl) rfl rfl ?_))
   refine Ops_nil ?_
   refine then_n (k10 _ _ ?_)
   clear k10 K10
   refine W_ret ?_
   refine block_ret ?_
   refine then_ret ?_
   clear k2 K2
   refine ⟨_, ⟨_, _, rfl, rfl, ⟨_, _, rfl, rfl, rfl⟩⟩, ?_⟩
   exact ⟨none, 0, [], 2, _, _, rfl, hI, OwnS.nil, h⟩
  ·
   replace h := h.2 hc9_
   refine W_skip ?_
   refine block_n ?_
   refine then_n (k2 _ _ ?_)
   clear k2 K2
   refine W_seq_k fun K11 k11 => ?_
   refine W_drawF [20, 21, 22, 23, 24, 25, 26, 27, 28, 29, 10, 11] [(0, true), (1, true), (2, true), (3, true), (4, true), (5, true), (6, true), (7, true), (8, true), (9, true), (10, true), (11, true)] TFtD.hm rfl (by kernel_rfl) fun ops12_ w12_ hops12_ hF12_ => ?_
   replace hI := hI.fr0 hF12_
   clear hF12_
   refine HSp (R_move rfl) rfl rfl (HSp (R_move rfl) rfl rfl (HSp (R_len Tryd.underlying30 rfl rfl) rfl rfl ?_))
   have hk13_ := h.1
   replace h := h.2
   refine HSp (R_sub rfl rfl (wI hk13_.1 hk13_.2)) rfl rfl ?_
   have hk15_ := h.1
   replace h := h.2
   have hk16_ := h.1
   replace h := h.2
   refine Exists.elim (cut_ex (n := 1) (l := 0) (h := ((x3.length : Int) - 16)) hs3 rfl (by decide) hc3 (Int.le_refl 0) hk15_ hk16_) fun A14_ h14_ => Exists.elim h14_ fun c14_ h14_ => ?_
   have hr14_ := h14_.1
   have hc14_ := h14_.2.1
   have hs14_ := h14_.2.2
   clear h14_
   refine HSp (X_slice (xs := x3) Tryd.underlying30 sz5 rfl hr14_ hc3 rfl rfl (Int.le_refl 0) hk15_ hk16_) rfl rfl ?_
   clear hr14_
   refine HSp (R_move rfl) rfl rfl (HSp (R_move rfl) rfl rfl (HSp (R_len Tryd.underlying30 rfl rfl) rfl rfl ?_))
   have hk17_ := h.1
   replace h := h.2
   refine HSp (R_sub rfl rfl (wI hk17_.1 hk17_.2)) rfl rfl ?_
   have hk19_ := h.1
   replace h := h.2
   have hk20_ := h.1
   replace h := h.2
   refine Exists.elim (cut_ex (n := 1) (l := ((x3.length : Int) - 16)) (h := (x3.length : Int)) hs3 rfl (by decide) hc3 hk19_ hk20_ (Int.le_refl _)) fun A18_ h18_ => Exists.elim h18_ fun c18_ h18_ => ?_
   have hr18_ := h18_.1
   have hc18_ := h18_.2.1
   have hs18_ := h18_.2.2
   clear h18_
   refine HSp (X_slice (xs := x3) Tryd.underlying30 sz5 rfl hr18_ hc3 rfl rfl hk19_ hk20_ (Int.le_refl _)) rfl rfl ?_
   clear hr18_
   refine HSp (R_assign rfl) rfl rfl (HSp (R_assign rfl) rfl rfl ?_)
   refine HS_nil ?_
   clear hops12_
   refine then_n (k11 _ _ ?_)
   clear k11 K11
   refine W_keepB [0, 1, 2, 10, 11] fun B_ b_ => ?_
   simp only [e_, Nat.reduceAdd, Nat.reduceBEq] at b_
   subst b_
   refine W_seq_k fun K22 k22 => ?_
   refine W_seq_k fun K23 k23 => ?_
   refine W_region [30, 31, 32, 33, 34, 35, 36, 37] rfl (Ops_step (R_move rfl) rfl rfl (Ops_step (R_move rfl) rfl rfl (Ops_step (R_move rfl) rfl rfl (Ops_step (R_move rfl) rfl rfl ?_))))
   refine Ops_step (R_move rfl) rfl rfl ?_
   refine Ops_call (C_func bd73 rfl) rfl rfl ?_
   refine (cipher_tag_ok (x0 := x0) (x1 := x1) (x2 := x2) (x3 := (cut x3 0 ((x3.length : Int) - 16))) hI.st (hg.up hI.le) hc0 hs0 hc2 hs2 hc14_ hs14_ h).mono ?_
   rintro _ w24_ ⟨A24_0, c24_0, r24_0, L24_, H24_, rfl, hI24_, hc24_0, hs24_0, h⟩
   refine Exists.elim (hI.call hI24_ (by simp)) fun L240_ h24_ => ?_
   have hz24_ := hI.size
   replace hI := h24_.1
   have u24_ := h24_.2.1
   have hl24_ := h24_.2.2
   clear h24_
   replace hs0 := hs0.up u24_.hh
   replace hs14_ := hs14_.up u24_.hh
   replace hs18_ := hs18_.up u24_.hh
   replace hs24_0 := hs24_0.up hl24_
   clear hI24_ u24_ hl24_
   refine ⟨_, rfl, ?_⟩
   refine Ops_call (C_func bd72 rfl) rfl rfl ?_
   refine (hash_Equal_ok (x0 := (cut x3 ((x3.length : Int) - 16) (x3.length : Int))) (x1 := r24_0) hI.st (hg.up hI.le) hc18_ hs18_ hc24_0 (hs24_0.up hI.sub) h).mono ?_
   rintro _ w25_ ⟨r25_0, L25_, H25_, rfl, hI25_, h⟩
   refine Exists.elim (hI.call hI25_ (by simp)) fun L250_ h25_ => ?_
   have hz25_ := hI.size
   replace hI := h25_.1
   have u25_ := h25_.2.1
   have hl25_ := h25_.2.2
   clear h25_
   replace hs0 := hs0.up u25_.hh
   replace hs14_ := hs14_.up u25_.hh
   clear hI25_ u25_ hl25_
   refine ⟨_, rfl, ?_⟩
   refine Ops_step (R_not rfl) rfl rfl ?_
   refine Ops_nil ?_
   refine then_n (k23 _ _ ?_)
   clear k23 K23
   refine W_keepB [0, 1, 10, 37] fun B_ b_ => ?_
   simp only [e_, Nat.reduceAdd, Nat.reduceBEq] at b_
   subst b_
   refine W_cond rfl (fun hc27_ => ?_) (fun hc27_ => ?_)
   ·
    replace h := h.1 hc27_
    refine W_seq_k fun K28 k28 => ?_
    refine W_region [8, 9] rfl (Ops_step (R_assign rfl) rfl rfl (Ops_step (R_assign rfl) rfl rfl ?_))
    refine Ops_nil ?_
    refine then_n (k28 _ _ ?_)
    clear k28 K28
    refine W_ret ?_
    refine then_ret ?_
    clear k22 K22
    refine ⟨_, ⟨_, _, rfl, rfl, ⟨_, _, rfl, rfl, rfl⟩⟩, ?_⟩
    exact ⟨none, 0, [], 121, _, _, rfl, hI, OwnS.nil, h⟩
   ·
    replace h := h.2 hc27_
    refine W_skip ?_
    refine then_n (k22 _ _ ?_)
    clear k22 K22
    refine W_seq_k fun K29 k29 => ?_
    refine W_region [38, 39, 40, 41, 42, 43, 8, 9] rfl (Ops_step (R_move rfl) rfl rfl (Ops_step (R_move rfl) rfl rfl (Ops_step (R_move rfl) rfl rfl ?_)))
    refine Ops_call (C_func bd74 rfl) rfl rfl ?_
    refine (cipher_Turn_ok (x0 := x0) (x1 := x1) (x2 := (cut x3 0 ((x3.length : Int) - 16))) hI.st (hg.up hI.le) hc0 hs0 hc14_ hs14_ h).mono ?_
    rintro _ w30_ ⟨A30_0, c30_0, r30_0, r30_1, L30_, H30_, rfl, hI30_, ho30_0, h⟩
    refine Exists.elim (hI.call hI30_ (by simp)) fun L300_ h30_ => ?_
    have hz30_ := hI.size
    replace hI := h30_.1
    have u30_ := h30_.2.1
    have hl30_ := h30_.2.2
    clear h30_
    replace ho30_0 := OwnS.backS ho30_0 hz30_ (Le.refl _)
    clear hI30_ u30_ hl30_
    refine ⟨_, rfl, ?_⟩
    refine Ops_step (R_extract (v := .slice A30_0 r30_0.length c30_0) rfl rfl) rfl rfl ?_
    refine Ops_step (R_extract (v := vi r30_1) rfl rfl) rfl rfl ?_
    refine Ops_step (R_assign rfl) rfl rfl (Ops_step (R_assign rfl) rfl rfl ?_)
    refine Ops_nil ?_
    refine then_n (k29 _ _ ?_)
    clear k29 K29
    refine W_keepB [8, 9] fun B_ b_ => ?_
    simp only [e_, Nat.reduceAdd, Nat.reduceBEq] at b_
    subst b_
    refine W_ret ?_
    refine ⟨_, ⟨_, _, rfl, rfl, ⟨_, _, rfl, rfl, rfl⟩⟩, ?_⟩
    exact ⟨A30_0, c30_0, r30_0, r30_1, _, _, rfl, hI, (ho30_0.hl (Le.no _)), h⟩

theorem sealskinref08_tag_ok {G : Gh} {w : World} (hS : St G w) (hg : GL G) {A0 : Option Addr} {c0 : Nat} {x0 : List UInt8} (hc0 : x0.length ≤ c0) (hs0 : Sl G A0 x0) {x1 : BitVec 64} {A2 : Option Addr} {c2 : Nat} {x2 : List UInt8} (hc2 : x2.length ≤ c2) (hs2 : Sl G A2 x2) {A3 : Option Addr} {c3 : Nat} {x3 : List UInt8} (hc3 : x3.length ≤ c3) (hs3 : Sl G A3 x3) {Q : (List UInt8) → Prop} (h : sealskinref08_tag x0 x1 x2 x3 Q) : Calls Tryd.prog 75 #[.slice A0 x0.length c0, w64 x1, .slice A2 x2.length c2, .slice A3 x3.length c3] w fun e w2 => ∃ (A0 : Option Addr) (c0 : Nat) (r0 : List UInt8) (L H : Gh), e = .returned (.slice A0 r0.length c0) ∧ Inv [] G w L H w2 ∧ OwnS w.heap.size 5 L H w2 A0 c0 r0 ∧ Q r0 := by
 unfold sealskinref08_tag at h
 have hI := Inv.start (M := []) hS
 refine calls_W 33 Tryd.func75 rfl Tryd.ntmps75 rfl [.tmp 8] rfl ?_
 refine W_seq_k fun K1 k1 => ?_
 refine W_region [8] rfl (Ops_step (R_assign rfl) rfl rfl ?_)
 refine Ops_nil ?_
 refine then_n (k1 _ _ ?_)
 clear k1 K1
 refine W_seq_k fun K2 k2 => ?_
 refine W_region [11, 12, 13, 14, 15, 16, 17, 18, 19, 20, 9] rfl (Ops_step (R_move rfl) rfl rfl (Ops_step (R_quo rfl rfl (by decide) (quo64 x1 (2#64))) rfl rfl ?_))
 have hk3_ := h.1
 replace h := h.2
 refine Ops_step (R_conv Tryd.underlying72 Tryd.underlying3 rfl (c64_I _ hk3_)) rfl rfl (Ops_step (R_move rfl) rfl rfl (Ops_step (R_rem rfl rfl (by decide) (rem64 x1 (2#64))) rfl rfl ?_))
 have hk4_ := h.1
 replace h := h.2
 refine Ops_step (R_conv Tryd.underlying72 Tryd.underlying3 rfl (c64_I _ hk4_)) rfl rfl (Ops_step (R_move rfl) rfl rfl (Ops_step (R_len Tryd.underlying30 rfl rfl) rfl rfl ?_))
 refine Ops_to (R_buildSlice el56 zr3 (by decide) (by decide) rfl rfl) rfl rfl ?_
 rintro _ w5_ ⟨b5_, rfl, hb5_, hB5_, hF5_⟩
 have ho5_ : OwnS w.heap.size 3 Gh.no G _ (some ⟨b5_, 0, none⟩) 3 ([((x1 / (2#64)).toNat : Int), ((x1 % (2#64)).toNat : Int), (x2.length : Int)] : List Int) := OwnS.ofBlk hI.st hb5_ hB5_ (all2_sc' _) rfl (by have := hI.size; omega) (by show 3 ≤ maxLen; decide)
 replace hI := hI.fr0 hF5_
 clear hF5_ hB5_
 refine Exists.elim (ho5_.lend hI.st (Le.no _)) fun Hb6_0_ hb6_0_ => ?_
 refine Ops_call (C_func bd54 rfl) rfl rfl ?_
 refine (sealskinref02_Put_ok (x0 := []) (x1 := ([((x1 / (2#64)).toNat : Int), ((x1 % (2#64)).toNat : Int), (x2.length : Int)] : List Int)) hb6_0_.1 (hg.up (hI.le.trans hb6_0_.2.1)) (Nat.le_refl 0) Sl.nil (Nat.le_refl _) hb6_0_.2.2 h).mono ?_
 rintro _ w6_ ⟨A6_0, c6_0, r6_0, L6_, H6_, rfl, hI6_, ho6_0, h⟩
 refine Exists.elim (hI.callB hb6_0_.2.1 hI6_ (by simp)) fun L60_ h6_ => Exists.elim h6_ fun H60_ h6_ => ?_
 have hz6_ := hI.size
 replace hI := h6_.1
 have u6_ := h6_.2.1
 have hl6_ := h6_.2.2.1
 have hh6_ := h6_.2.2.2
 clear h6_
 replace hs0 := hs0.up u6_.hh
 replace hs2 := hs2.up u6_.hh
 replace hs3 := hs3.up u6_.hh
 replace ho6_0 := OwnS.backS ho6_0 hz6_ hh6_
 clear hI6_ u6_ hl6_
 refine ⟨_, rfl, ?_⟩
 refine Ops_step (R_assign rfl) rfl rfl ?_
 refine Ops_nil ?_
 refine then_n (k2 _ _ ?_)
 clear k2 K2
 refine W_keepB [0, 2, 3, 9] fun B_ b_ => ?_
 simp only [e_, Nat.reduceAdd, Nat.reduceBEq] at b_
 subst b_
 refine W_seq_k fun K8 k8 => ?_
 refine W_region [21, 22, 23, 24, 25, 9] rfl (Ops_step (R_move rfl) rfl rfl (Ops_step (R_move rfl) rfl rfl ?_))
 have hk10_ := h.1
 replace h := h.2
 refine Ops_to (X_append (α := UInt8) (xs := r6_0) (ys := x2) el30 rfl rfl ho6_0 (Srcs.sc (Srcs.ofSl Tryd.underlying30 hs2 hI.st (by decide))) hI.st hk10_ (by decide) hI.size) rfl rfl ?_
 rintro _ w9_ ⟨A9_, c9_, rfl, ho9_, hF9_, hbk9_⟩
 clear hbk9_
 replace hI := hI.tok hF9_ ho6_0.out (ho6_0.new (Nat.le_refl _))
 clear hF9_ ho6_0
 refine Ops_step (R_move rfl) rfl rfl ?_
 have hk12_ := h.1
 replace h := h.2
 refine Ops_to (X_append (α := UInt8) (xs := (r6_0 ++ x2)) (ys := x3) el30 rfl rfl ho9_ (Srcs.sc (Srcs.ofSl Tryd.underlying30 hs3 hI.st (by decide))) hI.st hk12_ (by decide) hI.size) rfl rfl ?_
 rintro _ w11_ ⟨A11_, c11_, rfl, ho11_, hF11_, hbk11_⟩
 clear hbk11_
 replace hI := hI.tok hF11_ ho9_.out (ho9_.new (Nat.le_refl _))
 clear hF11_ ho9_
 refine Ops_step (R_assign rfl) rfl rfl ?_
 refine Ops_nil ?_
 refine then_n (k8 _ _ ?_)
 clear k8 K8
 refine W_keepB [0, 9] fun B_ b_ => ?_
 simp only [e_, Nat.reduceAdd, Nat.reduceBEq] at b_
 subst b_
 refine W_seq_k fun K14 k14 => ?_
 refine W_region [26, 27, 28, 29, 10, none] rfl (Ops_step (R_move rfl) rfl rfl ?_)
 have hk16_ := h.1
 replace h := h.2
 refine Exists.elim (cut_ex (n := 1) (l := 32) (h := (x0.length : Int)) hs0 rfl (by decide) hc0 (by decide) hk16_ (Int.le_refl _)) fun A15_ h15_ => Exists.elim h15_ fun c15_ h15_ => ?_
 have hr15_ := h15_.1
 have hc15_ := h15_.2.1
 have hs15_ := h15_.2.2
 clear h15_
 refine Ops_step (X_slice (xs := x0) Tryd.underlying30 sz5 rfl hr15_ hc0 rfl rfl (by decide) hk16_ (Int.le_refl _)) rfl rfl ?_
 clear hr15_
 refine Ops_step (R_move rfl) rfl rfl ?_
 refine Exists.elim (ho11_.lend hI.st (Le.no _)) fun Hb17_0_ hb17_0_ => ?_
 refine Ops_call (C_func bd79 rfl) rfl rfl ?_
 refine (sealskinref07_Keyed_ok (x0 := (cut x0 32 (x0.length : Int))) (x1 := ((r6_0 ++ x2) ++ x3)) hb17_0_.1 (hg.up (hI.le.trans hb17_0_.2.1)) hc15_ (hs15_.up hb17_0_.2.1) ho11_.cap hb17_0_.2.2 h).mono ?_
 rintro _ w17_ ⟨r17_0, L17_, H17_, rfl, hI17_, hn17_0, h⟩
 refine Exists.elim (hI.callB hb17_0_.2.1 hI17_ (by simp)) fun L170_ h17_ => Exists.elim h17_ fun H170_ h17_ => ?_
 have hz17_ := hI.size
 replace hI := h17_.1
 have u17_ := h17_.2.1
 have hl17_ := h17_.2.2.1
 have hh17_ := h17_.2.2.2
 clear h17_
 clear hI17_ u17_ hl17_
 refine ⟨_, rfl, ?_⟩
 have hI0_ := hI
 refine Ops_to (R_alloc zr96) rfl rfl ?_
 rintro _ w18_ ⟨b18_, rfl, hb18_, hB18_, hF18_⟩
 replace hI := hI.fr0 hF18_
 have ht18_ : Tok H170_ _ b18_ 96 ((Arr.mk (n := 32) (List.replicate 32 (0 : UInt8))).l.map vb) := ⟨hB18_.to (by rw [List.map_replicate]; rfl), Out.ge hI0_.st (Nat.le_of_eq hb18_.symm)⟩
 have hge_b18_ : w.heap.size ≤ b18_ := hb18_ ▸ hI0_.size
 clear hB18_ hb18_ hI0_ hF18_
 refine Ops_to0 (R_storeN sz96 (by simp [hn17_0]) rfl rfl ht18_.blk (by simp [(List.length_replicate ..), hn17_0]) (all_enc _)) rfl ?_
 rintro _ w19_ ⟨hB19_, hF19_⟩
 replace hI := hI.tok hF19_ (out1 ht18_.out) (new1 hge_b18_)
 replace ht18_ : Tok H170_ _ b18_ 96 (r17_0.l.map vb) := ⟨hB19_.to (arr_over (((List.length_replicate ..)).trans (hn17_0).symm)), ht18_.out⟩
 clear hF19_ hB19_
 refine Ops_nil ?_
 refine then_n (k14 _ _ ?_)
 clear k14 K14
 refine W_keepB [10] fun B_ b_ => ?_
 simp only [e_, Nat.reduceAdd, Nat.reduceBEq] at b_
 subst b_
 refine W_seq_k fun K21 k21 => ?_
 refine W_region [30, 31, 32, 8] rfl ?_
 refine Ops_to (R_buildSlice0 el30) rfl rfl ?_
 rintro _ w22_ ⟨b22_, rfl, hb22_, hB22_, hF22_⟩
 have ho22_ : OwnS w.heap.size 5 Gh.no H170_ _ (some ⟨b22_, 0, none⟩) 0 ([] : List UInt8) := OwnS.ofBlk hI.st hb22_ hB22_ (all2_sc' _) rfl (by have := hI.size; omega) (by show 0 ≤ maxLen; decide)
 replace hI := hI.fr0 hF22_
 replace ht18_ := ht18_.fr0 hF22_
 clear hF22_ hB22_
 have hy23_ : (List.take 16 r17_0.l).length = 16 := len_take (n := 32) hn17_0 (by decide)
 refine Exists.elim (ht18_.freeze hge_b18_ hI) fun L23_ h23_ => Exists.elim h23_ fun H23_ h23_ => ?_
 replace hI := h23_.1
 have u23_ := h23_.2.1
 have hs23_ := h23_.2.2.take 16
 have hc23_ : (List.take 16 r17_0.l).length ≤ 32 := by omega
 replace ho22_ := ho22_.up (Le.refl _) u23_ (ho22_.ne ht18_.blk (by decide))
 clear h23_ u23_ ht18_
 refine Ops_step (X_sliceArr (ys := List.take 16 r17_0.l) Tryd.underlying96 sz5 rfl ⟨_, _, rfl, rfl⟩ (by decide) hy23_) rfl rfl ?_
 have hk25_ := h.1
 replace h := h.2
 refine Ops_to (X_append (α := UInt8) (xs := ([] : List UInt8)) (ys := (List.take 16 r17_0.l)) el30 rfl rfl ho22_ (Srcs.sc (Srcs.ofSl Tryd.underlying30 (hs23_.up hI.sub) hI.st (by decide))) hI.st hk25_ (by decide) hI.size) rfl rfl ?_
 rintro _ w24_ ⟨A24_, c24_, rfl, ho24_, hF24_, hbk24_⟩
 clear hbk24_
 replace hI := hI.tok hF24_ ho22_.out (ho22_.new (Nat.le_refl _))
 clear hF24_ ho22_
 refine Ops_step (R_assign rfl) rfl rfl ?_
 refine Ops_nil ?_
 refine then_n (k21 _ _ ?_)
 clear k21 K21
 refine W_ret ?_
 refine ⟨_, ⟨_, _, rfl, rfl, rfl⟩, ?_⟩
 exact ⟨A24_, c24_, (([] : List UInt8) ++ (List.take 16 r17_0.l)), _, _, rfl, hI, (ho24_.hl (Le.no _)), h⟩

theorem sealskinref08_Seal_ok {G : Gh} {w : World} (hS : St G w) (hg : GL G) {A0 : Option Addr} {c0 : Nat} {x0 : List UInt8} (hc0 : x0.length ≤ c0) (hs0 : Sl G A0 x0) {x1 : BitVec 64} {A2 : Option Addr} {c2 : Nat} {x2 : List UInt8} (hc2 : x2.length ≤ c2) (hs2 : Sl G A2 x2) {A3 : Option Addr} {c3 : Nat} {x3 : List UInt8} (hc3 : x3.length ≤ c3) (hs3 : Sl G A3 x3) {Q : (List UInt8) → Int → Prop} (h : sealskinref08_Seal x0 x1 x2 x3 Q) : Calls Tryd.prog 61 #[.slice A0 x0.length c0, w64 x1, .slice A2 x2.length c2, .slice A3 x3.length c3] w fun e w2 => ∃ (A0 : Option Addr) (c0 : Nat) (r0 : List UInt8) (r1 : Int) (L H : Gh), e = .returned (.tuple #[.slice A0 r0.length c0, vi r1]) ∧ Inv [] G w L H w2 ∧ OwnS w.heap.size 5 L H w2 A0 c0 r0 ∧ Q r0 r1 := by
 unfold sealskinref08_Seal at h
 have hI := Inv.start (M := []) hS
 refine calls_W 31 Tryd.func61 rfl Tryd.ntmps61 rfl [.tmp 8, .tmp 9] rfl ?_
 refine W_seq_k fun K1 k1 => ?_
 refine W_region [8, 9] rfl (Ops_step (R_assign rfl) rfl rfl (Ops_step (R_assign rfl) rfl rfl ?_))
 refine Ops_nil ?_
 refine then_n (k1 _ _ ?_)
 clear k1 K1
 refine W_seq_k fun K2 k2 => ?_
 refine W_seq_k fun K3 k3 => ?_
 refine W_region [12, 13, 14] rfl (Ops_step (R_move rfl) rfl rfl (Ops_step (R_len Tryd.underlying30 rfl rfl) rfl rfl (Ops_step (R_neq rfl rfl) rfl rfl ?_)))
 refine Ops_nil ?_
 refine then_n (k3 _ _ ?_)
 clear k3 K3
 refine W_if rfl (fun hc4_ => ?_) (fun hc4_ => ?_)
 ·
  replace h := h.1 hc4_
  refine W_seq_k fun K5 k5 => ?_
  refine W_region [8, 9] rfl (Ops_step (R_assign rfl) rfl rfl (Ops_step (R_assign rfl) rfl rfl ?_))
  refine Ops_nil ?_
  refine then_n (k5 _ _ ?_)
  clear k5 K5
  refine W_keepB [8, 9] fun B_ b_ => ?_
  simp only [e_, Nat.reduceAdd, Nat.reduceBEq] at b_
  subst b_
  refine W_ret ?_
  refine then_ret ?_
  clear k2 K2
  refine ⟨_, ⟨_, _, rfl, rfl, ⟨_, _, rfl, rfl, rfl⟩⟩, ?_⟩
  exact ⟨none, 0, [], 1, _, _, rfl, hI, OwnS.nil, h⟩
 ·
  replace h := h.2 hc4_
  refine W_skip ?_
  refine then_n (k2 _ _ ?_)
  clear k2 K2
  refine W_seq_k fun K7 k7 => ?_
  refine W_region [16, 17, 18, 19, 15, 20, 21, 10, 11] rfl (Ops_step (R_move rfl) rfl rfl (Ops_step (R_move rfl) rfl rfl (Ops_step (R_move rfl) rfl rfl ?_)))
  refine Ops_call (C_func bd76 rfl) rfl rfl ?_
  refine (sealskinref08_Turn_ok (x0 := x0) (x1 := x1) (x2 := x3) hI.st (hg.up hI.le) hc0 hs0 hc3 hs3 h).mono ?_
  rintro _ w8_ ⟨A8_0, c8_0, r8_0, r8_1, L8_, H8_, rfl, hI8_, ho8_0, h⟩
  refine Exists.elim (hI.call hI8_ (by simp)) fun L80_ h8_ => ?_
  have hz8_ := hI.size
  replace hI := h8_.1
  have u8_ := h8_.2.1
  have hl8_ := h8_.2.2
  clear h8_
  replace hs0 := hs0.up u8_.hh
  replace hs2 := hs2.up u8_.hh
  replace ho8_0 := OwnS.backS ho8_0 hz8_ (Le.refl _)
  clear hI8_ u8_ hl8_
  refine ⟨_, rfl, ?_⟩
  refine Exists.elim (ho8_0.freeze hI) fun L9_ h9_ => Exists.elim h9_ fun H9_ h9_ => ?_
  replace hI := h9_.1
  have u9_ := h9_.2.1
  have hs9_ := h9_.2.2.1 (Le.no _)
  have hc9_ := ho8_0.cap
  replace hs0 := hs0.up u9_.hh
  replace hs2 := hs2.up u9_.hh
  clear h9_ u9_ ho8_0
  refine Ops_step (R_move rfl) rfl rfl ?_
  refine Ops_step (R_extract (v := .slice A8_0 r8_0.length c8_0) rfl rfl) rfl rfl ?_
  refine Ops_step (R_extract (v := vi r8_1) rfl rfl) rfl rfl ?_
  refine Ops_step (R_assign rfl) rfl rfl (Ops_step (R_assign rfl) rfl rfl ?_)
  refine Ops_nil ?_
  refine then_n (k7 _ _ ?_)
  clear k7 K7
  refine W_keepB [0, 1, 2, 10] fun B_ b_ => ?_
  simp only [e_, Nat.reduceAdd, Nat.reduceBEq] at b_
  subst b_
  refine W_seq_k fun K11 k11 => ?_
  refine W_region [22, 23, 24, 25, 26, 27, 28, 29, 30, 8, 9] rfl ?_
  refine Ops_to (R_buildSlice0 el30) rfl rfl ?_
  rintro _ w12_ ⟨b12_, rfl, hb12_, hB12_, hF12_⟩
  have ho12_ : OwnS w.heap.size 5 Gh.no H9_ _ (some ⟨b12_, 0, none⟩) 0 ([] : List UInt8) := OwnS.ofBlk hI.st hb12_ hB12_ (all2_sc' _) rfl (by have := hI.size; omega) (by show 0 ≤ maxLen; decide)
  replace hI := hI.fr0 hF12_
  clear hF12_ hB12_
  refine Ops_step (R_move rfl) rfl rfl ?_
  have hk14_ := h.1
  replace h := h.2
  refine Ops_to (X_append (α := UInt8) (xs := ([] : List UInt8)) (ys := r8_0) el30 rfl rfl ho12_ (Srcs.sc (Srcs.ofSl Tryd.underlying30 (hs9_.up hI.sub) hI.st (by decide))) hI.st hk14_ (by decide) hI.size) rfl rfl ?_
  rintro _ w13_ ⟨A13_, c13_, rfl, ho13_, hF13_, hbk13_⟩
  clear hbk13_
  replace hI := hI.tok hF13_ ho12_.out (ho12_.new (Nat.le_refl _))
  clear hF13_ ho12_
  refine Ops_step (R_move rfl) rfl rfl (Ops_step (R_move rfl) rfl rfl (Ops_step (R_move rfl) rfl rfl (Ops_step (R_move rfl) rfl rfl ?_)))
  refine Ops_call (C_func bd75 rfl) rfl rfl ?_
  refine (sealskinref08_tag_ok (x0 := x0) (x1 := x1) (x2 := x2) (x3 := r8_0) hI.st (hg.up hI.le) hc0 hs0 hc2 hs2 hc9_ (hs9_.up hI.sub) h).mono ?_
  have hlo15_0_ho13_ := ho13_.lt
  rintro _ w15_ ⟨A15_0, c15_0, r15_0, L15_, H15_, rfl, hI15_, ho15_0, h⟩
  refine Exists.elim (hI.call hI15_ (by simp)) fun L150_ h15_ => ?_
  have hz15_ := hI.size
  replace hI := h15_.1
  have u15_ := h15_.2.1
  have hl15_ := h15_.2.2
  clear h15_
  replace ho13_ := ho13_.up (Le.refl _) u15_ (by simp)
  have hsp15_0_ho13_ : ∀ i ∈ bk A15_0 c15_0, i ∉ bk A13_ c13_ := sep_new ho15_0.off hlo15_0_ho13_
  replace ho15_0 := OwnS.backS ho15_0 hz15_ (Le.refl _)
  clear hI15_ u15_ hl15_
  refine ⟨_, rfl, ?_⟩
  refine Exists.elim (ho15_0.freeze hI) fun L16_ h16_ => Exists.elim h16_ fun H16_ h16_ => ?_
  replace hI := h16_.1
  have u16_ := h16_.2.1
  have hs16_ := h16_.2.2.1 (Le.no _)
  have hc16_ := ho15_0.cap
  replace ho13_ := ho13_.up (Le.refl _) u16_ (sep_sym hsp15_0_ho13_)
  clear h16_ u16_ ho15_0
  have hk18_ := h.1
  replace h := h.2
  refine Ops_to (X_append (α := UInt8) (xs := (([] : List UInt8) ++ r8_0)) (ys := r15_0) el30 rfl rfl ho13_ (Srcs.sc (Srcs.ofSl Tryd.underlying30 (hs16_.up hI.sub) hI.st (by decide))) hI.st hk18_ (by decide) hI.size) rfl rfl ?_
  rintro _ w17_ ⟨A17_, c17_, rfl, ho17_, hF17_, hbk17_⟩
  clear hbk17_
  replace hI := hI.tok hF17_ ho13_.out (ho13_.new (Nat.le_refl _))
  clear hF17_ ho13_
  refine Ops_step (R_assign rfl) rfl rfl (Ops_step (R_assign rfl) rfl rfl ?_)
  refine Ops_nil ?_
  refine then_n (k11 _ _ ?_)
  clear k11 K11
  refine W_keepB [8, 9] fun B_ b_ => ?_
  simp only [e_, Nat.reduceAdd, Nat.reduceBEq] at b_
  subst b_
  refine W_ret ?_
  refine ⟨_, ⟨_, _, rfl, rfl, ⟨_, _, rfl, rfl, rfl⟩⟩, ?_⟩
  exact ⟨A17_, c17_, ((([] : List UInt8) ++ r8_0) ++ r15_0), 0, _, _, rfl, hI, (ho17_.hl (Le.no _)), h⟩

end Go.Proofs.YtbjmngacjdcddaaDoor

