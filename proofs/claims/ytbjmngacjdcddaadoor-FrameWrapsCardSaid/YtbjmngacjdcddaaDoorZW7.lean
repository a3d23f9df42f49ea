/- What is shown of the program on the way to the law. -/
import Derived.Test.YtbjmngacjdcddaaDoorZW2
import Derived.Test.YtbjmngacjdcddaaDoorZW4
import Derived.Test.YtbjmngacjdcddaaDoorProg
set_option linter.unusedVariables false
set_option linter.unusedSimpArgs false
set_option maxHeartbeats 4000000
namespace Go.Proofs.YtbjmngacjdcddaaDoor
open Go Go.Sx Go.Lx
namespace TFtA
theorem hm : Tryd.prog.follows .mixedOrders = true := by kernel_rfl
theorem ag105 : aggB Tryd.prog 105 = some true := by kernel_rfl
theorem ag119 : aggB Tryd.prog 119 = some false := by kernel_rfl
theorem ag120 : aggB Tryd.prog 120 = some true := by kernel_rfl
theorem ag121 : aggB Tryd.prog 121 = some true := by kernel_rfl
theorem ag3 : aggB Tryd.prog 3 = some false := by kernel_rfl
theorem ag5 : aggB Tryd.prog 5 = some false := by kernel_rfl
theorem bd104 : bodied Tryd.prog 104 = true := by kernel_rfl
theorem bd105 : bodied Tryd.prog 105 = true := by kernel_rfl
theorem bd109 : bodied Tryd.prog 109 = true := by kernel_rfl
theorem bd52 : bodied Tryd.prog 52 = true := by kernel_rfl
theorem bd54 : bodied Tryd.prog 54 = true := by kernel_rfl
theorem bd77 : bodied Tryd.prog 77 = true := by kernel_rfl
theorem bd88 : bodied Tryd.prog 88 = true := by kernel_rfl
theorem bd89 : bodied Tryd.prog 89 = true := by kernel_rfl
theorem bd96 : bodied Tryd.prog 96 = true := by kernel_rfl
theorem bd97 : bodied Tryd.prog 97 = true := by kernel_rfl
theorem bd98 : bodied Tryd.prog 98 = true := by kernel_rfl
theorem el30 : Elem Tryd.prog 30 5 1 1 := Elem.of (by kernel_rfl)
theorem el56 : Elem Tryd.prog 56 3 1 8 := Elem.of (by kernel_rfl)
theorem pl120 : partPl Tryd.prog 120 = some [(0, 1), (1, 1), (2, 1), (3, 1), (4, 1), (5, 1), (6, 1), (7, 1), (8, 1), (9, 1), (10, 1), (11, 1), (12, 1), (13, 1), (14, 1), (15, 1)] := by kernel_rfl
theorem pl121 : partPl Tryd.prog 121 = some [(0, 1), (1, 1), (2, 1), (3, 1), (4, 1), (5, 1), (6, 1), (7, 1), (8, 1), (9, 1), (10, 1), (11, 1), (12, 1), (13, 1), (14, 1), (15, 1)] := by kernel_rfl
theorem sz105 : sz Tryd.prog 105 = some 64 := by kernel_rfl
theorem sz119 : sz Tryd.prog 119 = some 1 := by kernel_rfl
theorem sz120 : sz Tryd.prog 120 = some 16 := by kernel_rfl
theorem sz121 : sz Tryd.prog 121 = some 16 := by kernel_rfl
theorem sz3 : sz Tryd.prog 3 = some 1 := by kernel_rfl
theorem sz5 : sz Tryd.prog 5 = some 1 := by kernel_rfl
theorem zr105 : zr Tryd.prog 105 = some (List.replicate 64 (.int .u8 0)) := by kernel_rfl
theorem zr120 : zr Tryd.prog 120 = some (List.replicate 16 (.int .u32 0)) := by kernel_rfl
theorem zr121 : zr Tryd.prog 121 = some (List.replicate 16 (.int .u32 0)) := by kernel_rfl
theorem zr3 : zr Tryd.prog 3 = some ([.int .i64 0]) := by kernel_rfl
theorem zr5 : zr Tryd.prog 5 = some ([.int .u8 0]) := by kernel_rfl
theorem zr94 : zr Tryd.prog 94 = some (List.replicate 8 (.int .u8 0)) := by kernel_rfl
end TFtA
open TFtA
theorem bits_RotateLeft32_ok {G : Gh} {w : World} (hS : St G w) (hg : GL G) {x0 : BitVec 32} {x1 : Int} {Q : (BitVec 32) → Prop} (h : bits_RotateLeft32 x0 x1 Q) : Calls Tryd.prog 109 #[w32 x0, vi x1] w fun e w2 => ∃ (r0 : BitVec 32) (L H : Gh), e = .returned (w32 r0) ∧ Inv [] G w L H w2 ∧ Q r0 := by
 unfold bits_RotateLeft32 at h
 have hI := Inv.start (M := []) hS
 refine calls_W 17 Tryd.func109 rfl Tryd.ntmps109 rfl [.tmp 4] rfl ?_
 refine W_seq_k fun K1 k1 => ?_
 refine W_region [4] rfl (Ops_step (R_assign rfl) rfl rfl ?_)
 refine Ops_nil ?_
 refine then_n (k1 _ _ ?_)
 clear k1 K1
 refine W_seq_k fun K2 k2 => ?_
 refine W_region [6, 7, 8, 5] rfl (Ops_step (R_move rfl) rfl rfl (Ops_step (R_conv Tryd.underlying3 Tryd.underlying93 rfl (cI_64 _)) rfl rfl (Ops_step (R_and rfl rfl (and64 (BitVec.ofInt 64 x1) (31#64))) rfl rfl (Ops_step (R_assign rfl) rfl rfl ?_))))
 refine Ops_nil ?_
 refine then_n (k2 _ _ ?_)
 clear k2 K2
 refine W_seq_k fun K3 k3 => ?_
 refine W_region [9, 10, 11, 12, 13, 14, 15, 16, 4] rfl (Ops_step (R_move rfl) rfl rfl (Ops_step (R_move rfl) rfl rfl (Ops_step (R_shl rfl rfl (Int.not_lt.2 (Int.natCast_nonneg _)) (shl32I _ (Int.natCast_nonneg _))) rfl rfl (Ops_step (R_move rfl) rfl rfl ?_))))
 refine Ops_step (R_move rfl) rfl rfl (Ops_step (R_sub rfl rfl (sub64 (32#64) ((BitVec.ofInt 64 x1) &&& (31#64)))) rfl rfl (Ops_step (R_shr rfl rfl (Int.not_lt.2 (Int.natCast_nonneg _)) (shr32I _ (Int.natCast_nonneg _))) rfl rfl (Ops_step (R_or rfl rfl (or32 (x0 <<< (((BitVec.ofInt 64 x1) &&& (31#64)).toNat : Int).toNat) (x0 >>> (((32#64) - ((BitVec.ofInt 64 x1) &&& (31#64))).toNat : Int).toNat))) rfl rfl (Ops_step (R_assign rfl) rfl rfl ?_))))
 refine Ops_nil ?_
 refine then_n (k3 _ _ ?_)
 clear k3 K3
 refine W_keepB [4] fun B_ b_ => ?_
 simp only [e_, Nat.reduceAdd, Nat.reduceBEq] at b_
 subst b_
 refine W_ret ?_
 refine ⟨_, ⟨_, _, rfl, rfl, rfl⟩, ?_⟩
 exact ⟨((x0 <<< (((BitVec.ofInt 64 x1) &&& (31#64)).toNat : Int).toNat) ||| (x0 >>> (((32#64) - ((BitVec.ofInt 64 x1) &&& (31#64))).toNat : Int).toNat)), _, _, rfl, hI, h⟩

theorem cipher_words_quarter_ok {G : Gh} {w : World} (hS : St G w) (hg : GL G) {d0 tb0 : Nat} {x0 : Arr 16 (BitVec 32)} (hr0 : Ob tb0 G G w d0 x0) {x1 : Int} {x2 : Int} {x3 : Int} {x4 : Int} {Q : (Arr 16 (BitVec 32)) → Prop} (h : cipher_words_quarter x0 x1 x2 x3 x4 Q) : Calls Tryd.prog 104 #[.pointer (some ⟨d0, 0, none⟩), vi x1, vi x2, vi x3, vi x4] w fun e w2 => ∃ (y0 : Arr 16 (BitVec 32)) (L H : Gh), e = .returned (.tuple #[]) ∧ Inv [d0] G w L H w2 ∧ Ob tb0 H H w2 d0 y0 ∧ Q y0 := by
 unfold cipher_words_quarter at h
 have hI := Inv.start (M := [d0]) hS
 refine calls_W 126 Tryd.func104 rfl Tryd.ntmps104 rfl [] rfl ?_
 obtain ⟨l0_, hl0_, ht0⟩ := hr0
 obtain ⟨hn0_, rfl⟩ := Arr.open_ hl0_
 have hlt_d0 := ht0.blk.lt
 refine W_seq_k fun K1 k1 => ?_
 refine W_drawF [10, 11, 12, 13, 14, 15, 16, 17, 18, 19, 20, 21, 22, none] [(0, true), (1, true), (2, true), (3, true), (4, true), (5, true), (6, true), (7, true), (8, true), (9, true), (10, true), (11, true), (12, true), (13, false)] TFtA.hm rfl (by kernel_rfl) fun ops2_ w2_ hops2_ hF2_ => ?_
 replace hI := hI.fr0 hF2_
 replace ht0 := ht0.fr0 hF2_
 clear hF2_
 refine HSp (R_move rfl) rfl rfl (HSp (R_move rfl) rfl rfl (HSp (R_nilCheck rfl) rfl rfl ?_))
 refine ex_ h fun x3_ hx3_ h => ?_
 refine HSp (R_indexArr Tryd.underlying121 sz119 rfl rfl hx3_.1 (hx3_.ltn hn0_)) rfl rfl ?_
 refine HS_loadB ag119 rfl ht0.blk (arr_at hx3_) rfl rfl ?_
 refine HSp (R_move rfl) rfl rfl (HSp (R_move rfl) rfl rfl (HSp (R_nilCheck rfl) rfl rfl ?_))
 refine ex_ h fun x4_ hx4_ h => ?_
 refine HSp (R_indexArr Tryd.underlying121 sz119 rfl rfl hx4_.1 (hx4_.ltn hn0_)) rfl rfl ?_
 refine HS_loadB ag119 rfl ht0.blk (arr_at hx4_) rfl rfl ?_
 refine HSp (R_add rfl rfl (add32 x3_ x4_)) rfl rfl (HSp (R_nilCheck rfl) rfl rfl ?_)
 refine ex_ h fun x5_ hx5_ h => ?_
 refine HSp (R_indexArr Tryd.underlying121 sz119 rfl rfl hx5_.1 (hx5_.ltn hn0_)) rfl rfl ?_
 refine HS_to0 [] _ rfl (by rw [hops2_]; kernel_rfl) (R_store sz119 rfl rfl ht0.blk (arr_lt hx5_) rfl) rfl ?_
 rintro _ w6_ ⟨hB6_, hF6_⟩
 replace hI := hI.tok hF6_ (out1 ht0.out) (mem1 (by simp))
 replace ht0 : Tok G _ d0 tb0 ((Arr.mk (n := 16) (put x0.l x1 (x3_ + x4_))).l.map w32) := ⟨hB6_.to arr_put, ht0.out⟩
 clear hF6_ hB6_
 refine ⟨trivial, ?_⟩
 refine HS_nil ?_
 clear hops2_
 refine then_n (k1 _ _ ?_)
 clear k1 K1
 refine W_keepB [0, 1, 2, 3, 4] fun B_ b_ => ?_
 simp only [e_, Nat.reduceAdd, Nat.reduceBEq] at b_
 subst b_
 refine W_seq_k fun K8 k8 => ?_
 refine W_drawF [23, 24, 25, 26, 27, 28, 29, 30, 31, 32, 33, 34, 35, 36, 37, 38, none] [(0, true), (1, true), (2, true), (3, true), (4, true), (5, true), (6, true), (7, true), (8, true), (9, true), (10, true), (11, true), (12, true), (14, true), (13, false), (15, true), (16, false)] TFtA.hm rfl (by kernel_rfl) fun ops9_ w9_ hops9_ hF9_ => ?_
 replace hI := hI.fr0 hF9_
 replace ht0 := ht0.fr0 hF9_
 clear hF9_
 refine HSp (R_move rfl) rfl rfl (HSp (R_move rfl) rfl rfl (HSp (R_move rfl) rfl rfl (HSp (R_move rfl) rfl rfl (HSp (R_nilCheck rfl) rfl rfl ?_))))
 refine ex_ h fun x10_ hx10_ h => ?_
 refine HSp (R_indexArr Tryd.underlying121 sz119 rfl rfl hx10_.1 (hx10_.ltn (put_len hn0_))) rfl rfl ?_
 refine HS_loadB ag119 rfl ht0.blk (arr_at hx10_) rfl rfl ?_
 refine HSp (R_move rfl) rfl rfl (HSp (R_move rfl) rfl rfl (HSp (R_nilCheck rfl) rfl rfl ?_))
 refine ex_ h fun x11_ hx11_ h => ?_
 refine HSp (R_indexArr Tryd.underlying121 sz119 rfl rfl hx11_.1 (hx11_.ltn (put_len hn0_))) rfl rfl ?_
 refine HS_loadB ag119 rfl ht0.blk (arr_at hx11_) rfl rfl ?_
 refine HSp (R_xor rfl rfl (xor32 x10_ x11_)) rfl rfl (HSp (R_nilCheck rfl) rfl rfl ?_)
 refine HS_call [] _ rfl (by rw [hops9_]; kernel_rfl) (C_func bd109 rfl) rfl rfl ?_
 refine (bits_RotateLeft32_ok (x0 := (x10_ ^^^ x11_)) (x1 := 16) hI.st (hg.up hI.le)  h).mono ?_
 rintro _ w12_ ⟨r12_0, L12_, H12_, rfl, hI12_, h⟩
 refine Exists.elim (hI.call hI12_ (by simp)) fun L120_ h12_ => ?_
 have hz12_ := hI.size
 replace hI := h12_.1
 have u12_ := h12_.2.1
 have hl12_ := h12_.2.2
 clear h12_
 replace ht0 := ht0.up u12_ (by simp)
 clear hI12_ u12_ hl12_
 refine ⟨_, rfl, trivial, ?_⟩
 refine ex_ h fun x13_ hx13_ h => ?_
 refine HSp (R_indexArr Tryd.underlying121 sz119 rfl rfl hx13_.1 (hx13_.ltn (put_len hn0_))) rfl rfl ?_
 refine HS_to0 [] _ rfl (by rw [hops9_]; kernel_rfl) (R_store sz119 rfl rfl ht0.blk (arr_lt hx13_) rfl) rfl ?_
 rintro _ w14_ ⟨hB14_, hF14_⟩
 replace hI := hI.tok hF14_ (out1 ht0.out) (mem1 (by simp))
 replace ht0 : Tok H12_ _ d0 tb0 ((Arr.mk (n := 16) (put (Arr.mk (n := 16) (put x0.l x1 (x3_ + x4_))).l x4 r12_0)).l.map w32) := ⟨hB14_.to arr_put, ht0.out⟩
 clear hF14_ hB14_
 refine ⟨trivial, ?_⟩
 refine HS_nil ?_
 clear hops9_
 refine then_n (k8 _ _ ?_)
 clear k8 K8
 refine W_keepB [0, 1, 2, 3, 4] fun B_ b_ => ?_
 simp only [e_, Nat.reduceAdd, Nat.reduceBEq] at b_
 subst b_
 refine W_seq_k fun K16 k16 => ?_
 refine W_drawF [39, 40, 41, 42, 43, 44, 45, 46, 47, 48, 49, 50, 51, none] [(0, true), (1, true), (2, true), (3, true), (4, true), (5, true), (6, true), (7, true), (8, true), (9, true), (10, true), (11, true), (12, true), (13, false)] TFtA.hm rfl (by kernel_rfl) fun ops17_ w17_ hops17_ hF17_ => ?_
 replace hI := hI.fr0 hF17_
 replace ht0 := ht0.fr0 hF17_
 clear hF17_
 refine HSp (R_move rfl) rfl rfl (HSp (R_move rfl) rfl rfl (HSp (R_nilCheck rfl) rfl rfl ?_))
 refine ex_ h fun x18_ hx18_ h => ?_
 refine HSp (R_indexArr Tryd.underlying121 sz119 rfl rfl hx18_.1 (hx18_.ltn (put_len (put_len hn0_)))) rfl rfl ?_
 refine HS_loadB ag119 rfl ht0.blk (arr_at hx18_) rfl rfl ?_
 refine HSp (R_move rfl) rfl rfl (HSp (R_move rfl) rfl rfl (HSp (R_nilCheck rfl) rfl rfl ?_))
 refine ex_ h fun x19_ hx19_ h => ?_
 refine HSp (R_indexArr Tryd.underlying121 sz119 rfl rfl hx19_.1 (hx19_.ltn (put_len (put_len hn0_)))) rfl rfl ?_
 refine HS_loadB ag119 rfl ht0.blk (arr_at hx19_) rfl rfl ?_
 refine HSp (R_add rfl rfl (add32 x18_ x19_)) rfl rfl (HSp (R_nilCheck rfl) rfl rfl ?_)
 refine ex_ h fun x20_ hx20_ h => ?_
 refine HSp (R_indexArr Tryd.underlying121 sz119 rfl rfl hx20_.1 (hx20_.ltn (put_len (put_len hn0_)))) rfl rfl ?_
 refine HS_to0 [] _ rfl (by rw [hops17_]; kernel_rfl) (R_store sz119 rfl rfl ht0.blk (arr_lt hx20_) rfl) rfl ?_
 rintro _ w21_ ⟨hB21_, hF21_⟩
 replace hI := hI.tok hF21_ (out1 ht0.out) (mem1 (by simp))
 replace ht0 : Tok H12_ _ d0 tb0 ((Arr.mk (n := 16) (put (Arr.mk (n := 16) (put (Arr.mk (n := 16) (put x0.l x1 (x3_ + x4_))).l x4 r12_0)).l x3 (x18_ + x19_))).l.map w32) := ⟨hB21_.to arr_put, ht0.out⟩
 clear hF21_ hB21_
 refine ⟨trivial, ?_⟩
 refine HS_nil ?_
 clear hops17_
 refine then_n (k16 _ _ ?_)
 clear k16 K16
 refine W_keepB [0, 1, 2, 3, 4] fun B_ b_ => ?_
 simp only [e_, Nat.reduceAdd, Nat.reduceBEq] at b_
 subst b_
 refine W_seq_k fun K23 k23 => ?_
 refine W_drawF [52, 53, 54, 55, 56, 57, 58, 59, 60, 61, 62, 63, 64, 65, 66, 67, none] [(0, true), (1, true), (2, true), (3, true), (4, true), (5, true), (6, true), (7, true), (8, true), (9, true), (10, true), (11, true), (12, true), (14, true), (13, false), (15, true), (16, false)] TFtA.hm rfl (by kernel_rfl) fun ops24_ w24_ hops24_ hF24_ => ?_
 replace hI := hI.fr0 hF24_
 replace ht0 := ht0.fr0 hF24_
 clear hF24_
 refine HSp (R_move rfl) rfl rfl (HSp (R_move rfl) rfl rfl (HSp (R_move rfl) rfl rfl (HSp (R_move rfl) rfl rfl (HSp (R_nilCheck rfl) rfl rfl ?_))))
 refine ex_ h fun x25_ hx25_ h => ?_
 refine HSp (R_indexArr Tryd.underlying121 sz119 rfl rfl hx25_.1 (hx25_.ltn (put_len (put_len (put_len hn0_))))) rfl rfl ?_
 refine HS_loadB ag119 rfl ht0.blk (arr_at hx25_) rfl rfl ?_
 refine HSp (R_move rfl) rfl rfl (HSp (R_move rfl) rfl rfl (HSp (R_nilCheck rfl) rfl rfl ?_))
 refine ex_ h fun x26_ hx26_ h => ?_
 refine HSp (R_indexArr Tryd.underlying121 sz119 rfl rfl hx26_.1 (hx26_.ltn (put_len (put_len (put_len hn0_))))) rfl rfl ?_
 refine HS_loadB ag119 rfl ht0.blk (arr_at hx26_) rfl rfl ?_
 refine HSp (R_xor rfl rfl (xor32 x25_ x26_)) rfl rfl (HSp (R_nilCheck rfl) rfl rfl ?_)
 refine HS_call [] _ rfl (by rw [hops24_]; kernel_rfl) (C_func bd109 rfl) rfl rfl ?_
 refine (bits_RotateLeft32_ok (x0 := (x25_ ^^^ x26_)) (x1 := 12) hI.st (hg.up hI.le)  h).mono ?_
 rintro _ w27_ ⟨r27_0, L27_, H27_, rfl, hI27_, h⟩
 refine Exists.elim (hI.call hI27_ (by simp)) fun L270_ h27_ => ?_
 have hz27_ := hI.size
 replace hI := h27_.1
 have u27_ := h27_.2.1
 have hl27_ := h27_.2.2
 clear h27_
 replace ht0 := ht0.up u27_ (by simp)
 clear hI27_ u27_ hl27_
 refine ⟨_, rfl, trivial, ?_⟩
 refine ex_ h fun x28_ hx28_ h => ?_
 refine HSp (R_indexArr Tryd.underlying121 sz119 rfl rfl hx28_.1 (hx28_.ltn (put_len (put_len (put_len hn0_))))) rfl rfl ?_
 refine HS_to0 [] _ rfl (by rw [hops24_]; kernel_rfl) (R_store sz119 rfl rfl ht0.blk (arr_lt hx28_) rfl) rfl ?_
 rintro _ w29_ ⟨hB29_, hF29_⟩
 replace hI := hI.tok hF29_ (out1 ht0.out) (mem1 (by simp))
 replace ht0 : Tok H27_ _ d0 tb0 ((Arr.mk (n := 16) (put (Arr.mk (n := 16) (put (Arr.mk (n := 16) (put (Arr.mk (n := 16) (put x0.l x1 (x3_ + x4_))).l x4 r12_0)).l x3 (x18_ + x19_))).l x2 r27_0)).l.map w32) := ⟨hB29_.to arr_put, ht0.out⟩
 clear hF29_ hB29_
 refine ⟨trivial, ?_⟩
 refine HS_nil ?_
 clear hops24_
 refine then_n (k23 _ _ ?_)
 clear k23 K23
 refine W_keepB [0, 1, 2, 3, 4] fun B_ b_ => ?_
 simp only [e_, Nat.reduceAdd, Nat.reduceBEq] at b_
 subst b_
 refine W_seq_k fun K31 k31 => ?_
 refine W_drawF [68, 69, 70, 71, 72, 73, 74, 75, 76, 77, 78, 79, 80, none] [(0, true), (1, true), (2, true), (3, true), (4, true), (5, true), (6, true), (7, true), (8, true), (9, true), (10, true), (11, true), (12, true), (13, false)] TFtA.hm rfl (by kernel_rfl) fun ops32_ w32_ hops32_ hF32_ => ?_
 replace hI := hI.fr0 hF32_
 replace ht0 := ht0.fr0 hF32_
 clear hF32_
 refine HSp (R_move rfl) rfl rfl (HSp (R_move rfl) rfl rfl (HSp (R_nilCheck rfl) rfl rfl ?_))
 refine ex_ h fun x33_ hx33_ h => ?_
 refine HSp (R_indexArr Tryd.underlying121 sz119 rfl rfl hx33_.1 (hx33_.ltn (put_len (put_len (put_len (put_len hn0_)))))) rfl rfl ?_
 refine HS_loadB ag119 rfl ht0.blk (arr_at hx33_) rfl rfl ?_
 refine HSp (R_move rfl) rfl rfl (HSp (R_move rfl) rfl rfl (HSp (R_nilCheck rfl) rfl rfl ?_))
 refine ex_ h fun x34_ hx34_ h => ?_
 refine HSp (R_indexArr Tryd.underlying121 sz119 rfl rfl hx34_.1 (hx34_.ltn (put_len (put_len (put_len (put_len hn0_)))))) rfl rfl ?_
 refine HS_loadB ag119 rfl ht0.blk (arr_at hx34_) rfl rfl ?_
 refine HSp (R_add rfl rfl (add32 x33_ x34_)) rfl rfl (HSp (R_nilCheck rfl) rfl rfl ?_)
 refine ex_ h fun x35_ hx35_ h => ?_
 refine HSp (R_indexArr Tryd.underlying121 sz119 rfl rfl hx35_.1 (hx35_.ltn (put_len (put_len (put_len (put_len hn0_)))))) rfl rfl ?_
 refine HS_to0 [] _ rfl (by rw [hops32_]; kernel_rfl) (R_store sz119 rfl rfl ht0.blk (arr_lt hx35_) rfl) rfl ?_
 rintro _ w36_ ⟨hB36_, hF36_⟩
 replace hI := hI.tok hF36_ (out1 ht0.out) (mem1 (by simp))
 replace ht0 : Tok H27_ _ d0 tb0 ((Arr.mk (n := 16) (put (Arr.mk (n := 16) (put (Arr.mk (n := 16) (put (Arr.mk (n := 16) (put (Arr.mk (n := 16) (put x0.l x1 (x3_ + x4_))).l x4 r12_0)).l x3 (x18_ + x19_))).l x2 r27_0)).l x1 (x33_ + x34_))).l.map w32) := ⟨hB36_.to arr_put, ht0.out⟩
 clear hF36_ hB36_
 refine ⟨trivial, ?_⟩
 refine HS_nil ?_
 clear hops32_
 refine then_n (k31 _ _ ?_)
 clear k31 K31
 refine W_keepB [0, 1, 2, 3, 4] fun B_ b_ => ?_
 simp only [e_, Nat.reduceAdd, Nat.reduceBEq] at b_
 subst b_
 refine W_seq_k fun K38 k38 => ?_
 refine W_drawF [81, 82, 83, 84, 85, 86, 87, 88, 89, 90, 91, 92, 93, 94, 95, 96, none] [(0, true), (1, true), (2, true), (3, true), (4, true), (5, true), (6, true), (7, true), (8, true), (9, true), (10, true), (11, true), (12, true), (14, true), (13, false), (15, true), (16, false)] TFtA.hm rfl (by kernel_rfl) fun ops39_ w39_ hops39_ hF39_ => ?_
 replace hI := hI.fr0 hF39_
 replace ht0 := ht0.fr0 hF39_
 clear hF39_
 refine HSp (R_move rfl) rfl rfl (HSp (R_move rfl) rfl rfl (HSp (R_move rfl) rfl rfl (HSp (R_move rfl) rfl rfl (HSp (R_nilCheck rfl) rfl rfl ?_))))
 refine ex_ h fun x40_ hx40_ h => ?_
 refine HSp (R_indexArr Tryd.underlying121 sz119 rfl rfl hx40_.1 (hx40_.ltn (put_len (put_len (put_len (put_len (put_len hn0_))))))) rfl rfl ?_
 refine HS_loadB ag119 rfl ht0.blk (arr_at hx40_) rfl rfl ?_
 refine HSp (R_move rfl) rfl rfl (HSp (R_move rfl) rfl rfl (HSp (R_nilCheck rfl) rfl rfl ?_))
 refine ex_ h fun x41_ hx41_ h => ?_
 refine HSp (R_indexArr Tryd.underlying121 sz119 rfl rfl hx41_.1 (hx41_.ltn (put_len (put_len (put_len (put_len (put_len hn0_))))))) rfl rfl ?_
 refine HS_loadB ag119 rfl ht0.blk (arr_at hx41_) rfl rfl ?_
 refine HSp (R_xor rfl rfl (xor32 x40_ x41_)) rfl rfl (HSp (R_nilCheck rfl) rfl rfl ?_)
 refine HS_call [] _ rfl (by rw [hops39_]; kernel_rfl) (C_func bd109 rfl) rfl rfl ?_
 refine (bits_RotateLeft32_ok (x0 := (x40_ ^^^ x41_)) (x1 := 8) hI.st (hg.up hI.le)  h).mono ?_
 rintro _ w42_ ⟨r42_0, L42_, H42_, rfl, hI42_, h⟩
 refine Exists.elim (hI.call hI42_ (by simp)) fun L420_ h42_ => ?_
 have hz42_ := hI.size
 replace hI := h42_.1
 have u42_ := h42_.2.1
 have hl42_ := h42_.2.2
 clear h42_
 replace ht0 := ht0.up u42_ (by simp)
 clear hI42_ u42_ hl42_
 refine ⟨_, rfl, trivial, ?_⟩
 refine ex_ h fun x43_ hx43_ h => ?_
 refine HSp (R_indexArr Tryd.underlying121 sz119 rfl rfl hx43_.1 (hx43_.ltn (put_len (put_len (put_len (put_len (put_len hn0_))))))) rfl rfl ?_
 refine HS_to0 [] _ rfl (by rw [hops39_]; kernel_rfl) (R_store sz119 rfl rfl ht0.blk (arr_lt hx43_) rfl) rfl ?_
 rintro _ w44_ ⟨hB44_, hF44_⟩
 replace hI := hI.tok hF44_ (out1 ht0.out) (mem1 (by simp))
 replace ht0 : Tok H42_ _ d0 tb0 ((Arr.mk (n := 16) (put (Arr.mk (n := 16) (put (Arr.mk (n := 16) (put (Arr.mk (n := 16) (put (Arr.mk (n := 16) (put (Arr.mk (n := 16) (put x0.l x1 (x3_ + x4_))).l x4 r12_0)).l x3 (x18_ + x19_))).l x2 r27_0)).l x1 (x33_ + x34_))).l x4 r42_0)).l.map w32) := ⟨hB44_.to arr_put, ht0.out⟩
 clear hF44_ hB44_
 refine ⟨trivial, ?_⟩
 refine HS_nil ?_
 clear hops39_
 refine then_n (k38 _ _ ?_)
 clear k38 K38
 refine W_keepB [0, 2, 3, 4] fun B_ b_ => ?_
 simp only [e_, Nat.reduceAdd, Nat.reduceBEq] at b_
 subst b_
 refine W_seq_k fun K46 k46 => ?_
 refine W_drawF [97, 98, 99, 100, 101, 102, 103, 104, 105, 106, 107, 108, 109, none] [(0, true), (1, true), (2, true), (3, true), (4, true), (5, true), (6, true), (7, true), (8, true), (9, true), (10, true), (11, true), (12, true), (13, false)] TFtA.hm rfl (by kernel_rfl) fun ops47_ w47_ hops47_ hF47_ => ?_
 replace hI := hI.fr0 hF47_
 replace ht0 := ht0.fr0 hF47_
 clear hF47_
 refine HSp (R_move rfl) rfl rfl (HSp (R_move rfl) rfl rfl (HSp (R_nilCheck rfl) rfl rfl ?_))
 refine ex_ h fun x48_ hx48_ h => ?_
 refine HSp (R_indexArr Tryd.underlying121 sz119 rfl rfl hx48_.1 (hx48_.ltn (put_len (put_len (put_len (put_len (put_len (put_len hn0_)))))))) rfl rfl ?_
 refine HS_loadB ag119 rfl ht0.blk (arr_at hx48_) rfl rfl ?_
 refine HSp (R_move rfl) rfl rfl (HSp (R_move rfl) rfl rfl (HSp (R_nilCheck rfl) rfl rfl ?_))
 refine ex_ h fun x49_ hx49_ h => ?_
 refine HSp (R_indexArr Tryd.underlying121 sz119 rfl rfl hx49_.1 (hx49_.ltn (put_len (put_len (put_len (put_len (put_len (put_len hn0_)))))))) rfl rfl ?_
 refine HS_loadB ag119 rfl ht0.blk (arr_at hx49_) rfl rfl ?_
 refine HSp (R_add rfl rfl (add32 x48_ x49_)) rfl rfl (HSp (R_nilCheck rfl) rfl rfl ?_)
 refine ex_ h fun x50_ hx50_ h => ?_
 refine HSp (R_indexArr Tryd.underlying121 sz119 rfl rfl hx50_.1 (hx50_.ltn (put_len (put_len (put_len (put_len (put_len (put_len hn0_)))))))) rfl rfl ?_
 refine HS_to0 [] _ rfl (by rw [hops47_]; kernel_rfl) (R_store sz119 rfl rfl ht0.blk (arr_lt hx50_) rfl) rfl ?_
 rintro _ w51_ ⟨hB51_, hF51_⟩
 replace hI := hI.tok hF51_ (out1 ht0.out) (mem1 (by simp))
 replace ht0 : Tok H42_ _ d0 tb0 ((Arr.mk (n := 16) (put (Arr.mk (n := 16) (put (Arr.mk (n := 16) (put (Arr.mk (n := 16) (put (Arr.mk (n := 16) (put (Arr.mk (n := 16) (put (Arr.mk (n := 16) (put x0.l x1 (x3_ + x4_))).l x4 r12_0)).l x3 (x18_ + x19_))).l x2 r27_0)).l x1 (x33_ + x34_))).l x4 r42_0)).l x3 (x48_ + x49_))).l.map w32) := ⟨hB51_.to arr_put, ht0.out⟩
 clear hF51_ hB51_
 refine ⟨trivial, ?_⟩
 refine HS_nil ?_
 clear hops47_
 refine then_n (k46 _ _ ?_)
 clear k46 K46
 refine W_keepB [0, 2, 3] fun B_ b_ => ?_
 simp only [e_, Nat.reduceAdd, Nat.reduceBEq] at b_
 subst b_
 refine W_drawF [110, 111, 112, 113, 114, 115, 116, 117, 118, 119, 120, 121, 122, 123, 124, 125, none] [(0, true), (1, true), (2, true), (3, true), (4, true), (5, true), (6, true), (7, true), (8, true), (9, true), (10, true), (11, true), (12, true), (14, true), (13, false), (15, true), (16, false)] TFtA.hm rfl (by kernel_rfl) fun ops53_ w53_ hops53_ hF53_ => ?_
 replace hI := hI.fr0 hF53_
 replace ht0 := ht0.fr0 hF53_
 clear hF53_
 refine HSp (R_move rfl) rfl rfl (HSp (R_move rfl) rfl rfl (HSp (R_move rfl) rfl rfl (HSp (R_move rfl) rfl rfl (HSp (R_nilCheck rfl) rfl rfl ?_))))
 refine ex_ h fun x54_ hx54_ h => ?_
 refine HSp (R_indexArr Tryd.underlying121 sz119 rfl rfl hx54_.1 (hx54_.ltn (put_len (put_len (put_len (put_len (put_len (put_len (put_len hn0_))))))))) rfl rfl ?_
 refine HS_loadB ag119 rfl ht0.blk (arr_at hx54_) rfl rfl ?_
 refine HSp (R_move rfl) rfl rfl (HSp (R_move rfl) rfl rfl (HSp (R_nilCheck rfl) rfl rfl ?_))
 refine ex_ h fun x55_ hx55_ h => ?_
 refine HSp (R_indexArr Tryd.underlying121 sz119 rfl rfl hx55_.1 (hx55_.ltn (put_len (put_len (put_len (put_len (put_len (put_len (put_len hn0_))))))))) rfl rfl ?_
 refine HS_loadB ag119 rfl ht0.blk (arr_at hx55_) rfl rfl ?_
 refine HSp (R_xor rfl rfl (xor32 x54_ x55_)) rfl rfl (HSp (R_nilCheck rfl) rfl rfl ?_)
 refine HS_call [] _ rfl (by rw [hops53_]; kernel_rfl) (C_func bd109 rfl) rfl rfl ?_
 refine (bits_RotateLeft32_ok (x0 := (x54_ ^^^ x55_)) (x1 := 7) hI.st (hg.up hI.le)  h).mono ?_
 rintro _ w56_ ⟨r56_0, L56_, H56_, rfl, hI56_, h⟩
 refine Exists.elim (hI.call hI56_ (by simp)) fun L560_ h56_ => ?_
 have hz56_ := hI.size
 replace hI := h56_.1
 have u56_ := h56_.2.1
 have hl56_ := h56_.2.2
 clear h56_
 replace ht0 := ht0.up u56_ (by simp)
 clear hI56_ u56_ hl56_
 refine ⟨_, rfl, trivial, ?_⟩
 refine ex_ h fun x57_ hx57_ h => ?_
 refine HSp (R_indexArr Tryd.underlying121 sz119 rfl rfl hx57_.1 (hx57_.ltn (put_len (put_len (put_len (put_len (put_len (put_len (put_len hn0_))))))))) rfl rfl ?_
 refine HS_to0 [] _ rfl (by rw [hops53_]; kernel_rfl) (R_store sz119 rfl rfl ht0.blk (arr_lt hx57_) rfl) rfl ?_
 rintro _ w58_ ⟨hB58_, hF58_⟩
 replace hI := hI.tok hF58_ (out1 ht0.out) (mem1 (by simp))
 replace ht0 : Tok H56_ _ d0 tb0 ((Arr.mk (n := 16) (put (Arr.mk (n := 16) (put (Arr.mk (n := 16) (put (Arr.mk (n := 16) (put (Arr.mk (n := 16) (put (Arr.mk (n := 16) (put (Arr.mk (n := 16) (put (Arr.mk (n := 16) (put x0.l x1 (x3_ + x4_))).l x4 r12_0)).l x3 (x18_ + x19_))).l x2 r27_0)).l x1 (x33_ + x34_))).l x4 r42_0)).l x3 (x48_ + x49_))).l x2 r56_0)).l.map w32) := ⟨hB58_.to arr_put, ht0.out⟩
 clear hF58_ hB58_
 refine ⟨trivial, ?_⟩
 refine HS_nil ?_
 clear hops53_
 refine ⟨_, rfl, ?_⟩
 exact ⟨(Arr.mk (n := 16) (put (Arr.mk (n := 16) (put (Arr.mk (n := 16) (put (Arr.mk (n := 16) (put (Arr.mk (n := 16) (put (Arr.mk (n := 16) (put (Arr.mk (n := 16) (put (Arr.mk (n := 16) (put x0.l x1 (x3_ + x4_))).l x4 r12_0)).l x3 (x18_ + x19_))).l x2 r27_0)).l x1 (x33_ + x34_))).l x4 r42_0)).l x3 (x48_ + x49_))).l x2 r56_0)), _, _, rfl, hI, ⟨_, Arr.shut (put_len (put_len (put_len (put_len (put_len (put_len (put_len (put_len hn0_)))))))), ht0⟩, h⟩

theorem cipher_words_double_ok {G : Gh} {w : World} (hS : St G w) (hg : GL G) {d0 tb0 : Nat} {x0 : Arr 16 (BitVec 32)} (hr0 : Ob tb0 G G w d0 x0) {Q : (Arr 16 (BitVec 32)) → Prop} (h : cipher_words_double x0 Q) : Calls Tryd.prog 97 #[.pointer (some ⟨d0, 0, none⟩)] w fun e w2 => ∃ (y0 : Arr 16 (BitVec 32)) (L H : Gh), e = .returned (.tuple #[]) ∧ Inv [d0] G w L H w2 ∧ Ob tb0 H H w2 d0 y0 ∧ Q y0 := by
 unfold cipher_words_double at h
 have hI := Inv.start (M := [d0]) hS
 refine calls_W 36 Tryd.func97 rfl Tryd.ntmps97 rfl [] rfl ?_
 obtain ⟨l0_, hl0_, ht0⟩ := hr0
 obtain ⟨hn0_, rfl⟩ := Arr.open_ hl0_
 have hlt_d0 := ht0.blk.lt
 refine ex_ h fun J1_ hr1_ h => ?_
 refine W_seq_join [0] [] (fun vals_ w2 => ∃ (yd0_1 : Arr 16 (BitVec 32)) (L H : Gh), vals_ = [] ∧ J1_ yd0_1 ∧ Inv [d0] G w L H w2 ∧ Le Gh.no L ∧ Le G H ∧ Ob tb0 H H w2 d0 yd0_1 ∧ True) (fun B_ b_ => ?_) (fun B_ b_ => ?_)
 ·
  simp only [e_, Nat.reduceAdd, Nat.reduceBEq] at b_
  subst b_
  clear hr1_
  have hll1_ := Le.refl Gh.no
  have hhh1_ := Le.refl G
  refine W_seq_k fun K2 k2 => ?_
  refine W_region [4] rfl (Ops_step (R_move rfl) rfl rfl ?_)
  refine Ops_nil ?_
  refine then_n (k2 _ _ ?_)
  clear k2 K2
  refine W_block ?_
  refine Exists.elim h fun I3_ h => Exists.elim h fun n3_ h => ?_
  have h0_ := h.1
  have hs3_ := h.2
  clear h
  refine W_loopB [0] [4] (fun m vals_ w2 => ∃ (x4_3 : Int) (yd0_3 : Arr 16 (BitVec 32)) (L H : Gh), vals_ = [vi x4_3] ∧ I3_ m x4_3 yd0_3 ∧ Inv [d0] G w L H w2 ∧ Le Gh.no L ∧ Le G H ∧ Ob tb0 H H w2 d0 yd0_3 ∧ True) n3_ _ rfl ⟨0, x0, _, _, rfl, h0_, hI, Le.refl _, Le.refl _, ⟨_, Arr.shut hn0_, ht0⟩, trivial⟩ fun B_ b_ => ?_
  clear h0_
  simp only [e_, Nat.reduceAdd, Nat.reduceBEq] at b_
  subst b_
  rintro m3_ _ w3_ ⟨x4_3, yd0_3, L3_, H3_, rfl, hJ3_, hI3_, hll3_, hhh3_, hqd0_3, -⟩
  replace hI := hI3_
  clear hI3_
  have h := hs3_ m3_ x4_3 yd0_3 hJ3_
  clear hs3_ hJ3_
  replace hll1_ := hll1_.trans hll3_
  replace hhh1_ := hhh1_.trans hhh3_
  obtain ⟨ld0_3_, hld0_3_, htd0_3⟩ := hqd0_3
  obtain ⟨hnd0_3_, rfl⟩ := Arr.open_ hld0_3_
  refine W_seq_k fun K4 k4 => ?_
  refine W_region [5] rfl (Ops_step (R_lss rfl rfl) rfl rfl ?_)
  refine Ops_nil ?_
  refine then_n (k4 _ _ ?_)
  clear k4 K4
  refine W_seq_k fun K5 k5 => ?_
  refine W_if rfl (fun hc6_ => ?_) (fun hc6_ => ?_)
  ·
   replace h := h.1 hc6_
   refine W_skip ?_
   refine then_n (k5 _ _ ?_)
   clear k5 K5
   refine W_seq_k fun K7 k7 => ?_
   refine W_block ?_
   refine W_seq_k fun K8 k8 => ?_
   refine W_region [6, 2] rfl (Ops_step (R_move rfl) rfl rfl (Ops_step (R_assign rfl) rfl rfl ?_))
   refine Ops_nil ?_
   refine then_n (k8 _ _ ?_)
   clear k8 K8
   refine W_region [7, 8, 9, 10, 11, 12, 13, 14, 15] rfl (Ops_step (R_move rfl) rfl rfl (Ops_step (R_move rfl) rfl rfl (Ops_step (R_move rfl) rfl rfl ?_)))
   have hk9_ := h.1
   replace h := h.2
   refine Ops_step (R_add rfl rfl (wI hk9_.1 hk9_.2)) rfl rfl (Ops_step (R_move rfl) rfl rfl ?_)
   have hk10_ := h.1
   replace h := h.2
   refine Ops_step (R_add rfl rfl (wI hk10_.1 hk10_.2)) rfl rfl (Ops_step (R_move rfl) rfl rfl ?_)
   have hk11_ := h.1
   replace h := h.2
   refine Ops_step (R_add rfl rfl (wI hk11_.1 hk11_.2)) rfl rfl ?_
   refine Ops_call (C_func bd104 rfl) rfl rfl ?_
   refine (cipher_words_quarter_ok (x0 := yd0_3) (x1 := x4_3) (x2 := (4 + x4_3)) (x3 := (8 + x4_3)) (x4 := (12 + x4_3)) hI.st (hg.up hI.le) ⟨_, Arr.shut hnd0_3_, htd0_3⟩ h).mono ?_
   rintro _ w12_ ⟨y12_0, L12_, H12_, rfl, hI12_, hq12_0, h⟩
   refine Exists.elim (hI.call hI12_ (mem1 (by simp))) fun L120_ h12_ => ?_
   have hz12_ := hI.size
   replace hI := h12_.1
   have u12_ := h12_.2.1
   have hl12_ := h12_.2.2
   clear h12_
   replace hll1_ := hll1_.trans u12_.ll
   replace hhh1_ := hhh1_.trans u12_.hh
   replace hll3_ := hll3_.trans u12_.ll
   replace hhh3_ := hhh3_.trans u12_.hh
   clear htd0_3
   obtain ⟨l12_0_, hl12_0_, ht12_0⟩ := hq12_0
   obtain ⟨hn12_0_, rfl⟩ := Arr.open_ hl12_0_
   clear hI12_ u12_ hl12_
   refine ⟨_, rfl, ?_⟩
   refine Ops_nil ?_
   refine block_n ?_
   refine then_n (k7 _ _ ?_)
   clear k7 K7
   refine W_keepB [0, 4] fun B_ b_ => ?_
   simp only [e_, Nat.reduceAdd, Nat.reduceBEq] at b_
   subst b_
   refine W_region [16, 4] rfl ?_
   have hk14_ := h.1
   replace h := h.2
   refine Ops_step (R_add rfl rfl (wI hk14_.1 hk14_.2)) rfl rfl (Ops_step (R_move rfl) rfl rfl ?_)
   refine Ops_nil ?_
   refine then_n ?_
   exact h.elim fun m_ h => ⟨m_, _, h.1, rfl, ⟨(x4_3 + 1), y12_0, _, _, rfl, h.2, hI, hll3_, hhh3_, ⟨_, Arr.shut hn12_0_, ht12_0⟩, trivial⟩, ⟨rfl, trivial⟩⟩
  ·
   replace h := h.2 hc6_
   refine W_exit ?_
   refine then_exit ?_
   clear k5 K5
   refine then_exit ?_
   refine block_exit ?_
   refine then_n ?_
   exact ⟨_, rfl, ⟨yd0_3, _, _, rfl, h, hI, hll1_, hhh1_, ⟨_, Arr.shut hnd0_3_, htd0_3⟩, trivial⟩, ⟨rfl, trivial⟩⟩
 ·
  simp only [e_, Nat.reduceAdd, Nat.reduceBEq] at b_
  subst b_
  clear h
  rintro _ w1_ ⟨yd0_1, L1_, H1_, rfl, hJ1_, hI1_, hll1_, hhh1_, hqd0_1, -⟩
  replace hI := hI1_
  clear hI1_
  have h := hr1_ yd0_1 hJ1_
  clear hr1_ hJ1_
  obtain ⟨ld0_1_, hld0_1_, htd0_1⟩ := hqd0_1
  obtain ⟨hnd0_1_, rfl⟩ := Arr.open_ hld0_1_
  refine W_seq_k fun K15 k15 => ?_
  refine W_region [17] rfl (Ops_step (R_move rfl) rfl rfl ?_)
  refine Ops_nil ?_
  refine then_n (k15 _ _ ?_)
  clear k15 K15
  refine W_block ?_
  refine Exists.elim h fun I16_ h => Exists.elim h fun n16_ h => ?_
  have h0_ := h.1
  have hs16_ := h.2
  clear h
  refine W_loopB [0] [17] (fun m vals_ w2 => ∃ (x17_16 : Int) (yd0_16 : Arr 16 (BitVec 32)) (L H : Gh), vals_ = [vi x17_16] ∧ I16_ m x17_16 yd0_16 ∧ Inv [d0] G w L H w2 ∧ Le L1_ L ∧ Le H1_ H ∧ Ob tb0 H H w2 d0 yd0_16 ∧ True) n16_ _ rfl ⟨0, yd0_1, _, _, rfl, h0_, hI, Le.refl _, Le.refl _, ⟨_, Arr.shut hnd0_1_, htd0_1⟩, trivial⟩ fun B_ b_ => ?_
  clear h0_
  simp only [e_, Nat.reduceAdd, Nat.reduceBEq] at b_
  subst b_
  rintro m16_ _ w16_ ⟨x17_16, yd0_16, L16_, H16_, rfl, hJ16_, hI16_, hll16_, hhh16_, hqd0_16, -⟩
  replace hI := hI16_
  clear hI16_
  have h := hs16_ m16_ x17_16 yd0_16 hJ16_
  clear hs16_ hJ16_
  obtain ⟨ld0_16_, hld0_16_, htd0_16⟩ := hqd0_16
  obtain ⟨hnd0_16_, rfl⟩ := Arr.open_ hld0_16_
  refine W_seq_k fun K17 k17 => ?_
  refine W_region [18] rfl (Ops_step (R_lss rfl rfl) rfl rfl ?_)
  refine Ops_nil ?_
  refine then_n (k17 _ _ ?_)
  clear k17 K17
  refine W_seq_k fun K18 k18 => ?_
  refine W_if rfl (fun hc19_ => ?_) (fun hc19_ => ?_)
  ·
   replace h := h.1 hc19_
   refine W_skip ?_
   refine then_n (k18 _ _ ?_)
   clear k18 K18
   refine W_seq_k fun K20 k20 => ?_
   refine W_block ?_
   refine W_seq_k fun K21 k21 => ?_
   refine W_region [19, 3] rfl (Ops_step (R_move rfl) rfl rfl (Ops_step (R_assign rfl) rfl rfl ?_))
   refine Ops_nil ?_
   refine then_n (k21 _ _ ?_)
   clear k21 K21
   refine W_region [20, 21, 22, 23, 24, 25, 26, 27, 28, 29, 30, 31, 32, 33, 34] rfl (Ops_step (R_move rfl) rfl rfl (Ops_step (R_move rfl) rfl rfl (Ops_step (R_move rfl) rfl rfl ?_)))
   have hk22_ := h.1
   replace h := h.2
   refine Ops_step (R_add rfl rfl (wI hk22_.1 hk22_.2)) rfl rfl (Ops_step (R_rem rfl rfl (by decide) _root_.rfl) rfl rfl ?_)
   have hk23_ := h.1
   replace h := h.2
   refine Ops_step (R_add rfl rfl (wI hk23_.1 hk23_.2)) rfl rfl (Ops_step (R_move rfl) rfl rfl ?_)
   have hk24_ := h.1
   replace h := h.2
   refine Ops_step (R_add rfl rfl (wI hk24_.1 hk24_.2)) rfl rfl (Ops_step (R_rem rfl rfl (by decide) _root_.rfl) rfl rfl ?_)
   have hk25_ := h.1
   replace h := h.2
   refine Ops_step (R_add rfl rfl (wI hk25_.1 hk25_.2)) rfl rfl (Ops_step (R_move rfl) rfl rfl ?_)
   have hk26_ := h.1
   replace h := h.2
   refine Ops_step (R_add rfl rfl (wI hk26_.1 hk26_.2)) rfl rfl (Ops_step (R_rem rfl rfl (by decide) _root_.rfl) rfl rfl ?_)
   have hk27_ := h.1
   replace h := h.2
   refine Ops_step (R_add rfl rfl (wI hk27_.1 hk27_.2)) rfl rfl ?_
   refine Ops_call (C_func bd104 rfl) rfl rfl ?_
   refine (cipher_words_quarter_ok (x0 := yd0_16) (x1 := x17_16) (x2 := (4 + ((x17_16 + 1).tmod 4))) (x3 := (8 + ((x17_16 + 2).tmod 4))) (x4 := (12 + ((x17_16 + 3).tmod 4))) hI.st (hg.up hI.le) ⟨_, Arr.shut hnd0_16_, htd0_16⟩ h).mono ?_
   rintro _ w28_ ⟨y28_0, L28_, H28_, rfl, hI28_, hq28_0, h⟩
   refine Exists.elim (hI.call hI28_ (mem1 (by simp))) fun L280_ h28_ => ?_
   have hz28_ := hI.size
   replace hI := h28_.1
   have u28_ := h28_.2.1
   have hl28_ := h28_.2.2
   clear h28_
   replace hll16_ := hll16_.trans u28_.ll
   replace hhh16_ := hhh16_.trans u28_.hh
   clear htd0_16
   obtain ⟨l28_0_, hl28_0_, ht28_0⟩ := hq28_0
   obtain ⟨hn28_0_, rfl⟩ := Arr.open_ hl28_0_
   clear hI28_ u28_ hl28_
   refine ⟨_, rfl, ?_⟩
   refine Ops_nil ?_
   refine block_n ?_
   refine then_n (k20 _ _ ?_)
   clear k20 K20
   refine W_keepB [0, 17] fun B_ b_ => ?_
   simp only [e_, Nat.reduceAdd, Nat.reduceBEq] at b_
   subst b_
   refine W_region [35, 17] rfl ?_
   have hk30_ := h.1
   replace h := h.2
   refine Ops_step (R_add rfl rfl (wI hk30_.1 hk30_.2)) rfl rfl (Ops_step (R_move rfl) rfl rfl ?_)
   refine Ops_nil ?_
   refine then_n ?_
   exact h.elim fun m_ h => ⟨m_, _, h.1, rfl, ⟨(x17_16 + 1), y28_0, _, _, rfl, h.2, hI, hll16_, hhh16_, ⟨_, Arr.shut hn28_0_, ht28_0⟩, trivial⟩, ⟨rfl, trivial⟩⟩
  ·
   replace h := h.2 hc19_
   refine W_exit ?_
   refine then_exit ?_
   clear k18 K18
   refine then_exit ?_
   refine block_exit ?_
   refine ⟨_, rfl, ?_⟩
   exact ⟨yd0_16, _, _, rfl, hI, ⟨_, Arr.shut hnd0_16_, htd0_16⟩, h⟩

theorem cipher_word_ok {G : Gh} {w : World} (hS : St G w) (hg : GL G) {A0 : Option Addr} {c0 : Nat} {x0 : List UInt8} (hc0 : x0.length ≤ c0) (hs0 : Sl G A0 x0) {Q : (BitVec 32) → Prop} (h : cipher_word x0 Q) : Calls Tryd.prog 96 #[.slice A0 x0.length c0] w fun e w2 => ∃ (r0 : BitVec 32) (L H : Gh), e = .returned (w32 r0) ∧ Inv [] G w L H w2 ∧ Q r0 := by
 unfold cipher_word at h
 have hI := Inv.start (M := []) hS
 refine calls_W 25 Tryd.func96 rfl Tryd.ntmps96 rfl [.tmp 2] rfl ?_
 refine W_seq_k fun K1 k1 => ?_
 refine W_region [2] rfl (Ops_step (R_assign rfl) rfl rfl ?_)
 refine Ops_nil ?_
 refine then_n (k1 _ _ ?_)
 clear k1 K1
 refine W_seq_k fun K2 k2 => ?_
 refine W_drawF [3, 4, 5, 6, 7, 8, 9, 10, 11, 12, 13, 14, 15, 16, 17, 18, 19, 20, 21, 22, 23, 24, 2] [(0, true), (1, true), (2, true), (3, true), (4, true), (5, true), (6, true), (7, true), (8, true), (9, true), (10, true), (11, true), (12, true), (13, true), (14, true), (15, true), (16, true), (17, true), (18, true), (19, true), (20, true), (21, true), (22, true)] TFtA.hm rfl (by kernel_rfl) fun ops3_ w3_ hops3_ hF3_ => ?_
 replace hI := hI.fr0 hF3_
 clear hF3_
 refine HSp (R_move rfl) rfl rfl ?_
 refine ex_ h fun x4_ hx4_ h => ?_
 have ha4_ := (hs0.atS hx4_).1
 have hg4_ := (hs0.atS hx4_).2
 refine HSp (R_indexSl Tryd.underlying30 sz5 rfl rfl hx4_.1 hx4_.lt ha4_) rfl rfl ?_
 refine HS_load ag5 rfl (hI.st _ _ hg4_) rfl rfl ?_
 refine HSp (R_conv Tryd.underlying5 Tryd.underlying119 rfl (c8_32 _)) rfl rfl (HSp (R_move rfl) rfl rfl ?_)
 refine ex_ h fun x5_ hx5_ h => ?_
 have ha5_ := (hs0.atS hx5_).1
 have hg5_ := (hs0.atS hx5_).2
 refine HSp (R_indexSl Tryd.underlying30 sz5 rfl rfl hx5_.1 hx5_.lt ha5_) rfl rfl ?_
 refine HS_load ag5 rfl (hI.st _ _ hg5_) rfl rfl ?_
 refine HSp (R_conv Tryd.underlying5 Tryd.underlying119 rfl (c8_32 _)) rfl rfl (HSp (R_shl rfl rfl (by decide) (shl32 (x5_.toBitVec.setWidth 32) 8 (by decide))) rfl rfl (HSp (R_or rfl rfl (or32 (x4_.toBitVec.setWidth 32) ((x5_.toBitVec.setWidth 32) <<< (8 : Nat)))) rfl rfl (HSp (R_move rfl) rfl rfl ?_)))
 refine ex_ h fun x6_ hx6_ h => ?_
 have ha6_ := (hs0.atS hx6_).1
 have hg6_ := (hs0.atS hx6_).2
 refine HSp (R_indexSl Tryd.underlying30 sz5 rfl rfl hx6_.1 hx6_.lt ha6_) rfl rfl ?_
 refine HS_load ag5 rfl (hI.st _ _ hg6_) rfl rfl ?_
 refine HSp (R_conv Tryd.underlying5 Tryd.underlying119 rfl (c8_32 _)) rfl rfl (HSp (R_shl rfl rfl (by decide) (shl32 (x6_.toBitVec.setWidth 32) 16 (by decide))) rfl rfl (HSp (R_or rfl rfl (or32 ((x4_.toBitVec.setWidth 32) ||| ((x5_.toBitVec.setWidth 32) <<< (8 : Nat))) ((x6_.toBitVec.setWidth 32) <<< (16 : Nat)))) rfl rfl (HSp (R_move rfl) rfl rfl ?_)))
 refine ex_ h fun x7_ hx7_ h => ?_
 have ha7_ := (hs0.atS hx7_).1
 have hg7_ := (hs0.atS hx7_).2
 refine HSp (R_indexSl Tryd.underlying30 sz5 rfl rfl hx7_.1 hx7_.lt ha7_) rfl rfl ?_
 refine HS_load ag5 rfl (hI.st _ _ hg7_) rfl rfl ?_
 refine HSp (R_conv Tryd.underlying5 Tryd.underlying119 rfl (c8_32 _)) rfl rfl (HSp (R_shl rfl rfl (by decide) (shl32 (x7_.toBitVec.setWidth 32) 24 (by decide))) rfl rfl (HSp (R_or rfl rfl (or32 (((x4_.toBitVec.setWidth 32) ||| ((x5_.toBitVec.setWidth 32) <<< (8 : Nat))) ||| ((x6_.toBitVec.setWidth 32) <<< (16 : Nat))) ((x7_.toBitVec.setWidth 32) <<< (24 : Nat)))) rfl rfl (HSp (R_assign rfl) rfl rfl ?_)))
 refine HS_nil ?_
 clear hops3_
 refine then_n (k2 _ _ ?_)
 clear k2 K2
 refine W_keepB [2] fun B_ b_ => ?_
 simp only [e_, Nat.reduceAdd, Nat.reduceBEq] at b_
 subst b_
 refine W_ret ?_
 refine ⟨_, ⟨_, _, rfl, rfl, rfl⟩, ?_⟩
 exact ⟨((((x4_.toBitVec.setWidth 32) ||| ((x5_.toBitVec.setWidth 32) <<< (8 : Nat))) ||| ((x6_.toBitVec.setWidth 32) <<< (16 : Nat))) ||| ((x7_.toBitVec.setWidth 32) <<< (24 : Nat))), _, _, rfl, hI, h⟩

theorem cipher_stream_ok {G : Gh} {w : World} (hS : St G w) (hg : GL G) {A0 : Option Addr} {c0 : Nat} {x0 : List UInt8} (hc0 : x0.length ≤ c0) (hs0 : Sl G A0 x0) {x1 : BitVec 64} {x2 : BitVec 64} {Q : (Arr 64 UInt8) → Prop} (h : cipher_stream x0 x1 x2 Q) : Calls Tryd.prog 88 #[.slice A0 x0.length c0, w64 x1, w64 x2] w fun e w2 => ∃ (r0 : Arr 64 UInt8) (L H : Gh), e = .returned (.agg (r0.l.map vb).toArray) ∧ Inv [] G w L H w2 ∧ r0.l.length = 64 ∧ Q r0 := by
 unfold cipher_stream at h
 have hI := Inv.start (M := []) hS
 refine calls_W 83 Tryd.func88 rfl Tryd.ntmps88 rfl [.cell 6 105] rfl ?_
 refine W_seq_k fun K1 k1 => ?_
 refine W_region [6] rfl ?_
 have hI0_ := hI
 refine Ops_to (R_alloc zr105) rfl rfl ?_
 rintro _ w2_ ⟨b2_, rfl, hb2_, hB2_, hF2_⟩
 replace hI := hI.fr0 hF2_
 have ht2_ : Tok G _ b2_ 105 ((Arr.mk (n := 64) (List.replicate 64 (0 : UInt8))).l.map vb) := ⟨hB2_.to (by rw [List.map_replicate]; rfl), Out.ge hI0_.st (Nat.le_of_eq hb2_.symm)⟩
 have hge_b2_ : w.heap.size ≤ b2_ := hb2_ ▸ hI0_.size
 clear hB2_ hb2_ hI0_ hF2_
 refine Ops_nil ?_
 refine then_n (k1 _ _ ?_)
 clear k1 K1
 refine W_seq_k fun K3 k3 => ?_
 refine W_region [13, 7, none] rfl ?_
 refine Ops_step (R_build (pl := [(0, 1), (1, 1), (2, 1), (3, 1)]) (cs := (Arr.mk (n := 16) [(1634760805#32), (857760878#32), (2036477234#32), (1797285236#32), (0#32), (0#32), (0#32), (0#32), (0#32), (0#32), (0#32), (0#32), (0#32), (0#32), (0#32), (0#32)]).l.map w32) zr121 pl121 rfl rfl rfl) rfl rfl ?_
 have hI0_ := hI
 refine Ops_to (R_alloc zr121) rfl rfl ?_
 rintro _ w4_ ⟨b4_, rfl, hb4_, hB4_, hF4_⟩
 replace hI := hI.fr0 hF4_
 replace ht2_ := ht2_.fr0 hF4_
 have ht4_ : Tok G _ b4_ 121 ((Arr.mk (n := 16) (List.replicate 16 (0#32))).l.map w32) := ⟨hB4_.to (by rw [List.map_replicate]; rfl), Out.ge hI0_.st (Nat.le_of_eq hb4_.symm)⟩
 have hge_b4_ : w.heap.size ≤ b4_ := hb4_ ▸ hI0_.size
 clear hB4_ hb4_ hI0_ hF4_
 refine Ops_to0 (R_storeN sz121 (by simp) rfl rfl ht4_.blk (by simp [(List.length_replicate ..)]) (all_enc _)) rfl ?_
 rintro _ w5_ ⟨hB5_, hF5_⟩
 replace hI := hI.tok hF5_ (out1 ht4_.out) (new1 hge_b4_)
 replace ht2_ := ht2_.fr hF5_ (ht2_.apart ht4_ (by decide))
 replace ht4_ : Tok G _ b4_ 121 ((Arr.mk (n := 16) [(1634760805#32), (857760878#32), (2036477234#32), (1797285236#32), (0#32), (0#32), (0#32), (0#32), (0#32), (0#32), (0#32), (0#32), (0#32), (0#32), (0#32), (0#32)]).l.map w32) := ⟨hB5_.to (arr_over (((List.length_replicate ..)).trans (rfl).symm)), ht4_.out⟩
 clear hF5_ hB5_
 refine Ops_nil ?_
 refine then_n (k3 _ _ ?_)
 clear k3 K3
 refine ex_ h fun J6_ hr6_ h => ?_
 refine W_seq_join [1, 2, 6, 7] [] (fun vals_ w2 => ∃ (yb4__6 : Arr 16 (BitVec 32)) (L H : Gh), vals_ = [] ∧ J6_ yb4__6 ∧ Inv [] G w L H w2 ∧ Le Gh.no L ∧ Le G H ∧ Ob 121 H H w2 b4_ yb4__6 ∧ Tok H w2 b2_ 105 ((Arr.mk (n := 64) (List.replicate 64 (0 : UInt8))).l.map vb) ∧ True) (fun B_ b_ => ?_) (fun B_ b_ => ?_)
 ·
  simp only [e_, Nat.reduceAdd, Nat.reduceBEq] at b_
  subst b_
  clear hr6_
  have hll6_ := Le.refl Gh.no
  have hhh6_ := Le.refl G
  refine W_seq_k fun K7 k7 => ?_
  refine W_region [14] rfl (Ops_step (R_move rfl) rfl rfl ?_)
  refine Ops_nil ?_
  refine then_n (k7 _ _ ?_)
  clear k7 K7
  refine W_block ?_
  refine Exists.elim h fun I8_ h => Exists.elim h fun n8_ h => ?_
  have h0_ := h.1
  have hs8_ := h.2
  clear h
  refine W_loopB [0, 1, 2, 6, 7] [14] (fun m vals_ w2 => ∃ (x14_8 : Int) (yb4__8 : Arr 16 (BitVec 32)) (L H : Gh), vals_ = [vi x14_8] ∧ I8_ m x14_8 yb4__8 ∧ Inv [] G w L H w2 ∧ Le Gh.no L ∧ Le G H ∧ Ob 121 H H w2 b4_ yb4__8 ∧ Tok H w2 b2_ 105 ((Arr.mk (n := 64) (List.replicate 64 (0 : UInt8))).l.map vb) ∧ True) n8_ _ rfl ⟨0, (Arr.mk (n := 16) [(1634760805#32), (857760878#32), (2036477234#32), (1797285236#32), (0#32), (0#32), (0#32), (0#32), (0#32), (0#32), (0#32), (0#32), (0#32), (0#32), (0#32), (0#32)]), _, _, rfl, h0_, hI, Le.refl _, Le.refl _, ⟨_, Arr.shut rfl, ht4_⟩, ht2_, trivial⟩ fun B_ b_ => ?_
  clear h0_
  simp only [e_, Nat.reduceAdd, Nat.reduceBEq] at b_
  subst b_
  clear ht2_
  rintro m8_ _ w8_ ⟨x14_8, yb4__8, L8_, H8_, rfl, hJ8_, hI8_, hll8_, hhh8_, hqb4__8, ht2_, -⟩
  replace hI := hI8_
  clear hI8_
  have h := hs8_ m8_ x14_8 yb4__8 hJ8_
  clear hs8_ hJ8_
  replace hs0 := hs0.up hhh8_
  replace hll6_ := hll6_.trans hll8_
  replace hhh6_ := hhh6_.trans hhh8_
  obtain ⟨lb4__8_, hlb4__8_, htb4__8⟩ := hqb4__8
  obtain ⟨hnb4__8_, rfl⟩ := Arr.open_ hlb4__8_
  refine W_seq_k fun K9 k9 => ?_
  refine W_region [15] rfl (Ops_step (R_lss rfl rfl) rfl rfl ?_)
  refine Ops_nil ?_
  refine then_n (k9 _ _ ?_)
  clear k9 K9
  refine W_seq_k fun K10 k10 => ?_
  refine W_if rfl (fun hc11_ => ?_) (fun hc11_ => ?_)
  ·
   replace h := h.1 hc11_
   refine W_skip ?_
   refine then_n (k10 _ _ ?_)
   clear k10 K10
   refine W_seq_k fun K12 k12 => ?_
   refine W_block ?_
   refine W_seq_k fun K13 k13 => ?_
   refine W_region [16, 8] rfl (Ops_step (R_move rfl) rfl rfl (Ops_step (R_assign rfl) rfl rfl ?_))
   refine Ops_nil ?_
   refine then_n (k13 _ _ ?_)
   clear k13 K13
   refine W_region [17, 18, 19, 20, 21, 22, 23, 24, none] rfl (Ops_step (R_move rfl) rfl rfl ?_)
   have hk14_ := h.1
   replace h := h.2
   refine Ops_step (R_add rfl rfl (wI hk14_.1 hk14_.2)) rfl rfl (Ops_step (R_move rfl) rfl rfl (Ops_step (R_move rfl) rfl rfl ?_))
   have hk15_ := h.1
   replace h := h.2
   refine Ops_step (R_mul rfl rfl (wI hk15_.1 hk15_.2)) rfl rfl ?_
   have hk17_ := h.1
   replace h := h.2
   have hk18_ := h.1
   replace h := h.2
   refine Exists.elim (cut_ex (n := 1) (l := (4 * x14_8)) (h := (x0.length : Int)) hs0 rfl (by decide) hc0 hk17_ hk18_ (Int.le_refl _)) fun A16_ h16_ => Exists.elim h16_ fun c16_ h16_ => ?_
   have hr16_ := h16_.1
   have hc16_ := h16_.2.1
   have hs16_ := h16_.2.2
   clear h16_
   refine Ops_step (X_slice (xs := x0) Tryd.underlying30 sz5 rfl hr16_ hc0 rfl rfl hk17_ hk18_ (Int.le_refl _)) rfl rfl ?_
   clear hr16_
   refine Ops_call (C_func bd96 rfl) rfl rfl ?_
   refine (cipher_word_ok (x0 := (cut x0 (4 * x14_8) (x0.length : Int))) hI.st (hg.up hI.le) hc16_ hs16_ h).mono ?_
   rintro _ w19_ ⟨r19_0, L19_, H19_, rfl, hI19_, h⟩
   refine Exists.elim (hI.call hI19_ (by simp)) fun L190_ h19_ => ?_
   have hz19_ := hI.size
   replace hI := h19_.1
   have u19_ := h19_.2.1
   have hl19_ := h19_.2.2
   clear h19_
   replace hs0 := hs0.up u19_.hh
   replace hll6_ := hll6_.trans u19_.ll
   replace hhh6_ := hhh6_.trans u19_.hh
   replace ht2_ := ht2_.up u19_ (by simp)
   replace htb4__8 := htb4__8.up u19_ (by simp)
   replace hll8_ := hll8_.trans u19_.ll
   replace hhh8_ := hhh8_.trans u19_.hh
   clear hI19_ u19_ hl19_
   refine ⟨_, rfl, ?_⟩
   refine ex_ h fun x20_ hx20_ h => ?_
   refine Ops_step (R_indexArr Tryd.underlying121 sz119 rfl rfl hx20_.1 (hx20_.ltn hnb4__8_)) rfl rfl ?_
   refine Ops_to0 (R_store sz119 rfl rfl htb4__8.blk (arr_lt hx20_) rfl) rfl ?_
   rintro _ w21_ ⟨hB21_, hF21_⟩
   replace hI := hI.tok hF21_ (out1 htb4__8.out) (new1 hge_b4_)
   replace ht2_ := ht2_.fr hF21_ (ht2_.apart htb4__8 (by decide))
   replace htb4__8 : Tok H19_ _ b4_ 121 ((Arr.mk (n := 16) (put yb4__8.l (4 + x14_8) r19_0)).l.map w32) := ⟨hB21_.to arr_put, htb4__8.out⟩
   clear hF21_ hB21_
   refine Ops_nil ?_
   refine block_n ?_
   refine then_n (k12 _ _ ?_)
   clear k12 K12
   refine W_keepB [0, 1, 2, 6, 7, 14] fun B_ b_ => ?_
   simp only [e_, Nat.reduceAdd, Nat.reduceBEq] at b_
   subst b_
   refine W_region [25, 14] rfl ?_
   have hk23_ := h.1
   replace h := h.2
   refine Ops_step (R_add rfl rfl (wI hk23_.1 hk23_.2)) rfl rfl (Ops_step (R_move rfl) rfl rfl ?_)
   refine Ops_nil ?_
   refine then_n ?_
   exact h.elim fun m_ h => ⟨m_, _, h.1, rfl, ⟨(x14_8 + 1), (Arr.mk (n := 16) (put yb4__8.l (4 + x14_8) r19_0)), _, _, rfl, h.2, hI, hll8_, hhh8_, ⟨_, Arr.shut (put_len hnb4__8_), htb4__8⟩, ht2_, trivial⟩, ⟨rfl, rfl, rfl, rfl, rfl, trivial⟩⟩
  ·
   replace h := h.2 hc11_
   refine W_exit ?_
   refine then_exit ?_
   clear k10 K10
   refine then_exit ?_
   refine block_exit ?_
   refine then_n ?_
   exact ⟨_, rfl, ⟨yb4__8, _, _, rfl, h, hI, hll6_, hhh6_, ⟨_, Arr.shut hnb4__8_, htb4__8⟩, ht2_, trivial⟩, ⟨rfl, rfl, rfl, rfl, trivial⟩⟩
 ·
  simp only [e_, Nat.reduceAdd, Nat.reduceBEq] at b_
  subst b_
  clear h
  clear ht2_
  rintro _ w6_ ⟨yb4__6, L6_, H6_, rfl, hJ6_, hI6_, hll6_, hhh6_, hqb4__6, ht2_, -⟩
  replace hI := hI6_
  clear hI6_
  have h := hr6_ yb4__6 hJ6_
  clear hr6_ hJ6_
  obtain ⟨lb4__6_, hlb4__6_, htb4__6⟩ := hqb4__6
  obtain ⟨hnb4__6_, rfl⟩ := Arr.open_ hlb4__6_
  refine W_seq_k fun K24 k24 => ?_
  refine W_region [26, 27, 28, 29, 30, 31, 32, 33, 34, 35, 36, none, 37, none, 38, none, 39, none] rfl (Ops_step (R_move rfl) rfl rfl (Ops_step (R_conv Tryd.underlying72 Tryd.underlying119 rfl (c64_32 _)) rfl rfl (Ops_step (R_move rfl) rfl rfl (Ops_step (R_shr rfl rfl (by decide) (shr64 x2 32 (by decide))) rfl rfl ?_))))
  refine Ops_step (R_conv Tryd.underlying72 Tryd.underlying119 rfl (c64_32 _)) rfl rfl (Ops_step (R_move rfl) rfl rfl (Ops_step (R_conv Tryd.underlying72 Tryd.underlying119 rfl (c64_32 _)) rfl rfl (Ops_step (R_move rfl) rfl rfl (Ops_step (R_shr rfl rfl (by decide) (shr64 x1 32 (by decide))) rfl rfl ?_))))
  refine Ops_step (R_conv Tryd.underlying72 Tryd.underlying119 rfl (c64_32 _)) rfl rfl ?_
  refine ex_ h fun x25_ hx25_ h => ?_
  refine Ops_step (R_indexArr Tryd.underlying121 sz119 rfl rfl hx25_.1 (hx25_.ltn hnb4__6_)) rfl rfl ?_
  refine Ops_to0 (R_store sz119 rfl rfl htb4__6.blk (arr_lt hx25_) rfl) rfl ?_
  rintro _ w26_ ⟨hB26_, hF26_⟩
  replace hI := hI.tok hF26_ (out1 htb4__6.out) (new1 hge_b4_)
  replace ht2_ := ht2_.fr hF26_ (ht2_.apart htb4__6 (by decide))
  replace htb4__6 : Tok H6_ _ b4_ 121 ((Arr.mk (n := 16) (put yb4__6.l 12 (x2.setWidth 32))).l.map w32) := ⟨hB26_.to arr_put, htb4__6.out⟩
  clear hF26_ hB26_
  refine ex_ h fun x27_ hx27_ h => ?_
  refine Ops_step (R_indexArr Tryd.underlying121 sz119 rfl rfl hx27_.1 (hx27_.ltn (put_len hnb4__6_))) rfl rfl ?_
  refine Ops_to0 (R_store sz119 rfl rfl htb4__6.blk (arr_lt hx27_) rfl) rfl ?_
  rintro _ w28_ ⟨hB28_, hF28_⟩
  replace hI := hI.tok hF28_ (out1 htb4__6.out) (new1 hge_b4_)
  replace ht2_ := ht2_.fr hF28_ (ht2_.apart htb4__6 (by decide))
  replace htb4__6 : Tok H6_ _ b4_ 121 ((Arr.mk (n := 16) (put (Arr.mk (n := 16) (put yb4__6.l 12 (x2.setWidth 32))).l 13 ((x2 >>> (32 : Nat)).setWidth 32))).l.map w32) := ⟨hB28_.to arr_put, htb4__6.out⟩
  clear hF28_ hB28_
  refine ex_ h fun x29_ hx29_ h => ?_
  refine Ops_step (R_indexArr Tryd.underlying121 sz119 rfl rfl hx29_.1 (hx29_.ltn (put_len (put_len hnb4__6_)))) rfl rfl ?_
  refine Ops_to0 (R_store sz119 rfl rfl htb4__6.blk (arr_lt hx29_) rfl) rfl ?_
  rintro _ w30_ ⟨hB30_, hF30_⟩
  replace hI := hI.tok hF30_ (out1 htb4__6.out) (new1 hge_b4_)
  replace ht2_ := ht2_.fr hF30_ (ht2_.apart htb4__6 (by decide))
  replace htb4__6 : Tok H6_ _ b4_ 121 ((Arr.mk (n := 16) (put (Arr.mk (n := 16) (put (Arr.mk (n := 16) (put yb4__6.l 12 (x2.setWidth 32))).l 13 ((x2 >>> (32 : Nat)).setWidth 32))).l 14 (x1.setWidth 32))).l.map w32) := ⟨hB30_.to arr_put, htb4__6.out⟩
  clear hF30_ hB30_
  refine ex_ h fun x31_ hx31_ h => ?_
  refine Ops_step (R_indexArr Tryd.underlying121 sz119 rfl rfl hx31_.1 (hx31_.ltn (put_len (put_len (put_len hnb4__6_))))) rfl rfl ?_
  refine Ops_to0 (R_store sz119 rfl rfl htb4__6.blk (arr_lt hx31_) rfl) rfl ?_
  rintro _ w32_ ⟨hB32_, hF32_⟩
  replace hI := hI.tok hF32_ (out1 htb4__6.out) (new1 hge_b4_)
  replace ht2_ := ht2_.fr hF32_ (ht2_.apart htb4__6 (by decide))
  replace htb4__6 : Tok H6_ _ b4_ 121 ((Arr.mk (n := 16) (put (Arr.mk (n := 16) (put (Arr.mk (n := 16) (put (Arr.mk (n := 16) (put yb4__6.l 12 (x2.setWidth 32))).l 13 ((x2 >>> (32 : Nat)).setWidth 32))).l 14 (x1.setWidth 32))).l 15 ((x1 >>> (32 : Nat)).setWidth 32))).l.map w32) := ⟨hB32_.to arr_put, htb4__6.out⟩
  clear hF32_ hB32_
  refine Ops_nil ?_
  refine then_n (k24 _ _ ?_)
  clear k24 K24
  refine W_keepB [6, 7] fun B_ b_ => ?_
  simp only [e_, Nat.reduceAdd, Nat.reduceBEq] at b_
  subst b_
  refine W_seq_k fun K34 k34 => ?_
  refine W_region [40, 9, none] rfl (Ops_step (R_loadW ag121 sz121 rfl htb4__6.blk (by rw [List.length_map]; exact (put_len (put_len (put_len (put_len hnb4__6_)))))) rfl rfl ?_)
  have hlo35_b4_ := htb4__6.blk.lt
  have hI0_ := hI
  refine Ops_to (R_alloc zr121) rfl rfl ?_
  rintro _ w35_ ⟨b35_, rfl, hb35_, hB35_, hF35_⟩
  replace hI := hI.fr0 hF35_
  replace ht2_ := ht2_.fr0 hF35_
  replace htb4__6 := htb4__6.fr0 hF35_
  have ht35_ : Tok H6_ _ b35_ 121 ((Arr.mk (n := 16) (List.replicate 16 (0#32))).l.map w32) := ⟨hB35_.to (by rw [List.map_replicate]; rfl), Out.ge hI0_.st (Nat.le_of_eq hb35_.symm)⟩
  have hge_b35_ : w.heap.size ≤ b35_ := hb35_ ▸ hI0_.size
  have hne35_b4_ : b4_ ≠ b35_ := fun e_ => absurd hlo35_b4_ (by omega)
  clear hB35_ hb35_ hI0_ hF35_
  refine Ops_to0 (R_storeN sz121 (by simp [(put_len (put_len (put_len (put_len hnb4__6_))))]) rfl rfl ht35_.blk (by simp [(List.length_replicate ..), (put_len (put_len (put_len (put_len hnb4__6_))))]) (all_enc _)) rfl ?_
  rintro _ w36_ ⟨hB36_, hF36_⟩
  replace hI := hI.tok hF36_ (out1 ht35_.out) (new1 hge_b35_)
  replace ht2_ := ht2_.fr hF36_ (ht2_.apart ht35_ (by decide))
  replace htb4__6 := htb4__6.fr hF36_ (ne1 hne35_b4_)
  replace ht35_ : Tok H6_ _ b35_ 121 ((Arr.mk (n := 16) (put (Arr.mk (n := 16) (put (Arr.mk (n := 16) (put (Arr.mk (n := 16) (put yb4__6.l 12 (x2.setWidth 32))).l 13 ((x2 >>> (32 : Nat)).setWidth 32))).l 14 (x1.setWidth 32))).l 15 ((x1 >>> (32 : Nat)).setWidth 32))).l.map w32) := ⟨hB36_.to (arr_over (((List.length_replicate ..)).trans ((put_len (put_len (put_len (put_len hnb4__6_))))).symm)), ht35_.out⟩
  clear hF36_ hB36_
  refine Ops_nil ?_
  refine then_n (k34 _ _ ?_)
  clear k34 K34
  refine ex_ h fun J37_ hr37_ h => ?_
  refine W_seq_join [6, 7, 9] [] (fun vals_ w2 => ∃ (yb35__37 : Arr 16 (BitVec 32)) (L H : Gh), vals_ = [] ∧ J37_ yb35__37 ∧ Inv [] G w L H w2 ∧ Le L6_ L ∧ Le H6_ H ∧ Ob 121 H H w2 b35_ yb35__37 ∧ Tok H w2 b2_ 105 ((Arr.mk (n := 64) (List.replicate 64 (0 : UInt8))).l.map vb) ∧ Tok H w2 b4_ 121 ((Arr.mk (n := 16) (put (Arr.mk (n := 16) (put (Arr.mk (n := 16) (put (Arr.mk (n := 16) (put yb4__6.l 12 (x2.setWidth 32))).l 13 ((x2 >>> (32 : Nat)).setWidth 32))).l 14 (x1.setWidth 32))).l 15 ((x1 >>> (32 : Nat)).setWidth 32))).l.map w32) ∧ True) (fun B_ b_ => ?_) (fun B_ b_ => ?_)
  ·
   simp only [e_, Nat.reduceAdd, Nat.reduceBEq] at b_
   subst b_
   clear hr37_
   have hll37_ := Le.refl L6_
   have hhh37_ := Le.refl H6_
   refine W_seq_k fun K38 k38 => ?_
   refine W_region [41] rfl (Ops_step (R_move rfl) rfl rfl ?_)
   refine Ops_nil ?_
   refine then_n (k38 _ _ ?_)
   clear k38 K38
   refine W_block ?_
   refine Exists.elim h fun I39_ h => Exists.elim h fun n39_ h => ?_
   have h0_ := h.1
   have hs39_ := h.2
   clear h
   refine W_loopB [6, 7, 9] [41] (fun m vals_ w2 => ∃ (x41_39 : Int) (yb35__39 : Arr 16 (BitVec 32)) (L H : Gh), vals_ = [vi x41_39] ∧ I39_ m x41_39 yb35__39 ∧ Inv [] G w L H w2 ∧ Le L6_ L ∧ Le H6_ H ∧ Ob 121 H H w2 b35_ yb35__39 ∧ Tok H w2 b2_ 105 ((Arr.mk (n := 64) (List.replicate 64 (0 : UInt8))).l.map vb) ∧ Tok H w2 b4_ 121 ((Arr.mk (n := 16) (put (Arr.mk (n := 16) (put (Arr.mk (n := 16) (put (Arr.mk (n := 16) (put yb4__6.l 12 (x2.setWidth 32))).l 13 ((x2 >>> (32 : Nat)).setWidth 32))).l 14 (x1.setWidth 32))).l 15 ((x1 >>> (32 : Nat)).setWidth 32))).l.map w32) ∧ True) n39_ _ rfl ⟨0, (Arr.mk (n := 16) (put (Arr.mk (n := 16) (put (Arr.mk (n := 16) (put (Arr.mk (n := 16) (put yb4__6.l 12 (x2.setWidth 32))).l 13 ((x2 >>> (32 : Nat)).setWidth 32))).l 14 (x1.setWidth 32))).l 15 ((x1 >>> (32 : Nat)).setWidth 32))), _, _, rfl, h0_, hI, Le.refl _, Le.refl _, ⟨_, Arr.shut (put_len (put_len (put_len (put_len hnb4__6_)))), ht35_⟩, ht2_, htb4__6, trivial⟩ fun B_ b_ => ?_
   clear h0_
   simp only [e_, Nat.reduceAdd, Nat.reduceBEq] at b_
   subst b_
   clear ht2_
   clear htb4__6
   rintro m39_ _ w39_ ⟨x41_39, yb35__39, L39_, H39_, rfl, hJ39_, hI39_, hll39_, hhh39_, hqb35__39, ht2_, htb4__6, -⟩
   replace hI := hI39_
   clear hI39_
   have h := hs39_ m39_ x41_39 yb35__39 hJ39_
   clear hs39_ hJ39_
   replace hll37_ := hll37_.trans hll39_
   replace hhh37_ := hhh37_.trans hhh39_
   obtain ⟨lb35__39_, hlb35__39_, htb35__39⟩ := hqb35__39
   obtain ⟨hnb35__39_, rfl⟩ := Arr.open_ hlb35__39_
   refine W_seq_k fun K40 k40 => ?_
   refine W_region [42] rfl (Ops_step (R_lss rfl rfl) rfl rfl ?_)
   refine Ops_nil ?_
   refine then_n (k40 _ _ ?_)
   clear k40 K40
   refine W_seq_k fun K41 k41 => ?_
   refine W_if rfl (fun hc42_ => ?_) (fun hc42_ => ?_)
   ·
    replace h := h.1 hc42_
    refine W_skip ?_
    refine then_n (k41 _ _ ?_)
    clear k41 K41
    refine W_seq_k fun K43 k43 => ?_
    refine W_block ?_
    refine W_region [43] rfl ?_
    refine Ops_call (C_func bd97 rfl) rfl rfl ?_
    refine (cipher_words_double_ok (x0 := yb35__39) hI.st (hg.up hI.le) ⟨_, Arr.shut hnb35__39_, htb35__39⟩ h).mono ?_
    rintro _ w44_ ⟨y44_0, L44_, H44_, rfl, hI44_, hq44_0, h⟩
    refine Exists.elim (hI.call hI44_ (new1 hge_b35_)) fun L440_ h44_ => ?_
    have hz44_ := hI.size
    replace hI := h44_.1
    have u44_ := h44_.2.1
    have hl44_ := h44_.2.2
    clear h44_
    replace hll37_ := hll37_.trans u44_.ll
    replace hhh37_ := hhh37_.trans u44_.hh
    replace ht2_ := ht2_.up u44_ (ht2_.apart htb35__39 (by decide))
    replace htb4__6 := htb4__6.up u44_ (ne1 hne35_b4_)
    replace hll39_ := hll39_.trans u44_.ll
    replace hhh39_ := hhh39_.trans u44_.hh
    clear htb35__39
    obtain ⟨l44_0_, hl44_0_, ht44_0⟩ := hq44_0
    obtain ⟨hn44_0_, rfl⟩ := Arr.open_ hl44_0_
    clear hI44_ u44_ hl44_
    refine ⟨_, rfl, ?_⟩
    refine Ops_nil ?_
    refine block_n ?_
    refine then_n (k43 _ _ ?_)
    clear k43 K43
    refine W_region [44, 41] rfl ?_
    have hk45_ := h.1
    replace h := h.2
    refine Ops_step (R_add rfl rfl (wI hk45_.1 hk45_.2)) rfl rfl (Ops_step (R_move rfl) rfl rfl ?_)
    refine Ops_nil ?_
    refine then_n ?_
    exact h.elim fun m_ h => ⟨m_, _, h.1, rfl, ⟨(x41_39 + 1), y44_0, _, _, rfl, h.2, hI, hll39_, hhh39_, ⟨_, Arr.shut hn44_0_, ht44_0⟩, ht2_, htb4__6, trivial⟩, ⟨rfl, rfl, rfl, trivial⟩⟩
   ·
    replace h := h.2 hc42_
    refine W_exit ?_
    refine then_exit ?_
    clear k41 K41
    refine then_exit ?_
    refine block_exit ?_
    refine then_n ?_
    exact ⟨_, rfl, ⟨yb35__39, _, _, rfl, h, hI, hll37_, hhh37_, ⟨_, Arr.shut hnb35__39_, htb35__39⟩, ht2_, htb4__6, trivial⟩, ⟨rfl, rfl, rfl, trivial⟩⟩
  ·
   simp only [e_, Nat.reduceAdd, Nat.reduceBEq] at b_
   subst b_
   clear h
   clear ht2_
   clear htb4__6
   rintro _ w37_ ⟨yb35__37, L37_, H37_, rfl, hJ37_, hI37_, hll37_, hhh37_, hqb35__37, ht2_, htb4__6, -⟩
   replace hI := hI37_
   clear hI37_
   have h := hr37_ yb35__37 hJ37_
   clear hr37_ hJ37_
   obtain ⟨lb35__37_, hlb35__37_, htb35__37⟩ := hqb35__37
   obtain ⟨hnb35__37_, rfl⟩ := Arr.open_ hlb35__37_
   refine W_seq_k fun K46 k46 => ?_
   refine W_region [10] rfl ?_
   have hlo47_b2_ := ht2_.blk.lt
   have hI0_ := hI
   refine Ops_to (R_alloc zr105) rfl rfl ?_
   rintro _ w47_ ⟨b47_, rfl, hb47_, hB47_, hF47_⟩
   replace hI := hI.fr0 hF47_
   replace ht2_ := ht2_.fr0 hF47_
   replace htb4__6 := htb4__6.fr0 hF47_
   replace htb35__37 := htb35__37.fr0 hF47_
   have ht47_ : Tok H37_ _ b47_ 105 ((Arr.mk (n := 64) (List.replicate 64 (0 : UInt8))).l.map vb) := ⟨hB47_.to (by rw [List.map_replicate]; rfl), Out.ge hI0_.st (Nat.le_of_eq hb47_.symm)⟩
   have hge_b47_ : w.heap.size ≤ b47_ := hb47_ ▸ hI0_.size
   have hne47_b2_ : b2_ ≠ b47_ := fun e_ => absurd hlo47_b2_ (by omega)
   clear hB47_ hb47_ hI0_ hF47_
   refine Ops_nil ?_
   refine then_n (k46 _ _ ?_)
   clear k46 K46
   refine ex_ h fun J48_ hr48_ h => ?_
   refine W_seq_join [6, 10] [] (fun vals_ w2 => ∃ (yb47__48 : Arr 64 UInt8) (L H : Gh), vals_ = [] ∧ J48_ yb47__48 ∧ Inv [] G w L H w2 ∧ Le L37_ L ∧ Le H37_ H ∧ Ob 105 H H w2 b47_ yb47__48 ∧ Tok H w2 b2_ 105 ((Arr.mk (n := 64) (List.replicate 64 (0 : UInt8))).l.map vb) ∧ True) (fun B_ b_ => ?_) (fun B_ b_ => ?_)
   ·
    simp only [e_, Nat.reduceAdd, Nat.reduceBEq] at b_
    subst b_
    clear hr48_
    have hll48_ := Le.refl L37_
    have hhh48_ := Le.refl H37_
    refine W_seq_k fun K49 k49 => ?_
    refine W_region [45] rfl (Ops_step (R_move rfl) rfl rfl ?_)
    refine Ops_nil ?_
    refine then_n (k49 _ _ ?_)
    clear k49 K49
    refine W_block ?_
    refine Exists.elim h fun I50_ h => Exists.elim h fun n50_ h => ?_
    have h0_ := h.1
    have hs50_ := h.2
    clear h
    refine W_loopB [6, 7, 9, 10] [45] (fun m vals_ w2 => ∃ (x45_50 : Int) (yb47__50 : Arr 64 UInt8) (L H : Gh), vals_ = [vi x45_50] ∧ I50_ m x45_50 yb47__50 ∧ Inv [] G w L H w2 ∧ Le L37_ L ∧ Le H37_ H ∧ Ob 105 H H w2 b47_ yb47__50 ∧ Tok H w2 b2_ 105 ((Arr.mk (n := 64) (List.replicate 64 (0 : UInt8))).l.map vb) ∧ Tok H w2 b4_ 121 ((Arr.mk (n := 16) (put (Arr.mk (n := 16) (put (Arr.mk (n := 16) (put (Arr.mk (n := 16) (put yb4__6.l 12 (x2.setWidth 32))).l 13 ((x2 >>> (32 : Nat)).setWidth 32))).l 14 (x1.setWidth 32))).l 15 ((x1 >>> (32 : Nat)).setWidth 32))).l.map w32) ∧ Tok H w2 b35_ 121 (yb35__37.l.map w32) ∧ True) n50_ _ rfl ⟨0, (Arr.mk (n := 64) (List.replicate 64 (0 : UInt8))), _, _, rfl, h0_, hI, Le.refl _, Le.refl _, ⟨_, Arr.shut (List.length_replicate ..), ht47_⟩, ht2_, htb4__6, htb35__37, trivial⟩ fun B_ b_ => ?_
    clear h0_
    simp only [e_, Nat.reduceAdd, Nat.reduceBEq] at b_
    subst b_
    clear ht2_
    clear htb4__6
    clear htb35__37
    rintro m50_ _ w50_ ⟨x45_50, yb47__50, L50_, H50_, rfl, hJ50_, hI50_, hll50_, hhh50_, hqb47__50, ht2_, htb4__6, htb35__37, -⟩
    replace hI := hI50_
    clear hI50_
    have h := hs50_ m50_ x45_50 yb47__50 hJ50_
    clear hs50_ hJ50_
    replace hll48_ := hll48_.trans hll50_
    replace hhh48_ := hhh48_.trans hhh50_
    obtain ⟨lb47__50_, hlb47__50_, htb47__50⟩ := hqb47__50
    obtain ⟨hnb47__50_, rfl⟩ := Arr.open_ hlb47__50_
    refine W_seq_k fun K51 k51 => ?_
    refine W_region [46] rfl (Ops_step (R_lss rfl rfl) rfl rfl ?_)
    refine Ops_nil ?_
    refine then_n (k51 _ _ ?_)
    clear k51 K51
    refine W_seq_k fun K52 k52 => ?_
    refine W_if rfl (fun hc53_ => ?_) (fun hc53_ => ?_)
    ·
     replace h := h.1 hc53_
     refine W_skip ?_
     refine then_n (k52 _ _ ?_)
     clear k52 K52
     refine W_seq_k fun K54 k54 => ?_
     refine W_block ?_
     refine W_seq_k fun K55 k55 => ?_
     refine W_region [47, 11] rfl (Ops_step (R_move rfl) rfl rfl (Ops_step (R_assign rfl) rfl rfl ?_))
     refine Ops_nil ?_
     refine then_n (k55 _ _ ?_)
     clear k55 K55
     refine W_seq_k fun K56 k56 => ?_
     refine W_drawF [48, 49, 50, 51, 52, 53, 54, 12] [(0, true), (1, true), (2, true), (3, true), (4, true), (5, true), (6, true), (7, true)] TFtA.hm rfl (by kernel_rfl) fun ops57_ w57_ hops57_ hF57_ => ?_
     replace hI := hI.fr0 hF57_
     replace ht2_ := ht2_.fr0 hF57_
     replace htb4__6 := htb4__6.fr0 hF57_
     replace htb35__37 := htb35__37.fr0 hF57_
     replace htb47__50 := htb47__50.fr0 hF57_
     clear hF57_
     refine HSp (R_move rfl) rfl rfl ?_
     refine ex_ h fun x58_ hx58_ h => ?_
     refine HSp (R_indexArr Tryd.underlying121 sz119 rfl rfl hx58_.1 (hx58_.ltn hnb35__37_)) rfl rfl ?_
     refine HS_loadB ag119 rfl htb35__37.blk (arr_at hx58_) rfl rfl ?_
     refine HSp (R_move rfl) rfl rfl ?_
     refine ex_ h fun x59_ hx59_ h => ?_
     refine HSp (R_indexArr Tryd.underlying121 sz119 rfl rfl hx59_.1 (hx59_.ltn (put_len (put_len (put_len (put_len hnb4__6_)))))) rfl rfl ?_
     refine HS_loadB ag119 rfl htb4__6.blk (arr_at hx59_) rfl rfl ?_
     refine HSp (R_add rfl rfl (add32 x58_ x59_)) rfl rfl (HSp (R_assign rfl) rfl rfl ?_)
     refine HS_nil ?_
     clear hops57_
     refine then_n (k56 _ _ ?_)
     clear k56 K56
     refine W_keepB [6, 7, 9, 10, 11, 12, 45] fun B_ b_ => ?_
     simp only [e_, Nat.reduceAdd, Nat.reduceBEq] at b_
     subst b_
     refine W_region [55, 56, 57, 58, 59, 60, 61, 62, 63, 64, 65, 66, 67, 68, 69, 70, 71, 72, 73, 74, 75, 76, 77, none, 78, none, 79, none, 80, none] rfl (Ops_step (R_move rfl) rfl rfl ?_)
     have hk61_ := h.1
     replace h := h.2
     refine Ops_step (R_mul rfl rfl (wI hk61_.1 hk61_.2)) rfl rfl (Ops_step (R_move rfl) rfl rfl ?_)
     have hk62_ := h.1
     replace h := h.2
     refine Ops_step (R_mul rfl rfl (wI hk62_.1 hk62_.2)) rfl rfl ?_
     have hk63_ := h.1
     replace h := h.2
     refine Ops_step (R_add rfl rfl (wI hk63_.1 hk63_.2)) rfl rfl (Ops_step (R_move rfl) rfl rfl ?_)
     have hk64_ := h.1
     replace h := h.2
     refine Ops_step (R_mul rfl rfl (wI hk64_.1 hk64_.2)) rfl rfl ?_
     have hk65_ := h.1
     replace h := h.2
     refine Ops_step (R_add rfl rfl (wI hk65_.1 hk65_.2)) rfl rfl (Ops_step (R_move rfl) rfl rfl ?_)
     have hk66_ := h.1
     replace h := h.2
     refine Ops_step (R_mul rfl rfl (wI hk66_.1 hk66_.2)) rfl rfl ?_
     have hk67_ := h.1
     replace h := h.2
     refine Ops_step (R_add rfl rfl (wI hk67_.1 hk67_.2)) rfl rfl (Ops_step (R_move rfl) rfl rfl (Ops_step (R_conv Tryd.underlying119 Tryd.underlying5 rfl (c32_8 _)) rfl rfl (Ops_step (R_move rfl) rfl rfl (Ops_step (R_shr rfl rfl (by decide) (shr32 (x58_ + x59_) 8 (by decide))) rfl rfl ?_))))
     refine Ops_step (R_conv Tryd.underlying119 Tryd.underlying5 rfl (c32_8 _)) rfl rfl (Ops_step (R_move rfl) rfl rfl (Ops_step (R_shr rfl rfl (by decide) (shr32 (x58_ + x59_) 16 (by decide))) rfl rfl (Ops_step (R_conv Tryd.underlying119 Tryd.underlying5 rfl (c32_8 _)) rfl rfl (Ops_step (R_move rfl) rfl rfl ?_))))
     refine Ops_step (R_shr rfl rfl (by decide) (shr32 (x58_ + x59_) 24 (by decide))) rfl rfl (Ops_step (R_conv Tryd.underlying119 Tryd.underlying5 rfl (c32_8 _)) rfl rfl ?_)
     refine ex_ h fun x68_ hx68_ h => ?_
     refine Ops_step (R_indexArr Tryd.underlying105 sz5 rfl rfl hx68_.1 (hx68_.ltn hnb47__50_)) rfl rfl ?_
     refine Ops_to0 (R_store sz5 rfl rfl htb47__50.blk (arr_lt hx68_) rfl) rfl ?_
     rintro _ w69_ ⟨hB69_, hF69_⟩
     replace hI := hI.tok hF69_ (out1 htb47__50.out) (new1 hge_b47_)
     replace ht2_ := ht2_.fr hF69_ (ne1 hne47_b2_)
     replace htb4__6 := htb4__6.fr hF69_ (htb4__6.apart htb47__50 (by decide))
     replace htb35__37 := htb35__37.fr hF69_ (htb35__37.apart htb47__50 (by decide))
     replace htb47__50 : Tok H50_ _ b47_ 105 ((Arr.mk (n := 64) (put yb47__50.l (4 * x45_50) (UInt8.ofBitVec ((x58_ + x59_).setWidth 8)))).l.map vb) := ⟨hB69_.to arr_put, htb47__50.out⟩
     clear hF69_ hB69_
     refine ex_ h fun x70_ hx70_ h => ?_
     refine Ops_step (R_indexArr Tryd.underlying105 sz5 rfl rfl hx70_.1 (hx70_.ltn (put_len hnb47__50_))) rfl rfl ?_
     refine Ops_to0 (R_store sz5 rfl rfl htb47__50.blk (arr_lt hx70_) rfl) rfl ?_
     rintro _ w71_ ⟨hB71_, hF71_⟩
     replace hI := hI.tok hF71_ (out1 htb47__50.out) (new1 hge_b47_)
     replace ht2_ := ht2_.fr hF71_ (ne1 hne47_b2_)
     replace htb4__6 := htb4__6.fr hF71_ (htb4__6.apart htb47__50 (by decide))
     replace htb35__37 := htb35__37.fr hF71_ (htb35__37.apart htb47__50 (by decide))
     replace htb47__50 : Tok H50_ _ b47_ 105 ((Arr.mk (n := 64) (put (Arr.mk (n := 64) (put yb47__50.l (4 * x45_50) (UInt8.ofBitVec ((x58_ + x59_).setWidth 8)))).l ((4 * x45_50) + 1) (UInt8.ofBitVec (((x58_ + x59_) >>> (8 : Nat)).setWidth 8)))).l.map vb) := ⟨hB71_.to arr_put, htb47__50.out⟩
     clear hF71_ hB71_
     refine ex_ h fun x72_ hx72_ h => ?_
     refine Ops_step (R_indexArr Tryd.underlying105 sz5 rfl rfl hx72_.1 (hx72_.ltn (put_len (put_len hnb47__50_)))) rfl rfl ?_
     refine Ops_to0 (R_store sz5 rfl rfl htb47__50.blk (arr_lt hx72_) rfl) rfl ?_
     rintro _ w73_ ⟨hB73_, hF73_⟩
     replace hI := hI.tok hF73_ (out1 htb47__50.out) (new1 hge_b47_)
     replace ht2_ := ht2_.fr hF73_ (ne1 hne47_b2_)
     replace htb4__6 := htb4__6.fr hF73_ (htb4__6.apart htb47__50 (by decide))
     replace htb35__37 := htb35__37.fr hF73_ (htb35__37.apart htb47__50 (by decide))
     replace htb47__50 : Tok H50_ _ b47_ 105 ((Arr.mk (n := 64) (put (Arr.mk (n := 64) (put (Arr.mk (n := 64) (put yb47__50.l (4 * x45_50) (UInt8.ofBitVec ((x58_ + x59_).setWidth 8)))).l ((4 * x45_50) + 1) (UInt8.ofBitVec (((x58_ + x59_) >>> (8 : Nat)).setWidth 8)))).l ((4 * x45_50) + 2) (UInt8.ofBitVec (((x58_ + x59_) >>> (16 : Nat)).setWidth 8)))).l.map vb) := ⟨hB73_.to arr_put, htb47__50.out⟩
     clear hF73_ hB73_
     refine ex_ h fun x74_ hx74_ h => ?_
     refine Ops_step (R_indexArr Tryd.underlying105 sz5 rfl rfl hx74_.1 (hx74_.ltn (put_len (put_len (put_len hnb47__50_))))) rfl rfl ?_
     refine Ops_to0 (R_store sz5 rfl rfl htb47__50.blk (arr_lt hx74_) rfl) rfl ?_
     rintro _ w75_ ⟨hB75_, hF75_⟩
     replace hI := hI.tok hF75_ (out1 htb47__50.out) (new1 hge_b47_)
     replace ht2_ := ht2_.fr hF75_ (ne1 hne47_b2_)
     replace htb4__6 := htb4__6.fr hF75_ (htb4__6.apart htb47__50 (by decide))
     replace htb35__37 := htb35__37.fr hF75_ (htb35__37.apart htb47__50 (by decide))
     replace htb47__50 : Tok H50_ _ b47_ 105 ((Arr.mk (n := 64) (put (Arr.mk (n := 64) (put (Arr.mk (n := 64) (put (Arr.mk (n := 64) (put yb47__50.l (4 * x45_50) (UInt8.ofBitVec ((x58_ + x59_).setWidth 8)))).l ((4 * x45_50) + 1) (UInt8.ofBitVec (((x58_ + x59_) >>> (8 : Nat)).setWidth 8)))).l ((4 * x45_50) + 2) (UInt8.ofBitVec (((x58_ + x59_) >>> (16 : Nat)).setWidth 8)))).l ((4 * x45_50) + 3) (UInt8.ofBitVec (((x58_ + x59_) >>> (24 : Nat)).setWidth 8)))).l.map vb) := ⟨hB75_.to arr_put, htb47__50.out⟩
     clear hF75_ hB75_
     refine Ops_nil ?_
     refine block_n ?_
     refine then_n (k54 _ _ ?_)
     clear k54 K54
     refine W_keepB [6, 7, 9, 10, 45] fun B_ b_ => ?_
     simp only [e_, Nat.reduceAdd, Nat.reduceBEq] at b_
     subst b_
     refine W_region [81, 45] rfl ?_
     have hk77_ := h.1
     replace h := h.2
     refine Ops_step (R_add rfl rfl (wI hk77_.1 hk77_.2)) rfl rfl (Ops_step (R_move rfl) rfl rfl ?_)
     refine Ops_nil ?_
     refine then_n ?_
     exact h.elim fun m_ h => ⟨m_, _, h.1, rfl, ⟨(x45_50 + 1), (Arr.mk (n := 64) (put (Arr.mk (n := 64) (put (Arr.mk (n := 64) (put (Arr.mk (n := 64) (put yb47__50.l (4 * x45_50) (UInt8.ofBitVec ((x58_ + x59_).setWidth 8)))).l ((4 * x45_50) + 1) (UInt8.ofBitVec (((x58_ + x59_) >>> (8 : Nat)).setWidth 8)))).l ((4 * x45_50) + 2) (UInt8.ofBitVec (((x58_ + x59_) >>> (16 : Nat)).setWidth 8)))).l ((4 * x45_50) + 3) (UInt8.ofBitVec (((x58_ + x59_) >>> (24 : Nat)).setWidth 8)))), _, _, rfl, h.2, hI, hll50_, hhh50_, ⟨_, Arr.shut (put_len (put_len (put_len (put_len hnb47__50_)))), htb47__50⟩, ht2_, htb4__6, htb35__37, trivial⟩, ⟨rfl, rfl, rfl, rfl, trivial⟩⟩
    ·
     replace h := h.2 hc53_
     refine W_exit ?_
     refine then_exit ?_
     clear k52 K52
     refine then_exit ?_
     refine block_exit ?_
     refine then_n ?_
     exact ⟨_, rfl, ⟨yb47__50, _, _, rfl, h, hI, hll48_, hhh48_, ⟨_, Arr.shut hnb47__50_, htb47__50⟩, ht2_, trivial⟩, ⟨rfl, rfl, trivial⟩⟩
   ·
    simp only [e_, Nat.reduceAdd, Nat.reduceBEq] at b_
    subst b_
    clear h
    clear ht2_
    rintro _ w48_ ⟨yb47__48, L48_, H48_, rfl, hJ48_, hI48_, hll48_, hhh48_, hqb47__48, ht2_, -⟩
    replace hI := hI48_
    clear hI48_
    have h := hr48_ yb47__48 hJ48_
    clear hr48_ hJ48_
    obtain ⟨lb47__48_, hlb47__48_, htb47__48⟩ := hqb47__48
    obtain ⟨hnb47__48_, rfl⟩ := Arr.open_ hlb47__48_
    refine W_seq_k fun K78 k78 => ?_
    refine W_region [82, none] rfl (Ops_step (R_loadW ag105 sz105 rfl htb47__48.blk (by rw [List.length_map]; exact hnb47__48_)) rfl rfl ?_)
    refine Ops_to0 (R_storeN sz105 (by simp [hnb47__48_]) rfl rfl ht2_.blk (by simp [(List.length_replicate ..), hnb47__48_]) (all_enc _)) rfl ?_
    rintro _ w79_ ⟨hB79_, hF79_⟩
    replace hI := hI.tok hF79_ (out1 ht2_.out) (new1 hge_b2_)
    replace ht2_ : Tok H48_ _ b2_ 105 (yb47__48.l.map vb) := ⟨hB79_.to (arr_over (((List.length_replicate ..)).trans (hnb47__48_).symm)), ht2_.out⟩
    clear hF79_ hB79_
    refine Ops_nil ?_
    refine then_n (k78 _ _ ?_)
    clear k78 K78
    refine W_ret ?_
    refine ⟨_, ⟨_, _, _, rfl, rfl, run_loadArr ag105 sz105 ht2_.blk hnb47__48_, rfl⟩, ?_⟩
    exact ⟨yb47__48, _, _, rfl, hI, hnb47__48_, h⟩

theorem cipher_Turn_ok {G : Gh} {w : World} (hS : St G w) (hg : GL G) {A0 : Option Addr} {c0 : Nat} {x0 : List UInt8} (hc0 : x0.length ≤ c0) (hs0 : Sl G A0 x0) {x1 : BitVec 64} {A2 : Option Addr} {c2 : Nat} {x2 : List UInt8} (hc2 : x2.length ≤ c2) (hs2 : Sl G A2 x2) {Q : (List UInt8) → Int → Prop} (h : cipher_Turn x0 x1 x2 Q) : Calls Tryd.prog 74 #[.slice A0 x0.length c0, w64 x1, .slice A2 x2.length c2] w fun e w2 => ∃ (A0 : Option Addr) (c0 : Nat) (r0 : List UInt8) (r1 : Int) (L H : Gh), e = .returned (.tuple #[.slice A0 r0.length c0, vi r1]) ∧ Inv [] G w L H w2 ∧ OwnS w.heap.size 5 L H w2 A0 c0 r0 ∧ Q r0 r1 := by
 unfold cipher_Turn at h
 have hI := Inv.start (M := []) hS
 refine calls_W 46 Tryd.func74 rfl Tryd.ntmps74 rfl [.tmp 6, .tmp 7] rfl ?_
 refine W_seq_k fun K1 k1 => ?_
 refine W_region [6, 7] rfl (Ops_step (R_assign rfl) rfl rfl (Ops_step (R_assign rfl) rfl rfl ?_))
 refine Ops_nil ?_
 refine then_n (k1 _ _ ?_)
 clear k1 K1
 refine W_seq_k fun K2 k2 => ?_
 refine W_seq_k fun K3 k3 => ?_
 refine W_region [12, 13, 14] rfl (Ops_step (R_move rfl) rfl rfl (Ops_step (R_len Tryd.underlying30 rfl rfl) rfl rfl (Ops_step (R_lss rfl rfl) rfl rfl ?_)))
 refine Ops_nil ?_
 refine then_n (k3 _ _ ?_)
 clear k3 K3
 refine W_if rfl (fun hc4_ => ?_) (fun hc4_ => ?_)
 ·
  replace h := h.1 hc4_
  refine W_seq_k fun K5 k5 => ?_
  refine W_region [6, 7] rfl (Ops_step (R_assign rfl) rfl rfl (Ops_step (R_assign rfl) rfl rfl ?_))
  refine Ops_nil ?_
  refine then_n (k5 _ _ ?_)
  clear k5 K5
  refine W_keepB [6, 7] fun B_ b_ => ?_
  simp only [e_, Nat.reduceAdd, Nat.reduceBEq] at b_
  subst b_
  refine W_ret ?_
  refine then_ret ?_
  clear k2 K2
  refine ⟨_, ⟨_, _, rfl, rfl, ⟨_, _, rfl, rfl, rfl⟩⟩, ?_⟩
  exact ⟨none, 0, [], 1, _, _, rfl, hI, OwnS.nil, h⟩
 ·
  replace h := h.2 hc4_
  refine W_skip ?_
  refine then_n (k2 _ _ ?_)
  clear k2 K2
  refine W_seq_k fun K7 k7 => ?_
  refine W_region [15, 16, 17, 8] rfl (Ops_step (R_move rfl) rfl rfl (Ops_step (R_len Tryd.underlying30 rfl rfl) rfl rfl ?_))
  have hk9_ := h.1
  replace h := h.2
  have hk10_ := h.1
  replace h := h.2
  refine Ops_to (X_make0 (α := UInt8) (Eg := Gh.no) (B := _) el30 rfl rfl hk9_ hI.st hk10_ (by decide) (Nat.le_refl _)) rfl rfl ?_
  rintro _ w8_ ⟨A8_, c8_, rfl, ho8_, hF8_⟩
  replace ho8_ := ho8_.le hI.size
  replace hI := hI.fr0 hF8_
  clear hF8_
  refine Ops_step (R_assign rfl) rfl rfl ?_
  refine Ops_nil ?_
  refine then_n (k7 _ _ ?_)
  clear k7 K7
  refine W_keepB [0, 1, 2, 8] fun B_ b_ => ?_
  simp only [e_, Nat.reduceAdd, Nat.reduceBEq] at b_
  subst b_
  refine W_seq_k fun K12 k12 => ?_
  refine W_region [9] rfl ?_
  have hI0_ := hI
  refine Ops_to (R_alloc zr105) rfl rfl ?_
  rintro _ w13_ ⟨b13_, rfl, hb13_, hB13_, hF13_⟩
  replace hI := hI.fr0 hF13_
  replace ho8_ := ho8_.fr0 hF13_
  have ht13_ : Tok G _ b13_ 105 ((Arr.mk (n := 64) (List.replicate 64 (0 : UInt8))).l.map vb) := ⟨hB13_.to (by rw [List.map_replicate]; rfl), Out.ge hI0_.st (Nat.le_of_eq hb13_.symm)⟩
  have hge_b13_ : w.heap.size ≤ b13_ := hb13_ ▸ hI0_.size
  clear hB13_ hb13_ hI0_ hF13_
  refine Ops_nil ?_
  refine then_n (k12 _ _ ?_)
  clear k12 K12
  refine ex_ h fun J14_ hr14_ h => ?_
  refine W_seq_join [] [8] (fun vals_ w2 => ∃ (x8_14 : List UInt8) (A8_14 : Option Addr) (c8_14 : Nat) (L H : Gh), vals_ = [.slice A8_14 x8_14.length c8_14] ∧ J14_ x8_14 ∧ Inv [] G w L H w2 ∧ Le Gh.no L ∧ Le G H ∧ OwnS w.heap.size 5 Gh.no H w2 A8_14 c8_14 x8_14 ∧ True) (fun B_ b_ => ?_) (fun B_ b_ => ?_)
  ·
   simp only [e_, Nat.reduceAdd, Nat.reduceBEq] at b_
   subst b_
   clear hr14_
   have hll14_ := Le.refl Gh.no
   have hhh14_ := Le.refl G
   refine W_seq_k fun K15 k15 => ?_
   refine W_region [18, 19, 20] rfl (Ops_step (R_move rfl) rfl rfl (Ops_step (R_len Tryd.underlying30 rfl rfl) rfl rfl (Ops_step (R_move rfl) rfl rfl ?_)))
   refine Ops_nil ?_
   refine then_n (k15 _ _ ?_)
   clear k15 K15
   refine W_block ?_
   refine Exists.elim h fun I16_ h => Exists.elim h fun n16_ h => ?_
   have h0_ := h.1
   have hs16_ := h.2
   clear h
   refine W_loopB [0, 1, 9, 18, 19] [8, 20] (fun m vals_ w2 => ∃ (x8_16 : List UInt8) (A8_16 : Option Addr) (c8_16 : Nat) (x20_16 : Int) (yb13__16 : Arr 64 UInt8) (L H : Gh), vals_ = [.slice A8_16 x8_16.length c8_16, vi x20_16] ∧ I16_ m x8_16 x20_16 yb13__16 ∧ Inv [] G w L H w2 ∧ Le Gh.no L ∧ Le G H ∧ OwnS w.heap.size 5 Gh.no H w2 A8_16 c8_16 x8_16 ∧ Ob 105 H H w2 b13_ yb13__16 ∧ True) n16_ _ rfl ⟨([] : List UInt8), A8_, c8_, 0, (Arr.mk (n := 64) (List.replicate 64 (0 : UInt8))), _, _, rfl, h0_, hI, Le.refl _, Le.refl _, ho8_, ⟨_, Arr.shut (List.length_replicate ..), ht13_⟩, trivial⟩ fun B_ b_ => ?_
   clear h0_
   simp only [e_, Nat.reduceAdd, Nat.reduceBEq] at b_
   subst b_
   rintro m16_ _ w16_ ⟨x8_16, A8_16, c8_16, x20_16, yb13__16, L16_, H16_, rfl, hJ16_, hI16_, hll16_, hhh16_, ho8_16, hqb13__16, -⟩
   replace hI := hI16_
   clear hI16_
   have h := hs16_ m16_ x8_16 x20_16 yb13__16 hJ16_
   clear hs16_ hJ16_
   replace hs0 := hs0.up hhh16_
   replace hs2 := hs2.up hhh16_
   replace hll14_ := hll14_.trans hll16_
   replace hhh14_ := hhh14_.trans hhh16_
   obtain ⟨lb13__16_, hlb13__16_, htb13__16⟩ := hqb13__16
   obtain ⟨hnb13__16_, rfl⟩ := Arr.open_ hlb13__16_
   refine W_seq_k fun K17 k17 => ?_
   refine W_region [21] rfl (Ops_step (R_lss rfl rfl) rfl rfl ?_)
   refine Ops_nil ?_
   refine then_n (k17 _ _ ?_)
   clear k17 K17
   refine W_seq_k fun K18 k18 => ?_
   refine W_if rfl (fun hc19_ => ?_) (fun hc19_ => ?_)
   ·
    replace h := h.1 hc19_
    refine W_skip ?_
    refine then_n (k18 _ _ ?_)
    clear k18 K18
    refine W_seq_k fun K20 k20 => ?_
    refine W_block ?_
    refine W_seq_k fun K21 k21 => ?_
    refine W_region [22, 23, 24, 10, 11] rfl (Ops_step (R_move rfl) rfl rfl ?_)
    refine ex_ h fun x22_ hx22_ h => ?_
    have ha22_ := (hs2.atS hx22_).1
    have hg22_ := (hs2.atS hx22_).2
    refine Ops_step (R_indexSl Tryd.underlying30 sz5 rfl rfl hx22_.1 hx22_.lt ha22_) rfl rfl (Ops_step (R_load ag5 rfl (hI.st _ _ hg22_)) rfl rfl (Ops_step (R_assign rfl) rfl rfl (Ops_step (R_assign rfl) rfl rfl ?_)))
    refine Ops_nil ?_
    refine then_n (k21 _ _ ?_)
    clear k21 K21
    refine ex_ h fun J23_ hr23_ h => ?_
    refine W_seq_join [0, 1, 8, 9, 10, 11, 18, 19, 20] [] (fun vals_ w2 => ∃ (yb13__23 : Arr 64 UInt8) (L H : Gh), vals_ = [] ∧ J23_ yb13__23 ∧ Inv [] G w L H w2 ∧ Le L16_ L ∧ Le H16_ H ∧ Ob 105 H H w2 b13_ yb13__23 ∧ OwnS w.heap.size 5 Gh.no H w2 A8_16 c8_16 x8_16 ∧ True) (fun B_ b_ => ?_) (fun B_ b_ => ?_)
    ·
     simp only [e_, Nat.reduceAdd, Nat.reduceBEq] at b_
     subst b_
     clear hr23_
     have hll23_ := Le.refl L16_
     have hhh23_ := Le.refl H16_
     refine W_seq_k fun K24 k24 => ?_
     refine W_region [25, 26, 27] rfl (Ops_step (R_move rfl) rfl rfl (Ops_step (R_rem rfl rfl (by decide) _root_.rfl) rfl rfl (Ops_step (R_eql rfl rfl) rfl rfl ?_)))
     refine Ops_nil ?_
     refine then_n (k24 _ _ ?_)
     clear k24 K24
     refine W_keepB [0, 1, 8, 9, 10, 11, 18, 19, 20, 27] fun B_ b_ => ?_
     simp only [e_, Nat.reduceAdd, Nat.reduceBEq] at b_
     subst b_
     refine W_if rfl (fun hc26_ => ?_) (fun hc26_ => ?_)
     ·
      replace h := h.1 hc26_
      refine W_region [28, 29, 30, 31, 32, 33, 34, none] rfl (Ops_step (R_move rfl) rfl rfl ?_)
      have hk28_ := h.1
      replace h := h.2
      refine Exists.elim (cut_ex (n := 1) (l := 0) (h := 32) hs0 rfl (by decide) hc0 (Int.le_refl 0) (by decide) hk28_) fun A27_ h27_ => Exists.elim h27_ fun c27_ h27_ => ?_
      have hr27_ := h27_.1
      have hc27_ := h27_.2.1
      have hs27_ := h27_.2.2
      clear h27_
      refine Ops_step (X_slice (xs := x0) Tryd.underlying30 sz5 rfl hr27_ hc0 rfl rfl (Int.le_refl 0) (by decide) hk28_) rfl rfl ?_
      clear hr27_
      refine Ops_step (R_move rfl) rfl rfl (Ops_step (R_move rfl) rfl rfl ?_)
      have hk29_ := h.1
      replace h := h.2
      refine Ops_step (R_quo rfl rfl (by decide) (wI hk29_.1 hk29_.2)) rfl rfl (Ops_step (R_conv Tryd.underlying3 Tryd.underlying72 rfl (cI_64 _)) rfl rfl ?_)
      refine Ops_call (C_func bd88 rfl) rfl rfl ?_
      refine (cipher_stream_ok (x0 := (cut x0 0 32)) (x1 := x1) (x2 := (BitVec.ofInt 64 (x20_16.tdiv 64))) hI.st (hg.up hI.le) hc27_ hs27_ h).mono ?_
      rintro _ w30_ ⟨r30_0, L30_, H30_, rfl, hI30_, hn30_0, h⟩
      refine Exists.elim (hI.call hI30_ (by simp)) fun L300_ h30_ => ?_
      have hz30_ := hI.size
      replace hI := h30_.1
      have u30_ := h30_.2.1
      have hl30_ := h30_.2.2
      clear h30_
      replace hs0 := hs0.up u30_.hh
      replace hs2 := hs2.up u30_.hh
      replace hll14_ := hll14_.trans u30_.ll
      replace hhh14_ := hhh14_.trans u30_.hh
      replace ho8_16 := ho8_16.up (Le.refl _) u30_ (by simp)
      replace htb13__16 := htb13__16.up u30_ (by simp)
      replace hll16_ := hll16_.trans u30_.ll
      replace hhh16_ := hhh16_.trans u30_.hh
      replace hll23_ := hll23_.trans u30_.ll
      replace hhh23_ := hhh23_.trans u30_.hh
      clear hI30_ u30_ hl30_
      refine ⟨_, rfl, ?_⟩
      refine Ops_to0 (R_storeN sz105 (by simp [hn30_0]) rfl rfl htb13__16.blk (by simp [hnb13__16_, hn30_0]) (all_enc _)) rfl ?_
      rintro _ w31_ ⟨hB31_, hF31_⟩
      replace hI := hI.tok hF31_ (out1 htb13__16.out) (new1 hge_b13_)
      replace ho8_16 := ho8_16.fr hF31_ (ho8_16.ne htb13__16.blk (by decide))
      replace htb13__16 : Tok H30_ _ b13_ 105 (r30_0.l.map vb) := ⟨hB31_.to (arr_over ((hnb13__16_).trans (hn30_0).symm)), htb13__16.out⟩
      clear hF31_ hB31_
      refine Ops_nil ?_
      refine then_n ?_
      exact ⟨_, rfl, ⟨r30_0, _, _, rfl, h, hI, hll23_, hhh23_, ⟨_, Arr.shut hn30_0, htb13__16⟩, ho8_16, trivial⟩, ⟨rfl, rfl, rfl, rfl, rfl, rfl, rfl, rfl, rfl, trivial⟩⟩
     ·
      replace h := h.2 hc26_
      refine W_skip ?_
      refine then_n ?_
      exact ⟨_, rfl, ⟨yb13__16, _, _, rfl, h, hI, hll23_, hhh23_, ⟨_, Arr.shut hnb13__16_, htb13__16⟩, ho8_16, trivial⟩, ⟨rfl, rfl, rfl, rfl, rfl, rfl, rfl, rfl, rfl, trivial⟩⟩
    ·
     simp only [e_, Nat.reduceAdd, Nat.reduceBEq] at b_
     subst b_
     clear h
     clear ho8_16
     rintro _ w23_ ⟨yb13__23, L23_, H23_, rfl, hJ23_, hI23_, hll23_, hhh23_, hqb13__23, ho8_16, -⟩
     replace hI := hI23_
     clear hI23_
     have h := hr23_ yb13__23 hJ23_
     clear hr23_ hJ23_
     replace hs0 := hs0.up hhh23_
     replace hs2 := hs2.up hhh23_
     replace hll14_ := hll14_.trans hll23_
     replace hhh14_ := hhh14_.trans hhh23_
     replace hll16_ := hll16_.trans hll23_
     replace hhh16_ := hhh16_.trans hhh23_
     obtain ⟨lb13__23_, hlb13__23_, htb13__23⟩ := hqb13__23
     obtain ⟨hnb13__23_, rfl⟩ := Arr.open_ hlb13__23_
     refine W_region [35, 36, 37, 38, 39, 40, 41, 42, 43, 8] rfl (Ops_step (R_move rfl) rfl rfl (Ops_step (R_move rfl) rfl rfl (Ops_step (R_move rfl) rfl rfl (Ops_step (R_rem rfl rfl (by decide) _root_.rfl) rfl rfl ?_))))
     refine ex_ h fun x32_ hx32_ h => ?_
     refine Ops_step (R_indexArr Tryd.underlying105 sz5 rfl rfl hx32_.1 (hx32_.ltn hnb13__23_)) rfl rfl (Ops_step (R_loadB ag5 rfl htb13__23.blk (arr_at hx32_)) rfl rfl (Ops_step (R_xor rfl rfl (xor8 x22_ x32_)) rfl rfl ?_))
     have hlo33_ho8_16 := ho8_16.lt
     refine Ops_to (R_buildSlice el30 zr5 (by decide) (by decide) rfl rfl) rfl rfl ?_
     rintro _ w33_ ⟨b33_, rfl, hb33_, hB33_, hF33_⟩
     have ho33_ : OwnS w.heap.size 5 Gh.no H23_ _ (some ⟨b33_, 0, none⟩) 1 ([(x22_ ^^^ x32_)] : List UInt8) := OwnS.ofBlk hI.st hb33_ hB33_ (all2_sc' _) rfl (by have := hI.size; omega) (by show 1 ≤ maxLen; decide)
     replace hI := hI.fr0 hF33_
     replace ho8_16 := ho8_16.fr0 hF33_
     replace htb13__23 := htb13__23.fr0 hF33_
     clear hF33_ hB33_
     have hsp33_ho8_16 : ∀ i ∈ bk (some ⟨b33_, 0, none⟩) 1, i ∉ bk A8_16 c8_16 := sep_new (fun i_ hi_ => by have := (bk_of hi_).1; simp only [blkOf, List.mem_singleton] at this; omega) hlo33_ho8_16
     have hk35_ := h.1
     replace h := h.2
     refine Ops_to (X_append (α := UInt8) (xs := x8_16) (ys := ([(x22_ ^^^ x32_)] : List UInt8)) el30 rfl rfl ho8_16 (Srcs.sc (Srcs.ofOwn Tryd.underlying30 ho33_ (by decide))) hI.st hk35_ (by decide) hI.size) rfl rfl ?_
     rintro _ w34_ ⟨A34_, c34_, rfl, ho34_, hF34_, hbk34_⟩
     clear hbk34_
     replace hI := hI.tok hF34_ ho8_16.out (ho8_16.new (Nat.le_refl _))
     replace htb13__23 := htb13__23.fr hF34_ (htb13__23.sep ho8_16 (by decide))
     clear hF34_ ho8_16
     refine Ops_step (R_assign rfl) rfl rfl ?_
     refine Ops_nil ?_
     refine block_n ?_
     refine then_n (k20 _ _ ?_)
     clear k20 K20
     refine W_keepB [0, 1, 8, 9, 18, 19, 20] fun B_ b_ => ?_
     simp only [e_, Nat.reduceAdd, Nat.reduceBEq] at b_
     subst b_
     refine W_region [44, 20] rfl ?_
     have hk37_ := h.1
     replace h := h.2
     refine Ops_step (R_add rfl rfl (wI hk37_.1 hk37_.2)) rfl rfl (Ops_step (R_move rfl) rfl rfl ?_)
     refine Ops_nil ?_
     refine then_n ?_
     exact h.elim fun m_ h => ⟨m_, _, h.1, rfl, ⟨(x8_16 ++ ([(x22_ ^^^ x32_)] : List UInt8)), A34_, c34_, (x20_16 + 1), yb13__23, _, _, rfl, h.2, hI, hll16_, hhh16_, ho34_, ⟨_, Arr.shut hnb13__23_, htb13__23⟩, trivial⟩, ⟨rfl, rfl, rfl, rfl, rfl, trivial⟩⟩
   ·
    replace h := h.2 hc19_
    refine W_exit ?_
    refine then_exit ?_
    clear k18 K18
    refine then_exit ?_
    refine block_exit ?_
    refine then_n ?_
    exact ⟨_, rfl, ⟨x8_16, A8_16, c8_16, _, _, rfl, h, hI, hll14_, hhh14_, ho8_16, trivial⟩, trivial⟩
  ·
   simp only [e_, Nat.reduceAdd, Nat.reduceBEq] at b_
   subst b_
   clear h
   rintro _ w14_ ⟨x8_14, A8_14, c8_14, L14_, H14_, rfl, hJ14_, hI14_, hll14_, hhh14_, ho8_14, -⟩
   replace hI := hI14_
   clear hI14_
   have h := hr14_ x8_14 hJ14_
   clear hr14_ hJ14_
   refine W_seq_k fun K38 k38 => ?_
   refine W_region [45, 6, 7] rfl (Ops_step (R_move rfl) rfl rfl (Ops_step (R_assign rfl) rfl rfl (Ops_step (R_assign rfl) rfl rfl ?_)))
   refine Ops_nil ?_
   refine then_n (k38 _ _ ?_)
   clear k38 K38
   refine W_ret ?_
   refine ⟨_, ⟨_, _, rfl, rfl, ⟨_, _, rfl, rfl, rfl⟩⟩, ?_⟩
   exact ⟨A8_14, c8_14, x8_14, 0, _, _, rfl, hI, (ho8_14.hl (Le.no _)), h⟩

theorem hash_Equal_ok {G : Gh} {w : World} (hS : St G w) (hg : GL G) {A0 : Option Addr} {c0 : Nat} {x0 : List UInt8} (hc0 : x0.length ≤ c0) (hs0 : Sl G A0 x0) {A1 : Option Addr} {c1 : Nat} {x1 : List UInt8} (hc1 : x1.length ≤ c1) (hs1 : Sl G A1 x1) {Q : Bool → Prop} (h : hash_Equal x0 x1 Q) : Calls Tryd.prog 72 #[.slice A0 x0.length c0, .slice A1 x1.length c1] w fun e w2 => ∃ (r0 : Bool) (L H : Gh), e = .returned (.bool r0) ∧ Inv [] G w L H w2 ∧ Q r0 := by
 unfold hash_Equal at h
 have hI := Inv.start (M := []) hS
 refine calls_W 31 Tryd.func72 rfl Tryd.ntmps72 rfl [.tmp 4] rfl ?_
 refine W_seq_k fun K1 k1 => ?_
 refine W_region [4] rfl (Ops_step (R_assign rfl) rfl rfl ?_)
 refine Ops_nil ?_
 refine then_n (k1 _ _ ?_)
 clear k1 K1
 refine W_seq_k fun K2 k2 => ?_
 refine W_seq_k fun K3 k3 => ?_
 refine W_region [7, 8, 9, 10, 11] rfl (Ops_step (R_move rfl) rfl rfl (Ops_step (R_len Tryd.underlying30 rfl rfl) rfl rfl (Ops_step (R_move rfl) rfl rfl (Ops_step (R_len Tryd.underlying30 rfl rfl) rfl rfl ?_))))
 refine Ops_step (R_neq rfl rfl) rfl rfl ?_
 refine Ops_nil ?_
 refine then_n (k3 _ _ ?_)
 clear k3 K3
 refine W_if rfl (fun hc4_ => ?_) (fun hc4_ => ?_)
 ·
  replace h := h.1 hc4_
  refine W_seq_k fun K5 k5 => ?_
  refine W_region [4] rfl (Ops_step (R_assign rfl) rfl rfl ?_)
  refine Ops_nil ?_
  refine then_n (k5 _ _ ?_)
  clear k5 K5
  refine W_keepB [4] fun B_ b_ => ?_
  simp only [e_, Nat.reduceAdd, Nat.reduceBEq] at b_
  subst b_
  refine W_ret ?_
  refine then_ret ?_
  clear k2 K2
  refine ⟨_, ⟨_, _, rfl, rfl, rfl⟩, ?_⟩
  exact ⟨false, _, _, rfl, hI, h⟩
 ·
  replace h := h.2 hc4_
  refine W_skip ?_
  refine then_n (k2 _ _ ?_)
  clear k2 K2
  refine W_keepB [0, 1] fun B_ b_ => ?_
  simp only [e_, Nat.reduceAdd, Nat.reduceBEq] at b_
  subst b_
  refine W_seq_k fun K8 k8 => ?_
  refine W_region [5] rfl (Ops_step (R_assign rfl) rfl rfl ?_)
  refine Ops_nil ?_
  refine then_n (k8 _ _ ?_)
  clear k8 K8
  refine ex_ h fun J9_ hr9_ h => ?_
  refine W_seq_join [] [5] (fun vals_ w2 => ∃ (x5_9 : UInt8) (L H : Gh), vals_ = [vb x5_9] ∧ J9_ x5_9 ∧ Inv [] G w L H w2 ∧ Le Gh.no L ∧ Le G H ∧ True) (fun B_ b_ => ?_) (fun B_ b_ => ?_)
  ·
   simp only [e_, Nat.reduceAdd, Nat.reduceBEq] at b_
   subst b_
   clear hr9_
   have hll9_ := Le.refl Gh.no
   have hhh9_ := Le.refl G
   refine W_seq_k fun K10 k10 => ?_
   refine W_region [12, 13, 14] rfl (Ops_step (R_move rfl) rfl rfl (Ops_step (R_len Tryd.underlying30 rfl rfl) rfl rfl (Ops_step (R_move rfl) rfl rfl ?_)))
   refine Ops_nil ?_
   refine then_n (k10 _ _ ?_)
   clear k10 K10
   refine W_block ?_
   refine Exists.elim h fun I11_ h => Exists.elim h fun n11_ h => ?_
   have h0_ := h.1
   have hs11_ := h.2
   clear h
   refine W_loopB [0, 1, 13] [5, 14] (fun m vals_ w2 => ∃ (x5_11 : UInt8) (x14_11 : Int) (L H : Gh), vals_ = [vb x5_11, vi x14_11] ∧ I11_ m x5_11 x14_11 ∧ Inv [] G w L H w2 ∧ Le Gh.no L ∧ Le G H ∧ True) n11_ _ rfl ⟨(0 : UInt8), 0, _, _, rfl, h0_, hI, Le.refl _, Le.refl _, trivial⟩ fun B_ b_ => ?_
   clear h0_
   simp only [e_, Nat.reduceAdd, Nat.reduceBEq] at b_
   subst b_
   rintro m11_ _ w11_ ⟨x5_11, x14_11, L11_, H11_, rfl, hJ11_, hI11_, hll11_, hhh11_, -⟩
   replace hI := hI11_
   clear hI11_
   have h := hs11_ m11_ x5_11 x14_11 hJ11_
   clear hs11_ hJ11_
   replace hs0 := hs0.up hhh11_
   replace hs1 := hs1.up hhh11_
   replace hll9_ := hll9_.trans hll11_
   replace hhh9_ := hhh9_.trans hhh11_
   refine W_seq_k fun K12 k12 => ?_
   refine W_region [15] rfl (Ops_step (R_lss rfl rfl) rfl rfl ?_)
   refine Ops_nil ?_
   refine then_n (k12 _ _ ?_)
   clear k12 K12
   refine W_seq_k fun K13 k13 => ?_
   refine W_if rfl (fun hc14_ => ?_) (fun hc14_ => ?_)
   ·
    replace h := h.1 hc14_
    refine W_skip ?_
    refine then_n (k13 _ _ ?_)
    clear k13 K13
    refine W_seq_k fun K15 k15 => ?_
    refine W_block ?_
    refine W_seq_k fun K16 k16 => ?_
    refine W_region [16, 6] rfl (Ops_step (R_move rfl) rfl rfl (Ops_step (R_assign rfl) rfl rfl ?_))
    refine Ops_nil ?_
    refine then_n (k16 _ _ ?_)
    clear k16 K16
    refine W_drawF [17, 18, 19, 20, 21, 22, 23, 24, 25, 26, 27, 5] [(0, true), (1, true), (2, true), (3, true), (4, true), (5, true), (6, true), (7, true), (8, true), (9, true), (10, true), (11, true)] TFtA.hm rfl (by kernel_rfl) fun ops17_ w17_ hops17_ hF17_ => ?_
    replace hI := hI.fr0 hF17_
    clear hF17_
    refine HSp (R_move rfl) rfl rfl (HSp (R_move rfl) rfl rfl (HSp (R_move rfl) rfl rfl ?_))
    refine ex_ h fun x18_ hx18_ h => ?_
    have ha18_ := (hs0.atS hx18_).1
    have hg18_ := (hs0.atS hx18_).2
    refine HSp (R_indexSl Tryd.underlying30 sz5 rfl rfl hx18_.1 hx18_.lt ha18_) rfl rfl ?_
    refine HS_load ag5 rfl (hI.st _ _ hg18_) rfl rfl ?_
    refine HSp (R_move rfl) rfl rfl (HSp (R_move rfl) rfl rfl ?_)
    refine ex_ h fun x19_ hx19_ h => ?_
    have ha19_ := (hs1.atS hx19_).1
    have hg19_ := (hs1.atS hx19_).2
    refine HSp (R_indexSl Tryd.underlying30 sz5 rfl rfl hx19_.1 hx19_.lt ha19_) rfl rfl ?_
    refine HS_load ag5 rfl (hI.st _ _ hg19_) rfl rfl ?_
    refine HSp (R_xor rfl rfl (xor8 x18_ x19_)) rfl rfl (HSp (R_or rfl rfl (or8 x5_11 (x18_ ^^^ x19_))) rfl rfl (HSp (R_assign rfl) rfl rfl ?_))
    refine HS_nil ?_
    clear hops17_
    refine block_n ?_
    refine then_n (k15 _ _ ?_)
    clear k15 K15
    refine W_keepB [0, 1, 5, 13, 14] fun B_ b_ => ?_
    simp only [e_, Nat.reduceAdd, Nat.reduceBEq] at b_
    subst b_
    refine W_region [28, 14] rfl ?_
    have hk21_ := h.1
    replace h := h.2
    refine Ops_step (R_add rfl rfl (wI hk21_.1 hk21_.2)) rfl rfl (Ops_step (R_move rfl) rfl rfl ?_)
    refine Ops_nil ?_
    refine then_n ?_
    exact h.elim fun m_ h => ⟨m_, _, h.1, rfl, ⟨(x5_11 ||| (x18_ ^^^ x19_)), (x14_11 + 1), _, _, rfl, h.2, hI, hll11_, hhh11_, trivial⟩, ⟨rfl, rfl, rfl, trivial⟩⟩
   ·
    replace h := h.2 hc14_
    refine W_exit ?_
    refine then_exit ?_
    clear k13 K13
    refine then_exit ?_
    refine block_exit ?_
    refine then_n ?_
    exact ⟨_, rfl, ⟨x5_11, _, _, rfl, h, hI, hll9_, hhh9_, trivial⟩, trivial⟩
  ·
   simp only [e_, Nat.reduceAdd, Nat.reduceBEq] at b_
   subst b_
   clear h
   rintro _ w9_ ⟨x5_9, L9_, H9_, rfl, hJ9_, hI9_, hll9_, hhh9_, -⟩
   replace hI := hI9_
   clear hI9_
   have h := hr9_ x5_9 hJ9_
   clear hr9_ hJ9_
   refine W_seq_k fun K22 k22 => ?_
   refine W_region [29, 30, 4] rfl (Ops_step (R_move rfl) rfl rfl (Ops_step (R_eql rfl rfl) rfl rfl (Ops_step (R_assign rfl) rfl rfl ?_)))
   refine Ops_nil ?_
   refine then_n (k22 _ _ ?_)
   clear k22 K22
   refine W_ret ?_
   refine ⟨_, ⟨_, _, rfl, rfl, rfl⟩, ?_⟩
   exact ⟨(decide ((x5_9.toNat : Int) = 0)), _, _, rfl, hI, h⟩

theorem bytes_Equal_ok {G : Gh} {w : World} (hS : St G w) (hg : GL G) {A0 : Option Addr} {c0 : Nat} {x0 : List UInt8} (hc0 : x0.length ≤ c0) (hs0 : Sl G A0 x0) {A1 : Option Addr} {c1 : Nat} {x1 : List UInt8} (hc1 : x1.length ≤ c1) (hs1 : Sl G A1 x1) {Q : Bool → Prop} (h : bytes_Equal x0 x1 Q) : Calls Tryd.prog 26 #[.slice A0 x0.length c0, .slice A1 x1.length c1] w fun e w2 => ∃ (r0 : Bool) (L H : Gh), e = .returned (.bool r0) ∧ Inv [] G w L H w2 ∧ Q r0 := by
 unfold bytes_Equal at h
 have hI := Inv.start (M := []) hS
 refine calls_W 10 Tryd.func26 rfl Tryd.ntmps26 rfl [.tmp 4] rfl ?_
 refine W_seq_k fun K1 k1 => ?_
 refine W_region [4] rfl (Ops_step (R_assign rfl) rfl rfl ?_)
 refine Ops_nil ?_
 refine then_n (k1 _ _ ?_)
 clear k1 K1
 refine W_seq_k fun K2 k2 => ?_
 refine W_region [5, 6, 7, 8, 9, 4] rfl (Ops_step (R_move rfl) rfl rfl ?_)
 refine Ops_step (X_bytesStr (bs := x0) Tryd.underlying30 Tryd.underlying5 Tryd.underlying9 rfl rfl (hs0.fz.rd hI.st)) rfl rfl ?_
 refine Ops_step (R_move rfl) rfl rfl ?_
 refine Ops_step (X_bytesStr (bs := x1) Tryd.underlying30 Tryd.underlying5 Tryd.underlying9 rfl rfl (hs1.fz.rd hI.st)) rfl rfl ?_
 refine Ops_step (R_strEqB rfl rfl) rfl rfl (Ops_step (R_assign rfl) rfl rfl ?_)
 refine Ops_nil ?_
 refine then_n (k2 _ _ ?_)
 clear k2 K2
 refine W_keepB [4] fun B_ b_ => ?_
 simp only [e_, Nat.reduceAdd, Nat.reduceBEq] at b_
 subst b_
 refine W_ret ?_
 refine ⟨_, ⟨_, _, rfl, rfl, rfl⟩, ?_⟩
 exact ⟨(decide ((Str.mk x0).b = (Str.mk x1).b)), _, _, rfl, hI, h⟩

theorem octet_Put_ok {G : Gh} {w : World} (hS : St G w) (hg : GL G) {A0 : Option Addr} {c0 : Nat} {x0 : List UInt8} (hc0 : x0.length ≤ c0) (hs0 : Sl G A0 x0) {A1 : Option Addr} {c1 : Nat} {x1 : List Int} (hc1 : x1.length ≤ c1) (hs1 : Sl G A1 x1) {Q : (List UInt8) → Prop} (h : octet_Put x0 x1 Q) : Calls Tryd.prog 52 #[.slice A0 x0.length c0, .slice A1 x1.length c1] w fun e w2 => ∃ (A0 : Option Addr) (c0 : Nat) (r0 : List UInt8) (L H : Gh), e = .returned (.slice A0 r0.length c0) ∧ Inv [] G w L H w2 ∧ OwnS w.heap.size 5 L H w2 A0 c0 r0 ∧ Q r0 := by
 unfold octet_Put at h
 have hI := Inv.start (M := []) hS
 refine calls_W 39 Tryd.func52 rfl Tryd.ntmps52 rfl [.tmp 4] rfl ?_
 refine W_seq_k fun K1 k1 => ?_
 refine W_region [4] rfl (Ops_step (R_assign rfl) rfl rfl ?_)
 refine Ops_nil ?_
 refine then_n (k1 _ _ ?_)
 clear k1 K1
 refine W_seq_k fun K2 k2 => ?_
 refine W_region [9, 10, 11, 12, 13, 14, 15, 16, 17, 5] rfl (Ops_step (R_move rfl) rfl rfl (Ops_step (R_len Tryd.underlying30 rfl rfl) rfl rfl (Ops_step (R_move rfl) rfl rfl (Ops_step (R_len Tryd.underlying56 rfl rfl) rfl rfl ?_))))
 have hk3_ := h.1
 replace h := h.2
 refine Ops_step (R_mul rfl rfl (wI hk3_.1 hk3_.2)) rfl rfl ?_
 have hk4_ := h.1
 replace h := h.2
 refine Ops_step (R_add rfl rfl (wI hk4_.1 hk4_.2)) rfl rfl ?_
 have hk6_ := h.1
 replace h := h.2
 have hk7_ := h.1
 replace h := h.2
 refine Ops_to (X_make0 (α := UInt8) (Eg := Gh.no) (B := _) el30 rfl rfl hk6_ hI.st hk7_ (by decide) (Nat.le_refl _)) rfl rfl ?_
 rintro _ w5_ ⟨A5_, c5_, rfl, ho5_, hF5_⟩
 replace ho5_ := ho5_.le hI.size
 replace hI := hI.fr0 hF5_
 clear hF5_
 refine Ops_step (R_move rfl) rfl rfl ?_
 have hk9_ := h.1
 replace h := h.2
 refine Ops_to (X_append (α := UInt8) (xs := ([] : List UInt8)) (ys := x0) el30 rfl rfl ho5_ (Srcs.sc (Srcs.ofSl Tryd.underlying30 hs0 hI.st (by decide))) hI.st hk9_ (by decide) hI.size) rfl rfl ?_
 rintro _ w8_ ⟨A8_, c8_, rfl, ho8_, hF8_, hbk8_⟩
 clear hbk8_
 replace hI := hI.tok hF8_ ho5_.out (ho5_.new (Nat.le_refl _))
 clear hF8_ ho5_
 refine Ops_step (R_assign rfl) rfl rfl ?_
 refine Ops_nil ?_
 refine then_n (k2 _ _ ?_)
 clear k2 K2
 refine W_keepB [1, 5] fun B_ b_ => ?_
 simp only [e_, Nat.reduceAdd, Nat.reduceBEq] at b_
 subst b_
 refine ex_ h fun J11_ hr11_ h => ?_
 refine W_seq_join [] [5] (fun vals_ w2 => ∃ (x5_11 : List UInt8) (A5_11 : Option Addr) (c5_11 : Nat) (L H : Gh), vals_ = [.slice A5_11 x5_11.length c5_11] ∧ J11_ x5_11 ∧ Inv [] G w L H w2 ∧ Le Gh.no L ∧ Le G H ∧ OwnS w.heap.size 5 Gh.no H w2 A5_11 c5_11 x5_11 ∧ True) (fun B_ b_ => ?_) (fun B_ b_ => ?_)
 ·
  simp only [e_, Nat.reduceAdd, Nat.reduceBEq] at b_
  subst b_
  clear hr11_
  have hll11_ := Le.refl Gh.no
  have hhh11_ := Le.refl G
  refine W_seq_k fun K12 k12 => ?_
  refine W_region [18, 19, 20] rfl (Ops_step (R_move rfl) rfl rfl (Ops_step (R_len Tryd.underlying56 rfl rfl) rfl rfl (Ops_step (R_move rfl) rfl rfl ?_)))
  refine Ops_nil ?_
  refine then_n (k12 _ _ ?_)
  clear k12 K12
  refine W_block ?_
  refine Exists.elim h fun I13_ h => Exists.elim h fun n13_ h => ?_
  have h0_ := h.1
  have hs13_ := h.2
  clear h
  refine W_loopB [18, 19] [5, 20] (fun m vals_ w2 => ∃ (x5_13 : List UInt8) (A5_13 : Option Addr) (c5_13 : Nat) (x20_13 : Int) (L H : Gh), vals_ = [.slice A5_13 x5_13.length c5_13, vi x20_13] ∧ I13_ m x5_13 x20_13 ∧ Inv [] G w L H w2 ∧ Le Gh.no L ∧ Le G H ∧ OwnS w.heap.size 5 Gh.no H w2 A5_13 c5_13 x5_13 ∧ True) n13_ _ rfl ⟨(([] : List UInt8) ++ x0), A8_, c8_, 0, _, _, rfl, h0_, hI, Le.refl _, Le.refl _, ho8_, trivial⟩ fun B_ b_ => ?_
  clear h0_
  simp only [e_, Nat.reduceAdd, Nat.reduceBEq] at b_
  subst b_
  rintro m13_ _ w13_ ⟨x5_13, A5_13, c5_13, x20_13, L13_, H13_, rfl, hJ13_, hI13_, hll13_, hhh13_, ho5_13, -⟩
  replace hI := hI13_
  clear hI13_
  have h := hs13_ m13_ x5_13 x20_13 hJ13_
  clear hs13_ hJ13_
  replace hs1 := hs1.up hhh13_
  replace hll11_ := hll11_.trans hll13_
  replace hhh11_ := hhh11_.trans hhh13_
  refine W_seq_k fun K14 k14 => ?_
  refine W_region [21] rfl (Ops_step (R_lss rfl rfl) rfl rfl ?_)
  refine Ops_nil ?_
  refine then_n (k14 _ _ ?_)
  clear k14 K14
  refine W_seq_k fun K15 k15 => ?_
  refine W_if rfl (fun hc16_ => ?_) (fun hc16_ => ?_)
  ·
   replace h := h.1 hc16_
   refine W_skip ?_
   refine then_n (k15 _ _ ?_)
   clear k15 K15
   refine ex_ h fun J17_ hr17_ h => ?_
   refine W_seq_join [18, 19, 20] [5] (fun vals_ w2 => ∃ (x5_17 : List UInt8) (A5_17 : Option Addr) (c5_17 : Nat) (L H : Gh), vals_ = [.slice A5_17 x5_17.length c5_17] ∧ J17_ x5_17 ∧ Inv [] G w L H w2 ∧ Le L13_ L ∧ Le H13_ H ∧ OwnS w.heap.size 5 Gh.no H w2 A5_17 c5_17 x5_17 ∧ True) (fun B_ b_ => ?_) (fun B_ b_ => ?_)
   ·
    simp only [e_, Nat.reduceAdd, Nat.reduceBEq] at b_
    subst b_
    clear hr17_
    have hll17_ := Le.refl L13_
    have hhh17_ := Le.refl H13_
    refine W_block ?_
    refine W_seq_k fun K18 k18 => ?_
    refine W_region [22, 23, 7] rfl ?_
    refine ex_ h fun x19_ hx19_ h => ?_
    have ha19_ := (hs1.atS hx19_).1
    have hg19_ := (hs1.atS hx19_).2
    refine Ops_step (R_indexSl Tryd.underlying56 sz3 rfl rfl hx19_.1 hx19_.lt ha19_) rfl rfl (Ops_step (R_load ag3 rfl (hI.st _ _ hg19_)) rfl rfl (Ops_step (R_assign rfl) rfl rfl ?_))
    refine Ops_nil ?_
    refine then_n (k18 _ _ ?_)
    clear k18 K18
    refine W_seq_k fun K20 k20 => ?_
    refine W_region [8] rfl (Ops_step (R_assign rfl) rfl rfl ?_)
    refine Ops_nil ?_
    refine then_n (k20 _ _ ?_)
    clear k20 K20
    refine W_block ?_
    refine Exists.elim h fun I21_ h => Exists.elim h fun n21_ h => ?_
    have h0_ := h.1
    have hs21_ := h.2
    clear h
    refine W_loopB [7, 18, 19, 20] [5, 8] (fun m vals_ w2 => ∃ (x5_21 : List UInt8) (A5_21 : Option Addr) (c5_21 : Nat) (x8_21 : Int) (L H : Gh), vals_ = [.slice A5_21 x5_21.length c5_21, vi x8_21] ∧ I21_ m x5_21 x8_21 ∧ Inv [] G w L H w2 ∧ Le L13_ L ∧ Le H13_ H ∧ OwnS w.heap.size 5 Gh.no H w2 A5_21 c5_21 x5_21 ∧ True) n21_ _ rfl ⟨x5_13, A5_13, c5_13, 7, _, _, rfl, h0_, hI, Le.refl _, Le.refl _, ho5_13, trivial⟩ fun B_ b_ => ?_
    clear h0_
    simp only [e_, Nat.reduceAdd, Nat.reduceBEq] at b_
    subst b_
    rintro m21_ _ w21_ ⟨x5_21, A5_21, c5_21, x8_21, L21_, H21_, rfl, hJ21_, hI21_, hll21_, hhh21_, ho5_21, -⟩
    replace hI := hI21_
    clear hI21_
    have h := hs21_ m21_ x5_21 x8_21 hJ21_
    clear hs21_ hJ21_
    replace hs1 := hs1.up hhh21_
    replace hll11_ := hll11_.trans hll21_
    replace hhh11_ := hhh11_.trans hhh21_
    replace hll13_ := hll13_.trans hll21_
    replace hhh13_ := hhh13_.trans hhh21_
    replace hll17_ := hll17_.trans hll21_
    replace hhh17_ := hhh17_.trans hhh21_
    refine W_seq_k fun K22 k22 => ?_
    refine W_seq_k fun K23 k23 => ?_
    refine W_region [24, 25] rfl (Ops_step (R_move rfl) rfl rfl (Ops_step (R_geq rfl rfl) rfl rfl ?_))
    refine Ops_nil ?_
    refine then_n (k23 _ _ ?_)
    clear k23 K23
    refine W_if rfl (fun hc24_ => ?_) (fun hc24_ => ?_)
    ·
     replace h := h.1 hc24_
     refine W_skip ?_
     refine then_n (k22 _ _ ?_)
     clear k22 K22
     refine W_seq_k fun K25 k25 => ?_
     refine W_block ?_
     refine W_region [28, 29, 30, 31, 32, 33, 34, 35, 36, 5] rfl (Ops_step (R_move rfl) rfl rfl (Ops_step (R_move rfl) rfl rfl (Ops_step (R_max rfl rfl _root_.rfl) rfl rfl (Ops_step (R_move rfl) rfl rfl ?_))))
     have hk26_ := h.1
     replace h := h.2
     refine Ops_step (R_mul rfl rfl (wI hk26_.1 hk26_.2)) rfl rfl ?_
     have hk27_ := h.1
     replace h := h.2
     refine Ops_step (R_shr rfl rfl (Int.not_lt.2 hk27_) (c := shrI (max x19_ 0) (8 * x8_21)) _root_.rfl) rfl rfl ?_
     refine Ops_step (R_conv Tryd.underlying3 Tryd.underlying5 rfl (cI_8 _)) rfl rfl ?_
     have hlo28_ho5_21 := ho5_21.lt
     refine Ops_to (R_buildSlice el30 zr5 (by decide) (by decide) rfl rfl) rfl rfl ?_
     rintro _ w28_ ⟨b28_, rfl, hb28_, hB28_, hF28_⟩
     have ho28_ : OwnS w.heap.size 5 Gh.no H21_ _ (some ⟨b28_, 0, none⟩) 1 ([(UInt8.ofBitVec (BitVec.ofInt 8 (shrI (max x19_ 0) (8 * x8_21))))] : List UInt8) := OwnS.ofBlk hI.st hb28_ hB28_ (all2_sc' _) rfl (by have := hI.size; omega) (by show 1 ≤ maxLen; decide)
     replace hI := hI.fr0 hF28_
     replace ho5_21 := ho5_21.fr0 hF28_
     clear hF28_ hB28_
     have hsp28_ho5_21 : ∀ i ∈ bk (some ⟨b28_, 0, none⟩) 1, i ∉ bk A5_21 c5_21 := sep_new (fun i_ hi_ => by have := (bk_of hi_).1; simp only [blkOf, List.mem_singleton] at this; omega) hlo28_ho5_21
     have hk30_ := h.1
     replace h := h.2
     refine Ops_to (X_append (α := UInt8) (xs := x5_21) (ys := ([(UInt8.ofBitVec (BitVec.ofInt 8 (shrI (max x19_ 0) (8 * x8_21))))] : List UInt8)) el30 rfl rfl ho5_21 (Srcs.sc (Srcs.ofOwn Tryd.underlying30 ho28_ (by decide))) hI.st hk30_ (by decide) hI.size) rfl rfl ?_
     rintro _ w29_ ⟨A29_, c29_, rfl, ho29_, hF29_, hbk29_⟩
     clear hbk29_
     replace hI := hI.tok hF29_ ho5_21.out (ho5_21.new (Nat.le_refl _))
     clear hF29_ ho5_21
     refine Ops_step (R_assign rfl) rfl rfl ?_
     refine Ops_nil ?_
     refine block_n ?_
     refine then_n (k25 _ _ ?_)
     clear k25 K25
     refine W_keepB [5, 7, 8, 18, 19, 20] fun B_ b_ => ?_
     simp only [e_, Nat.reduceAdd, Nat.reduceBEq] at b_
     subst b_
     refine W_region [26, 27, 8] rfl (Ops_step (R_move rfl) rfl rfl ?_)
     have hk32_ := h.1
     replace h := h.2
     refine Ops_step (R_sub rfl rfl (wI hk32_.1 hk32_.2)) rfl rfl (Ops_step (R_assign rfl) rfl rfl ?_)
     refine Ops_nil ?_
     refine then_n ?_
     exact h.elim fun m_ h => ⟨m_, _, h.1, rfl, ⟨(x5_21 ++ ([(UInt8.ofBitVec (BitVec.ofInt 8 (shrI (max x19_ 0) (8 * x8_21))))] : List UInt8)), A29_, c29_, (x8_21 - 1), _, _, rfl, h.2, hI, hll21_, hhh21_, ho29_, trivial⟩, ⟨rfl, rfl, rfl, rfl, trivial⟩⟩
    ·
     replace h := h.2 hc24_
     refine W_exit ?_
     refine then_exit ?_
     clear k22 K22
     refine then_exit ?_
     refine block_exit ?_
     refine block_n ?_
     refine then_n ?_
     exact ⟨_, rfl, ⟨x5_21, A5_21, c5_21, _, _, rfl, h, hI, hll17_, hhh17_, ho5_21, trivial⟩, ⟨rfl, rfl, rfl, trivial⟩⟩
   ·
    simp only [e_, Nat.reduceAdd, Nat.reduceBEq] at b_
    subst b_
    clear h
    rintro _ w17_ ⟨x5_17, A5_17, c5_17, L17_, H17_, rfl, hJ17_, hI17_, hll17_, hhh17_, ho5_17, -⟩
    replace hI := hI17_
    clear hI17_
    have h := hr17_ x5_17 hJ17_
    clear hr17_ hJ17_
    replace hs1 := hs1.up hhh17_
    replace hll11_ := hll11_.trans hll17_
    replace hhh11_ := hhh11_.trans hhh17_
    replace hll13_ := hll13_.trans hll17_
    replace hhh13_ := hhh13_.trans hhh17_
    refine W_region [37, 20] rfl ?_
    have hk33_ := h.1
    replace h := h.2
    refine Ops_step (R_add rfl rfl (wI hk33_.1 hk33_.2)) rfl rfl (Ops_step (R_move rfl) rfl rfl ?_)
    refine Ops_nil ?_
    refine then_n ?_
    exact h.elim fun m_ h => ⟨m_, _, h.1, rfl, ⟨x5_17, A5_17, c5_17, (x20_13 + 1), _, _, rfl, h.2, hI, hll13_, hhh13_, ho5_17, trivial⟩, ⟨rfl, rfl, trivial⟩⟩
  ·
   replace h := h.2 hc16_
   refine W_exit ?_
   refine then_exit ?_
   clear k15 K15
   refine then_exit ?_
   refine block_exit ?_
   refine then_n ?_
   exact ⟨_, rfl, ⟨x5_13, A5_13, c5_13, _, _, rfl, h, hI, hll11_, hhh11_, ho5_13, trivial⟩, trivial⟩
 ·
  simp only [e_, Nat.reduceAdd, Nat.reduceBEq] at b_
  subst b_
  clear h
  rintro _ w11_ ⟨x5_11, A5_11, c5_11, L11_, H11_, rfl, hJ11_, hI11_, hll11_, hhh11_, ho5_11, -⟩
  replace hI := hI11_
  clear hI11_
  have h := hr11_ x5_11 hJ11_
  clear hr11_ hJ11_
  refine W_seq_k fun K34 k34 => ?_
  refine W_region [38, 4] rfl (Ops_step (R_move rfl) rfl rfl (Ops_step (R_assign rfl) rfl rfl ?_))
  refine Ops_nil ?_
  refine then_n (k34 _ _ ?_)
  clear k34 K34
  refine W_ret ?_
  refine ⟨_, ⟨_, _, rfl, rfl, rfl⟩, ?_⟩
  exact ⟨A5_11, c5_11, x5_11, _, _, rfl, hI, (ho5_11.hl (Le.no _)), h⟩

theorem octet_PutBytes_ok {G : Gh} {w : World} (hS : St G w) (hg : GL G) {A0 : Option Addr} {c0 : Nat} {x0 : List UInt8} (hc0 : x0.length ≤ c0) (hs0 : Sl G A0 x0) {A1 : Option Addr} {c1 : Nat} {x1 : List UInt8} (hc1 : x1.length ≤ c1) (hs1 : Sl G A1 x1) {Q : (List UInt8) → Prop} (h : octet_PutBytes x0 x1 Q) : Calls Tryd.prog 77 #[.slice A0 x0.length c0, .slice A1 x1.length c1] w fun e w2 => ∃ (A0 : Option Addr) (c0 : Nat) (r0 : List UInt8) (L H : Gh), e = .returned (.slice A0 r0.length c0) ∧ Inv [] G w L H w2 ∧ OwnS w.heap.size 5 L H w2 A0 c0 r0 ∧ Q r0 := by
 unfold octet_PutBytes at h
 have hI := Inv.start (M := []) hS
 refine calls_W 12 Tryd.func77 rfl Tryd.ntmps77 rfl [.tmp 4] rfl ?_
 refine W_seq_k fun K1 k1 => ?_
 refine W_region [4] rfl (Ops_step (R_assign rfl) rfl rfl ?_)
 refine Ops_nil ?_
 refine then_n (k1 _ _ ?_)
 clear k1 K1
 refine W_seq_k fun K2 k2 => ?_
 refine W_region [5, 6, 7, 8, 9, 10, 11, 4] rfl (Ops_step (R_move rfl) rfl rfl (Ops_step (R_move rfl) rfl rfl (Ops_step (R_len Tryd.underlying30 rfl rfl) rfl rfl ?_)))
 refine Ops_to (R_buildSlice el56 zr3 (by decide) (by decide) rfl rfl) rfl rfl ?_
 rintro _ w3_ ⟨b3_, rfl, hb3_, hB3_, hF3_⟩
 have ho3_ : OwnS w.heap.size 3 Gh.no G _ (some ⟨b3_, 0, none⟩) 1 ([(x1.length : Int)] : List Int) := OwnS.ofBlk hI.st hb3_ hB3_ (all2_sc' _) rfl (by have := hI.size; omega) (by show 1 ≤ maxLen; decide)
 replace hI := hI.fr0 hF3_
 clear hF3_ hB3_
 refine Exists.elim (ho3_.lend hI.st (Le.no _)) fun Hb4_0_ hb4_0_ => ?_
 refine Ops_call (C_func bd52 rfl) rfl rfl ?_
 refine (octet_Put_ok (x0 := x0) (x1 := ([(x1.length : Int)] : List Int)) hb4_0_.1 (hg.up (hI.le.trans hb4_0_.2.1)) hc0 (hs0.up hb4_0_.2.1) (Nat.le_refl _) hb4_0_.2.2 h).mono ?_
 rintro _ w4_ ⟨A4_0, c4_0, r4_0, L4_, H4_, rfl, hI4_, ho4_0, h⟩
 refine Exists.elim (hI.callB hb4_0_.2.1 hI4_ (by simp)) fun L40_ h4_ => Exists.elim h4_ fun H40_ h4_ => ?_
 have hz4_ := hI.size
 replace hI := h4_.1
 have u4_ := h4_.2.1
 have hl4_ := h4_.2.2.1
 have hh4_ := h4_.2.2.2
 clear h4_
 replace hs1 := hs1.up u4_.hh
 replace ho4_0 := OwnS.backS ho4_0 hz4_ hh4_
 clear hI4_ u4_ hl4_
 refine ⟨_, rfl, ?_⟩
 refine Ops_step (R_move rfl) rfl rfl ?_
 have hk6_ := h.1
 replace h := h.2
 refine Ops_to (X_append (α := UInt8) (xs := r4_0) (ys := x1) el30 rfl rfl ho4_0 (Srcs.sc (Srcs.ofSl Tryd.underlying30 hs1 hI.st (by decide))) hI.st hk6_ (by decide) hI.size) rfl rfl ?_
 rintro _ w5_ ⟨A5_, c5_, rfl, ho5_, hF5_, hbk5_⟩
 clear hbk5_
 replace hI := hI.tok hF5_ ho4_0.out (ho4_0.new (Nat.le_refl _))
 clear hF5_ ho4_0
 refine Ops_step (R_assign rfl) rfl rfl ?_
 refine Ops_nil ?_
 refine then_n (k2 _ _ ?_)
 clear k2 K2
 refine W_keepB [4] fun B_ b_ => ?_
 simp only [e_, Nat.reduceAdd, Nat.reduceBEq] at b_
 subst b_
 refine W_ret ?_
 refine ⟨_, ⟨_, _, rfl, rfl, rfl⟩, ?_⟩
 exact ⟨A5_, c5_, (r4_0 ++ x1), _, _, rfl, hI, (ho5_.hl (Le.no _)), h⟩

theorem octet_PutText_ok {G : Gh} {w : World} (hS : St G w) (hg : GL G) {A0 : Option Addr} {c0 : Nat} {x0 : List UInt8} (hc0 : x0.length ≤ c0) (hs0 : Sl G A0 x0) {x1 : Str} {Q : (List UInt8) → Prop} (h : octet_PutText x0 x1 Q) : Calls Tryd.prog 53 #[.slice A0 x0.length c0, vs x1] w fun e w2 => ∃ (A0 : Option Addr) (c0 : Nat) (r0 : List UInt8) (L H : Gh), e = .returned (.slice A0 r0.length c0) ∧ Inv [] G w L H w2 ∧ OwnS w.heap.size 5 L H w2 A0 c0 r0 ∧ Q r0 := by
 unfold octet_PutText at h
 have hI := Inv.start (M := []) hS
 refine calls_W 9 Tryd.func53 rfl Tryd.ntmps53 rfl [.tmp 4] rfl ?_
 refine W_seq_k fun K1 k1 => ?_
 refine W_region [4] rfl (Ops_step (R_assign rfl) rfl rfl ?_)
 refine Ops_nil ?_
 refine then_n (k1 _ _ ?_)
 clear k1 K1
 refine W_seq_k fun K2 k2 => ?_
 refine W_region [5, 6, 7, 8, 4] rfl (Ops_step (R_move rfl) rfl rfl (Ops_step (R_move rfl) rfl rfl ?_))
 refine Ops_to (X_strBytes (s := x1) Tryd.underlying9 Tryd.underlying30 Tryd.underlying5 rfl) rfl rfl ?_
 rintro _ w3_ ⟨A3_, c3_, rfl, hc3_, hR3_, hn3_, hF3_⟩
 refine Exists.elim (Inv.newRd hI hF3_ hR3_ hn3_) fun L3_ h3_ => Exists.elim h3_ fun H3_ h3_ => ?_
 replace hI := h3_.1
 have u3_ := h3_.2.1
 have hs3_ := h3_.2.2
 replace hs0 := hs0.up u3_.hh
 clear h3_ u3_ hR3_ hn3_ hF3_
 refine Ops_call (C_func bd77 rfl) rfl rfl ?_
 refine (octet_PutBytes_ok (x0 := x0) (x1 := x1.b) hI.st (hg.up hI.le) hc0 hs0 hc3_ (hs3_.up hI.sub) h).mono ?_
 rintro _ w4_ ⟨A4_0, c4_0, r4_0, L4_, H4_, rfl, hI4_, ho4_0, h⟩
 refine Exists.elim (hI.call hI4_ (by simp)) fun L40_ h4_ => ?_
 have hz4_ := hI.size
 replace hI := h4_.1
 have u4_ := h4_.2.1
 have hl4_ := h4_.2.2
 clear h4_
 replace ho4_0 := OwnS.backS ho4_0 hz4_ (Le.refl _)
 clear hI4_ u4_ hl4_
 refine ⟨_, rfl, ?_⟩
 refine Ops_step (R_assign rfl) rfl rfl ?_
 refine Ops_nil ?_
 refine then_n (k2 _ _ ?_)
 clear k2 K2
 refine W_keepB [4] fun B_ b_ => ?_
 simp only [e_, Nat.reduceAdd, Nat.reduceBEq] at b_
 subst b_
 refine W_ret ?_
 refine ⟨_, ⟨_, _, rfl, rfl, rfl⟩, ?_⟩
 exact ⟨A4_0, c4_0, r4_0, _, _, rfl, hI, (ho4_0.hl (Le.no _)), h⟩

theorem sealskinref08_left_ok {G : Gh} {w : World} (hS : St G w) (hg : GL G) {x0 : BitVec 32} {x1 : Int} {Q : (BitVec 32) → Prop} (h : sealskinref08_left x0 x1 Q) : Calls Tryd.prog 105 #[w32 x0, vi x1] w fun e w2 => ∃ (r0 : BitVec 32) (L H : Gh), e = .returned (w32 r0) ∧ Inv [] G w L H w2 ∧ Q r0 := by
 unfold sealskinref08_left at h
 have hI := Inv.start (M := []) hS
 refine calls_W 15 Tryd.func105 rfl Tryd.ntmps105 rfl [.tmp 4] rfl ?_
 refine W_seq_k fun K1 k1 => ?_
 refine W_region [4] rfl (Ops_step (R_assign rfl) rfl rfl ?_)
 refine Ops_nil ?_
 refine then_n (k1 _ _ ?_)
 clear k1 K1
 refine ex_ h fun J2_ hr2_ h => ?_
 refine W_seq_join [] [0] (fun vals_ w2 => ∃ (x0_2 : BitVec 32) (L H : Gh), vals_ = [w32 x0_2] ∧ J2_ x0_2 ∧ Inv [] G w L H w2 ∧ Le Gh.no L ∧ Le G H ∧ True) (fun B_ b_ => ?_) (fun B_ b_ => ?_)
 ·
  simp only [e_, Nat.reduceAdd, Nat.reduceBEq] at b_
  subst b_
  clear hr2_
  have hll2_ := Le.refl Gh.no
  have hhh2_ := Le.refl G
  refine W_seq_k fun K3 k3 => ?_
  refine W_region [5, 6] rfl (Ops_step (R_move rfl) rfl rfl (Ops_step (R_move rfl) rfl rfl ?_))
  refine Ops_nil ?_
  refine then_n (k3 _ _ ?_)
  clear k3 K3
  refine W_block ?_
  refine Exists.elim h fun I4_ h => Exists.elim h fun n4_ h => ?_
  have h0_ := h.1
  have hs4_ := h.2
  clear h
  refine W_loopB [5] [0, 6] (fun m vals_ w2 => ∃ (x0_4 : BitVec 32) (x6_4 : Int) (L H : Gh), vals_ = [w32 x0_4, vi x6_4] ∧ I4_ m x0_4 x6_4 ∧ Inv [] G w L H w2 ∧ Le Gh.no L ∧ Le G H ∧ True) n4_ _ rfl ⟨x0, 0, _, _, rfl, h0_, hI, Le.refl _, Le.refl _, trivial⟩ fun B_ b_ => ?_
  clear h0_
  simp only [e_, Nat.reduceAdd, Nat.reduceBEq] at b_
  subst b_
  rintro m4_ _ w4_ ⟨x0_4, x6_4, L4_, H4_, rfl, hJ4_, hI4_, hll4_, hhh4_, -⟩
  replace hI := hI4_
  clear hI4_
  have h := hs4_ m4_ x0_4 x6_4 hJ4_
  clear hs4_ hJ4_
  replace hll2_ := hll2_.trans hll4_
  replace hhh2_ := hhh2_.trans hhh4_
  refine W_seq_k fun K5 k5 => ?_
  refine W_region [7] rfl (Ops_step (R_lss rfl rfl) rfl rfl ?_)
  refine Ops_nil ?_
  refine then_n (k5 _ _ ?_)
  clear k5 K5
  refine W_seq_k fun K6 k6 => ?_
  refine W_if rfl (fun hc7_ => ?_) (fun hc7_ => ?_)
  ·
   replace h := h.1 hc7_
   refine W_skip ?_
   refine then_n (k6 _ _ ?_)
   clear k6 K6
   refine W_seq_k fun K8 k8 => ?_
   refine W_block ?_
   refine W_region [8, 9, 10, 11, 12, 0] rfl (Ops_step (R_move rfl) rfl rfl (Ops_step (R_mul rfl rfl (mul32 (2#32) x0_4)) rfl rfl (Ops_step (R_move rfl) rfl rfl (Ops_step (R_quo rfl rfl (by decide) (quo32 x0_4 (2147483648#32))) rfl rfl ?_))))
   refine Ops_step (R_add rfl rfl (add32 ((2#32) * x0_4) (x0_4 / (2147483648#32)))) rfl rfl (Ops_step (R_assign rfl) rfl rfl ?_)
   refine Ops_nil ?_
   refine block_n ?_
   refine then_n (k8 _ _ ?_)
   clear k8 K8
   refine W_keepB [0, 5, 6] fun B_ b_ => ?_
   simp only [e_, Nat.reduceAdd, Nat.reduceBEq] at b_
   subst b_
   refine W_region [13, 6] rfl ?_
   have hk10_ := h.1
   replace h := h.2
   refine Ops_step (R_add rfl rfl (wI hk10_.1 hk10_.2)) rfl rfl (Ops_step (R_move rfl) rfl rfl ?_)
   refine Ops_nil ?_
   refine then_n ?_
   exact h.elim fun m_ h => ⟨m_, _, h.1, rfl, ⟨(((2#32) * x0_4) + (x0_4 / (2147483648#32))), (x6_4 + 1), _, _, rfl, h.2, hI, hll4_, hhh4_, trivial⟩, ⟨rfl, trivial⟩⟩
  ·
   replace h := h.2 hc7_
   refine W_exit ?_
   refine then_exit ?_
   clear k6 K6
   refine then_exit ?_
   refine block_exit ?_
   refine then_n ?_
   exact ⟨_, rfl, ⟨x0_4, _, _, rfl, h, hI, hll2_, hhh2_, trivial⟩, trivial⟩
 ·
  simp only [e_, Nat.reduceAdd, Nat.reduceBEq] at b_
  subst b_
  clear h
  rintro _ w2_ ⟨x0_2, L2_, H2_, rfl, hJ2_, hI2_, hll2_, hhh2_, -⟩
  replace hI := hI2_
  clear hI2_
  have h := hr2_ x0_2 hJ2_
  clear hr2_ hJ2_
  refine W_seq_k fun K11 k11 => ?_
  refine W_region [14, 4] rfl (Ops_step (R_move rfl) rfl rfl (Ops_step (R_assign rfl) rfl rfl ?_))
  refine Ops_nil ?_
  refine then_n (k11 _ _ ?_)
  clear k11 K11
  refine W_ret ?_
  refine ⟨_, ⟨_, _, rfl, rfl, rfl⟩, ?_⟩
  exact ⟨x0_2, _, _, rfl, hI, h⟩

theorem sealskinref08_quarter_ok {G : Gh} {w : World} (hS : St G w) (hg : GL G) {x0 : Arr 16 (BitVec 32)} (hn0 : x0.l.length = 16) {x1 : Int} {x2 : Int} {x3 : Int} {x4 : Int} {Q : (Arr 16 (BitVec 32)) → Prop} (h : sealskinref08_quarter x0 x1 x2 x3 x4 Q) : Calls Tryd.prog 98 #[.agg (x0.l.map w32).toArray, vi x1, vi x2, vi x3, vi x4] w fun e w2 => ∃ (r0 : Arr 16 (BitVec 32)) (L H : Gh), e = .returned (.agg (r0.l.map w32).toArray) ∧ Inv [] G w L H w2 ∧ r0.l.length = 16 ∧ Q r0 := by
 unfold sealskinref08_quarter at h
 have hI := Inv.start (M := []) hS
 refine calls_W 88 Tryd.func98 rfl Tryd.ntmps98 rfl [.cell 10 120] rfl ?_
 refine W_seq_k fun K1 k1 => ?_
 refine W_region [5, 10] rfl ?_
 have hI0_ := hI
 refine Ops_to (R_box rfl) rfl rfl ?_
 rintro _ w2_ ⟨b2_, rfl, hb2_, hB2_, hF2_⟩
 replace hI := hI.fr0 hF2_
 have ht2_ : Tok G _ b2_ 120 (x0.l.map w32) := ⟨hB2_.to rfl, Out.ge hI0_.st (Nat.le_of_eq hb2_.symm)⟩
 have hge_b2_ : w.heap.size ≤ b2_ := hb2_ ▸ hI0_.size
 clear hB2_ hb2_ hI0_ hF2_
 have hlo3_b2_ := ht2_.blk.lt
 have hI0_ := hI
 refine Ops_to (R_alloc zr120) rfl rfl ?_
 rintro _ w3_ ⟨b3_, rfl, hb3_, hB3_, hF3_⟩
 replace hI := hI.fr0 hF3_
 replace ht2_ := ht2_.fr0 hF3_
 have ht3_ : Tok G _ b3_ 120 ((Arr.mk (n := 16) (List.replicate 16 (0#32))).l.map w32) := ⟨hB3_.to (by rw [List.map_replicate]; rfl), Out.ge hI0_.st (Nat.le_of_eq hb3_.symm)⟩
 have hge_b3_ : w.heap.size ≤ b3_ := hb3_ ▸ hI0_.size
 have hne3_b2_ : b2_ ≠ b3_ := fun e_ => absurd hlo3_b2_ (by omega)
 clear hB3_ hb3_ hI0_ hF3_
 refine Ops_nil ?_
 refine then_n (k1 _ _ ?_)
 clear k1 K1
 refine W_seq_k fun K4 k4 => ?_
 refine W_drawF [11, 12, 13, 14, 15, 16, 17, 18, 19, none] [(0, true), (1, true), (2, true), (3, true), (4, true), (5, true), (6, true), (7, true), (8, true), (9, false)] TFtA.hm rfl (by kernel_rfl) fun ops5_ w5_ hops5_ hF5_ => ?_
 replace hI := hI.fr0 hF5_
 replace ht2_ := ht2_.fr0 hF5_
 replace ht3_ := ht3_.fr0 hF5_
 clear hF5_
 refine HSp (R_move rfl) rfl rfl (HSp (R_move rfl) rfl rfl ?_)
 refine ex_ h fun x6_ hx6_ h => ?_
 refine HSp (R_indexArr Tryd.underlying120 sz119 rfl rfl hx6_.1 (hx6_.ltn hn0)) rfl rfl ?_
 refine HS_loadB ag119 rfl ht2_.blk (arr_at hx6_) rfl rfl ?_
 refine HSp (R_move rfl) rfl rfl ?_
 refine ex_ h fun x7_ hx7_ h => ?_
 refine HSp (R_indexArr Tryd.underlying120 sz119 rfl rfl hx7_.1 (hx7_.ltn hn0)) rfl rfl ?_
 refine HS_loadB ag119 rfl ht2_.blk (arr_at hx7_) rfl rfl ?_
 refine HSp (R_add rfl rfl (add32 x6_ x7_)) rfl rfl ?_
 refine ex_ h fun x8_ hx8_ h => ?_
 refine HSp (R_indexArr Tryd.underlying120 sz119 rfl rfl hx8_.1 (hx8_.ltn hn0)) rfl rfl ?_
 refine HS_to0 [] _ rfl (by rw [hops5_]; kernel_rfl) (R_store sz119 rfl rfl ht2_.blk (arr_lt hx8_) rfl) rfl ?_
 rintro _ w9_ ⟨hB9_, hF9_⟩
 replace hI := hI.tok hF9_ (out1 ht2_.out) (new1 hge_b2_)
 replace ht3_ := ht3_.fr hF9_ (ne1 (Ne.symm hne3_b2_))
 replace ht2_ : Tok G _ b2_ 120 ((Arr.mk (n := 16) (put x0.l x1 (x6_ + x7_))).l.map w32) := ⟨hB9_.to arr_put, ht2_.out⟩
 clear hF9_ hB9_
 refine ⟨trivial, ?_⟩
 refine HS_nil ?_
 clear hops5_
 refine then_n (k4 _ _ ?_)
 clear k4 K4
 refine W_keepB [1, 2, 3, 4, 5, 10] fun B_ b_ => ?_
 simp only [e_, Nat.reduceAdd, Nat.reduceBEq] at b_
 subst b_
 refine W_seq_k fun K11 k11 => ?_
 refine W_drawF [20, 21, 22, 23, 24, 25, 26, 27, 28, 29, none] [(0, true), (1, true), (2, true), (3, true), (4, true), (5, true), (6, true), (7, true), (8, false), (9, true), (10, false)] TFtA.hm rfl (by kernel_rfl) fun ops12_ w12_ hops12_ hF12_ => ?_
 replace hI := hI.fr0 hF12_
 replace ht2_ := ht2_.fr0 hF12_
 replace ht3_ := ht3_.fr0 hF12_
 clear hF12_
 refine HSp (R_move rfl) rfl rfl (HSp (R_move rfl) rfl rfl ?_)
 refine ex_ h fun x13_ hx13_ h => ?_
 refine HSp (R_indexArr Tryd.underlying120 sz119 rfl rfl hx13_.1 (hx13_.ltn (put_len hn0))) rfl rfl ?_
 refine HS_loadB ag119 rfl ht2_.blk (arr_at hx13_) rfl rfl ?_
 refine HSp (R_move rfl) rfl rfl ?_
 refine ex_ h fun x14_ hx14_ h => ?_
 refine HSp (R_indexArr Tryd.underlying120 sz119 rfl rfl hx14_.1 (hx14_.ltn (put_len hn0))) rfl rfl ?_
 refine HS_loadB ag119 rfl ht2_.blk (arr_at hx14_) rfl rfl ?_
 refine HSp (R_xor rfl rfl (xor32 x13_ x14_)) rfl rfl ?_
 refine HS_call [] _ rfl (by rw [hops12_]; kernel_rfl) (C_func bd105 rfl) rfl rfl ?_
 refine (sealskinref08_left_ok (x0 := (x13_ ^^^ x14_)) (x1 := 16) hI.st (hg.up hI.le)  h).mono ?_
 rintro _ w15_ ⟨r15_0, L15_, H15_, rfl, hI15_, h⟩
 refine Exists.elim (hI.call hI15_ (by simp)) fun L150_ h15_ => ?_
 have hz15_ := hI.size
 replace hI := h15_.1
 have u15_ := h15_.2.1
 have hl15_ := h15_.2.2
 clear h15_
 replace ht2_ := ht2_.up u15_ (by simp)
 replace ht3_ := ht3_.up u15_ (by simp)
 clear hI15_ u15_ hl15_
 refine ⟨_, rfl, trivial, ?_⟩
 refine ex_ h fun x16_ hx16_ h => ?_
 refine HSp (R_indexArr Tryd.underlying120 sz119 rfl rfl hx16_.1 (hx16_.ltn (put_len hn0))) rfl rfl ?_
 refine HS_to0 [] _ rfl (by rw [hops12_]; kernel_rfl) (R_store sz119 rfl rfl ht2_.blk (arr_lt hx16_) rfl) rfl ?_
 rintro _ w17_ ⟨hB17_, hF17_⟩
 replace hI := hI.tok hF17_ (out1 ht2_.out) (new1 hge_b2_)
 replace ht3_ := ht3_.fr hF17_ (ne1 (Ne.symm hne3_b2_))
 replace ht2_ : Tok H15_ _ b2_ 120 ((Arr.mk (n := 16) (put (Arr.mk (n := 16) (put x0.l x1 (x6_ + x7_))).l x4 r15_0)).l.map w32) := ⟨hB17_.to arr_put, ht2_.out⟩
 clear hF17_ hB17_
 refine ⟨trivial, ?_⟩
 refine HS_nil ?_
 clear hops12_
 refine then_n (k11 _ _ ?_)
 clear k11 K11
 refine W_keepB [1, 2, 3, 4, 5, 10] fun B_ b_ => ?_
 simp only [e_, Nat.reduceAdd, Nat.reduceBEq] at b_
 subst b_
 refine W_seq_k fun K19 k19 => ?_
 refine W_drawF [30, 31, 32, 33, 34, 35, 36, 37, 38, none] [(0, true), (1, true), (2, true), (3, true), (4, true), (5, true), (6, true), (7, true), (8, true), (9, false)] TFtA.hm rfl (by kernel_rfl) fun ops20_ w20_ hops20_ hF20_ => ?_
 replace hI := hI.fr0 hF20_
 replace ht2_ := ht2_.fr0 hF20_
 replace ht3_ := ht3_.fr0 hF20_
 clear hF20_
 refine HSp (R_move rfl) rfl rfl (HSp (R_move rfl) rfl rfl ?_)
 refine ex_ h fun x21_ hx21_ h => ?_
 refine HSp (R_indexArr Tryd.underlying120 sz119 rfl rfl hx21_.1 (hx21_.ltn (put_len (put_len hn0)))) rfl rfl ?_
 refine HS_loadB ag119 rfl ht2_.blk (arr_at hx21_) rfl rfl ?_
 refine HSp (R_move rfl) rfl rfl ?_
 refine ex_ h fun x22_ hx22_ h => ?_
 refine HSp (R_indexArr Tryd.underlying120 sz119 rfl rfl hx22_.1 (hx22_.ltn (put_len (put_len hn0)))) rfl rfl ?_
 refine HS_loadB ag119 rfl ht2_.blk (arr_at hx22_) rfl rfl ?_
 refine HSp (R_add rfl rfl (add32 x21_ x22_)) rfl rfl ?_
 refine ex_ h fun x23_ hx23_ h => ?_
 refine HSp (R_indexArr Tryd.underlying120 sz119 rfl rfl hx23_.1 (hx23_.ltn (put_len (put_len hn0)))) rfl rfl ?_
 refine HS_to0 [] _ rfl (by rw [hops20_]; kernel_rfl) (R_store sz119 rfl rfl ht2_.blk (arr_lt hx23_) rfl) rfl ?_
 rintro _ w24_ ⟨hB24_, hF24_⟩
 replace hI := hI.tok hF24_ (out1 ht2_.out) (new1 hge_b2_)
 replace ht3_ := ht3_.fr hF24_ (ne1 (Ne.symm hne3_b2_))
 replace ht2_ : Tok H15_ _ b2_ 120 ((Arr.mk (n := 16) (put (Arr.mk (n := 16) (put (Arr.mk (n := 16) (put x0.l x1 (x6_ + x7_))).l x4 r15_0)).l x3 (x21_ + x22_))).l.map w32) := ⟨hB24_.to arr_put, ht2_.out⟩
 clear hF24_ hB24_
 refine ⟨trivial, ?_⟩
 refine HS_nil ?_
 clear hops20_
 refine then_n (k19 _ _ ?_)
 clear k19 K19
 refine W_keepB [1, 2, 3, 4, 5, 10] fun B_ b_ => ?_
 simp only [e_, Nat.reduceAdd, Nat.reduceBEq] at b_
 subst b_
 refine W_seq_k fun K26 k26 => ?_
 refine W_drawF [39, 40, 41, 42, 43, 44, 45, 46, 47, 48, none] [(0, true), (1, true), (2, true), (3, true), (4, true), (5, true), (6, true), (7, true), (8, false), (9, true), (10, false)] TFtA.hm rfl (by kernel_rfl) fun ops27_ w27_ hops27_ hF27_ => ?_
 replace hI := hI.fr0 hF27_
 replace ht2_ := ht2_.fr0 hF27_
 replace ht3_ := ht3_.fr0 hF27_
 clear hF27_
 refine HSp (R_move rfl) rfl rfl (HSp (R_move rfl) rfl rfl ?_)
 refine ex_ h fun x28_ hx28_ h => ?_
 refine HSp (R_indexArr Tryd.underlying120 sz119 rfl rfl hx28_.1 (hx28_.ltn (put_len (put_len (put_len hn0))))) rfl rfl ?_
 refine HS_loadB ag119 rfl ht2_.blk (arr_at hx28_) rfl rfl ?_
 refine HSp (R_move rfl) rfl rfl ?_
 refine ex_ h fun x29_ hx29_ h => ?_
 refine HSp (R_indexArr Tryd.underlying120 sz119 rfl rfl hx29_.1 (hx29_.ltn (put_len (put_len (put_len hn0))))) rfl rfl ?_
 refine HS_loadB ag119 rfl ht2_.blk (arr_at hx29_) rfl rfl ?_
 refine HSp (R_xor rfl rfl (xor32 x28_ x29_)) rfl rfl ?_
 refine HS_call [] _ rfl (by rw [hops27_]; kernel_rfl) (C_func bd105 rfl) rfl rfl ?_
 refine (sealskinref08_left_ok (x0 := (x28_ ^^^ x29_)) (x1 := 12) hI.st (hg.up hI.le)  h).mono ?_
 rintro _ w30_ ⟨r30_0, L30_, H30_, rfl, hI30_, h⟩
 refine Exists.elim (hI.call hI30_ (by simp)) fun L300_ h30_ => ?_
 have hz30_ := hI.size
 replace hI := h30_.1
 have u30_ := h30_.2.1
 have hl30_ := h30_.2.2
 clear h30_
 replace ht2_ := ht2_.up u30_ (by simp)
 replace ht3_ := ht3_.up u30_ (by simp)
 clear hI30_ u30_ hl30_
 refine ⟨_, rfl, trivial, ?_⟩
 refine ex_ h fun x31_ hx31_ h => ?_
 refine HSp (R_indexArr Tryd.underlying120 sz119 rfl rfl hx31_.1 (hx31_.ltn (put_len (put_len (put_len hn0))))) rfl rfl ?_
 refine HS_to0 [] _ rfl (by rw [hops27_]; kernel_rfl) (R_store sz119 rfl rfl ht2_.blk (arr_lt hx31_) rfl) rfl ?_
 rintro _ w32_ ⟨hB32_, hF32_⟩
 replace hI := hI.tok hF32_ (out1 ht2_.out) (new1 hge_b2_)
 replace ht3_ := ht3_.fr hF32_ (ne1 (Ne.symm hne3_b2_))
 replace ht2_ : Tok H30_ _ b2_ 120 ((Arr.mk (n := 16) (put (Arr.mk (n := 16) (put (Arr.mk (n := 16) (put (Arr.mk (n := 16) (put x0.l x1 (x6_ + x7_))).l x4 r15_0)).l x3 (x21_ + x22_))).l x2 r30_0)).l.map w32) := ⟨hB32_.to arr_put, ht2_.out⟩
 clear hF32_ hB32_
 refine ⟨trivial, ?_⟩
 refine HS_nil ?_
 clear hops27_
 refine then_n (k26 _ _ ?_)
 clear k26 K26
 refine W_keepB [1, 2, 3, 4, 5, 10] fun B_ b_ => ?_
 simp only [e_, Nat.reduceAdd, Nat.reduceBEq] at b_
 subst b_
 refine W_seq_k fun K34 k34 => ?_
 refine W_drawF [49, 50, 51, 52, 53, 54, 55, 56, 57, none] [(0, true), (1, true), (2, true), (3, true), (4, true), (5, true), (6, true), (7, true), (8, true), (9, false)] TFtA.hm rfl (by kernel_rfl) fun ops35_ w35_ hops35_ hF35_ => ?_
 replace hI := hI.fr0 hF35_
 replace ht2_ := ht2_.fr0 hF35_
 replace ht3_ := ht3_.fr0 hF35_
 clear hF35_
 refine HSp (R_move rfl) rfl rfl (HSp (R_move rfl) rfl rfl ?_)
 refine ex_ h fun x36_ hx36_ h => ?_
 refine HSp (R_indexArr Tryd.underlying120 sz119 rfl rfl hx36_.1 (hx36_.ltn (put_len (put_len (put_len (put_len hn0)))))) rfl rfl ?_
 refine HS_loadB ag119 rfl ht2_.blk (arr_at hx36_) rfl rfl ?_
 refine HSp (R_move rfl) rfl rfl ?_
 refine ex_ h fun x37_ hx37_ h => ?_
 refine HSp (R_indexArr Tryd.underlying120 sz119 rfl rfl hx37_.1 (hx37_.ltn (put_len (put_len (put_len (put_len hn0)))))) rfl rfl ?_
 refine HS_loadB ag119 rfl ht2_.blk (arr_at hx37_) rfl rfl ?_
 refine HSp (R_add rfl rfl (add32 x36_ x37_)) rfl rfl ?_
 refine ex_ h fun x38_ hx38_ h => ?_
 refine HSp (R_indexArr Tryd.underlying120 sz119 rfl rfl hx38_.1 (hx38_.ltn (put_len (put_len (put_len (put_len hn0)))))) rfl rfl ?_
 refine HS_to0 [] _ rfl (by rw [hops35_]; kernel_rfl) (R_store sz119 rfl rfl ht2_.blk (arr_lt hx38_) rfl) rfl ?_
 rintro _ w39_ ⟨hB39_, hF39_⟩
 replace hI := hI.tok hF39_ (out1 ht2_.out) (new1 hge_b2_)
 replace ht3_ := ht3_.fr hF39_ (ne1 (Ne.symm hne3_b2_))
 replace ht2_ : Tok H30_ _ b2_ 120 ((Arr.mk (n := 16) (put (Arr.mk (n := 16) (put (Arr.mk (n := 16) (put (Arr.mk (n := 16) (put (Arr.mk (n := 16) (put x0.l x1 (x6_ + x7_))).l x4 r15_0)).l x3 (x21_ + x22_))).l x2 r30_0)).l x1 (x36_ + x37_))).l.map w32) := ⟨hB39_.to arr_put, ht2_.out⟩
 clear hF39_ hB39_
 refine ⟨trivial, ?_⟩
 refine HS_nil ?_
 clear hops35_
 refine then_n (k34 _ _ ?_)
 clear k34 K34
 refine W_keepB [1, 2, 3, 4, 5, 10] fun B_ b_ => ?_
 simp only [e_, Nat.reduceAdd, Nat.reduceBEq] at b_
 subst b_
 refine W_seq_k fun K41 k41 => ?_
 refine W_drawF [58, 59, 60, 61, 62, 63, 64, 65, 66, 67, none] [(0, true), (1, true), (2, true), (3, true), (4, true), (5, true), (6, true), (7, true), (8, false), (9, true), (10, false)] TFtA.hm rfl (by kernel_rfl) fun ops42_ w42_ hops42_ hF42_ => ?_
 replace hI := hI.fr0 hF42_
 replace ht2_ := ht2_.fr0 hF42_
 replace ht3_ := ht3_.fr0 hF42_
 clear hF42_
 refine HSp (R_move rfl) rfl rfl (HSp (R_move rfl) rfl rfl ?_)
 refine ex_ h fun x43_ hx43_ h => ?_
 refine HSp (R_indexArr Tryd.underlying120 sz119 rfl rfl hx43_.1 (hx43_.ltn (put_len (put_len (put_len (put_len (put_len hn0))))))) rfl rfl ?_
 refine HS_loadB ag119 rfl ht2_.blk (arr_at hx43_) rfl rfl ?_
 refine HSp (R_move rfl) rfl rfl ?_
 refine ex_ h fun x44_ hx44_ h => ?_
 refine HSp (R_indexArr Tryd.underlying120 sz119 rfl rfl hx44_.1 (hx44_.ltn (put_len (put_len (put_len (put_len (put_len hn0))))))) rfl rfl ?_
 refine HS_loadB ag119 rfl ht2_.blk (arr_at hx44_) rfl rfl ?_
 refine HSp (R_xor rfl rfl (xor32 x43_ x44_)) rfl rfl ?_
 refine HS_call [] _ rfl (by rw [hops42_]; kernel_rfl) (C_func bd105 rfl) rfl rfl ?_
 refine (sealskinref08_left_ok (x0 := (x43_ ^^^ x44_)) (x1 := 8) hI.st (hg.up hI.le)  h).mono ?_
 rintro _ w45_ ⟨r45_0, L45_, H45_, rfl, hI45_, h⟩
 refine Exists.elim (hI.call hI45_ (by simp)) fun L450_ h45_ => ?_
 have hz45_ := hI.size
 replace hI := h45_.1
 have u45_ := h45_.2.1
 have hl45_ := h45_.2.2
 clear h45_
 replace ht2_ := ht2_.up u45_ (by simp)
 replace ht3_ := ht3_.up u45_ (by simp)
 clear hI45_ u45_ hl45_
 refine ⟨_, rfl, trivial, ?_⟩
 refine ex_ h fun x46_ hx46_ h => ?_
 refine HSp (R_indexArr Tryd.underlying120 sz119 rfl rfl hx46_.1 (hx46_.ltn (put_len (put_len (put_len (put_len (put_len hn0))))))) rfl rfl ?_
 refine HS_to0 [] _ rfl (by rw [hops42_]; kernel_rfl) (R_store sz119 rfl rfl ht2_.blk (arr_lt hx46_) rfl) rfl ?_
 rintro _ w47_ ⟨hB47_, hF47_⟩
 replace hI := hI.tok hF47_ (out1 ht2_.out) (new1 hge_b2_)
 replace ht3_ := ht3_.fr hF47_ (ne1 (Ne.symm hne3_b2_))
 replace ht2_ : Tok H45_ _ b2_ 120 ((Arr.mk (n := 16) (put (Arr.mk (n := 16) (put (Arr.mk (n := 16) (put (Arr.mk (n := 16) (put (Arr.mk (n := 16) (put (Arr.mk (n := 16) (put x0.l x1 (x6_ + x7_))).l x4 r15_0)).l x3 (x21_ + x22_))).l x2 r30_0)).l x1 (x36_ + x37_))).l x4 r45_0)).l.map w32) := ⟨hB47_.to arr_put, ht2_.out⟩
 clear hF47_ hB47_
 refine ⟨trivial, ?_⟩
 refine HS_nil ?_
 clear hops42_
 refine then_n (k41 _ _ ?_)
 clear k41 K41
 refine W_keepB [2, 3, 4, 5, 10] fun B_ b_ => ?_
 simp only [e_, Nat.reduceAdd, Nat.reduceBEq] at b_
 subst b_
 refine W_seq_k fun K49 k49 => ?_
 refine W_drawF [68, 69, 70, 71, 72, 73, 74, 75, 76, none] [(0, true), (1, true), (2, true), (3, true), (4, true), (5, true), (6, true), (7, true), (8, true), (9, false)] TFtA.hm rfl (by kernel_rfl) fun ops50_ w50_ hops50_ hF50_ => ?_
 replace hI := hI.fr0 hF50_
 replace ht2_ := ht2_.fr0 hF50_
 replace ht3_ := ht3_.fr0 hF50_
 clear hF50_
 refine HSp (R_move rfl) rfl rfl (HSp (R_move rfl) rfl rfl ?_)
 refine ex_ h fun x51_ hx51_ h => ?_
 refine HSp (R_indexArr Tryd.underlying120 sz119 rfl rfl hx51_.1 (hx51_.ltn (put_len (put_len (put_len (put_len (put_len (put_len hn0)))))))) rfl rfl ?_
 refine HS_loadB ag119 rfl ht2_.blk (arr_at hx51_) rfl rfl ?_
 refine HSp (R_move rfl) rfl rfl ?_
 refine ex_ h fun x52_ hx52_ h => ?_
 refine HSp (R_indexArr Tryd.underlying120 sz119 rfl rfl hx52_.1 (hx52_.ltn (put_len (put_len (put_len (put_len (put_len (put_len hn0)))))))) rfl rfl ?_
 refine HS_loadB ag119 rfl ht2_.blk (arr_at hx52_) rfl rfl ?_
 refine HSp (R_add rfl rfl (add32 x51_ x52_)) rfl rfl ?_
 refine ex_ h fun x53_ hx53_ h => ?_
 refine HSp (R_indexArr Tryd.underlying120 sz119 rfl rfl hx53_.1 (hx53_.ltn (put_len (put_len (put_len (put_len (put_len (put_len hn0)))))))) rfl rfl ?_
 refine HS_to0 [] _ rfl (by rw [hops50_]; kernel_rfl) (R_store sz119 rfl rfl ht2_.blk (arr_lt hx53_) rfl) rfl ?_
 rintro _ w54_ ⟨hB54_, hF54_⟩
 replace hI := hI.tok hF54_ (out1 ht2_.out) (new1 hge_b2_)
 replace ht3_ := ht3_.fr hF54_ (ne1 (Ne.symm hne3_b2_))
 replace ht2_ : Tok H45_ _ b2_ 120 ((Arr.mk (n := 16) (put (Arr.mk (n := 16) (put (Arr.mk (n := 16) (put (Arr.mk (n := 16) (put (Arr.mk (n := 16) (put (Arr.mk (n := 16) (put (Arr.mk (n := 16) (put x0.l x1 (x6_ + x7_))).l x4 r15_0)).l x3 (x21_ + x22_))).l x2 r30_0)).l x1 (x36_ + x37_))).l x4 r45_0)).l x3 (x51_ + x52_))).l.map w32) := ⟨hB54_.to arr_put, ht2_.out⟩
 clear hF54_ hB54_
 refine ⟨trivial, ?_⟩
 refine HS_nil ?_
 clear hops50_
 refine then_n (k49 _ _ ?_)
 clear k49 K49
 refine W_keepB [2, 3, 5, 10] fun B_ b_ => ?_
 simp only [e_, Nat.reduceAdd, Nat.reduceBEq] at b_
 subst b_
 refine W_seq_k fun K56 k56 => ?_
 refine W_drawF [77, 78, 79, 80, 81, 82, 83, 84, 85, 86, none] [(0, true), (1, true), (2, true), (3, true), (4, true), (5, true), (6, true), (7, true), (8, false), (9, true), (10, false)] TFtA.hm rfl (by kernel_rfl) fun ops57_ w57_ hops57_ hF57_ => ?_
 replace hI := hI.fr0 hF57_
 replace ht2_ := ht2_.fr0 hF57_
 replace ht3_ := ht3_.fr0 hF57_
 clear hF57_
 refine HSp (R_move rfl) rfl rfl (HSp (R_move rfl) rfl rfl ?_)
 refine ex_ h fun x58_ hx58_ h => ?_
 refine HSp (R_indexArr Tryd.underlying120 sz119 rfl rfl hx58_.1 (hx58_.ltn (put_len (put_len (put_len (put_len (put_len (put_len (put_len hn0))))))))) rfl rfl ?_
 refine HS_loadB ag119 rfl ht2_.blk (arr_at hx58_) rfl rfl ?_
 refine HSp (R_move rfl) rfl rfl ?_
 refine ex_ h fun x59_ hx59_ h => ?_
 refine HSp (R_indexArr Tryd.underlying120 sz119 rfl rfl hx59_.1 (hx59_.ltn (put_len (put_len (put_len (put_len (put_len (put_len (put_len hn0))))))))) rfl rfl ?_
 refine HS_loadB ag119 rfl ht2_.blk (arr_at hx59_) rfl rfl ?_
 refine HSp (R_xor rfl rfl (xor32 x58_ x59_)) rfl rfl ?_
 refine HS_call [] _ rfl (by rw [hops57_]; kernel_rfl) (C_func bd105 rfl) rfl rfl ?_
 refine (sealskinref08_left_ok (x0 := (x58_ ^^^ x59_)) (x1 := 7) hI.st (hg.up hI.le)  h).mono ?_
 rintro _ w60_ ⟨r60_0, L60_, H60_, rfl, hI60_, h⟩
 refine Exists.elim (hI.call hI60_ (by simp)) fun L600_ h60_ => ?_
 have hz60_ := hI.size
 replace hI := h60_.1
 have u60_ := h60_.2.1
 have hl60_ := h60_.2.2
 clear h60_
 replace ht2_ := ht2_.up u60_ (by simp)
 replace ht3_ := ht3_.up u60_ (by simp)
 clear hI60_ u60_ hl60_
 refine ⟨_, rfl, trivial, ?_⟩
 refine ex_ h fun x61_ hx61_ h => ?_
 refine HSp (R_indexArr Tryd.underlying120 sz119 rfl rfl hx61_.1 (hx61_.ltn (put_len (put_len (put_len (put_len (put_len (put_len (put_len hn0))))))))) rfl rfl ?_
 refine HS_to0 [] _ rfl (by rw [hops57_]; kernel_rfl) (R_store sz119 rfl rfl ht2_.blk (arr_lt hx61_) rfl) rfl ?_
 rintro _ w62_ ⟨hB62_, hF62_⟩
 replace hI := hI.tok hF62_ (out1 ht2_.out) (new1 hge_b2_)
 replace ht3_ := ht3_.fr hF62_ (ne1 (Ne.symm hne3_b2_))
 replace ht2_ : Tok H60_ _ b2_ 120 ((Arr.mk (n := 16) (put (Arr.mk (n := 16) (put (Arr.mk (n := 16) (put (Arr.mk (n := 16) (put (Arr.mk (n := 16) (put (Arr.mk (n := 16) (put (Arr.mk (n := 16) (put (Arr.mk (n := 16) (put x0.l x1 (x6_ + x7_))).l x4 r15_0)).l x3 (x21_ + x22_))).l x2 r30_0)).l x1 (x36_ + x37_))).l x4 r45_0)).l x3 (x51_ + x52_))).l x2 r60_0)).l.map w32) := ⟨hB62_.to arr_put, ht2_.out⟩
 clear hF62_ hB62_
 refine ⟨trivial, ?_⟩
 refine HS_nil ?_
 clear hops57_
 refine then_n (k56 _ _ ?_)
 clear k56 K56
 refine W_keepB [5, 10] fun B_ b_ => ?_
 simp only [e_, Nat.reduceAdd, Nat.reduceBEq] at b_
 subst b_
 refine W_seq_k fun K64 k64 => ?_
 refine W_region [87, none] rfl (Ops_step (R_loadW ag120 sz120 rfl ht2_.blk (by rw [List.length_map]; exact (put_len (put_len (put_len (put_len (put_len (put_len (put_len (put_len hn0)))))))))) rfl rfl ?_)
 refine Ops_to0 (R_storeN sz120 (by simp [(put_len (put_len (put_len (put_len (put_len (put_len (put_len (put_len hn0))))))))]) rfl rfl ht3_.blk (by simp [(List.length_replicate ..), (put_len (put_len (put_len (put_len (put_len (put_len (put_len (put_len hn0))))))))]) (all_enc _)) rfl ?_
 rintro _ w65_ ⟨hB65_, hF65_⟩
 replace hI := hI.tok hF65_ (out1 ht3_.out) (new1 hge_b3_)
 replace ht3_ : Tok H60_ _ b3_ 120 ((Arr.mk (n := 16) (put (Arr.mk (n := 16) (put (Arr.mk (n := 16) (put (Arr.mk (n := 16) (put (Arr.mk (n := 16) (put (Arr.mk (n := 16) (put (Arr.mk (n := 16) (put (Arr.mk (n := 16) (put x0.l x1 (x6_ + x7_))).l x4 r15_0)).l x3 (x21_ + x22_))).l x2 r30_0)).l x1 (x36_ + x37_))).l x4 r45_0)).l x3 (x51_ + x52_))).l x2 r60_0)).l.map w32) := ⟨hB65_.to (arr_over (((List.length_replicate ..)).trans ((put_len (put_len (put_len (put_len (put_len (put_len (put_len (put_len hn0))))))))).symm)), ht3_.out⟩
 clear hF65_ hB65_
 refine Ops_nil ?_
 refine then_n (k64 _ _ ?_)
 clear k64 K64
 refine W_ret ?_
 refine ⟨_, ⟨_, _, _, rfl, rfl, run_loadArr ag120 sz120 ht3_.blk (put_len (put_len (put_len (put_len (put_len (put_len (put_len (put_len hn0)))))))), rfl⟩, ?_⟩
 exact ⟨(Arr.mk (n := 16) (put (Arr.mk (n := 16) (put (Arr.mk (n := 16) (put (Arr.mk (n := 16) (put (Arr.mk (n := 16) (put (Arr.mk (n := 16) (put (Arr.mk (n := 16) (put (Arr.mk (n := 16) (put x0.l x1 (x6_ + x7_))).l x4 r15_0)).l x3 (x21_ + x22_))).l x2 r30_0)).l x1 (x36_ + x37_))).l x4 r45_0)).l x3 (x51_ + x52_))).l x2 r60_0)), _, _, rfl, hI, (put_len (put_len (put_len (put_len (put_len (put_len (put_len (put_len hn0)))))))), h⟩

theorem sealskinref08_block_ok {G : Gh} {w : World} (hS : St G w) (hg : GL G) {A0 : Option Addr} {c0 : Nat} {x0 : List UInt8} (hc0 : x0.length ≤ c0) (hs0 : Sl G A0 x0) {x1 : BitVec 64} {x2 : Int} {Q : (List UInt8) → Prop} (h : sealskinref08_block x0 x1 x2 Q) : Calls Tryd.prog 89 #[.slice A0 x0.length c0, w64 x1, vi x2] w fun e w2 => ∃ (A0 : Option Addr) (c0 : Nat) (r0 : List UInt8) (L H : Gh), e = .returned (.slice A0 r0.length c0) ∧ Inv [] G w L H w2 ∧ OwnS w.heap.size 5 L H w2 A0 c0 r0 ∧ Q r0 := by
 unfold sealskinref08_block at h
 have hI := Inv.start (M := []) hS
 refine calls_W 120 Tryd.func89 rfl Tryd.ntmps89 rfl [.tmp 6] rfl ?_
 refine W_seq_k fun K1 k1 => ?_
 refine W_region [6] rfl (Ops_step (R_assign rfl) rfl rfl ?_)
 refine Ops_nil ?_
 refine then_n (k1 _ _ ?_)
 clear k1 K1
 refine W_seq_k fun K2 k2 => ?_
 refine W_region [16, 7, none] rfl ?_
 refine Ops_step (R_build (pl := [(0, 1), (1, 1), (2, 1), (3, 1)]) (cs := (Arr.mk (n := 16) [(1634760805#32), (857760878#32), (2036477234#32), (1797285236#32), (0#32), (0#32), (0#32), (0#32), (0#32), (0#32), (0#32), (0#32), (0#32), (0#32), (0#32), (0#32)]).l.map w32) zr120 pl120 rfl rfl rfl) rfl rfl ?_
 have hI0_ := hI
 refine Ops_to (R_alloc zr120) rfl rfl ?_
 rintro _ w3_ ⟨b3_, rfl, hb3_, hB3_, hF3_⟩
 replace hI := hI.fr0 hF3_
 have ht3_ : Tok G _ b3_ 120 ((Arr.mk (n := 16) (List.replicate 16 (0#32))).l.map w32) := ⟨hB3_.to (by rw [List.map_replicate]; rfl), Out.ge hI0_.st (Nat.le_of_eq hb3_.symm)⟩
 have hge_b3_ : w.heap.size ≤ b3_ := hb3_ ▸ hI0_.size
 clear hB3_ hb3_ hI0_ hF3_
 refine Ops_to0 (R_storeN sz120 (by simp) rfl rfl ht3_.blk (by simp [(List.length_replicate ..)]) (all_enc _)) rfl ?_
 rintro _ w4_ ⟨hB4_, hF4_⟩
 replace hI := hI.tok hF4_ (out1 ht3_.out) (new1 hge_b3_)
 replace ht3_ : Tok G _ b3_ 120 ((Arr.mk (n := 16) [(1634760805#32), (857760878#32), (2036477234#32), (1797285236#32), (0#32), (0#32), (0#32), (0#32), (0#32), (0#32), (0#32), (0#32), (0#32), (0#32), (0#32), (0#32)]).l.map w32) := ⟨hB4_.to (arr_over (((List.length_replicate ..)).trans (rfl).symm)), ht3_.out⟩
 clear hF4_ hB4_
 refine Ops_nil ?_
 refine then_n (k2 _ _ ?_)
 clear k2 K2
 refine ex_ h fun J5_ hr5_ h => ?_
 refine W_seq_join [1, 2, 7] [] (fun vals_ w2 => ∃ (yb3__5 : Arr 16 (BitVec 32)) (L H : Gh), vals_ = [] ∧ J5_ yb3__5 ∧ Inv [] G w L H w2 ∧ Le Gh.no L ∧ Le G H ∧ Ob 120 H H w2 b3_ yb3__5 ∧ True) (fun B_ b_ => ?_) (fun B_ b_ => ?_)
 ·
  simp only [e_, Nat.reduceAdd, Nat.reduceBEq] at b_
  subst b_
  clear hr5_
  have hll5_ := Le.refl Gh.no
  have hhh5_ := Le.refl G
  refine W_seq_k fun K6 k6 => ?_
  refine W_region [17] rfl (Ops_step (R_move rfl) rfl rfl ?_)
  refine Ops_nil ?_
  refine then_n (k6 _ _ ?_)
  clear k6 K6
  refine W_block ?_
  refine Exists.elim h fun I7_ h => Exists.elim h fun n7_ h => ?_
  have h0_ := h.1
  have hs7_ := h.2
  clear h
  refine W_loopB [0, 1, 2, 7] [17] (fun m vals_ w2 => ∃ (x17_7 : Int) (yb3__7 : Arr 16 (BitVec 32)) (L H : Gh), vals_ = [vi x17_7] ∧ I7_ m x17_7 yb3__7 ∧ Inv [] G w L H w2 ∧ Le Gh.no L ∧ Le G H ∧ Ob 120 H H w2 b3_ yb3__7 ∧ True) n7_ _ rfl ⟨0, (Arr.mk (n := 16) [(1634760805#32), (857760878#32), (2036477234#32), (1797285236#32), (0#32), (0#32), (0#32), (0#32), (0#32), (0#32), (0#32), (0#32), (0#32), (0#32), (0#32), (0#32)]), _, _, rfl, h0_, hI, Le.refl _, Le.refl _, ⟨_, Arr.shut rfl, ht3_⟩, trivial⟩ fun B_ b_ => ?_
  clear h0_
  simp only [e_, Nat.reduceAdd, Nat.reduceBEq] at b_
  subst b_
  rintro m7_ _ w7_ ⟨x17_7, yb3__7, L7_, H7_, rfl, hJ7_, hI7_, hll7_, hhh7_, hqb3__7, -⟩
  replace hI := hI7_
  clear hI7_
  have h := hs7_ m7_ x17_7 yb3__7 hJ7_
  clear hs7_ hJ7_
  replace hs0 := hs0.up hhh7_
  replace hll5_ := hll5_.trans hll7_
  replace hhh5_ := hhh5_.trans hhh7_
  obtain ⟨lb3__7_, hlb3__7_, htb3__7⟩ := hqb3__7
  obtain ⟨hnb3__7_, rfl⟩ := Arr.open_ hlb3__7_
  refine W_seq_k fun K8 k8 => ?_
  refine W_region [18] rfl (Ops_step (R_lss rfl rfl) rfl rfl ?_)
  refine Ops_nil ?_
  refine then_n (k8 _ _ ?_)
  clear k8 K8
  refine W_seq_k fun K9 k9 => ?_
  refine W_if rfl (fun hc10_ => ?_) (fun hc10_ => ?_)
  ·
   replace h := h.1 hc10_
   refine W_skip ?_
   refine then_n (k9 _ _ ?_)
   clear k9 K9
   refine ex_ h fun J11_ hr11_ h => ?_
   refine W_seq_join [0, 1, 2, 7, 17] [] (fun vals_ w2 => ∃ (yb3__11 : Arr 16 (BitVec 32)) (L H : Gh), vals_ = [] ∧ J11_ yb3__11 ∧ Inv [] G w L H w2 ∧ Le L7_ L ∧ Le H7_ H ∧ Ob 120 H H w2 b3_ yb3__11 ∧ True) (fun B_ b_ => ?_) (fun B_ b_ => ?_)
   ·
    simp only [e_, Nat.reduceAdd, Nat.reduceBEq] at b_
    subst b_
    clear hr11_
    have hll11_ := Le.refl L7_
    have hhh11_ := Le.refl H7_
    refine W_block ?_
    refine W_seq_k fun K12 k12 => ?_
    refine W_region [19, 8] rfl (Ops_step (R_move rfl) rfl rfl (Ops_step (R_assign rfl) rfl rfl ?_))
    refine Ops_nil ?_
    refine then_n (k12 _ _ ?_)
    clear k12 K12
    refine W_seq_k fun K13 k13 => ?_
    refine W_region [20] rfl (Ops_step (R_move rfl) rfl rfl ?_)
    refine Ops_nil ?_
    refine then_n (k13 _ _ ?_)
    clear k13 K13
    refine W_block ?_
    refine Exists.elim h fun I14_ h => Exists.elim h fun n14_ h => ?_
    have h0_ := h.1
    have hs14_ := h.2
    clear h
    refine W_loopB [0, 1, 2, 7, 8, 17] [20] (fun m vals_ w2 => ∃ (x20_14 : Int) (yb3__14 : Arr 16 (BitVec 32)) (L H : Gh), vals_ = [vi x20_14] ∧ I14_ m x20_14 yb3__14 ∧ Inv [] G w L H w2 ∧ Le L7_ L ∧ Le H7_ H ∧ Ob 120 H H w2 b3_ yb3__14 ∧ True) n14_ _ rfl ⟨0, yb3__7, _, _, rfl, h0_, hI, Le.refl _, Le.refl _, ⟨_, Arr.shut hnb3__7_, htb3__7⟩, trivial⟩ fun B_ b_ => ?_
    clear h0_
    simp only [e_, Nat.reduceAdd, Nat.reduceBEq] at b_
    subst b_
    rintro m14_ _ w14_ ⟨x20_14, yb3__14, L14_, H14_, rfl, hJ14_, hI14_, hll14_, hhh14_, hqb3__14, -⟩
    replace hI := hI14_
    clear hI14_
    have h := hs14_ m14_ x20_14 yb3__14 hJ14_
    clear hs14_ hJ14_
    replace hs0 := hs0.up hhh14_
    replace hll5_ := hll5_.trans hll14_
    replace hhh5_ := hhh5_.trans hhh14_
    replace hll7_ := hll7_.trans hll14_
    replace hhh7_ := hhh7_.trans hhh14_
    replace hll11_ := hll11_.trans hll14_
    replace hhh11_ := hhh11_.trans hhh14_
    obtain ⟨lb3__14_, hlb3__14_, htb3__14⟩ := hqb3__14
    obtain ⟨hnb3__14_, rfl⟩ := Arr.open_ hlb3__14_
    refine W_seq_k fun K15 k15 => ?_
    refine W_region [21] rfl (Ops_step (R_lss rfl rfl) rfl rfl ?_)
    refine Ops_nil ?_
    refine then_n (k15 _ _ ?_)
    clear k15 K15
    refine W_seq_k fun K16 k16 => ?_
    refine W_if rfl (fun hc17_ => ?_) (fun hc17_ => ?_)
    ·
     replace h := h.1 hc17_
     refine W_skip ?_
     refine then_n (k16 _ _ ?_)
     clear k16 K16
     refine W_seq_k fun K18 k18 => ?_
     refine W_block ?_
     refine W_seq_k fun K19 k19 => ?_
     refine W_region [22, 9] rfl (Ops_step (R_move rfl) rfl rfl (Ops_step (R_assign rfl) rfl rfl ?_))
     refine Ops_nil ?_
     refine then_n (k19 _ _ ?_)
     clear k19 K19
     refine W_drawF [23, 24, 25, 26, 27, 28, 29, 30, 31, 32, 33, 34, 35, 36, 37, 38, 39, 40, none] [(0, true), (1, true), (2, true), (3, true), (4, true), (5, true), (6, true), (7, true), (8, true), (9, true), (10, true), (11, true), (12, true), (13, true), (14, true), (15, true), (16, true), (17, true), (18, false)] TFtA.hm rfl (by kernel_rfl) fun ops20_ w20_ hops20_ hF20_ => ?_
     replace hI := hI.fr0 hF20_
     replace htb3__14 := htb3__14.fr0 hF20_
     clear hF20_
     refine HSp (R_move rfl) rfl rfl ?_
     have hk21_ := h.1
     replace h := h.2
     refine HSp (R_add rfl rfl (wI hk21_.1 hk21_.2)) rfl rfl (HSp (R_move rfl) rfl rfl ?_)
     have hk22_ := h.1
     replace h := h.2
     refine HSp (R_add rfl rfl (wI hk22_.1 hk22_.2)) rfl rfl ?_
     refine ex_ h fun x23_ hx23_ h => ?_
     refine HSp (R_indexArr Tryd.underlying120 sz119 rfl rfl hx23_.1 (hx23_.ltn hnb3__14_)) rfl rfl ?_
     refine HS_loadB ag119 rfl htb3__14.blk (arr_at hx23_) rfl rfl ?_
     refine HSp (R_quo rfl rfl (by decide) (quo32 x23_ (256#32))) rfl rfl (HSp (R_move rfl) rfl rfl (HSp (R_move rfl) rfl rfl ?_))
     have hk24_ := h.1
     replace h := h.2
     refine HSp (R_mul rfl rfl (wI hk24_.1 hk24_.2)) rfl rfl (HSp (R_move rfl) rfl rfl ?_)
     have hk25_ := h.1
     replace h := h.2
     refine HSp (R_add rfl rfl (wI hk25_.1 hk25_.2)) rfl rfl ?_
     refine ex_ h fun x26_ hx26_ h => ?_
     have ha26_ := (hs0.atS hx26_).1
     have hg26_ := (hs0.atS hx26_).2
     refine HSp (R_indexSl Tryd.underlying30 sz5 rfl rfl hx26_.1 hx26_.lt ha26_) rfl rfl ?_
     refine HS_load ag5 rfl (hI.st _ _ hg26_) rfl rfl ?_
     refine HSp (R_conv Tryd.underlying5 Tryd.underlying119 rfl (c8_32 _)) rfl rfl (HSp (R_mul rfl rfl (mul32 (x26_.toBitVec.setWidth 32) (16777216#32))) rfl rfl (HSp (R_add rfl rfl (add32 (x23_ / (256#32)) ((x26_.toBitVec.setWidth 32) * (16777216#32)))) rfl rfl ?_))
     refine ex_ h fun x27_ hx27_ h => ?_
     refine HSp (R_indexArr Tryd.underlying120 sz119 rfl rfl hx27_.1 (hx27_.ltn hnb3__14_)) rfl rfl ?_
     refine HS_to0 [] _ rfl (by rw [hops20_]; kernel_rfl) (R_store sz119 rfl rfl htb3__14.blk (arr_lt hx27_) rfl) rfl ?_
     rintro _ w28_ ⟨hB28_, hF28_⟩
     replace hI := hI.tok hF28_ (out1 htb3__14.out) (new1 hge_b3_)
     replace htb3__14 : Tok H14_ _ b3_ 120 ((Arr.mk (n := 16) (put yb3__14.l (4 + x17_7) ((x23_ / (256#32)) + ((x26_.toBitVec.setWidth 32) * (16777216#32))))).l.map w32) := ⟨hB28_.to arr_put, htb3__14.out⟩
     clear hF28_ hB28_
     refine ⟨trivial, ?_⟩
     refine HS_nil ?_
     clear hops20_
     refine block_n ?_
     refine then_n (k18 _ _ ?_)
     clear k18 K18
     refine W_keepB [0, 1, 2, 7, 8, 17, 20] fun B_ b_ => ?_
     simp only [e_, Nat.reduceAdd, Nat.reduceBEq] at b_
     subst b_
     refine W_region [41, 20] rfl ?_
     have hk30_ := h.1
     replace h := h.2
     refine Ops_step (R_add rfl rfl (wI hk30_.1 hk30_.2)) rfl rfl (Ops_step (R_move rfl) rfl rfl ?_)
     refine Ops_nil ?_
     refine then_n ?_
     exact h.elim fun m_ h => ⟨m_, _, h.1, rfl, ⟨(x20_14 + 1), (Arr.mk (n := 16) (put yb3__14.l (4 + x17_7) ((x23_ / (256#32)) + ((x26_.toBitVec.setWidth 32) * (16777216#32))))), _, _, rfl, h.2, hI, hll14_, hhh14_, ⟨_, Arr.shut (put_len hnb3__14_), htb3__14⟩, trivial⟩, ⟨rfl, rfl, rfl, rfl, rfl, rfl, trivial⟩⟩
    ·
     replace h := h.2 hc17_
     refine W_exit ?_
     refine then_exit ?_
     clear k16 K16
     refine then_exit ?_
     refine block_exit ?_
     refine block_n ?_
     refine then_n ?_
     exact ⟨_, rfl, ⟨yb3__14, _, _, rfl, h, hI, hll11_, hhh11_, ⟨_, Arr.shut hnb3__14_, htb3__14⟩, trivial⟩, ⟨rfl, rfl, rfl, rfl, rfl, trivial⟩⟩
   ·
    simp only [e_, Nat.reduceAdd, Nat.reduceBEq] at b_
    subst b_
    clear h
    rintro _ w11_ ⟨yb3__11, L11_, H11_, rfl, hJ11_, hI11_, hll11_, hhh11_, hqb3__11, -⟩
    replace hI := hI11_
    clear hI11_
    have h := hr11_ yb3__11 hJ11_
    clear hr11_ hJ11_
    replace hs0 := hs0.up hhh11_
    replace hll5_ := hll5_.trans hll11_
    replace hhh5_ := hhh5_.trans hhh11_
    replace hll7_ := hll7_.trans hll11_
    replace hhh7_ := hhh7_.trans hhh11_
    obtain ⟨lb3__11_, hlb3__11_, htb3__11⟩ := hqb3__11
    obtain ⟨hnb3__11_, rfl⟩ := Arr.open_ hlb3__11_
    refine W_region [42, 17] rfl ?_
    have hk31_ := h.1
    replace h := h.2
    refine Ops_step (R_add rfl rfl (wI hk31_.1 hk31_.2)) rfl rfl (Ops_step (R_move rfl) rfl rfl ?_)
    refine Ops_nil ?_
    refine then_n ?_
    exact h.elim fun m_ h => ⟨m_, _, h.1, rfl, ⟨(x17_7 + 1), yb3__11, _, _, rfl, h.2, hI, hll7_, hhh7_, ⟨_, Arr.shut hnb3__11_, htb3__11⟩, trivial⟩, ⟨rfl, rfl, rfl, rfl, trivial⟩⟩
  ·
   replace h := h.2 hc10_
   refine W_exit ?_
   refine then_exit ?_
   clear k9 K9
   refine then_exit ?_
   refine block_exit ?_
   refine then_n ?_
   exact ⟨_, rfl, ⟨yb3__7, _, _, rfl, h, hI, hll5_, hhh5_, ⟨_, Arr.shut hnb3__7_, htb3__7⟩, trivial⟩, ⟨rfl, rfl, rfl, trivial⟩⟩
 ·
  simp only [e_, Nat.reduceAdd, Nat.reduceBEq] at b_
  subst b_
  clear h
  rintro _ w5_ ⟨yb3__5, L5_, H5_, rfl, hJ5_, hI5_, hll5_, hhh5_, hqb3__5, -⟩
  replace hI := hI5_
  clear hI5_
  have h := hr5_ yb3__5 hJ5_
  clear hr5_ hJ5_
  obtain ⟨lb3__5_, hlb3__5_, htb3__5⟩ := hqb3__5
  obtain ⟨hnb3__5_, rfl⟩ := Arr.open_ hlb3__5_
  refine W_seq_k fun K32 k32 => ?_
  refine W_region [43, 44, 45, 46, 47, none] rfl (Ops_step (R_move rfl) rfl rfl (Ops_step (R_conv Tryd.underlying3 Tryd.underlying72 rfl (cI_64 _)) rfl rfl (Ops_step (R_rem rfl rfl (by decide) (rem64 (BitVec.ofInt 64 x2) (4294967296#64))) rfl rfl (Ops_step (R_conv Tryd.underlying72 Tryd.underlying119 rfl (c64_32 _)) rfl rfl ?_))))
  refine ex_ h fun x33_ hx33_ h => ?_
  refine Ops_step (R_indexArr Tryd.underlying120 sz119 rfl rfl hx33_.1 (hx33_.ltn hnb3__5_)) rfl rfl ?_
  refine Ops_to0 (R_store sz119 rfl rfl htb3__5.blk (arr_lt hx33_) rfl) rfl ?_
  rintro _ w34_ ⟨hB34_, hF34_⟩
  replace hI := hI.tok hF34_ (out1 htb3__5.out) (new1 hge_b3_)
  replace htb3__5 : Tok H5_ _ b3_ 120 ((Arr.mk (n := 16) (put yb3__5.l 12 (((BitVec.ofInt 64 x2) % (4294967296#64)).setWidth 32))).l.map w32) := ⟨hB34_.to arr_put, htb3__5.out⟩
  clear hF34_ hB34_
  refine Ops_nil ?_
  refine then_n (k32 _ _ ?_)
  clear k32 K32
  refine W_seq_k fun K35 k35 => ?_
  refine W_region [48, 49, 50, 51, 52, none] rfl (Ops_step (R_move rfl) rfl rfl (Ops_step (R_conv Tryd.underlying3 Tryd.underlying72 rfl (cI_64 _)) rfl rfl (Ops_step (R_quo rfl rfl (by decide) (quo64 (BitVec.ofInt 64 x2) (4294967296#64))) rfl rfl (Ops_step (R_conv Tryd.underlying72 Tryd.underlying119 rfl (c64_32 _)) rfl rfl ?_))))
  refine ex_ h fun x36_ hx36_ h => ?_
  refine Ops_step (R_indexArr Tryd.underlying120 sz119 rfl rfl hx36_.1 (hx36_.ltn (put_len hnb3__5_))) rfl rfl ?_
  refine Ops_to0 (R_store sz119 rfl rfl htb3__5.blk (arr_lt hx36_) rfl) rfl ?_
  rintro _ w37_ ⟨hB37_, hF37_⟩
  replace hI := hI.tok hF37_ (out1 htb3__5.out) (new1 hge_b3_)
  replace htb3__5 : Tok H5_ _ b3_ 120 ((Arr.mk (n := 16) (put (Arr.mk (n := 16) (put yb3__5.l 12 (((BitVec.ofInt 64 x2) % (4294967296#64)).setWidth 32))).l 13 (((BitVec.ofInt 64 x2) / (4294967296#64)).setWidth 32))).l.map w32) := ⟨hB37_.to arr_put, htb3__5.out⟩
  clear hF37_ hB37_
  refine Ops_nil ?_
  refine then_n (k35 _ _ ?_)
  clear k35 K35
  refine W_keepB [1, 7] fun B_ b_ => ?_
  simp only [e_, Nat.reduceAdd, Nat.reduceBEq] at b_
  subst b_
  refine W_seq_k fun K39 k39 => ?_
  refine W_region [53, 54, 55, 56, none] rfl (Ops_step (R_move rfl) rfl rfl (Ops_step (R_rem rfl rfl (by decide) (rem64 x1 (4294967296#64))) rfl rfl (Ops_step (R_conv Tryd.underlying72 Tryd.underlying119 rfl (c64_32 _)) rfl rfl ?_)))
  refine ex_ h fun x40_ hx40_ h => ?_
  refine Ops_step (R_indexArr Tryd.underlying120 sz119 rfl rfl hx40_.1 (hx40_.ltn (put_len (put_len hnb3__5_)))) rfl rfl ?_
  refine Ops_to0 (R_store sz119 rfl rfl htb3__5.blk (arr_lt hx40_) rfl) rfl ?_
  rintro _ w41_ ⟨hB41_, hF41_⟩
  replace hI := hI.tok hF41_ (out1 htb3__5.out) (new1 hge_b3_)
  replace htb3__5 : Tok H5_ _ b3_ 120 ((Arr.mk (n := 16) (put (Arr.mk (n := 16) (put (Arr.mk (n := 16) (put yb3__5.l 12 (((BitVec.ofInt 64 x2) % (4294967296#64)).setWidth 32))).l 13 (((BitVec.ofInt 64 x2) / (4294967296#64)).setWidth 32))).l 14 ((x1 % (4294967296#64)).setWidth 32))).l.map w32) := ⟨hB41_.to arr_put, htb3__5.out⟩
  clear hF41_ hB41_
  refine Ops_nil ?_
  refine then_n (k39 _ _ ?_)
  clear k39 K39
  refine W_seq_k fun K42 k42 => ?_
  refine W_region [57, 58, 59, 60, none] rfl (Ops_step (R_move rfl) rfl rfl (Ops_step (R_quo rfl rfl (by decide) (quo64 x1 (4294967296#64))) rfl rfl (Ops_step (R_conv Tryd.underlying72 Tryd.underlying119 rfl (c64_32 _)) rfl rfl ?_)))
  refine ex_ h fun x43_ hx43_ h => ?_
  refine Ops_step (R_indexArr Tryd.underlying120 sz119 rfl rfl hx43_.1 (hx43_.ltn (put_len (put_len (put_len hnb3__5_))))) rfl rfl ?_
  refine Ops_to0 (R_store sz119 rfl rfl htb3__5.blk (arr_lt hx43_) rfl) rfl ?_
  rintro _ w44_ ⟨hB44_, hF44_⟩
  replace hI := hI.tok hF44_ (out1 htb3__5.out) (new1 hge_b3_)
  replace htb3__5 : Tok H5_ _ b3_ 120 ((Arr.mk (n := 16) (put (Arr.mk (n := 16) (put (Arr.mk (n := 16) (put (Arr.mk (n := 16) (put yb3__5.l 12 (((BitVec.ofInt 64 x2) % (4294967296#64)).setWidth 32))).l 13 (((BitVec.ofInt 64 x2) / (4294967296#64)).setWidth 32))).l 14 ((x1 % (4294967296#64)).setWidth 32))).l 15 ((x1 / (4294967296#64)).setWidth 32))).l.map w32) := ⟨hB44_.to arr_put, htb3__5.out⟩
  clear hF44_ hB44_
  refine Ops_nil ?_
  refine then_n (k42 _ _ ?_)
  clear k42 K42
  refine W_keepB [7] fun B_ b_ => ?_
  simp only [e_, Nat.reduceAdd, Nat.reduceBEq] at b_
  subst b_
  refine W_seq_k fun K46 k46 => ?_
  refine W_region [61, 10, none] rfl (Ops_step (R_loadW ag120 sz120 rfl htb3__5.blk (by rw [List.length_map]; exact (put_len (put_len (put_len (put_len hnb3__5_)))))) rfl rfl ?_)
  have hlo47_b3_ := htb3__5.blk.lt
  have hI0_ := hI
  refine Ops_to (R_alloc zr120) rfl rfl ?_
  rintro _ w47_ ⟨b47_, rfl, hb47_, hB47_, hF47_⟩
  replace hI := hI.fr0 hF47_
  replace htb3__5 := htb3__5.fr0 hF47_
  have ht47_ : Tok H5_ _ b47_ 120 ((Arr.mk (n := 16) (List.replicate 16 (0#32))).l.map w32) := ⟨hB47_.to (by rw [List.map_replicate]; rfl), Out.ge hI0_.st (Nat.le_of_eq hb47_.symm)⟩
  have hge_b47_ : w.heap.size ≤ b47_ := hb47_ ▸ hI0_.size
  have hne47_b3_ : b3_ ≠ b47_ := fun e_ => absurd hlo47_b3_ (by omega)
  clear hB47_ hb47_ hI0_ hF47_
  refine Ops_to0 (R_storeN sz120 (by simp [(put_len (put_len (put_len (put_len hnb3__5_))))]) rfl rfl ht47_.blk (by simp [(List.length_replicate ..), (put_len (put_len (put_len (put_len hnb3__5_))))]) (all_enc _)) rfl ?_
  rintro _ w48_ ⟨hB48_, hF48_⟩
  replace hI := hI.tok hF48_ (out1 ht47_.out) (new1 hge_b47_)
  replace htb3__5 := htb3__5.fr hF48_ (ne1 hne47_b3_)
  replace ht47_ : Tok H5_ _ b47_ 120 ((Arr.mk (n := 16) (put (Arr.mk (n := 16) (put (Arr.mk (n := 16) (put (Arr.mk (n := 16) (put yb3__5.l 12 (((BitVec.ofInt 64 x2) % (4294967296#64)).setWidth 32))).l 13 (((BitVec.ofInt 64 x2) / (4294967296#64)).setWidth 32))).l 14 ((x1 % (4294967296#64)).setWidth 32))).l 15 ((x1 / (4294967296#64)).setWidth 32))).l.map w32) := ⟨hB48_.to (arr_over (((List.length_replicate ..)).trans ((put_len (put_len (put_len (put_len hnb3__5_))))).symm)), ht47_.out⟩
  clear hF48_ hB48_
  refine Ops_nil ?_
  refine then_n (k46 _ _ ?_)
  clear k46 K46
  refine ex_ h fun J49_ hr49_ h => ?_
  refine W_seq_join [7, 10] [] (fun vals_ w2 => ∃ (yb47__49 : Arr 16 (BitVec 32)) (L H : Gh), vals_ = [] ∧ J49_ yb47__49 ∧ Inv [] G w L H w2 ∧ Le L5_ L ∧ Le H5_ H ∧ Ob 120 H H w2 b47_ yb47__49 ∧ Tok H w2 b3_ 120 ((Arr.mk (n := 16) (put (Arr.mk (n := 16) (put (Arr.mk (n := 16) (put (Arr.mk (n := 16) (put yb3__5.l 12 (((BitVec.ofInt 64 x2) % (4294967296#64)).setWidth 32))).l 13 (((BitVec.ofInt 64 x2) / (4294967296#64)).setWidth 32))).l 14 ((x1 % (4294967296#64)).setWidth 32))).l 15 ((x1 / (4294967296#64)).setWidth 32))).l.map w32) ∧ True) (fun B_ b_ => ?_) (fun B_ b_ => ?_)
  ·
   simp only [e_, Nat.reduceAdd, Nat.reduceBEq] at b_
   subst b_
   clear hr49_
   have hll49_ := Le.refl L5_
   have hhh49_ := Le.refl H5_
   refine W_seq_k fun K50 k50 => ?_
   refine W_region [62] rfl (Ops_step (R_move rfl) rfl rfl ?_)
   refine Ops_nil ?_
   refine then_n (k50 _ _ ?_)
   clear k50 K50
   refine W_block ?_
   refine Exists.elim h fun I51_ h => Exists.elim h fun n51_ h => ?_
   have h0_ := h.1
   have hs51_ := h.2
   clear h
   refine W_loopB [7, 10] [62] (fun m vals_ w2 => ∃ (x62_51 : Int) (yb47__51 : Arr 16 (BitVec 32)) (L H : Gh), vals_ = [vi x62_51] ∧ I51_ m x62_51 yb47__51 ∧ Inv [] G w L H w2 ∧ Le L5_ L ∧ Le H5_ H ∧ Ob 120 H H w2 b47_ yb47__51 ∧ Tok H w2 b3_ 120 ((Arr.mk (n := 16) (put (Arr.mk (n := 16) (put (Arr.mk (n := 16) (put (Arr.mk (n := 16) (put yb3__5.l 12 (((BitVec.ofInt 64 x2) % (4294967296#64)).setWidth 32))).l 13 (((BitVec.ofInt 64 x2) / (4294967296#64)).setWidth 32))).l 14 ((x1 % (4294967296#64)).setWidth 32))).l 15 ((x1 / (4294967296#64)).setWidth 32))).l.map w32) ∧ True) n51_ _ rfl ⟨0, (Arr.mk (n := 16) (put (Arr.mk (n := 16) (put (Arr.mk (n := 16) (put (Arr.mk (n := 16) (put yb3__5.l 12 (((BitVec.ofInt 64 x2) % (4294967296#64)).setWidth 32))).l 13 (((BitVec.ofInt 64 x2) / (4294967296#64)).setWidth 32))).l 14 ((x1 % (4294967296#64)).setWidth 32))).l 15 ((x1 / (4294967296#64)).setWidth 32))), _, _, rfl, h0_, hI, Le.refl _, Le.refl _, ⟨_, Arr.shut (put_len (put_len (put_len (put_len hnb3__5_)))), ht47_⟩, htb3__5, trivial⟩ fun B_ b_ => ?_
   clear h0_
   simp only [e_, Nat.reduceAdd, Nat.reduceBEq] at b_
   subst b_
   clear htb3__5
   rintro m51_ _ w51_ ⟨x62_51, yb47__51, L51_, H51_, rfl, hJ51_, hI51_, hll51_, hhh51_, hqb47__51, htb3__5, -⟩
   replace hI := hI51_
   clear hI51_
   have h := hs51_ m51_ x62_51 yb47__51 hJ51_
   clear hs51_ hJ51_
   replace hll49_ := hll49_.trans hll51_
   replace hhh49_ := hhh49_.trans hhh51_
   obtain ⟨lb47__51_, hlb47__51_, htb47__51⟩ := hqb47__51
   obtain ⟨hnb47__51_, rfl⟩ := Arr.open_ hlb47__51_
   refine W_seq_k fun K52 k52 => ?_
   refine W_region [63] rfl (Ops_step (R_lss rfl rfl) rfl rfl ?_)
   refine Ops_nil ?_
   refine then_n (k52 _ _ ?_)
   clear k52 K52
   refine W_seq_k fun K53 k53 => ?_
   refine W_if rfl (fun hc54_ => ?_) (fun hc54_ => ?_)
   ·
    replace h := h.1 hc54_
    refine W_skip ?_
    refine then_n (k53 _ _ ?_)
    clear k53 K53
    refine ex_ h fun J55_ hr55_ h => ?_
    refine W_seq_join [7, 10, 62] [] (fun vals_ w2 => ∃ (yb47__55 : Arr 16 (BitVec 32)) (L H : Gh), vals_ = [] ∧ J55_ yb47__55 ∧ Inv [] G w L H w2 ∧ Le L51_ L ∧ Le H51_ H ∧ Ob 120 H H w2 b47_ yb47__55 ∧ Tok H w2 b3_ 120 ((Arr.mk (n := 16) (put (Arr.mk (n := 16) (put (Arr.mk (n := 16) (put (Arr.mk (n := 16) (put yb3__5.l 12 (((BitVec.ofInt 64 x2) % (4294967296#64)).setWidth 32))).l 13 (((BitVec.ofInt 64 x2) / (4294967296#64)).setWidth 32))).l 14 ((x1 % (4294967296#64)).setWidth 32))).l 15 ((x1 / (4294967296#64)).setWidth 32))).l.map w32) ∧ True) (fun B_ b_ => ?_) (fun B_ b_ => ?_)
    ·
     simp only [e_, Nat.reduceAdd, Nat.reduceBEq] at b_
     subst b_
     clear hr55_
     have hll55_ := Le.refl L51_
     have hhh55_ := Le.refl H51_
     refine W_block ?_
     refine ex_ h fun J56_ hr56_ h => ?_
     refine W_seq_join [7, 10, 62] [] (fun vals_ w2 => ∃ (yb47__56 : Arr 16 (BitVec 32)) (L H : Gh), vals_ = [] ∧ J56_ yb47__56 ∧ Inv [] G w L H w2 ∧ Le L51_ L ∧ Le H51_ H ∧ Ob 120 H H w2 b47_ yb47__56 ∧ Tok H w2 b3_ 120 ((Arr.mk (n := 16) (put (Arr.mk (n := 16) (put (Arr.mk (n := 16) (put (Arr.mk (n := 16) (put yb3__5.l 12 (((BitVec.ofInt 64 x2) % (4294967296#64)).setWidth 32))).l 13 (((BitVec.ofInt 64 x2) / (4294967296#64)).setWidth 32))).l 14 ((x1 % (4294967296#64)).setWidth 32))).l 15 ((x1 / (4294967296#64)).setWidth 32))).l.map w32) ∧ True) (fun B_ b_ => ?_) (fun B_ b_ => ?_)
     ·
      simp only [e_, Nat.reduceAdd, Nat.reduceBEq] at b_
      subst b_
      clear hr56_
      have hll56_ := Le.refl L51_
      have hhh56_ := Le.refl H51_
      refine W_seq_k fun K57 k57 => ?_
      refine W_region [64] rfl (Ops_step (R_move rfl) rfl rfl ?_)
      refine Ops_nil ?_
      refine then_n (k57 _ _ ?_)
      clear k57 K57
      refine W_block ?_
      refine Exists.elim h fun I58_ h => Exists.elim h fun n58_ h => ?_
      have h0_ := h.1
      have hs58_ := h.2
      clear h
      refine W_loopB [7, 10, 62] [64] (fun m vals_ w2 => ∃ (x64_58 : Int) (yb47__58 : Arr 16 (BitVec 32)) (L H : Gh), vals_ = [vi x64_58] ∧ I58_ m x64_58 yb47__58 ∧ Inv [] G w L H w2 ∧ Le L51_ L ∧ Le H51_ H ∧ Ob 120 H H w2 b47_ yb47__58 ∧ Tok H w2 b3_ 120 ((Arr.mk (n := 16) (put (Arr.mk (n := 16) (put (Arr.mk (n := 16) (put (Arr.mk (n := 16) (put yb3__5.l 12 (((BitVec.ofInt 64 x2) % (4294967296#64)).setWidth 32))).l 13 (((BitVec.ofInt 64 x2) / (4294967296#64)).setWidth 32))).l 14 ((x1 % (4294967296#64)).setWidth 32))).l 15 ((x1 / (4294967296#64)).setWidth 32))).l.map w32) ∧ True) n58_ _ rfl ⟨0, yb47__51, _, _, rfl, h0_, hI, Le.refl _, Le.refl _, ⟨_, Arr.shut hnb47__51_, htb47__51⟩, htb3__5, trivial⟩ fun B_ b_ => ?_
      clear h0_
      simp only [e_, Nat.reduceAdd, Nat.reduceBEq] at b_
      subst b_
      clear htb3__5
      rintro m58_ _ w58_ ⟨x64_58, yb47__58, L58_, H58_, rfl, hJ58_, hI58_, hll58_, hhh58_, hqb47__58, htb3__5, -⟩
      replace hI := hI58_
      clear hI58_
      have h := hs58_ m58_ x64_58 yb47__58 hJ58_
      clear hs58_ hJ58_
      replace hll49_ := hll49_.trans hll58_
      replace hhh49_ := hhh49_.trans hhh58_
      replace hll51_ := hll51_.trans hll58_
      replace hhh51_ := hhh51_.trans hhh58_
      replace hll55_ := hll55_.trans hll58_
      replace hhh55_ := hhh55_.trans hhh58_
      replace hll56_ := hll56_.trans hll58_
      replace hhh56_ := hhh56_.trans hhh58_
      obtain ⟨lb47__58_, hlb47__58_, htb47__58⟩ := hqb47__58
      obtain ⟨hnb47__58_, rfl⟩ := Arr.open_ hlb47__58_
      refine W_seq_k fun K59 k59 => ?_
      refine W_region [65] rfl (Ops_step (R_lss rfl rfl) rfl rfl ?_)
      refine Ops_nil ?_
      refine then_n (k59 _ _ ?_)
      clear k59 K59
      refine W_seq_k fun K60 k60 => ?_
      refine W_if rfl (fun hc61_ => ?_) (fun hc61_ => ?_)
      ·
       replace h := h.1 hc61_
       refine W_skip ?_
       refine then_n (k60 _ _ ?_)
       clear k60 K60
       refine W_seq_k fun K62 k62 => ?_
       refine W_block ?_
       refine W_seq_k fun K63 k63 => ?_
       refine W_region [66, 11] rfl (Ops_step (R_move rfl) rfl rfl (Ops_step (R_assign rfl) rfl rfl ?_))
       refine Ops_nil ?_
       refine then_n (k63 _ _ ?_)
       clear k63 K63
       refine W_region [67, 68, 69, 70, 71, 72, 73, 74, 75, none] rfl (Ops_step (R_loadW ag120 sz120 rfl htb47__58.blk (by rw [List.length_map]; exact hnb47__58_)) rfl rfl (Ops_step (R_move rfl) rfl rfl (Ops_step (R_move rfl) rfl rfl ?_)))
       have hk64_ := h.1
       replace h := h.2
       refine Ops_step (R_add rfl rfl (wI hk64_.1 hk64_.2)) rfl rfl (Ops_step (R_move rfl) rfl rfl ?_)
       have hk65_ := h.1
       replace h := h.2
       refine Ops_step (R_add rfl rfl (wI hk65_.1 hk65_.2)) rfl rfl (Ops_step (R_move rfl) rfl rfl ?_)
       have hk66_ := h.1
       replace h := h.2
       refine Ops_step (R_add rfl rfl (wI hk66_.1 hk66_.2)) rfl rfl ?_
       refine Ops_call (C_func bd98 rfl) rfl rfl ?_
       refine (sealskinref08_quarter_ok (x0 := yb47__58) (x1 := x64_58) (x2 := (4 + x64_58)) (x3 := (8 + x64_58)) (x4 := (12 + x64_58)) hI.st (hg.up hI.le) hnb47__58_ h).mono ?_
       rintro _ w67_ ⟨r67_0, L67_, H67_, rfl, hI67_, hn67_0, h⟩
       refine Exists.elim (hI.call hI67_ (by simp)) fun L670_ h67_ => ?_
       have hz67_ := hI.size
       replace hI := h67_.1
       have u67_ := h67_.2.1
       have hl67_ := h67_.2.2
       clear h67_
       replace hll49_ := hll49_.trans u67_.ll
       replace hhh49_ := hhh49_.trans u67_.hh
       replace hll51_ := hll51_.trans u67_.ll
       replace hhh51_ := hhh51_.trans u67_.hh
       replace hll55_ := hll55_.trans u67_.ll
       replace hhh55_ := hhh55_.trans u67_.hh
       replace hll56_ := hll56_.trans u67_.ll
       replace hhh56_ := hhh56_.trans u67_.hh
       replace htb3__5 := htb3__5.up u67_ (by simp)
       replace htb47__58 := htb47__58.up u67_ (by simp)
       replace hll58_ := hll58_.trans u67_.ll
       replace hhh58_ := hhh58_.trans u67_.hh
       clear hI67_ u67_ hl67_
       refine ⟨_, rfl, ?_⟩
       refine Ops_to0 (R_storeN sz120 (by simp [hn67_0]) rfl rfl htb47__58.blk (by simp [hnb47__58_, hn67_0]) (all_enc _)) rfl ?_
       rintro _ w68_ ⟨hB68_, hF68_⟩
       replace hI := hI.tok hF68_ (out1 htb47__58.out) (new1 hge_b47_)
       replace htb3__5 := htb3__5.fr hF68_ (ne1 hne47_b3_)
       replace htb47__58 : Tok H67_ _ b47_ 120 (r67_0.l.map w32) := ⟨hB68_.to (arr_over ((hnb47__58_).trans (hn67_0).symm)), htb47__58.out⟩
       clear hF68_ hB68_
       refine Ops_nil ?_
       refine block_n ?_
       refine then_n (k62 _ _ ?_)
       clear k62 K62
       refine W_keepB [7, 10, 62, 64] fun B_ b_ => ?_
       simp only [e_, Nat.reduceAdd, Nat.reduceBEq] at b_
       subst b_
       refine W_region [76, 64] rfl ?_
       have hk70_ := h.1
       replace h := h.2
       refine Ops_step (R_add rfl rfl (wI hk70_.1 hk70_.2)) rfl rfl (Ops_step (R_move rfl) rfl rfl ?_)
       refine Ops_nil ?_
       refine then_n ?_
       exact h.elim fun m_ h => ⟨m_, _, h.1, rfl, ⟨(x64_58 + 1), r67_0, _, _, rfl, h.2, hI, hll58_, hhh58_, ⟨_, Arr.shut hn67_0, htb47__58⟩, htb3__5, trivial⟩, ⟨rfl, rfl, rfl, trivial⟩⟩
      ·
       replace h := h.2 hc61_
       refine W_exit ?_
       refine then_exit ?_
       clear k60 K60
       refine then_exit ?_
       refine block_exit ?_
       refine then_n ?_
       exact ⟨_, rfl, ⟨yb47__58, _, _, rfl, h, hI, hll56_, hhh56_, ⟨_, Arr.shut hnb47__58_, htb47__58⟩, htb3__5, trivial⟩, ⟨rfl, rfl, rfl, trivial⟩⟩
     ·
      simp only [e_, Nat.reduceAdd, Nat.reduceBEq] at b_
      subst b_
      clear h
      clear htb3__5
      rintro _ w56_ ⟨yb47__56, L56_, H56_, rfl, hJ56_, hI56_, hll56_, hhh56_, hqb47__56, htb3__5, -⟩
      replace hI := hI56_
      clear hI56_
      have h := hr56_ yb47__56 hJ56_
      clear hr56_ hJ56_
      replace hll49_ := hll49_.trans hll56_
      replace hhh49_ := hhh49_.trans hhh56_
      replace hll51_ := hll51_.trans hll56_
      replace hhh51_ := hhh51_.trans hhh56_
      replace hll55_ := hll55_.trans hll56_
      replace hhh55_ := hhh55_.trans hhh56_
      obtain ⟨lb47__56_, hlb47__56_, htb47__56⟩ := hqb47__56
      obtain ⟨hnb47__56_, rfl⟩ := Arr.open_ hlb47__56_
      refine W_seq_k fun K71 k71 => ?_
      refine W_region [77] rfl (Ops_step (R_move rfl) rfl rfl ?_)
      refine Ops_nil ?_
      refine then_n (k71 _ _ ?_)
      clear k71 K71
      refine W_block ?_
      refine Exists.elim h fun I72_ h => Exists.elim h fun n72_ h => ?_
      have h0_ := h.1
      have hs72_ := h.2
      clear h
      refine W_loopB [7, 10, 62] [77] (fun m vals_ w2 => ∃ (x77_72 : Int) (yb47__72 : Arr 16 (BitVec 32)) (L H : Gh), vals_ = [vi x77_72] ∧ I72_ m x77_72 yb47__72 ∧ Inv [] G w L H w2 ∧ Le L56_ L ∧ Le H56_ H ∧ Ob 120 H H w2 b47_ yb47__72 ∧ Tok H w2 b3_ 120 ((Arr.mk (n := 16) (put (Arr.mk (n := 16) (put (Arr.mk (n := 16) (put (Arr.mk (n := 16) (put yb3__5.l 12 (((BitVec.ofInt 64 x2) % (4294967296#64)).setWidth 32))).l 13 (((BitVec.ofInt 64 x2) / (4294967296#64)).setWidth 32))).l 14 ((x1 % (4294967296#64)).setWidth 32))).l 15 ((x1 / (4294967296#64)).setWidth 32))).l.map w32) ∧ True) n72_ _ rfl ⟨0, yb47__56, _, _, rfl, h0_, hI, Le.refl _, Le.refl _, ⟨_, Arr.shut hnb47__56_, htb47__56⟩, htb3__5, trivial⟩ fun B_ b_ => ?_
      clear h0_
      simp only [e_, Nat.reduceAdd, Nat.reduceBEq] at b_
      subst b_
      clear htb3__5
      rintro m72_ _ w72_ ⟨x77_72, yb47__72, L72_, H72_, rfl, hJ72_, hI72_, hll72_, hhh72_, hqb47__72, htb3__5, -⟩
      replace hI := hI72_
      clear hI72_
      have h := hs72_ m72_ x77_72 yb47__72 hJ72_
      clear hs72_ hJ72_
      replace hll49_ := hll49_.trans hll72_
      replace hhh49_ := hhh49_.trans hhh72_
      replace hll51_ := hll51_.trans hll72_
      replace hhh51_ := hhh51_.trans hhh72_
      replace hll55_ := hll55_.trans hll72_
      replace hhh55_ := hhh55_.trans hhh72_
      obtain ⟨lb47__72_, hlb47__72_, htb47__72⟩ := hqb47__72
      obtain ⟨hnb47__72_, rfl⟩ := Arr.open_ hlb47__72_
      refine W_seq_k fun K73 k73 => ?_
      refine W_region [78] rfl (Ops_step (R_lss rfl rfl) rfl rfl ?_)
      refine Ops_nil ?_
      refine then_n (k73 _ _ ?_)
      clear k73 K73
      refine W_seq_k fun K74 k74 => ?_
      refine W_if rfl (fun hc75_ => ?_) (fun hc75_ => ?_)
      ·
       replace h := h.1 hc75_
       refine W_skip ?_
       refine then_n (k74 _ _ ?_)
       clear k74 K74
       refine W_seq_k fun K76 k76 => ?_
       refine W_block ?_
       refine W_seq_k fun K77 k77 => ?_
       refine W_region [79, 12] rfl (Ops_step (R_move rfl) rfl rfl (Ops_step (R_assign rfl) rfl rfl ?_))
       refine Ops_nil ?_
       refine then_n (k77 _ _ ?_)
       clear k77 K77
       refine W_region [80, 81, 82, 83, 84, 85, 86, 87, 88, 89, 90, 91, 92, 93, 94, none] rfl (Ops_step (R_loadW ag120 sz120 rfl htb47__72.blk (by rw [List.length_map]; exact hnb47__72_)) rfl rfl (Ops_step (R_move rfl) rfl rfl (Ops_step (R_move rfl) rfl rfl ?_)))
       have hk78_ := h.1
       replace h := h.2
       refine Ops_step (R_add rfl rfl (wI hk78_.1 hk78_.2)) rfl rfl (Ops_step (R_rem rfl rfl (by decide) _root_.rfl) rfl rfl ?_)
       have hk79_ := h.1
       replace h := h.2
       refine Ops_step (R_add rfl rfl (wI hk79_.1 hk79_.2)) rfl rfl (Ops_step (R_move rfl) rfl rfl ?_)
       have hk80_ := h.1
       replace h := h.2
       refine Ops_step (R_add rfl rfl (wI hk80_.1 hk80_.2)) rfl rfl (Ops_step (R_rem rfl rfl (by decide) _root_.rfl) rfl rfl ?_)
       have hk81_ := h.1
       replace h := h.2
       refine Ops_step (R_add rfl rfl (wI hk81_.1 hk81_.2)) rfl rfl (Ops_step (R_move rfl) rfl rfl ?_)
       have hk82_ := h.1
       replace h := h.2
       refine Ops_step (R_add rfl rfl (wI hk82_.1 hk82_.2)) rfl rfl (Ops_step (R_rem rfl rfl (by decide) _root_.rfl) rfl rfl ?_)
       have hk83_ := h.1
       replace h := h.2
       refine Ops_step (R_add rfl rfl (wI hk83_.1 hk83_.2)) rfl rfl ?_
       refine Ops_call (C_func bd98 rfl) rfl rfl ?_
       refine (sealskinref08_quarter_ok (x0 := yb47__72) (x1 := x77_72) (x2 := (4 + ((x77_72 + 1).tmod 4))) (x3 := (8 + ((x77_72 + 2).tmod 4))) (x4 := (12 + ((x77_72 + 3).tmod 4))) hI.st (hg.up hI.le) hnb47__72_ h).mono ?_
       rintro _ w84_ ⟨r84_0, L84_, H84_, rfl, hI84_, hn84_0, h⟩
       refine Exists.elim (hI.call hI84_ (by simp)) fun L840_ h84_ => ?_
       have hz84_ := hI.size
       replace hI := h84_.1
       have u84_ := h84_.2.1
       have hl84_ := h84_.2.2
       clear h84_
       replace hll49_ := hll49_.trans u84_.ll
       replace hhh49_ := hhh49_.trans u84_.hh
       replace hll51_ := hll51_.trans u84_.ll
       replace hhh51_ := hhh51_.trans u84_.hh
       replace hll55_ := hll55_.trans u84_.ll
       replace hhh55_ := hhh55_.trans u84_.hh
       replace htb3__5 := htb3__5.up u84_ (by simp)
       replace htb47__72 := htb47__72.up u84_ (by simp)
       replace hll72_ := hll72_.trans u84_.ll
       replace hhh72_ := hhh72_.trans u84_.hh
       clear hI84_ u84_ hl84_
       refine ⟨_, rfl, ?_⟩
       refine Ops_to0 (R_storeN sz120 (by simp [hn84_0]) rfl rfl htb47__72.blk (by simp [hnb47__72_, hn84_0]) (all_enc _)) rfl ?_
       rintro _ w85_ ⟨hB85_, hF85_⟩
       replace hI := hI.tok hF85_ (out1 htb47__72.out) (new1 hge_b47_)
       replace htb3__5 := htb3__5.fr hF85_ (ne1 hne47_b3_)
       replace htb47__72 : Tok H84_ _ b47_ 120 (r84_0.l.map w32) := ⟨hB85_.to (arr_over ((hnb47__72_).trans (hn84_0).symm)), htb47__72.out⟩
       clear hF85_ hB85_
       refine Ops_nil ?_
       refine block_n ?_
       refine then_n (k76 _ _ ?_)
       clear k76 K76
       refine W_keepB [7, 10, 62, 77] fun B_ b_ => ?_
       simp only [e_, Nat.reduceAdd, Nat.reduceBEq] at b_
       subst b_
       refine W_region [95, 77] rfl ?_
       have hk87_ := h.1
       replace h := h.2
       refine Ops_step (R_add rfl rfl (wI hk87_.1 hk87_.2)) rfl rfl (Ops_step (R_move rfl) rfl rfl ?_)
       refine Ops_nil ?_
       refine then_n ?_
       exact h.elim fun m_ h => ⟨m_, _, h.1, rfl, ⟨(x77_72 + 1), r84_0, _, _, rfl, h.2, hI, hll72_, hhh72_, ⟨_, Arr.shut hn84_0, htb47__72⟩, htb3__5, trivial⟩, ⟨rfl, rfl, rfl, trivial⟩⟩
      ·
       replace h := h.2 hc75_
       refine W_exit ?_
       refine then_exit ?_
       clear k74 K74
       refine then_exit ?_
       refine block_exit ?_
       refine block_n ?_
       refine then_n ?_
       exact ⟨_, rfl, ⟨yb47__72, _, _, rfl, h, hI, hll55_, hhh55_, ⟨_, Arr.shut hnb47__72_, htb47__72⟩, htb3__5, trivial⟩, ⟨rfl, rfl, rfl, trivial⟩⟩
    ·
     simp only [e_, Nat.reduceAdd, Nat.reduceBEq] at b_
     subst b_
     clear h
     clear htb3__5
     rintro _ w55_ ⟨yb47__55, L55_, H55_, rfl, hJ55_, hI55_, hll55_, hhh55_, hqb47__55, htb3__5, -⟩
     replace hI := hI55_
     clear hI55_
     have h := hr55_ yb47__55 hJ55_
     clear hr55_ hJ55_
     replace hll49_ := hll49_.trans hll55_
     replace hhh49_ := hhh49_.trans hhh55_
     replace hll51_ := hll51_.trans hll55_
     replace hhh51_ := hhh51_.trans hhh55_
     obtain ⟨lb47__55_, hlb47__55_, htb47__55⟩ := hqb47__55
     obtain ⟨hnb47__55_, rfl⟩ := Arr.open_ hlb47__55_
     refine W_region [96, 62] rfl ?_
     have hk88_ := h.1
     replace h := h.2
     refine Ops_step (R_add rfl rfl (wI hk88_.1 hk88_.2)) rfl rfl (Ops_step (R_move rfl) rfl rfl ?_)
     refine Ops_nil ?_
     refine then_n ?_
     exact h.elim fun m_ h => ⟨m_, _, h.1, rfl, ⟨(x62_51 + 1), yb47__55, _, _, rfl, h.2, hI, hll51_, hhh51_, ⟨_, Arr.shut hnb47__55_, htb47__55⟩, htb3__5, trivial⟩, ⟨rfl, rfl, trivial⟩⟩
   ·
    replace h := h.2 hc54_
    refine W_exit ?_
    refine then_exit ?_
    clear k53 K53
    refine then_exit ?_
    refine block_exit ?_
    refine then_n ?_
    exact ⟨_, rfl, ⟨yb47__51, _, _, rfl, h, hI, hll49_, hhh49_, ⟨_, Arr.shut hnb47__51_, htb47__51⟩, htb3__5, trivial⟩, ⟨rfl, rfl, trivial⟩⟩
  ·
   simp only [e_, Nat.reduceAdd, Nat.reduceBEq] at b_
   subst b_
   clear h
   clear htb3__5
   rintro _ w49_ ⟨yb47__49, L49_, H49_, rfl, hJ49_, hI49_, hll49_, hhh49_, hqb47__49, htb3__5, -⟩
   replace hI := hI49_
   clear hI49_
   have h := hr49_ yb47__49 hJ49_
   clear hr49_ hJ49_
   obtain ⟨lb47__49_, hlb47__49_, htb47__49⟩ := hqb47__49
   obtain ⟨hnb47__49_, rfl⟩ := Arr.open_ hlb47__49_
   refine W_seq_k fun K89 k89 => ?_
   refine W_region [13] rfl (Ops_step (R_assign rfl) rfl rfl ?_)
   refine Ops_nil ?_
   refine then_n (k89 _ _ ?_)
   clear k89 K89
   refine ex_ h fun J90_ hr90_ h => ?_
   refine W_seq_join [] [13] (fun vals_ w2 => ∃ (x13_90 : List UInt8) (A13_90 : Option Addr) (c13_90 : Nat) (L H : Gh), vals_ = [.slice A13_90 x13_90.length c13_90] ∧ J90_ x13_90 ∧ Inv [] G w L H w2 ∧ Le L49_ L ∧ Le H49_ H ∧ OwnS w.heap.size 5 Gh.no H w2 A13_90 c13_90 x13_90 ∧ True) (fun B_ b_ => ?_) (fun B_ b_ => ?_)
   ·
    simp only [e_, Nat.reduceAdd, Nat.reduceBEq] at b_
    subst b_
    clear hr90_
    have hll90_ := Le.refl L49_
    have hhh90_ := Le.refl H49_
    refine W_seq_k fun K91 k91 => ?_
    refine W_region [97] rfl (Ops_step (R_move rfl) rfl rfl ?_)
    refine Ops_nil ?_
    refine then_n (k91 _ _ ?_)
    clear k91 K91
    refine W_block ?_
    refine Exists.elim h fun I92_ h => Exists.elim h fun n92_ h => ?_
    have h0_ := h.1
    have hs92_ := h.2
    clear h
    refine W_loopB [7, 10] [13, 97] (fun m vals_ w2 => ∃ (x13_92 : List UInt8) (A13_92 : Option Addr) (c13_92 : Nat) (x97_92 : Int) (L H : Gh), vals_ = [.slice A13_92 x13_92.length c13_92, vi x97_92] ∧ I92_ m x13_92 x97_92 ∧ Inv [] G w L H w2 ∧ Le L49_ L ∧ Le H49_ H ∧ OwnS w.heap.size 5 Gh.no H w2 A13_92 c13_92 x13_92 ∧ Tok H w2 b3_ 120 ((Arr.mk (n := 16) (put (Arr.mk (n := 16) (put (Arr.mk (n := 16) (put (Arr.mk (n := 16) (put yb3__5.l 12 (((BitVec.ofInt 64 x2) % (4294967296#64)).setWidth 32))).l 13 (((BitVec.ofInt 64 x2) / (4294967296#64)).setWidth 32))).l 14 ((x1 % (4294967296#64)).setWidth 32))).l 15 ((x1 / (4294967296#64)).setWidth 32))).l.map w32) ∧ Tok H w2 b47_ 120 (yb47__49.l.map w32) ∧ True) n92_ _ rfl ⟨[], none, 0, 0, _, _, rfl, h0_, hI, Le.refl _, Le.refl _, OwnS.nil, htb3__5, htb47__49, trivial⟩ fun B_ b_ => ?_
    clear h0_
    simp only [e_, Nat.reduceAdd, Nat.reduceBEq] at b_
    subst b_
    clear htb3__5
    clear htb47__49
    rintro m92_ _ w92_ ⟨x13_92, A13_92, c13_92, x97_92, L92_, H92_, rfl, hJ92_, hI92_, hll92_, hhh92_, ho13_92, htb3__5, htb47__49, -⟩
    replace hI := hI92_
    clear hI92_
    have h := hs92_ m92_ x13_92 x97_92 hJ92_
    clear hs92_ hJ92_
    replace hll90_ := hll90_.trans hll92_
    replace hhh90_ := hhh90_.trans hhh92_
    refine W_seq_k fun K93 k93 => ?_
    refine W_region [98] rfl (Ops_step (R_lss rfl rfl) rfl rfl ?_)
    refine Ops_nil ?_
    refine then_n (k93 _ _ ?_)
    clear k93 K93
    refine W_seq_k fun K94 k94 => ?_
    refine W_if rfl (fun hc95_ => ?_) (fun hc95_ => ?_)
    ·
     replace h := h.1 hc95_
     refine W_skip ?_
     refine then_n (k94 _ _ ?_)
     clear k94 K94
     refine ex_ h fun J96_ hr96_ h => ?_
     refine W_seq_join [7, 10, 97] [13] (fun vals_ w2 => ∃ (x13_96 : List UInt8) (A13_96 : Option Addr) (c13_96 : Nat) (L H : Gh), vals_ = [.slice A13_96 x13_96.length c13_96] ∧ J96_ x13_96 ∧ Inv [] G w L H w2 ∧ Le L92_ L ∧ Le H92_ H ∧ OwnS w.heap.size 5 Gh.no H w2 A13_96 c13_96 x13_96 ∧ Tok H w2 b3_ 120 ((Arr.mk (n := 16) (put (Arr.mk (n := 16) (put (Arr.mk (n := 16) (put (Arr.mk (n := 16) (put yb3__5.l 12 (((BitVec.ofInt 64 x2) % (4294967296#64)).setWidth 32))).l 13 (((BitVec.ofInt 64 x2) / (4294967296#64)).setWidth 32))).l 14 ((x1 % (4294967296#64)).setWidth 32))).l 15 ((x1 / (4294967296#64)).setWidth 32))).l.map w32) ∧ Tok H w2 b47_ 120 (yb47__49.l.map w32) ∧ True) (fun B_ b_ => ?_) (fun B_ b_ => ?_)
     ·
      simp only [e_, Nat.reduceAdd, Nat.reduceBEq] at b_
      subst b_
      clear hr96_
      have hll96_ := Le.refl L92_
      have hhh96_ := Le.refl H92_
      refine W_block ?_
      refine W_seq_k fun K97 k97 => ?_
      refine W_region [99, 14] rfl (Ops_step (R_move rfl) rfl rfl (Ops_step (R_assign rfl) rfl rfl ?_))
      refine Ops_nil ?_
      refine then_n (k97 _ _ ?_)
      clear k97 K97
      refine W_seq_k fun K98 k98 => ?_
      refine W_drawF [100, 101, 102, 103, 104, 105, 106, 15] [(0, true), (1, true), (2, true), (3, true), (4, true), (5, true), (6, true), (7, true)] TFtA.hm rfl (by kernel_rfl) fun ops99_ w99_ hops99_ hF99_ => ?_
      replace hI := hI.fr0 hF99_
      replace htb3__5 := htb3__5.fr0 hF99_
      replace htb47__49 := htb47__49.fr0 hF99_
      replace ho13_92 := ho13_92.fr0 hF99_
      clear hF99_
      refine HSp (R_move rfl) rfl rfl ?_
      refine ex_ h fun x100_ hx100_ h => ?_
      refine HSp (R_indexArr Tryd.underlying120 sz119 rfl rfl hx100_.1 (hx100_.ltn hnb47__49_)) rfl rfl ?_
      refine HS_loadB ag119 rfl htb47__49.blk (arr_at hx100_) rfl rfl ?_
      refine HSp (R_move rfl) rfl rfl ?_
      refine ex_ h fun x101_ hx101_ h => ?_
      refine HSp (R_indexArr Tryd.underlying120 sz119 rfl rfl hx101_.1 (hx101_.ltn (put_len (put_len (put_len (put_len hnb3__5_)))))) rfl rfl ?_
      refine HS_loadB ag119 rfl htb3__5.blk (arr_at hx101_) rfl rfl ?_
      refine HSp (R_add rfl rfl (add32 x100_ x101_)) rfl rfl (HSp (R_assign rfl) rfl rfl ?_)
      refine HS_nil ?_
      clear hops99_
      refine then_n (k98 _ _ ?_)
      clear k98 K98
      refine W_keepB [7, 10, 13, 15, 97] fun B_ b_ => ?_
      simp only [e_, Nat.reduceAdd, Nat.reduceBEq] at b_
      subst b_
      refine W_seq_k fun K103 k103 => ?_
      refine W_region [107] rfl (Ops_step (R_move rfl) rfl rfl ?_)
      refine Ops_nil ?_
      refine then_n (k103 _ _ ?_)
      clear k103 K103
      refine W_block ?_
      refine Exists.elim h fun I104_ h => Exists.elim h fun n104_ h => ?_
      have h0_ := h.1
      have hs104_ := h.2
      clear h
      refine W_loopB [7, 10, 97] [13, 15, 107] (fun m vals_ w2 => ∃ (x13_104 : List UInt8) (A13_104 : Option Addr) (c13_104 : Nat) (x15_104 : BitVec 32) (x107_104 : Int) (L H : Gh), vals_ = [.slice A13_104 x13_104.length c13_104, w32 x15_104, vi x107_104] ∧ I104_ m x13_104 x15_104 x107_104 ∧ Inv [] G w L H w2 ∧ Le L92_ L ∧ Le H92_ H ∧ OwnS w.heap.size 5 Gh.no H w2 A13_104 c13_104 x13_104 ∧ Tok H w2 b3_ 120 ((Arr.mk (n := 16) (put (Arr.mk (n := 16) (put (Arr.mk (n := 16) (put (Arr.mk (n := 16) (put yb3__5.l 12 (((BitVec.ofInt 64 x2) % (4294967296#64)).setWidth 32))).l 13 (((BitVec.ofInt 64 x2) / (4294967296#64)).setWidth 32))).l 14 ((x1 % (4294967296#64)).setWidth 32))).l 15 ((x1 / (4294967296#64)).setWidth 32))).l.map w32) ∧ Tok H w2 b47_ 120 (yb47__49.l.map w32) ∧ True) n104_ _ rfl ⟨x13_92, A13_92, c13_92, (x100_ + x101_), 0, _, _, rfl, h0_, hI, Le.refl _, Le.refl _, ho13_92, htb3__5, htb47__49, trivial⟩ fun B_ b_ => ?_
      clear h0_
      simp only [e_, Nat.reduceAdd, Nat.reduceBEq] at b_
      subst b_
      clear htb3__5
      clear htb47__49
      rintro m104_ _ w104_ ⟨x13_104, A13_104, c13_104, x15_104, x107_104, L104_, H104_, rfl, hJ104_, hI104_, hll104_, hhh104_, ho13_104, htb3__5, htb47__49, -⟩
      replace hI := hI104_
      clear hI104_
      have h := hs104_ m104_ x13_104 x15_104 x107_104 hJ104_
      clear hs104_ hJ104_
      replace hll90_ := hll90_.trans hll104_
      replace hhh90_ := hhh90_.trans hhh104_
      replace hll92_ := hll92_.trans hll104_
      replace hhh92_ := hhh92_.trans hhh104_
      replace hll96_ := hll96_.trans hll104_
      replace hhh96_ := hhh96_.trans hhh104_
      refine W_seq_k fun K105 k105 => ?_
      refine W_region [108] rfl (Ops_step (R_lss rfl rfl) rfl rfl ?_)
      refine Ops_nil ?_
      refine then_n (k105 _ _ ?_)
      clear k105 K105
      refine W_seq_k fun K106 k106 => ?_
      refine W_if rfl (fun hc107_ => ?_) (fun hc107_ => ?_)
      ·
       replace h := h.1 hc107_
       refine W_skip ?_
       refine then_n (k106 _ _ ?_)
       clear k106 K106
       refine W_seq_k fun K108 k108 => ?_
       refine W_block ?_
       refine W_seq_k fun K109 k109 => ?_
       refine W_region [109, 110, 111, 112, 113, 114, 13] rfl (Ops_step (R_move rfl) rfl rfl (Ops_step (R_move rfl) rfl rfl (Ops_step (R_rem rfl rfl (by decide) (rem32 x15_104 (256#32))) rfl rfl (Ops_step (R_conv Tryd.underlying119 Tryd.underlying5 rfl (c32_8 _)) rfl rfl ?_))))
       have hlo110_ho13_104 := ho13_104.lt
       refine Ops_to (R_buildSlice el30 zr5 (by decide) (by decide) rfl rfl) rfl rfl ?_
       rintro _ w110_ ⟨b110_, rfl, hb110_, hB110_, hF110_⟩
       have ho110_ : OwnS w.heap.size 5 Gh.no H104_ _ (some ⟨b110_, 0, none⟩) 1 ([(UInt8.ofBitVec ((x15_104 % (256#32)).setWidth 8))] : List UInt8) := OwnS.ofBlk hI.st hb110_ hB110_ (all2_sc' _) rfl (by have := hI.size; omega) (by show 1 ≤ maxLen; decide)
       replace hI := hI.fr0 hF110_
       replace htb3__5 := htb3__5.fr0 hF110_
       replace htb47__49 := htb47__49.fr0 hF110_
       replace ho13_104 := ho13_104.fr0 hF110_
       clear hF110_ hB110_
       have hsp110_ho13_104 : ∀ i ∈ bk (some ⟨b110_, 0, none⟩) 1, i ∉ bk A13_104 c13_104 := sep_new (fun i_ hi_ => by have := (bk_of hi_).1; simp only [blkOf, List.mem_singleton] at this; omega) hlo110_ho13_104
       have hk112_ := h.1
       replace h := h.2
       refine Ops_to (X_append (α := UInt8) (xs := x13_104) (ys := ([(UInt8.ofBitVec ((x15_104 % (256#32)).setWidth 8))] : List UInt8)) el30 rfl rfl ho13_104 (Srcs.sc (Srcs.ofOwn Tryd.underlying30 ho110_ (by decide))) hI.st hk112_ (by decide) hI.size) rfl rfl ?_
       rintro _ w111_ ⟨A111_, c111_, rfl, ho111_, hF111_, hbk111_⟩
       clear hbk111_
       replace hI := hI.tok hF111_ ho13_104.out (ho13_104.new (Nat.le_refl _))
       replace htb3__5 := htb3__5.fr hF111_ (htb3__5.sep ho13_104 (by decide))
       replace htb47__49 := htb47__49.fr hF111_ (htb47__49.sep ho13_104 (by decide))
       clear hF111_ ho13_104
       refine Ops_step (R_assign rfl) rfl rfl ?_
       refine Ops_nil ?_
       refine then_n (k109 _ _ ?_)
       clear k109 K109
       refine W_keepB [7, 10, 13, 15, 97, 107] fun B_ b_ => ?_
       simp only [e_, Nat.reduceAdd, Nat.reduceBEq] at b_
       subst b_
       refine W_region [115, 116, 15] rfl (Ops_step (R_move rfl) rfl rfl (Ops_step (R_quo rfl rfl (by decide) (quo32 x15_104 (256#32))) rfl rfl (Ops_step (R_assign rfl) rfl rfl ?_)))
       refine Ops_nil ?_
       refine block_n ?_
       refine then_n (k108 _ _ ?_)
       clear k108 K108
       refine W_region [117, 107] rfl ?_
       have hk114_ := h.1
       replace h := h.2
       refine Ops_step (R_add rfl rfl (wI hk114_.1 hk114_.2)) rfl rfl (Ops_step (R_move rfl) rfl rfl ?_)
       refine Ops_nil ?_
       refine then_n ?_
       exact h.elim fun m_ h => ⟨m_, _, h.1, rfl, ⟨(x13_104 ++ ([(UInt8.ofBitVec ((x15_104 % (256#32)).setWidth 8))] : List UInt8)), A111_, c111_, (x15_104 / (256#32)), (x107_104 + 1), _, _, rfl, h.2, hI, hll104_, hhh104_, ho111_, htb3__5, htb47__49, trivial⟩, ⟨rfl, rfl, rfl, trivial⟩⟩
      ·
       replace h := h.2 hc107_
       refine W_exit ?_
       refine then_exit ?_
       clear k106 K106
       refine then_exit ?_
       refine block_exit ?_
       refine block_n ?_
       refine then_n ?_
       exact ⟨_, rfl, ⟨x13_104, A13_104, c13_104, _, _, rfl, h, hI, hll96_, hhh96_, ho13_104, htb3__5, htb47__49, trivial⟩, ⟨rfl, rfl, rfl, trivial⟩⟩
     ·
      simp only [e_, Nat.reduceAdd, Nat.reduceBEq] at b_
      subst b_
      clear h
      clear htb3__5
      clear htb47__49
      rintro _ w96_ ⟨x13_96, A13_96, c13_96, L96_, H96_, rfl, hJ96_, hI96_, hll96_, hhh96_, ho13_96, htb3__5, htb47__49, -⟩
      replace hI := hI96_
      clear hI96_
      have h := hr96_ x13_96 hJ96_
      clear hr96_ hJ96_
      replace hll90_ := hll90_.trans hll96_
      replace hhh90_ := hhh90_.trans hhh96_
      replace hll92_ := hll92_.trans hll96_
      replace hhh92_ := hhh92_.trans hhh96_
      refine W_region [118, 97] rfl ?_
      have hk115_ := h.1
      replace h := h.2
      refine Ops_step (R_add rfl rfl (wI hk115_.1 hk115_.2)) rfl rfl (Ops_step (R_move rfl) rfl rfl ?_)
      refine Ops_nil ?_
      refine then_n ?_
      exact h.elim fun m_ h => ⟨m_, _, h.1, rfl, ⟨x13_96, A13_96, c13_96, (x97_92 + 1), _, _, rfl, h.2, hI, hll92_, hhh92_, ho13_96, htb3__5, htb47__49, trivial⟩, ⟨rfl, rfl, trivial⟩⟩
    ·
     replace h := h.2 hc95_
     refine W_exit ?_
     refine then_exit ?_
     clear k94 K94
     refine then_exit ?_
     refine block_exit ?_
     refine then_n ?_
     exact ⟨_, rfl, ⟨x13_92, A13_92, c13_92, _, _, rfl, h, hI, hll90_, hhh90_, ho13_92, trivial⟩, trivial⟩
   ·
    simp only [e_, Nat.reduceAdd, Nat.reduceBEq] at b_
    subst b_
    clear h
    rintro _ w90_ ⟨x13_90, A13_90, c13_90, L90_, H90_, rfl, hJ90_, hI90_, hll90_, hhh90_, ho13_90, -⟩
    replace hI := hI90_
    clear hI90_
    have h := hr90_ x13_90 hJ90_
    clear hr90_ hJ90_
    refine W_seq_k fun K116 k116 => ?_
    refine W_region [119, 6] rfl (Ops_step (R_move rfl) rfl rfl (Ops_step (R_assign rfl) rfl rfl ?_))
    refine Ops_nil ?_
    refine then_n (k116 _ _ ?_)
    clear k116 K116
    refine W_ret ?_
    refine ⟨_, ⟨_, _, rfl, rfl, rfl⟩, ?_⟩
    exact ⟨A13_90, c13_90, x13_90, _, _, rfl, hI, (ho13_90.hl (Le.no _)), h⟩

theorem sealskinref08_Turn_ok {G : Gh} {w : World} (hS : St G w) (hg : GL G) {A0 : Option Addr} {c0 : Nat} {x0 : List UInt8} (hc0 : x0.length ≤ c0) (hs0 : Sl G A0 x0) {x1 : BitVec 64} {A2 : Option Addr} {c2 : Nat} {x2 : List UInt8} (hc2 : x2.length ≤ c2) (hs2 : Sl G A2 x2) {Q : (List UInt8) → Int → Prop} (h : sealskinref08_Turn x0 x1 x2 Q) : Calls Tryd.prog 76 #[.slice A0 x0.length c0, w64 x1, .slice A2 x2.length c2] w fun e w2 => ∃ (A0 : Option Addr) (c0 : Nat) (r0 : List UInt8) (r1 : Int) (L H : Gh), e = .returned (.tuple #[.slice A0 r0.length c0, vi r1]) ∧ Inv [] G w L H w2 ∧ OwnS w.heap.size 5 L H w2 A0 c0 r0 ∧ Q r0 r1 := by
 unfold sealskinref08_Turn at h
 have hI := Inv.start (M := []) hS
 refine calls_W 42 Tryd.func76 rfl Tryd.ntmps76 rfl [.tmp 6, .tmp 7] rfl ?_
 refine W_seq_k fun K1 k1 => ?_
 refine W_region [6, 7] rfl (Ops_step (R_assign rfl) rfl rfl (Ops_step (R_assign rfl) rfl rfl ?_))
 refine Ops_nil ?_
 refine then_n (k1 _ _ ?_)
 clear k1 K1
 refine W_seq_k fun K2 k2 => ?_
 refine W_seq_k fun K3 k3 => ?_
 refine W_region [12, 13, 14] rfl (Ops_step (R_move rfl) rfl rfl (Ops_step (R_len Tryd.underlying30 rfl rfl) rfl rfl (Ops_step (R_lss rfl rfl) rfl rfl ?_)))
 refine Ops_nil ?_
 refine then_n (k3 _ _ ?_)
 clear k3 K3
 refine W_if rfl (fun hc4_ => ?_) (fun hc4_ => ?_)
 ·
  replace h := h.1 hc4_
  refine W_seq_k fun K5 k5 => ?_
  refine W_region [6, 7] rfl (Ops_step (R_assign rfl) rfl rfl (Ops_step (R_assign rfl) rfl rfl ?_))
  refine Ops_nil ?_
  refine then_n (k5 _ _ ?_)
  clear k5 K5
  refine W_keepB [6, 7] fun B_ b_ => ?_
  simp only [e_, Nat.reduceAdd, Nat.reduceBEq] at b_
  subst b_
  refine W_ret ?_
  refine then_ret ?_
  clear k2 K2
  refine ⟨_, ⟨_, _, rfl, rfl, ⟨_, _, rfl, rfl, rfl⟩⟩, ?_⟩
  exact ⟨none, 0, [], 1, _, _, rfl, hI, OwnS.nil, h⟩
 ·
  replace h := h.2 hc4_
  refine W_skip ?_
  refine then_n (k2 _ _ ?_)
  clear k2 K2
  refine W_seq_k fun K7 k7 => ?_
  refine W_region [8, 9] rfl (Ops_step (R_assign rfl) rfl rfl (Ops_step (R_assign rfl) rfl rfl ?_))
  refine Ops_nil ?_
  refine then_n (k7 _ _ ?_)
  clear k7 K7
  refine ex_ h fun J8_ hr8_ h => ?_
  refine W_seq_join [] [9] (fun vals_ w2 => ∃ (x9_8 : List UInt8) (A9_8 : Option Addr) (c9_8 : Nat) (L H : Gh), vals_ = [.slice A9_8 x9_8.length c9_8] ∧ J8_ x9_8 ∧ Inv [] G w L H w2 ∧ Le Gh.no L ∧ Le G H ∧ OwnS w.heap.size 5 Gh.no H w2 A9_8 c9_8 x9_8 ∧ True) (fun B_ b_ => ?_) (fun B_ b_ => ?_)
  ·
   simp only [e_, Nat.reduceAdd, Nat.reduceBEq] at b_
   subst b_
   clear hr8_
   have hll8_ := Le.refl Gh.no
   have hhh8_ := Le.refl G
   refine W_seq_k fun K9 k9 => ?_
   refine W_region [15, 16, 17] rfl (Ops_step (R_move rfl) rfl rfl (Ops_step (R_len Tryd.underlying30 rfl rfl) rfl rfl (Ops_step (R_move rfl) rfl rfl ?_)))
   refine Ops_nil ?_
   refine then_n (k9 _ _ ?_)
   clear k9 K9
   refine W_keepB [0, 1, 8, 9, 15, 16, 17] fun B_ b_ => ?_
   simp only [e_, Nat.reduceAdd, Nat.reduceBEq] at b_
   subst b_
   refine W_block ?_
   refine Exists.elim h fun I11_ h => Exists.elim h fun n11_ h => ?_
   have h0_ := h.1
   have hs11_ := h.2
   clear h
   refine W_loopB [0, 1, 15, 16] [8, 9, 17] (fun m vals_ w2 => ∃ (x8_11 : List UInt8) (A8_11 : Option Addr) (c8_11 : Nat) (x9_11 : List UInt8) (A9_11 : Option Addr) (c9_11 : Nat) (x17_11 : Int) (L H : Gh), vals_ = [.slice A8_11 x8_11.length c8_11, .slice A9_11 x9_11.length c9_11, vi x17_11] ∧ I11_ m x8_11 x9_11 x17_11 ∧ Inv [] G w L H w2 ∧ Le Gh.no L ∧ Le G H ∧ x8_11.length ≤ c8_11 ∧ Sl L A8_11 x8_11 ∧ OwnS w.heap.size 5 Gh.no H w2 A9_11 c9_11 x9_11 ∧ True) n11_ _ rfl ⟨[], none, 0, [], none, 0, 0, _, _, rfl, h0_, hI, Le.refl _, Le.refl _, (Nat.le_refl 0), Sl.nil, OwnS.nil, trivial⟩ fun B_ b_ => ?_
   clear h0_
   simp only [e_, Nat.reduceAdd, Nat.reduceBEq] at b_
   subst b_
   rintro m11_ _ w11_ ⟨x8_11, A8_11, c8_11, x9_11, A9_11, c9_11, x17_11, L11_, H11_, rfl, hJ11_, hI11_, hll11_, hhh11_, hc8_11, hs8_11, ho9_11, -⟩
   replace hI := hI11_
   clear hI11_
   have h := hs11_ m11_ x8_11 x9_11 x17_11 hJ11_
   clear hs11_ hJ11_
   replace hs0 := hs0.up hhh11_
   replace hs2 := hs2.up hhh11_
   replace hll8_ := hll8_.trans hll11_
   replace hhh8_ := hhh8_.trans hhh11_
   refine W_seq_k fun K12 k12 => ?_
   refine W_region [18] rfl (Ops_step (R_lss rfl rfl) rfl rfl ?_)
   refine Ops_nil ?_
   refine then_n (k12 _ _ ?_)
   clear k12 K12
   refine W_seq_k fun K13 k13 => ?_
   refine W_if rfl (fun hc14_ => ?_) (fun hc14_ => ?_)
   ·
    replace h := h.1 hc14_
    refine W_skip ?_
    refine then_n (k13 _ _ ?_)
    clear k13 K13
    refine W_seq_k fun K15 k15 => ?_
    refine W_block ?_
    refine W_seq_k fun K16 k16 => ?_
    refine W_region [19, 20, 21, 10, 11] rfl (Ops_step (R_move rfl) rfl rfl ?_)
    refine ex_ h fun x17_ hx17_ h => ?_
    have ha17_ := (hs2.atS hx17_).1
    have hg17_ := (hs2.atS hx17_).2
    refine Ops_step (R_indexSl Tryd.underlying30 sz5 rfl rfl hx17_.1 hx17_.lt ha17_) rfl rfl (Ops_step (R_load ag5 rfl (hI.st _ _ hg17_)) rfl rfl (Ops_step (R_assign rfl) rfl rfl (Ops_step (R_assign rfl) rfl rfl ?_)))
    refine Ops_nil ?_
    refine then_n (k16 _ _ ?_)
    clear k16 K16
    refine ex_ h fun J18_ hr18_ h => ?_
    refine W_seq_join [0, 1, 9, 10, 11, 15, 16, 17] [8] (fun vals_ w2 => ∃ (x8_18 : List UInt8) (A8_18 : Option Addr) (c8_18 : Nat) (L H : Gh), vals_ = [.slice A8_18 x8_18.length c8_18] ∧ J18_ x8_18 ∧ Inv [] G w L H w2 ∧ Le L11_ L ∧ Le H11_ H ∧ x8_18.length ≤ c8_18 ∧ Sl L A8_18 x8_18 ∧ OwnS w.heap.size 5 Gh.no H w2 A9_11 c9_11 x9_11 ∧ True) (fun B_ b_ => ?_) (fun B_ b_ => ?_)
    ·
     simp only [e_, Nat.reduceAdd, Nat.reduceBEq] at b_
     subst b_
     clear hr18_
     have hll18_ := Le.refl L11_
     have hhh18_ := Le.refl H11_
     refine W_seq_k fun K19 k19 => ?_
     refine W_region [22, 23, 24] rfl (Ops_step (R_move rfl) rfl rfl (Ops_step (R_rem rfl rfl (by decide) _root_.rfl) rfl rfl (Ops_step (R_eql rfl rfl) rfl rfl ?_)))
     refine Ops_nil ?_
     refine then_n (k19 _ _ ?_)
     clear k19 K19
     refine W_keepB [0, 1, 8, 9, 10, 11, 15, 16, 17, 24] fun B_ b_ => ?_
     simp only [e_, Nat.reduceAdd, Nat.reduceBEq] at b_
     subst b_
     refine W_if rfl (fun hc21_ => ?_) (fun hc21_ => ?_)
     ·
      replace h := h.1 hc21_
      refine W_region [25, 26, 27, 28, 29, 8] rfl (Ops_step (R_move rfl) rfl rfl (Ops_step (R_move rfl) rfl rfl (Ops_step (R_move rfl) rfl rfl ?_)))
      have hk22_ := h.1
      replace h := h.2
      refine Ops_step (R_quo rfl rfl (by decide) (wI hk22_.1 hk22_.2)) rfl rfl ?_
      refine Ops_call (C_func bd89 rfl) rfl rfl ?_
      refine (sealskinref08_block_ok (x0 := x0) (x1 := x1) (x2 := (x17_11.tdiv 64)) hI.st (hg.up hI.le) hc0 hs0 h).mono ?_
      have hlo23_0_ho9_11 := ho9_11.lt
      rintro _ w23_ ⟨A23_0, c23_0, r23_0, L23_, H23_, rfl, hI23_, ho23_0, h⟩
      refine Exists.elim (hI.call hI23_ (by simp)) fun L230_ h23_ => ?_
      have hz23_ := hI.size
      replace hI := h23_.1
      have u23_ := h23_.2.1
      have hl23_ := h23_.2.2
      clear h23_
      replace hs0 := hs0.up u23_.hh
      replace hs2 := hs2.up u23_.hh
      replace hll8_ := hll8_.trans u23_.ll
      replace hhh8_ := hhh8_.trans u23_.hh
      replace hs8_11 := hs8_11.up u23_.ll
      replace ho9_11 := ho9_11.up (Le.refl _) u23_ (by simp)
      replace hll11_ := hll11_.trans u23_.ll
      replace hhh11_ := hhh11_.trans u23_.hh
      replace hll18_ := hll18_.trans u23_.ll
      replace hhh18_ := hhh18_.trans u23_.hh
      have hsp23_0_ho9_11 : ∀ i ∈ bk A23_0 c23_0, i ∉ bk A9_11 c9_11 := sep_new ho23_0.off hlo23_0_ho9_11
      replace ho23_0 := OwnS.backS ho23_0 hz23_ (Le.refl _)
      clear hI23_ u23_ hl23_
      refine ⟨_, rfl, ?_⟩
      refine Exists.elim (ho23_0.freeze hI) fun L24_ h24_ => Exists.elim h24_ fun H24_ h24_ => ?_
      replace hI := h24_.1
      have u24_ := h24_.2.1
      have hs24_ := h24_.2.2.1 (Le.no _)
      have hc24_ := ho23_0.cap
      replace hs0 := hs0.up u24_.hh
      replace hs2 := hs2.up u24_.hh
      replace hll8_ := hll8_.trans u24_.ll
      replace hhh8_ := hhh8_.trans u24_.hh
      replace hs8_11 := hs8_11.up u24_.ll
      replace ho9_11 := ho9_11.up (Le.refl _) u24_ (sep_sym hsp23_0_ho9_11)
      replace hll11_ := hll11_.trans u24_.ll
      replace hhh11_ := hhh11_.trans u24_.hh
      replace hll18_ := hll18_.trans u24_.ll
      replace hhh18_ := hhh18_.trans u24_.hh
      clear h24_ u24_ ho23_0
      refine Ops_step (R_assign rfl) rfl rfl ?_
      refine Ops_nil ?_
      refine then_n ?_
      exact ⟨_, rfl, ⟨r23_0, A23_0, c23_0, _, _, rfl, h, hI, hll18_, hhh18_, hc24_, hs24_, ho9_11, trivial⟩, ⟨rfl, rfl, rfl, rfl, rfl, rfl, rfl, rfl, trivial⟩⟩
     ·
      replace h := h.2 hc21_
      refine W_skip ?_
      refine then_n ?_
      exact ⟨_, rfl, ⟨x8_11, A8_11, c8_11, _, _, rfl, h, hI, hll18_, hhh18_, hc8_11, hs8_11, ho9_11, trivial⟩, ⟨rfl, rfl, rfl, rfl, rfl, rfl, rfl, rfl, trivial⟩⟩
    ·
     simp only [e_, Nat.reduceAdd, Nat.reduceBEq] at b_
     subst b_
     clear h
     clear ho9_11
     rintro _ w18_ ⟨x8_18, A8_18, c8_18, L18_, H18_, rfl, hJ18_, hI18_, hll18_, hhh18_, hc8_18, hs8_18, ho9_11, -⟩
     replace hI := hI18_
     clear hI18_
     have h := hr18_ x8_18 hJ18_
     clear hr18_ hJ18_
     replace hs0 := hs0.up hhh18_
     replace hs2 := hs2.up hhh18_
     replace hll8_ := hll8_.trans hll18_
     replace hhh8_ := hhh8_.trans hhh18_
     replace hll11_ := hll11_.trans hll18_
     replace hhh11_ := hhh11_.trans hhh18_
     refine W_region [30, 31, 32, 33, 34, 35, 36, 37, 38, 39, 9] rfl (Ops_step (R_move rfl) rfl rfl (Ops_step (R_move rfl) rfl rfl (Ops_step (R_move rfl) rfl rfl (Ops_step (R_move rfl) rfl rfl ?_))))
     refine Ops_step (R_rem rfl rfl (by decide) _root_.rfl) rfl rfl ?_
     refine ex_ h fun x25_ hx25_ h => ?_
     have ha25_ := ((hs8_18.up hI.sub).atS hx25_).1
     have hg25_ := ((hs8_18.up hI.sub).atS hx25_).2
     refine Ops_step (R_indexSl Tryd.underlying30 sz5 rfl rfl hx25_.1 hx25_.lt ha25_) rfl rfl (Ops_step (R_load ag5 rfl (hI.st _ _ hg25_)) rfl rfl (Ops_step (R_xor rfl rfl (xor8 x17_ x25_)) rfl rfl ?_))
     have hlo26_ho9_11 := ho9_11.lt
     refine Ops_to (R_buildSlice el30 zr5 (by decide) (by decide) rfl rfl) rfl rfl ?_
     rintro _ w26_ ⟨b26_, rfl, hb26_, hB26_, hF26_⟩
     have ho26_ : OwnS w.heap.size 5 Gh.no H18_ _ (some ⟨b26_, 0, none⟩) 1 ([(x17_ ^^^ x25_)] : List UInt8) := OwnS.ofBlk hI.st hb26_ hB26_ (all2_sc' _) rfl (by have := hI.size; omega) (by show 1 ≤ maxLen; decide)
     replace hI := hI.fr0 hF26_
     replace ho9_11 := ho9_11.fr0 hF26_
     clear hF26_ hB26_
     have hsp26_ho9_11 : ∀ i ∈ bk (some ⟨b26_, 0, none⟩) 1, i ∉ bk A9_11 c9_11 := sep_new (fun i_ hi_ => by have := (bk_of hi_).1; simp only [blkOf, List.mem_singleton] at this; omega) hlo26_ho9_11
     have hk28_ := h.1
     replace h := h.2
     refine Ops_to (X_append (α := UInt8) (xs := x9_11) (ys := ([(x17_ ^^^ x25_)] : List UInt8)) el30 rfl rfl ho9_11 (Srcs.sc (Srcs.ofOwn Tryd.underlying30 ho26_ (by decide))) hI.st hk28_ (by decide) hI.size) rfl rfl ?_
     rintro _ w27_ ⟨A27_, c27_, rfl, ho27_, hF27_, hbk27_⟩
     clear hbk27_
     replace hI := hI.tok hF27_ ho9_11.out (ho9_11.new (Nat.le_refl _))
     clear hF27_ ho9_11
     refine Ops_step (R_assign rfl) rfl rfl ?_
     refine Ops_nil ?_
     refine block_n ?_
     refine then_n (k15 _ _ ?_)
     clear k15 K15
     refine W_keepB [0, 1, 8, 9, 15, 16, 17] fun B_ b_ => ?_
     simp only [e_, Nat.reduceAdd, Nat.reduceBEq] at b_
     subst b_
     refine W_region [40, 17] rfl ?_
     have hk30_ := h.1
     replace h := h.2
     refine Ops_step (R_add rfl rfl (wI hk30_.1 hk30_.2)) rfl rfl (Ops_step (R_move rfl) rfl rfl ?_)
     refine Ops_nil ?_
     refine then_n ?_
     exact h.elim fun m_ h => ⟨m_, _, h.1, rfl, ⟨x8_18, A8_18, c8_18, (x9_11 ++ ([(x17_ ^^^ x25_)] : List UInt8)), A27_, c27_, (x17_11 + 1), _, _, rfl, h.2, hI, hll11_, hhh11_, hc8_18, hs8_18, ho27_, trivial⟩, ⟨rfl, rfl, rfl, rfl, trivial⟩⟩
   ·
    replace h := h.2 hc14_
    refine W_exit ?_
    refine then_exit ?_
    clear k13 K13
    refine then_exit ?_
    refine block_exit ?_
    refine then_n ?_
    exact ⟨_, rfl, ⟨x9_11, A9_11, c9_11, _, _, rfl, h, hI, hll8_, hhh8_, ho9_11, trivial⟩, trivial⟩
  ·
   simp only [e_, Nat.reduceAdd, Nat.reduceBEq] at b_
   subst b_
   clear h
   rintro _ w8_ ⟨x9_8, A9_8, c9_8, L8_, H8_, rfl, hJ8_, hI8_, hll8_, hhh8_, ho9_8, -⟩
   replace hI := hI8_
   clear hI8_
   have h := hr8_ x9_8 hJ8_
   clear hr8_ hJ8_
   refine W_seq_k fun K31 k31 => ?_
   refine W_region [41, 6, 7] rfl (Ops_step (R_move rfl) rfl rfl (Ops_step (R_assign rfl) rfl rfl (Ops_step (R_assign rfl) rfl rfl ?_)))
   refine Ops_nil ?_
   refine then_n (k31 _ _ ?_)
   clear k31 K31
   refine W_ret ?_
   refine ⟨_, ⟨_, _, rfl, rfl, ⟨_, _, rfl, rfl, rfl⟩⟩, ?_⟩
   exact ⟨A9_8, c9_8, x9_8, 0, _, _, rfl, hI, (ho9_8.hl (Le.no _)), h⟩

theorem sealskinref02_Put_ok {G : Gh} {w : World} (hS : St G w) (hg : GL G) {A0 : Option Addr} {c0 : Nat} {x0 : List UInt8} (hc0 : x0.length ≤ c0) (hs0 : Sl G A0 x0) {A1 : Option Addr} {c1 : Nat} {x1 : List Int} (hc1 : x1.length ≤ c1) (hs1 : Sl G A1 x1) {Q : (List UInt8) → Prop} (h : sealskinref02_Put x0 x1 Q) : Calls Tryd.prog 54 #[.slice A0 x0.length c0, .slice A1 x1.length c1] w fun e w2 => ∃ (A0 : Option Addr) (c0 : Nat) (r0 : List UInt8) (L H : Gh), e = .returned (.slice A0 r0.length c0) ∧ Inv [] G w L H w2 ∧ OwnS w.heap.size 5 L H w2 A0 c0 r0 ∧ Q r0 := by
 unfold sealskinref02_Put at h
 have hI := Inv.start (M := []) hS
 refine calls_W 47 Tryd.func54 rfl Tryd.ntmps54 rfl [.tmp 4] rfl ?_
 refine W_seq_k fun K1 k1 => ?_
 refine W_region [4] rfl (Ops_step (R_assign rfl) rfl rfl ?_)
 refine Ops_nil ?_
 refine then_n (k1 _ _ ?_)
 clear k1 K1
 refine W_seq_k fun K2 k2 => ?_
 refine W_region [12, 13, 14, 5] rfl ?_
 refine Ops_to (R_buildSlice0 el30) rfl rfl ?_
 rintro _ w3_ ⟨b3_, rfl, hb3_, hB3_, hF3_⟩
 have ho3_ : OwnS w.heap.size 5 Gh.no G _ (some ⟨b3_, 0, none⟩) 0 ([] : List UInt8) := OwnS.ofBlk hI.st hb3_ hB3_ (all2_sc' _) rfl (by have := hI.size; omega) (by show 0 ≤ maxLen; decide)
 replace hI := hI.fr0 hF3_
 clear hF3_ hB3_
 refine Ops_step (R_move rfl) rfl rfl ?_
 have hk5_ := h.1
 replace h := h.2
 refine Ops_to (X_append (α := UInt8) (xs := ([] : List UInt8)) (ys := x0) el30 rfl rfl ho3_ (Srcs.sc (Srcs.ofSl Tryd.underlying30 hs0 hI.st (by decide))) hI.st hk5_ (by decide) hI.size) rfl rfl ?_
 rintro _ w4_ ⟨A4_, c4_, rfl, ho4_, hF4_, hbk4_⟩
 clear hbk4_
 replace hI := hI.tok hF4_ ho3_.out (ho3_.new (Nat.le_refl _))
 clear hF4_ ho3_
 refine Ops_step (R_assign rfl) rfl rfl ?_
 refine Ops_nil ?_
 refine then_n (k2 _ _ ?_)
 clear k2 K2
 refine ex_ h fun J6_ hr6_ h => ?_
 refine W_seq_join [] [5] (fun vals_ w2 => ∃ (x5_6 : List UInt8) (A5_6 : Option Addr) (c5_6 : Nat) (L H : Gh), vals_ = [.slice A5_6 x5_6.length c5_6] ∧ J6_ x5_6 ∧ Inv [] G w L H w2 ∧ Le Gh.no L ∧ Le G H ∧ OwnS w.heap.size 5 Gh.no H w2 A5_6 c5_6 x5_6 ∧ True) (fun B_ b_ => ?_) (fun B_ b_ => ?_)
 ·
  simp only [e_, Nat.reduceAdd, Nat.reduceBEq] at b_
  subst b_
  clear hr6_
  have hll6_ := Le.refl Gh.no
  have hhh6_ := Le.refl G
  refine W_seq_k fun K7 k7 => ?_
  refine W_region [15, 16, 17] rfl (Ops_step (R_move rfl) rfl rfl (Ops_step (R_len Tryd.underlying56 rfl rfl) rfl rfl (Ops_step (R_move rfl) rfl rfl ?_)))
  refine Ops_nil ?_
  refine then_n (k7 _ _ ?_)
  clear k7 K7
  refine W_keepB [5, 15, 16, 17] fun B_ b_ => ?_
  simp only [e_, Nat.reduceAdd, Nat.reduceBEq] at b_
  subst b_
  refine W_block ?_
  refine Exists.elim h fun I9_ h => Exists.elim h fun n9_ h => ?_
  have h0_ := h.1
  have hs9_ := h.2
  clear h
  refine W_loopB [15, 16] [5, 17] (fun m vals_ w2 => ∃ (x5_9 : List UInt8) (A5_9 : Option Addr) (c5_9 : Nat) (x17_9 : Int) (L H : Gh), vals_ = [.slice A5_9 x5_9.length c5_9, vi x17_9] ∧ I9_ m x5_9 x17_9 ∧ Inv [] G w L H w2 ∧ Le Gh.no L ∧ Le G H ∧ OwnS w.heap.size 5 Gh.no H w2 A5_9 c5_9 x5_9 ∧ True) n9_ _ rfl ⟨(([] : List UInt8) ++ x0), A4_, c4_, 0, _, _, rfl, h0_, hI, Le.refl _, Le.refl _, ho4_, trivial⟩ fun B_ b_ => ?_
  clear h0_
  simp only [e_, Nat.reduceAdd, Nat.reduceBEq] at b_
  subst b_
  rintro m9_ _ w9_ ⟨x5_9, A5_9, c5_9, x17_9, L9_, H9_, rfl, hJ9_, hI9_, hll9_, hhh9_, ho5_9, -⟩
  replace hI := hI9_
  clear hI9_
  have h := hs9_ m9_ x5_9 x17_9 hJ9_
  clear hs9_ hJ9_
  replace hs1 := hs1.up hhh9_
  replace hll6_ := hll6_.trans hll9_
  replace hhh6_ := hhh6_.trans hhh9_
  refine W_seq_k fun K10 k10 => ?_
  refine W_region [18] rfl (Ops_step (R_lss rfl rfl) rfl rfl ?_)
  refine Ops_nil ?_
  refine then_n (k10 _ _ ?_)
  clear k10 K10
  refine W_seq_k fun K11 k11 => ?_
  refine W_if rfl (fun hc12_ => ?_) (fun hc12_ => ?_)
  ·
   replace h := h.1 hc12_
   refine W_skip ?_
   refine then_n (k11 _ _ ?_)
   clear k11 K11
   refine ex_ h fun J13_ hr13_ h => ?_
   refine W_seq_join [15, 16, 17] [5] (fun vals_ w2 => ∃ (x5_13 : List UInt8) (A5_13 : Option Addr) (c5_13 : Nat) (L H : Gh), vals_ = [.slice A5_13 x5_13.length c5_13] ∧ J13_ x5_13 ∧ Inv [] G w L H w2 ∧ Le L9_ L ∧ Le H9_ H ∧ OwnS w.heap.size 5 Gh.no H w2 A5_13 c5_13 x5_13 ∧ True) (fun B_ b_ => ?_) (fun B_ b_ => ?_)
   ·
    simp only [e_, Nat.reduceAdd, Nat.reduceBEq] at b_
    subst b_
    clear hr13_
    have hll13_ := Le.refl L9_
    have hhh13_ := Le.refl H9_
    refine W_block ?_
    refine W_seq_k fun K14 k14 => ?_
    refine W_region [19, 20, 7] rfl ?_
    refine ex_ h fun x15_ hx15_ h => ?_
    have ha15_ := (hs1.atS hx15_).1
    have hg15_ := (hs1.atS hx15_).2
    refine Ops_step (R_indexSl Tryd.underlying56 sz3 rfl rfl hx15_.1 hx15_.lt ha15_) rfl rfl (Ops_step (R_load ag3 rfl (hI.st _ _ hg15_)) rfl rfl (Ops_step (R_assign rfl) rfl rfl ?_))
    refine Ops_nil ?_
    refine then_n (k14 _ _ ?_)
    clear k14 K14
    refine W_seq_k fun K16 k16 => ?_
    refine W_region [8] rfl ?_
    have hI0_ := hI
    refine Ops_to (R_alloc zr94) rfl rfl ?_
    rintro _ w17_ ⟨b17_, rfl, hb17_, hB17_, hF17_⟩
    replace hI := hI.fr0 hF17_
    replace ho5_9 := ho5_9.fr0 hF17_
    have ht17_ : Tok H9_ _ b17_ 94 ((Arr.mk (n := 8) (List.replicate 8 (0 : UInt8))).l.map vb) := ⟨hB17_.to (by rw [List.map_replicate]; rfl), Out.ge hI0_.st (Nat.le_of_eq hb17_.symm)⟩
    have hge_b17_ : w.heap.size ≤ b17_ := hb17_ ▸ hI0_.size
    clear hB17_ hb17_ hI0_ hF17_
    refine Ops_nil ?_
    refine then_n (k16 _ _ ?_)
    clear k16 K16
    refine W_seq_k fun K18 k18 => ?_
    refine W_region [21, 22, 9] rfl (Ops_step (R_move rfl) rfl rfl (Ops_step (R_max rfl rfl _root_.rfl) rfl rfl (Ops_step (R_assign rfl) rfl rfl ?_)))
    refine Ops_nil ?_
    refine then_n (k18 _ _ ?_)
    clear k18 K18
    refine W_keepB [5, 8, 9, 15, 16, 17] fun B_ b_ => ?_
    simp only [e_, Nat.reduceAdd, Nat.reduceBEq] at b_
    subst b_
    refine ex_ h fun J20_ hr20_ h => ?_
    refine W_seq_join [5, 8, 15, 16, 17] [] (fun vals_ w2 => ∃ (yb17__20 : Arr 8 UInt8) (L H : Gh), vals_ = [] ∧ J20_ yb17__20 ∧ Inv [] G w L H w2 ∧ Le L9_ L ∧ Le H9_ H ∧ Ob 94 H H w2 b17_ yb17__20 ∧ OwnS w.heap.size 5 Gh.no H w2 A5_9 c5_9 x5_9 ∧ True) (fun B_ b_ => ?_) (fun B_ b_ => ?_)
    ·
     simp only [e_, Nat.reduceAdd, Nat.reduceBEq] at b_
     subst b_
     clear hr20_
     have hll20_ := Le.refl L9_
     have hhh20_ := Le.refl H9_
     refine W_seq_k fun K21 k21 => ?_
     refine W_region [23] rfl (Ops_step (R_move rfl) rfl rfl ?_)
     refine Ops_nil ?_
     refine then_n (k21 _ _ ?_)
     clear k21 K21
     refine W_block ?_
     refine Exists.elim h fun I22_ h => Exists.elim h fun n22_ h => ?_
     have h0_ := h.1
     have hs22_ := h.2
     clear h
     refine W_loopB [5, 8, 15, 16, 17] [9, 23] (fun m vals_ w2 => ∃ (x9_22 : Int) (x23_22 : Int) (yb17__22 : Arr 8 UInt8) (L H : Gh), vals_ = [vi x9_22, vi x23_22] ∧ I22_ m x9_22 x23_22 yb17__22 ∧ Inv [] G w L H w2 ∧ Le L9_ L ∧ Le H9_ H ∧ Ob 94 H H w2 b17_ yb17__22 ∧ OwnS w.heap.size 5 Gh.no H w2 A5_9 c5_9 x5_9 ∧ True) n22_ _ rfl ⟨(max x15_ 0), 0, (Arr.mk (n := 8) (List.replicate 8 (0 : UInt8))), _, _, rfl, h0_, hI, Le.refl _, Le.refl _, ⟨_, Arr.shut (List.length_replicate ..), ht17_⟩, ho5_9, trivial⟩ fun B_ b_ => ?_
     clear h0_
     simp only [e_, Nat.reduceAdd, Nat.reduceBEq] at b_
     subst b_
     clear ho5_9
     rintro m22_ _ w22_ ⟨x9_22, x23_22, yb17__22, L22_, H22_, rfl, hJ22_, hI22_, hll22_, hhh22_, hqb17__22, ho5_9, -⟩
     replace hI := hI22_
     clear hI22_
     have h := hs22_ m22_ x9_22 x23_22 yb17__22 hJ22_
     clear hs22_ hJ22_
     replace hs1 := hs1.up hhh22_
     replace hll6_ := hll6_.trans hll22_
     replace hhh6_ := hhh6_.trans hhh22_
     replace hll9_ := hll9_.trans hll22_
     replace hhh9_ := hhh9_.trans hhh22_
     replace hll13_ := hll13_.trans hll22_
     replace hhh13_ := hhh13_.trans hhh22_
     replace hll20_ := hll20_.trans hll22_
     replace hhh20_ := hhh20_.trans hhh22_
     obtain ⟨lb17__22_, hlb17__22_, htb17__22⟩ := hqb17__22
     obtain ⟨hnb17__22_, rfl⟩ := Arr.open_ hlb17__22_
     refine W_seq_k fun K23 k23 => ?_
     refine W_region [24] rfl (Ops_step (R_lss rfl rfl) rfl rfl ?_)
     refine Ops_nil ?_
     refine then_n (k23 _ _ ?_)
     clear k23 K23
     refine W_seq_k fun K24 k24 => ?_
     refine W_if rfl (fun hc25_ => ?_) (fun hc25_ => ?_)
     ·
      replace h := h.1 hc25_
      refine W_skip ?_
      refine then_n (k24 _ _ ?_)
      clear k24 K24
      refine W_seq_k fun K26 k26 => ?_
      refine W_block ?_
      refine W_seq_k fun K27 k27 => ?_
      refine W_region [25, 10] rfl (Ops_step (R_move rfl) rfl rfl (Ops_step (R_assign rfl) rfl rfl ?_))
      refine Ops_nil ?_
      refine then_n (k27 _ _ ?_)
      clear k27 K27
      refine W_seq_k fun K28 k28 => ?_
      refine W_region [26, 27, 28, 29, 30, 31, none] rfl (Ops_step (R_move rfl) rfl rfl ?_)
      have hk29_ := h.1
      replace h := h.2
      refine Ops_step (R_sub rfl rfl (wI hk29_.1 hk29_.2)) rfl rfl (Ops_step (R_move rfl) rfl rfl (Ops_step (R_rem rfl rfl (by decide) _root_.rfl) rfl rfl (Ops_step (R_conv Tryd.underlying3 Tryd.underlying5 rfl (cI_8 _)) rfl rfl ?_)))
      refine ex_ h fun x30_ hx30_ h => ?_
      refine Ops_step (R_indexArr Tryd.underlying94 sz5 rfl rfl hx30_.1 (hx30_.ltn hnb17__22_)) rfl rfl ?_
      refine Ops_to0 (R_store sz5 rfl rfl htb17__22.blk (arr_lt hx30_) rfl) rfl ?_
      rintro _ w31_ ⟨hB31_, hF31_⟩
      replace hI := hI.tok hF31_ (out1 htb17__22.out) (new1 hge_b17_)
      replace ho5_9 := ho5_9.fr hF31_ (ho5_9.ne htb17__22.blk (by decide))
      replace htb17__22 : Tok H22_ _ b17_ 94 ((Arr.mk (n := 8) (put yb17__22.l (7 - x23_22) (UInt8.ofBitVec (BitVec.ofInt 8 (x9_22.tmod 256))))).l.map vb) := ⟨hB31_.to arr_put, htb17__22.out⟩
      clear hF31_ hB31_
      refine Ops_nil ?_
      refine then_n (k28 _ _ ?_)
      clear k28 K28
      refine W_keepB [5, 8, 9, 15, 16, 17, 23] fun B_ b_ => ?_
      simp only [e_, Nat.reduceAdd, Nat.reduceBEq] at b_
      subst b_
      refine W_region [32, 33, 9] rfl (Ops_step (R_move rfl) rfl rfl ?_)
      have hk33_ := h.1
      replace h := h.2
      refine Ops_step (R_quo rfl rfl (by decide) (wI hk33_.1 hk33_.2)) rfl rfl (Ops_step (R_assign rfl) rfl rfl ?_)
      refine Ops_nil ?_
      refine block_n ?_
      refine then_n (k26 _ _ ?_)
      clear k26 K26
      refine W_region [34, 23] rfl ?_
      have hk34_ := h.1
      replace h := h.2
      refine Ops_step (R_add rfl rfl (wI hk34_.1 hk34_.2)) rfl rfl (Ops_step (R_move rfl) rfl rfl ?_)
      refine Ops_nil ?_
      refine then_n ?_
      exact h.elim fun m_ h => ⟨m_, _, h.1, rfl, ⟨(x9_22.tdiv 256), (x23_22 + 1), (Arr.mk (n := 8) (put yb17__22.l (7 - x23_22) (UInt8.ofBitVec (BitVec.ofInt 8 (x9_22.tmod 256))))), _, _, rfl, h.2, hI, hll22_, hhh22_, ⟨_, Arr.shut (put_len hnb17__22_), htb17__22⟩, ho5_9, trivial⟩, ⟨rfl, rfl, rfl, rfl, rfl, trivial⟩⟩
     ·
      replace h := h.2 hc25_
      refine W_exit ?_
      refine then_exit ?_
      clear k24 K24
      refine then_exit ?_
      refine block_exit ?_
      refine then_n ?_
      exact ⟨_, rfl, ⟨yb17__22, _, _, rfl, h, hI, hll20_, hhh20_, ⟨_, Arr.shut hnb17__22_, htb17__22⟩, ho5_9, trivial⟩, ⟨rfl, rfl, rfl, rfl, rfl, trivial⟩⟩
    ·
     simp only [e_, Nat.reduceAdd, Nat.reduceBEq] at b_
     subst b_
     clear h
     clear ho5_9
     rintro _ w20_ ⟨yb17__20, L20_, H20_, rfl, hJ20_, hI20_, hll20_, hhh20_, hqb17__20, ho5_9, -⟩
     replace hI := hI20_
     clear hI20_
     have h := hr20_ yb17__20 hJ20_
     clear hr20_ hJ20_
     replace hs1 := hs1.up hhh20_
     replace hll6_ := hll6_.trans hll20_
     replace hhh6_ := hhh6_.trans hhh20_
     replace hll9_ := hll9_.trans hll20_
     replace hhh9_ := hhh9_.trans hhh20_
     replace hll13_ := hll13_.trans hll20_
     replace hhh13_ := hhh13_.trans hhh20_
     obtain ⟨lb17__20_, hlb17__20_, htb17__20⟩ := hqb17__20
     obtain ⟨hnb17__20_, rfl⟩ := Arr.open_ hlb17__20_
     refine W_seq_k fun K35 k35 => ?_
     refine W_region [35] rfl (Ops_step (R_move rfl) rfl rfl ?_)
     refine Ops_nil ?_
     refine then_n (k35 _ _ ?_)
     clear k35 K35
     refine W_block ?_
     refine Exists.elim h fun I36_ h => Exists.elim h fun n36_ h => ?_
     have h0_ := h.1
     have hs36_ := h.2
     clear h
     refine W_loopB [8, 15, 16, 17] [5, 35] (fun m vals_ w2 => ∃ (x5_36 : List UInt8) (A5_36 : Option Addr) (c5_36 : Nat) (x35_36 : Int) (L H : Gh), vals_ = [.slice A5_36 x5_36.length c5_36, vi x35_36] ∧ I36_ m x5_36 x35_36 ∧ Inv [] G w L H w2 ∧ Le L20_ L ∧ Le H20_ H ∧ OwnS w.heap.size 5 Gh.no H w2 A5_36 c5_36 x5_36 ∧ Tok H w2 b17_ 94 (yb17__20.l.map vb) ∧ True) n36_ _ rfl ⟨x5_9, A5_9, c5_9, 0, _, _, rfl, h0_, hI, Le.refl _, Le.refl _, ho5_9, htb17__20, trivial⟩ fun B_ b_ => ?_
     clear h0_
     simp only [e_, Nat.reduceAdd, Nat.reduceBEq] at b_
     subst b_
     clear htb17__20
     rintro m36_ _ w36_ ⟨x5_36, A5_36, c5_36, x35_36, L36_, H36_, rfl, hJ36_, hI36_, hll36_, hhh36_, ho5_36, htb17__20, -⟩
     replace hI := hI36_
     clear hI36_
     have h := hs36_ m36_ x5_36 x35_36 hJ36_
     clear hs36_ hJ36_
     replace hs1 := hs1.up hhh36_
     replace hll6_ := hll6_.trans hll36_
     replace hhh6_ := hhh6_.trans hhh36_
     replace hll9_ := hll9_.trans hll36_
     replace hhh9_ := hhh9_.trans hhh36_
     replace hll13_ := hll13_.trans hll36_
     replace hhh13_ := hhh13_.trans hhh36_
     refine W_seq_k fun K37 k37 => ?_
     refine W_region [36] rfl (Ops_step (R_lss rfl rfl) rfl rfl ?_)
     refine Ops_nil ?_
     refine then_n (k37 _ _ ?_)
     clear k37 K37
     refine W_seq_k fun K38 k38 => ?_
     refine W_if rfl (fun hc39_ => ?_) (fun hc39_ => ?_)
     ·
      replace h := h.1 hc39_
      refine W_skip ?_
      refine then_n (k38 _ _ ?_)
      clear k38 K38
      refine W_seq_k fun K40 k40 => ?_
      refine W_block ?_
      refine W_seq_k fun K41 k41 => ?_
      refine W_region [37, 11] rfl (Ops_step (R_move rfl) rfl rfl (Ops_step (R_assign rfl) rfl rfl ?_))
      refine Ops_nil ?_
      refine then_n (k41 _ _ ?_)
      clear k41 K41
      refine W_region [38, 39, 40, 41, 42, 43, 5] rfl (Ops_step (R_move rfl) rfl rfl (Ops_step (R_move rfl) rfl rfl ?_))
      refine ex_ h fun x42_ hx42_ h => ?_
      refine Ops_step (R_indexArr Tryd.underlying94 sz5 rfl rfl hx42_.1 (hx42_.ltn hnb17__20_)) rfl rfl (Ops_step (R_loadB ag5 rfl htb17__20.blk (arr_at hx42_)) rfl rfl ?_)
      have hlo43_ho5_36 := ho5_36.lt
      refine Ops_to (R_buildSlice el30 zr5 (by decide) (by decide) rfl rfl) rfl rfl ?_
      rintro _ w43_ ⟨b43_, rfl, hb43_, hB43_, hF43_⟩
      have ho43_ : OwnS w.heap.size 5 Gh.no H36_ _ (some ⟨b43_, 0, none⟩) 1 ([x42_] : List UInt8) := OwnS.ofBlk hI.st hb43_ hB43_ (all2_sc' _) rfl (by have := hI.size; omega) (by show 1 ≤ maxLen; decide)
      replace hI := hI.fr0 hF43_
      replace htb17__20 := htb17__20.fr0 hF43_
      replace ho5_36 := ho5_36.fr0 hF43_
      clear hF43_ hB43_
      have hsp43_ho5_36 : ∀ i ∈ bk (some ⟨b43_, 0, none⟩) 1, i ∉ bk A5_36 c5_36 := sep_new (fun i_ hi_ => by have := (bk_of hi_).1; simp only [blkOf, List.mem_singleton] at this; omega) hlo43_ho5_36
      have hk45_ := h.1
      replace h := h.2
      refine Ops_to (X_append (α := UInt8) (xs := x5_36) (ys := ([x42_] : List UInt8)) el30 rfl rfl ho5_36 (Srcs.sc (Srcs.ofOwn Tryd.underlying30 ho43_ (by decide))) hI.st hk45_ (by decide) hI.size) rfl rfl ?_
      rintro _ w44_ ⟨A44_, c44_, rfl, ho44_, hF44_, hbk44_⟩
      clear hbk44_
      replace hI := hI.tok hF44_ ho5_36.out (ho5_36.new (Nat.le_refl _))
      replace htb17__20 := htb17__20.fr hF44_ (htb17__20.sep ho5_36 (by decide))
      clear hF44_ ho5_36
      refine Ops_step (R_assign rfl) rfl rfl ?_
      refine Ops_nil ?_
      refine block_n ?_
      refine then_n (k40 _ _ ?_)
      clear k40 K40
      refine W_keepB [5, 8, 15, 16, 17, 35] fun B_ b_ => ?_
      simp only [e_, Nat.reduceAdd, Nat.reduceBEq] at b_
      subst b_
      refine W_region [44, 35] rfl ?_
      have hk47_ := h.1
      replace h := h.2
      refine Ops_step (R_add rfl rfl (wI hk47_.1 hk47_.2)) rfl rfl (Ops_step (R_move rfl) rfl rfl ?_)
      refine Ops_nil ?_
      refine then_n ?_
      exact h.elim fun m_ h => ⟨m_, _, h.1, rfl, ⟨(x5_36 ++ ([x42_] : List UInt8)), A44_, c44_, (x35_36 + 1), _, _, rfl, h.2, hI, hll36_, hhh36_, ho44_, htb17__20, trivial⟩, ⟨rfl, rfl, rfl, rfl, trivial⟩⟩
     ·
      replace h := h.2 hc39_
      refine W_exit ?_
      refine then_exit ?_
      clear k38 K38
      refine then_exit ?_
      refine block_exit ?_
      refine block_n ?_
      refine then_n ?_
      exact ⟨_, rfl, ⟨x5_36, A5_36, c5_36, _, _, rfl, h, hI, hll13_, hhh13_, ho5_36, trivial⟩, ⟨rfl, rfl, rfl, trivial⟩⟩
   ·
    simp only [e_, Nat.reduceAdd, Nat.reduceBEq] at b_
    subst b_
    clear h
    rintro _ w13_ ⟨x5_13, A5_13, c5_13, L13_, H13_, rfl, hJ13_, hI13_, hll13_, hhh13_, ho5_13, -⟩
    replace hI := hI13_
    clear hI13_
    have h := hr13_ x5_13 hJ13_
    clear hr13_ hJ13_
    replace hs1 := hs1.up hhh13_
    replace hll6_ := hll6_.trans hll13_
    replace hhh6_ := hhh6_.trans hhh13_
    replace hll9_ := hll9_.trans hll13_
    replace hhh9_ := hhh9_.trans hhh13_
    refine W_region [45, 17] rfl ?_
    have hk48_ := h.1
    replace h := h.2
    refine Ops_step (R_add rfl rfl (wI hk48_.1 hk48_.2)) rfl rfl (Ops_step (R_move rfl) rfl rfl ?_)
    refine Ops_nil ?_
    refine then_n ?_
    exact h.elim fun m_ h => ⟨m_, _, h.1, rfl, ⟨x5_13, A5_13, c5_13, (x17_9 + 1), _, _, rfl, h.2, hI, hll9_, hhh9_, ho5_13, trivial⟩, ⟨rfl, rfl, trivial⟩⟩
  ·
   replace h := h.2 hc12_
   refine W_exit ?_
   refine then_exit ?_
   clear k11 K11
   refine then_exit ?_
   refine block_exit ?_
   refine then_n ?_
   exact ⟨_, rfl, ⟨x5_9, A5_9, c5_9, _, _, rfl, h, hI, hll6_, hhh6_, ho5_9, trivial⟩, trivial⟩
 ·
  simp only [e_, Nat.reduceAdd, Nat.reduceBEq] at b_
  subst b_
  clear h
  rintro _ w6_ ⟨x5_6, A5_6, c5_6, L6_, H6_, rfl, hJ6_, hI6_, hll6_, hhh6_, ho5_6, -⟩
  replace hI := hI6_
  clear hI6_
  have h := hr6_ x5_6 hJ6_
  clear hr6_ hJ6_
  refine W_seq_k fun K49 k49 => ?_
  refine W_region [46, 4] rfl (Ops_step (R_move rfl) rfl rfl (Ops_step (R_assign rfl) rfl rfl ?_))
  refine Ops_nil ?_
  refine then_n (k49 _ _ ?_)
  clear k49 K49
  refine W_ret ?_
  refine ⟨_, ⟨_, _, rfl, rfl, rfl⟩, ?_⟩
  exact ⟨A5_6, c5_6, x5_6, _, _, rfl, hI, (ho5_6.hl (Le.no _)), h⟩

end Go.Proofs.YtbjmngacjdcddaaDoor

