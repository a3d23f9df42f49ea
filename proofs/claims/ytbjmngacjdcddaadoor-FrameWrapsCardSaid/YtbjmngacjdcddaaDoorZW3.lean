/- What is shown of the program on the way to the law. -/
import Derived.Test.YtbjmngacjdcddaaDoorZW1
import Derived.Test.YtbjmngacjdcddaaDoorProg
set_option linter.unusedVariables false
set_option linter.unusedSimpArgs false
set_option maxHeartbeats 4000000
namespace Go.Proofs.YtbjmngacjdcddaaDoor
open Go Go.Sx

namespace TFha
theorem hm : Tryd.prog.follows .mixedOrders = true := by kernel_rfl
theorem ag119 : aggB Tryd.prog 119 = some false := by kernel_rfl
theorem ag125 : aggB Tryd.prog 125 = some true := by kernel_rfl
theorem ag126 : aggB Tryd.prog 126 = some true := by kernel_rfl
theorem ag139 : aggB Tryd.prog 139 = some true := by kernel_rfl
theorem ag140 : aggB Tryd.prog 140 = some true := by kernel_rfl
theorem ag5 : aggB Tryd.prog 5 = some false := by kernel_rfl
theorem bd100 : bodied Tryd.prog 100 = true := by kernel_rfl
theorem bd106 : bodied Tryd.prog 106 = true := by kernel_rfl
theorem bd109 : bodied Tryd.prog 109 = true := by kernel_rfl
theorem pl126 : partPl Tryd.prog 126 = some [(0, 1), (1, 1), (2, 1), (3, 1), (4, 1), (5, 1), (6, 1), (7, 1)] := by kernel_rfl
theorem sz119 : sz Tryd.prog 119 = some 1 := by kernel_rfl
theorem sz125 : sz Tryd.prog 125 = some 8 := by kernel_rfl
theorem sz126 : sz Tryd.prog 126 = some 8 := by kernel_rfl
theorem sz139 : sz Tryd.prog 139 = some 16 := by kernel_rfl
theorem sz140 : sz Tryd.prog 140 = some 160 := by kernel_rfl
theorem sz5 : sz Tryd.prog 5 = some 1 := by kernel_rfl
theorem zr120 : zr Tryd.prog 120 = some (List.replicate 16 (.int .u32 0)) := by kernel_rfl
theorem zr126 : zr Tryd.prog 126 = some (List.replicate 8 (.int .u32 0)) := by kernel_rfl
theorem zr137 : zr Tryd.prog 137 = some (List.replicate 16 (.int .u32 0)) := by kernel_rfl
theorem zr139 : zr Tryd.prog 139 = some (List.replicate 16 (.int .u8 0)) := by kernel_rfl
end TFha
open TFha
theorem rot_any (x : BitVec 32) (k : Int) (w : World) : Calls Tryd.prog 109 #[w32 x, vi k] w fun e w2 => e = .returned (w32 (rotl x (BitVec.ofInt 64 k &&& 31#64).toNat)) ∧ w = w2 := by
 have hs := and31 (BitVec.ofInt 64 k)
 have h32 : (32#64).toNat = 32 := rfl
 refine calls_W 17 Tryd.func109 rfl Tryd.ntmps109 rfl [.tmp 4] rfl ?_
 refine W_seq_k fun K1_ hK1_ => ?_
 refine W_region [4] rfl (Ops_step (R_assign rfl) rfl rfl ?_)
 refine Ops_nil ?_
 refine then_n (hK1_ _ _ ?_)
 clear hK1_ K1_
 refine W_seq_k fun K2_ hK2_ => ?_
 refine W_region [6, 7, 8, 5] rfl (Ops_step (R_move rfl) rfl rfl (Ops_step (R_conv Tryd.underlying3 Tryd.underlying93 rfl (cI_64 _)) rfl rfl (Ops_step (R_and rfl rfl (and64 _ (31#64))) rfl rfl (Ops_step (R_assign rfl) rfl rfl ?_))))
 refine Ops_nil ?_
 refine then_n (hK2_ _ _ ?_)
 clear hK2_ K2_
 refine W_seq_k fun K3_ hK3_ => ?_
 refine W_region [9, 10, 11, 12, 13, 14, 15, 16, 4] rfl (Ops_step (R_move rfl) rfl rfl (Ops_step (R_move rfl) rfl rfl (Ops_step (R_shl rfl rfl (by omega) (shl32 _ _ (by omega))) rfl rfl (Ops_step (R_move rfl) rfl rfl ?_))))
 refine Ops_step (R_move rfl) rfl rfl (Ops_step (R_sub rfl rfl (sub64n 32#64 _ (by omega))) rfl rfl (Ops_step (R_shr rfl rfl (by omega) (shr32 _ _ (by omega))) rfl rfl (Ops_step (R_or rfl rfl (or32 _ _)) rfl rfl (Ops_step (R_assign rfl) rfl rfl ?_))))
 refine Ops_nil ?_
 refine then_n (hK3_ _ _ ?_)
 clear hK3_ K3_
 refine W_keepB [4] fun B4 hB4_ => ?_
 simp only [e_, Nat.reduceAdd, Nat.reduceBEq] at hB4_
 subst hB4_
 refine W_ret ?_
 refine ⟨_, ⟨_, _, rfl, rfl, rfl⟩, ?_⟩
 exact ⟨rfl, rfl⟩

theorem ror16 (x : BitVec 32) (w : World) : Calls Tryd.prog 109 #[w32 x, vi (-16)] w fun e w2 => e = .returned (w32 (Bl.ror x 16)) ∧ w = w2 := rot_any x (-16) w
theorem ror12 (x : BitVec 32) (w : World) : Calls Tryd.prog 109 #[w32 x, vi (-12)] w fun e w2 => e = .returned (w32 (Bl.ror x 12)) ∧ w = w2 := rot_any x (-12) w
theorem ror8 (x : BitVec 32) (w : World) : Calls Tryd.prog 109 #[w32 x, vi (-8)] w fun e w2 => e = .returned (w32 (Bl.ror x 8)) ∧ w = w2 := rot_any x (-8) w
theorem ror7 (x : BitVec 32) (w : World) : Calls Tryd.prog 109 #[w32 x, vi (-7)] w fun e w2 => e = .returned (w32 (Bl.ror x 7)) ∧ w = w2 := rot_any x (-7) w
theorem stir_any (v0 : List (BitVec 32)) (hv : v0.length = 16) (b : Nat) (t : TypeId) (a1 b1 c1 d1 : Nat) (ha : a1 < 16) (hb : b1 < 16) (hc : c1 < 16) (hd : d1 < 16) (x y : BitVec 32) (w : World) (hG : Blk w b t (v0.map w32)) :
  Calls Tryd.prog 106 #[.pointer (some ⟨b, 0, none⟩), vi a1, vi b1, vi c1, vi d1, w32 x, w32 y] w fun e w2 => e = .returned (.tuple #[]) ∧ Blk w2 b t ((Bl.stir v0 a1 b1 c1 d1 x y).map w32) ∧ Fr [b] w w2 := by
 have hF := Fr.refl [b] w
 refine calls_W 134 Tryd.func106 rfl Tryd.ntmps106 rfl [] rfl ?_
 refine W_seq_k fun K1_ hK1_ => ?_
 refine W_drawF [14, 15, 16, 17, 18, 19, 20, 21, 22, 23, 24, 25, 26, 27, 28, none] [(0, true), (1, true), (2, true), (3, true), (4, true), (5, true), (6, true), (7, true), (8, true), (9, true), (10, true), (11, true), (12, true), (13, true), (14, true), (15, false)] TFha.hm rfl (by kernel_rfl) fun ops2_ w2_ hops2_ hF2_ => ?_
 replace hG := hG.fr0 hF2_
 replace hF := hF.fr0 hF2_
 clear hF2_
 refine HSp (R_move rfl) rfl rfl (HSp (R_move rfl) rfl rfl (HSp (R_nilCheck rfl) rfl rfl (HSp (R_indexArr Tryd.underlying137 sz119 rfl rfl (by omega) (by omega)) rfl rfl ?_)))
 refine HS_loadB ag119 rfl hG (getw (by omega)) rfl rfl ?_
 refine HSp (R_move rfl) rfl rfl (HSp (R_move rfl) rfl rfl (HSp (R_nilCheck rfl) rfl rfl (HSp (R_indexArr Tryd.underlying137 sz119 rfl rfl (by omega) (by omega)) rfl rfl ?_)))
 refine HS_loadB ag119 rfl hG (getw (by omega)) rfl rfl ?_
 refine HSp (R_move rfl) rfl rfl (HSp (R_add rfl rfl (add32 _ _)) rfl rfl (HSp (R_add rfl rfl (add32 _ _)) rfl rfl (HSp (R_nilCheck rfl) rfl rfl (HSp (R_indexArr Tryd.underlying137 sz119 rfl rfl (by omega) (by omega)) rfl rfl ?_))))
 refine HS_to0 [] _ rfl (by rw [hops2_]; kernel_rfl) (R_store sz119 rfl rfl hG (by simp only [List.length_map]; omega) rfl) rfl ?_
 clear hG
 rintro _ w3_ ⟨hG, hF3_⟩
 replace hF := hF.then hF3_ (by simp only [mc_]; intro i_ hi_ hj_; omega)
 clear hF3_
 rw [setw] at hG
 refine named (Bl.addS v0 a1 b1 x) fun v1 e1 => ?_
 have l1 : v1.length = 16 := by rw [e1]; simp only [Bl.addS_length, Bl.addT_length, Bl.xorS_length]; omega
 replace hG := hG.to (cs' := v1.map w32) (by rw [e1]; rfl)
 refine ⟨trivial, ?_⟩
 refine HS_nil ?_
 clear hops2_
 refine then_n (hK1_ _ _ ?_)
 clear hK1_ K1_
 refine W_keepB [0, 1, 2, 3, 4, 6] fun B4 hB4_ => ?_
 simp only [e_, Nat.reduceAdd, Nat.reduceBEq] at hB4_
 subst hB4_
 refine W_seq_k fun K5_ hK5_ => ?_
 refine W_drawF [29, 30, 31, 32, 33, 34, 35, 36, 37, 38, 39, 40, 41, 42, 43, 44, none] [(0, true), (1, true), (2, true), (3, true), (4, true), (5, true), (6, true), (7, true), (8, true), (9, true), (10, true), (11, true), (12, true), (14, true), (13, false), (15, true), (16, false)] TFha.hm rfl (by kernel_rfl) fun ops6_ w6_ hops6_ hF6_ => ?_
 replace hG := hG.fr0 hF6_
 replace hF := hF.fr0 hF6_
 clear hF6_
 refine HSp (R_move rfl) rfl rfl (HSp (R_move rfl) rfl rfl (HSp (R_move rfl) rfl rfl (HSp (R_move rfl) rfl rfl (HSp (R_nilCheck rfl) rfl rfl ?_))))
 refine HSp (R_indexArr Tryd.underlying137 sz119 rfl rfl (by omega) (by omega)) rfl rfl ?_
 refine HS_loadB ag119 rfl hG (getw (by omega)) rfl rfl ?_
 refine HSp (R_move rfl) rfl rfl (HSp (R_move rfl) rfl rfl (HSp (R_nilCheck rfl) rfl rfl (HSp (R_indexArr Tryd.underlying137 sz119 rfl rfl (by omega) (by omega)) rfl rfl ?_)))
 refine HS_loadB ag119 rfl hG (getw (by omega)) rfl rfl ?_
 refine HSp (R_xor rfl rfl (xor32 _ _)) rfl rfl (HSp (R_nilCheck rfl) rfl rfl ?_)
 refine HS_call [] _ rfl (by rw [hops6_]; kernel_rfl) (C_func bd109 rfl) rfl rfl ?_
 refine (ror16 _ _).mono ?_
 rintro _ _ ⟨rfl, rfl⟩
 refine ⟨_, rfl, trivial, ?_⟩
 refine HSp (R_indexArr Tryd.underlying137 sz119 rfl rfl (by omega) (by omega)) rfl rfl ?_
 refine HS_to0 [] _ rfl (by rw [hops6_]; kernel_rfl) (R_store sz119 rfl rfl hG (by simp only [List.length_map]; omega) rfl) rfl ?_
 clear hG
 rintro _ w7_ ⟨hG, hF7_⟩
 replace hF := hF.then hF7_ (by simp only [mc_]; intro i_ hi_ hj_; omega)
 clear hF7_
 rw [setw] at hG
 refine named (Bl.xorS v1 d1 a1 16) fun v2 e2 => ?_
 have l2 : v2.length = 16 := by rw [e2]; simp only [Bl.addS_length, Bl.addT_length, Bl.xorS_length]; omega
 replace hG := hG.to (cs' := v2.map w32) (by rw [e2]; rfl)
 refine ⟨trivial, ?_⟩
 refine HS_nil ?_
 clear hops6_
 refine then_n (hK5_ _ _ ?_)
 clear hK5_ K5_
 refine W_keepB [0, 1, 2, 3, 4, 6] fun B8 hB8_ => ?_
 simp only [e_, Nat.reduceAdd, Nat.reduceBEq] at hB8_
 subst hB8_
 refine W_seq_k fun K9_ hK9_ => ?_
 refine W_drawF [45, 46, 47, 48, 49, 50, 51, 52, 53, 54, 55, 56, 57, none] [(0, true), (1, true), (2, true), (3, true), (4, true), (5, true), (6, true), (7, true), (8, true), (9, true), (10, true), (11, true), (12, true), (13, false)] TFha.hm rfl (by kernel_rfl) fun ops10_ w10_ hops10_ hF10_ => ?_
 replace hG := hG.fr0 hF10_
 replace hF := hF.fr0 hF10_
 clear hF10_
 refine HSp (R_move rfl) rfl rfl (HSp (R_move rfl) rfl rfl (HSp (R_nilCheck rfl) rfl rfl (HSp (R_indexArr Tryd.underlying137 sz119 rfl rfl (by omega) (by omega)) rfl rfl ?_)))
 refine HS_loadB ag119 rfl hG (getw (by omega)) rfl rfl ?_
 refine HSp (R_move rfl) rfl rfl (HSp (R_move rfl) rfl rfl (HSp (R_nilCheck rfl) rfl rfl (HSp (R_indexArr Tryd.underlying137 sz119 rfl rfl (by omega) (by omega)) rfl rfl ?_)))
 refine HS_loadB ag119 rfl hG (getw (by omega)) rfl rfl ?_
 refine HSp (R_add rfl rfl (add32 _ _)) rfl rfl (HSp (R_nilCheck rfl) rfl rfl (HSp (R_indexArr Tryd.underlying137 sz119 rfl rfl (by omega) (by omega)) rfl rfl ?_))
 refine HS_to0 [] _ rfl (by rw [hops10_]; kernel_rfl) (R_store sz119 rfl rfl hG (by simp only [List.length_map]; omega) rfl) rfl ?_
 clear hG
 rintro _ w11_ ⟨hG, hF11_⟩
 replace hF := hF.then hF11_ (by simp only [mc_]; intro i_ hi_ hj_; omega)
 clear hF11_
 rw [setw] at hG
 refine named (Bl.addT v2 c1 d1) fun v3 e3 => ?_
 have l3 : v3.length = 16 := by rw [e3]; simp only [Bl.addS_length, Bl.addT_length, Bl.xorS_length]; omega
 replace hG := hG.to (cs' := v3.map w32) (by rw [e3]; rfl)
 refine ⟨trivial, ?_⟩
 refine HS_nil ?_
 clear hops10_
 refine then_n (hK9_ _ _ ?_)
 clear hK9_ K9_
 refine W_keepB [0, 1, 2, 3, 4, 6] fun B12 hB12_ => ?_
 simp only [e_, Nat.reduceAdd, Nat.reduceBEq] at hB12_
 subst hB12_
 refine W_seq_k fun K13_ hK13_ => ?_
 refine W_drawF [58, 59, 60, 61, 62, 63, 64, 65, 66, 67, 68, 69, 70, 71, 72, 73, none] [(0, true), (1, true), (2, true), (3, true), (4, true), (5, true), (6, true), (7, true), (8, true), (9, true), (10, true), (11, true), (12, true), (14, true), (13, false), (15, true), (16, false)] TFha.hm rfl (by kernel_rfl) fun ops14_ w14_ hops14_ hF14_ => ?_
 replace hG := hG.fr0 hF14_
 replace hF := hF.fr0 hF14_
 clear hF14_
 refine HSp (R_move rfl) rfl rfl (HSp (R_move rfl) rfl rfl (HSp (R_move rfl) rfl rfl (HSp (R_move rfl) rfl rfl (HSp (R_nilCheck rfl) rfl rfl ?_))))
 refine HSp (R_indexArr Tryd.underlying137 sz119 rfl rfl (by omega) (by omega)) rfl rfl ?_
 refine HS_loadB ag119 rfl hG (getw (by omega)) rfl rfl ?_
 refine HSp (R_move rfl) rfl rfl (HSp (R_move rfl) rfl rfl (HSp (R_nilCheck rfl) rfl rfl (HSp (R_indexArr Tryd.underlying137 sz119 rfl rfl (by omega) (by omega)) rfl rfl ?_)))
 refine HS_loadB ag119 rfl hG (getw (by omega)) rfl rfl ?_
 refine HSp (R_xor rfl rfl (xor32 _ _)) rfl rfl (HSp (R_nilCheck rfl) rfl rfl ?_)
 refine HS_call [] _ rfl (by rw [hops14_]; kernel_rfl) (C_func bd109 rfl) rfl rfl ?_
 refine (ror12 _ _).mono ?_
 rintro _ _ ⟨rfl, rfl⟩
 refine ⟨_, rfl, trivial, ?_⟩
 refine HSp (R_indexArr Tryd.underlying137 sz119 rfl rfl (by omega) (by omega)) rfl rfl ?_
 refine HS_to0 [] _ rfl (by rw [hops14_]; kernel_rfl) (R_store sz119 rfl rfl hG (by simp only [List.length_map]; omega) rfl) rfl ?_
 clear hG
 rintro _ w15_ ⟨hG, hF15_⟩
 replace hF := hF.then hF15_ (by simp only [mc_]; intro i_ hi_ hj_; omega)
 clear hF15_
 rw [setw] at hG
 refine named (Bl.xorS v3 b1 c1 12) fun v4 e4 => ?_
 have l4 : v4.length = 16 := by rw [e4]; simp only [Bl.addS_length, Bl.addT_length, Bl.xorS_length]; omega
 replace hG := hG.to (cs' := v4.map w32) (by rw [e4]; rfl)
 refine ⟨trivial, ?_⟩
 refine HS_nil ?_
 clear hops14_
 refine then_n (hK13_ _ _ ?_)
 clear hK13_ K13_
 refine W_keepB [0, 1, 2, 3, 4, 6] fun B16 hB16_ => ?_
 simp only [e_, Nat.reduceAdd, Nat.reduceBEq] at hB16_
 subst hB16_
 refine W_seq_k fun K17_ hK17_ => ?_
 refine W_drawF [74, 75, 76, 77, 78, 79, 80, 81, 82, 83, 84, 85, 86, 87, 88, none] [(0, true), (1, true), (2, true), (3, true), (4, true), (5, true), (6, true), (7, true), (8, true), (9, true), (10, true), (11, true), (12, true), (13, true), (14, true), (15, false)] TFha.hm rfl (by kernel_rfl) fun ops18_ w18_ hops18_ hF18_ => ?_
 replace hG := hG.fr0 hF18_
 replace hF := hF.fr0 hF18_
 clear hF18_
 refine HSp (R_move rfl) rfl rfl (HSp (R_move rfl) rfl rfl (HSp (R_nilCheck rfl) rfl rfl (HSp (R_indexArr Tryd.underlying137 sz119 rfl rfl (by omega) (by omega)) rfl rfl ?_)))
 refine HS_loadB ag119 rfl hG (getw (by omega)) rfl rfl ?_
 refine HSp (R_move rfl) rfl rfl (HSp (R_move rfl) rfl rfl (HSp (R_nilCheck rfl) rfl rfl (HSp (R_indexArr Tryd.underlying137 sz119 rfl rfl (by omega) (by omega)) rfl rfl ?_)))
 refine HS_loadB ag119 rfl hG (getw (by omega)) rfl rfl ?_
 refine HSp (R_move rfl) rfl rfl (HSp (R_add rfl rfl (add32 _ _)) rfl rfl (HSp (R_add rfl rfl (add32 _ _)) rfl rfl (HSp (R_nilCheck rfl) rfl rfl (HSp (R_indexArr Tryd.underlying137 sz119 rfl rfl (by omega) (by omega)) rfl rfl ?_))))
 refine HS_to0 [] _ rfl (by rw [hops18_]; kernel_rfl) (R_store sz119 rfl rfl hG (by simp only [List.length_map]; omega) rfl) rfl ?_
 clear hG
 rintro _ w19_ ⟨hG, hF19_⟩
 replace hF := hF.then hF19_ (by simp only [mc_]; intro i_ hi_ hj_; omega)
 clear hF19_
 rw [setw] at hG
 refine named (Bl.addS v4 a1 b1 y) fun v5 e5 => ?_
 have l5 : v5.length = 16 := by rw [e5]; simp only [Bl.addS_length, Bl.addT_length, Bl.xorS_length]; omega
 replace hG := hG.to (cs' := v5.map w32) (by rw [e5]; rfl)
 refine ⟨trivial, ?_⟩
 refine HS_nil ?_
 clear hops18_
 refine then_n (hK17_ _ _ ?_)
 clear hK17_ K17_
 refine W_keepB [0, 1, 2, 3, 4] fun B20 hB20_ => ?_
 simp only [e_, Nat.reduceAdd, Nat.reduceBEq] at hB20_
 subst hB20_
 refine W_seq_k fun K21_ hK21_ => ?_
 refine W_drawF [89, 90, 91, 92, 93, 94, 95, 96, 97, 98, 99, 100, 101, 102, 103, 104, none] [(0, true), (1, true), (2, true), (3, true), (4, true), (5, true), (6, true), (7, true), (8, true), (9, true), (10, true), (11, true), (12, true), (14, true), (13, false), (15, true), (16, false)] TFha.hm rfl (by kernel_rfl) fun ops22_ w22_ hops22_ hF22_ => ?_
 replace hG := hG.fr0 hF22_
 replace hF := hF.fr0 hF22_
 clear hF22_
 refine HSp (R_move rfl) rfl rfl (HSp (R_move rfl) rfl rfl (HSp (R_move rfl) rfl rfl (HSp (R_move rfl) rfl rfl (HSp (R_nilCheck rfl) rfl rfl ?_))))
 refine HSp (R_indexArr Tryd.underlying137 sz119 rfl rfl (by omega) (by omega)) rfl rfl ?_
 refine HS_loadB ag119 rfl hG (getw (by omega)) rfl rfl ?_
 refine HSp (R_move rfl) rfl rfl (HSp (R_move rfl) rfl rfl (HSp (R_nilCheck rfl) rfl rfl (HSp (R_indexArr Tryd.underlying137 sz119 rfl rfl (by omega) (by omega)) rfl rfl ?_)))
 refine HS_loadB ag119 rfl hG (getw (by omega)) rfl rfl ?_
 refine HSp (R_xor rfl rfl (xor32 _ _)) rfl rfl (HSp (R_nilCheck rfl) rfl rfl ?_)
 refine HS_call [] _ rfl (by rw [hops22_]; kernel_rfl) (C_func bd109 rfl) rfl rfl ?_
 refine (ror8 _ _).mono ?_
 rintro _ _ ⟨rfl, rfl⟩
 refine ⟨_, rfl, trivial, ?_⟩
 refine HSp (R_indexArr Tryd.underlying137 sz119 rfl rfl (by omega) (by omega)) rfl rfl ?_
 refine HS_to0 [] _ rfl (by rw [hops22_]; kernel_rfl) (R_store sz119 rfl rfl hG (by simp only [List.length_map]; omega) rfl) rfl ?_
 clear hG
 rintro _ w23_ ⟨hG, hF23_⟩
 replace hF := hF.then hF23_ (by simp only [mc_]; intro i_ hi_ hj_; omega)
 clear hF23_
 rw [setw] at hG
 refine named (Bl.xorS v5 d1 a1 8) fun v6 e6 => ?_
 have l6 : v6.length = 16 := by rw [e6]; simp only [Bl.addS_length, Bl.addT_length, Bl.xorS_length]; omega
 replace hG := hG.to (cs' := v6.map w32) (by rw [e6]; rfl)
 refine ⟨trivial, ?_⟩
 refine HS_nil ?_
 clear hops22_
 refine then_n (hK21_ _ _ ?_)
 clear hK21_ K21_
 refine W_keepB [0, 2, 3, 4] fun B24 hB24_ => ?_
 simp only [e_, Nat.reduceAdd, Nat.reduceBEq] at hB24_
 subst hB24_
 refine W_seq_k fun K25_ hK25_ => ?_
 refine W_drawF [105, 106, 107, 108, 109, 110, 111, 112, 113, 114, 115, 116, 117, none] [(0, true), (1, true), (2, true), (3, true), (4, true), (5, true), (6, true), (7, true), (8, true), (9, true), (10, true), (11, true), (12, true), (13, false)] TFha.hm rfl (by kernel_rfl) fun ops26_ w26_ hops26_ hF26_ => ?_
 replace hG := hG.fr0 hF26_
 replace hF := hF.fr0 hF26_
 clear hF26_
 refine HSp (R_move rfl) rfl rfl (HSp (R_move rfl) rfl rfl (HSp (R_nilCheck rfl) rfl rfl (HSp (R_indexArr Tryd.underlying137 sz119 rfl rfl (by omega) (by omega)) rfl rfl ?_)))
 refine HS_loadB ag119 rfl hG (getw (by omega)) rfl rfl ?_
 refine HSp (R_move rfl) rfl rfl (HSp (R_move rfl) rfl rfl (HSp (R_nilCheck rfl) rfl rfl (HSp (R_indexArr Tryd.underlying137 sz119 rfl rfl (by omega) (by omega)) rfl rfl ?_)))
 refine HS_loadB ag119 rfl hG (getw (by omega)) rfl rfl ?_
 refine HSp (R_add rfl rfl (add32 _ _)) rfl rfl (HSp (R_nilCheck rfl) rfl rfl (HSp (R_indexArr Tryd.underlying137 sz119 rfl rfl (by omega) (by omega)) rfl rfl ?_))
 refine HS_to0 [] _ rfl (by rw [hops26_]; kernel_rfl) (R_store sz119 rfl rfl hG (by simp only [List.length_map]; omega) rfl) rfl ?_
 clear hG
 rintro _ w27_ ⟨hG, hF27_⟩
 replace hF := hF.then hF27_ (by simp only [mc_]; intro i_ hi_ hj_; omega)
 clear hF27_
 rw [setw] at hG
 refine named (Bl.addT v6 c1 d1) fun v7 e7 => ?_
 have l7 : v7.length = 16 := by rw [e7]; simp only [Bl.addS_length, Bl.addT_length, Bl.xorS_length]; omega
 replace hG := hG.to (cs' := v7.map w32) (by rw [e7]; rfl)
 refine ⟨trivial, ?_⟩
 refine HS_nil ?_
 clear hops26_
 refine then_n (hK25_ _ _ ?_)
 clear hK25_ K25_
 refine W_keepB [0, 2, 3] fun B28 hB28_ => ?_
 simp only [e_, Nat.reduceAdd, Nat.reduceBEq] at hB28_
 subst hB28_
 refine W_drawF [118, 119, 120, 121, 122, 123, 124, 125, 126, 127, 128, 129, 130, 131, 132, 133, none] [(0, true), (1, true), (2, true), (3, true), (4, true), (5, true), (6, true), (7, true), (8, true), (9, true), (10, true), (11, true), (12, true), (14, true), (13, false), (15, true), (16, false)] TFha.hm rfl (by kernel_rfl) fun ops29_ w29_ hops29_ hF29_ => ?_
 replace hG := hG.fr0 hF29_
 replace hF := hF.fr0 hF29_
 clear hF29_
 refine HSp (R_move rfl) rfl rfl (HSp (R_move rfl) rfl rfl (HSp (R_move rfl) rfl rfl (HSp (R_move rfl) rfl rfl (HSp (R_nilCheck rfl) rfl rfl ?_))))
 refine HSp (R_indexArr Tryd.underlying137 sz119 rfl rfl (by omega) (by omega)) rfl rfl ?_
 refine HS_loadB ag119 rfl hG (getw (by omega)) rfl rfl ?_
 refine HSp (R_move rfl) rfl rfl (HSp (R_move rfl) rfl rfl (HSp (R_nilCheck rfl) rfl rfl (HSp (R_indexArr Tryd.underlying137 sz119 rfl rfl (by omega) (by omega)) rfl rfl ?_)))
 refine HS_loadB ag119 rfl hG (getw (by omega)) rfl rfl ?_
 refine HSp (R_xor rfl rfl (xor32 _ _)) rfl rfl (HSp (R_nilCheck rfl) rfl rfl ?_)
 refine HS_call [] _ rfl (by rw [hops29_]; kernel_rfl) (C_func bd109 rfl) rfl rfl ?_
 refine (ror7 _ _).mono ?_
 rintro _ _ ⟨rfl, rfl⟩
 refine ⟨_, rfl, trivial, ?_⟩
 refine HSp (R_indexArr Tryd.underlying137 sz119 rfl rfl (by omega) (by omega)) rfl rfl ?_
 refine HS_to0 [] _ rfl (by rw [hops29_]; kernel_rfl) (R_store sz119 rfl rfl hG (by simp only [List.length_map]; omega) rfl) rfl ?_
 clear hG
 rintro _ w30_ ⟨hG, hF30_⟩
 replace hF := hF.then hF30_ (by simp only [mc_]; intro i_ hi_ hj_; omega)
 clear hF30_
 rw [setw] at hG
 refine named (Bl.xorS v7 b1 c1 7) fun v8 e8 => ?_
 have l8 : v8.length = 16 := by rw [e8]; simp only [Bl.addS_length, Bl.addT_length, Bl.xorS_length]; omega
 replace hG := hG.to (cs' := v8.map w32) (by rw [e8]; rfl)
 refine ⟨trivial, ?_⟩
 refine HS_nil ?_
 clear hops29_
 refine ⟨_, rfl, ?_⟩
 exact ⟨rfl, by rw [Bl.stir, ← e1, ← e2, ← e3, ← e4, ← e5, ← e6, ← e7, ← e8]; exact hG, hF⟩
theorem first_any (w : World) : Calls Tryd.prog 100 #[] w fun e w2 => e = .returned (.agg (Bl.first.map w32).toArray) ∧ Fr [] w w2 := by
 have hF := Fr.refl [] w
 refine calls_W 2 Tryd.func100 rfl Tryd.ntmps100 rfl [.cell 0 126] rfl ?_
 refine W_seq_k fun K1_ hK1_ => ?_
 refine W_region [0] rfl ?_
 have hz0_hF := hF.size
 refine Ops_to (R_alloc zr126) rfl rfl ?_
 rintro _ w0_ ⟨b0, rfl, hb0, hB0, hF0_⟩
 have hl0 := hB0.lt
 replace hF := hF.fr0 hF0_
 clear hF0_
 refine Ops_nil ?_
 refine then_n (hK1_ _ _ ?_)
 clear hK1_ K1_
 refine W_seq_k fun K2_ hK2_ => ?_
 refine W_region [1, none] rfl ?_
 refine Ops_step (R_build (pl := [(0, 1), (1, 1), (2, 1), (3, 1), (4, 1), (5, 1), (6, 1), (7, 1)]) (cs := Bl.first.map w32) zr126 pl126 rfl rfl (by kernel_rfl)) rfl rfl ?_
 refine Ops_to0 (R_storeN sz126 rfl rfl rfl hB0 (by decide) rfl) rfl ?_
 clear hB0
 rintro _ w3_ ⟨hB0, hF3_⟩
 replace hF := hF.then hF3_ (by simp only [mc_]; intro i_ hi_ hj_; omega)
 clear hF3_
 refine Ops_nil ?_
 refine then_n (hK2_ _ _ ?_)
 clear hK2_ K2_
 refine W_ret ?_
 refine ⟨_, ⟨_, _, _, rfl, rfl, run_loadVarN ag126 sz126 hB0 (by decide), rfl⟩, ?_⟩
 exact ⟨rfl, hF⟩
theorem mix_any (h : List (BitVec 32)) (hh : h.length = 8) (tl : List Value) (bS : Nat) (tS : TypeId) (A : Addr) (bs : List UInt8) (hl : bs.length = 64) (cap : Nat) (n : BitVec 64) (last : Bool) (w : World)
  (hS : Blk w bS tS (h.map w32 ++ tl)) (hb : Rd w (some A) (bs.map vb)) (hO : Rd w (some ⟨2, 0, none⟩) ordC) (oA : Off (some A) [bS]) (oO : Off (some ⟨2, 0, none⟩) [bS]) :
  Calls Tryd.prog 101 #[.pointer (some ⟨bS, 0, none⟩), .slice (some A) 64 cap, w64 n, .bool last] w fun e w2 => e = .returned (.tuple #[]) ∧ Blk w2 bS tS ((Bl.mix h bs n.toNat last).map w32 ++ tl) ∧ Fr [bS] w w2 := by
 have hF := Fr.refl [bS] w
 have hO2_ : 2 < w.heap.size := World.block_lt_of_cell? w _ (hO 0 _ rfl).2
 have sS := hS.lt
 have sA := hb.ltB (by omega)
 have sO := hO.ltO
 refine calls_W 165 Tryd.func101 rfl Tryd.ntmps101 rfl [] rfl ?_
 refine W_seq_k fun K1_ hK1_ => ?_
 refine W_region [8] rfl ?_
 have hn8_hS := hS.lt
 have hz8_hF := hF.size
 refine Ops_to (R_alloc zr120) rfl rfl ?_
 rintro _ w8_ ⟨b8, rfl, hb8, hB8, hF8_⟩
 have hl8 := hB8.lt
 replace hS := hS.fr0 hF8_
 replace hb := hb.fr0 hF8_
 replace hO := hO.fr0 hF8_
 replace hF := hF.fr0 hF8_
 clear hF8_
 have o8 : Off (some A) [b8] := offlt (by omega)
 have q8 : Off (some ⟨2, 0, none⟩) [b8] := offlt (by show 2 ≠ b8; omega)
 refine Ops_nil ?_
 refine then_n (hK1_ _ _ ?_)
 clear hK1_ K1_
 refine W_seq_k fun K2_ hK2_ => ?_
 refine W_seq_k fun K3_ hK3_ => ?_
 refine W_region [17] rfl (Ops_step (R_move rfl) rfl rfl ?_)
 refine Ops_nil ?_
 refine then_n (hK3_ _ _ ?_)
 clear hK3_ K3_
 refine W_block ?_
 refine W_loopB [0, 1, 2, 3, 8] [17] (fun m vs w' => ∃ i, i ≤ 16 ∧ m = 16 - i ∧ vs = [vi i] ∧ Blk w' b8 120 ((fillTo (0 : BitVec 32) (Bl.word bs) 16 i).map w32) ∧ Blk w' bS tS (h.map w32 ++ tl) ∧ Rd w' (some A) (bs.map vb) ∧ Rd w' (some ⟨2, 0, none⟩) ordC ∧ Fr [bS] w w') (16) _ rfl (⟨0, by decide, rfl, rfl, hB8, hS, hb, hO, hF⟩) fun B4 hB4_ => ?_
 simp only [e_, Nat.reduceAdd, Nat.reduceBEq] at hB4_
 subst hB4_
 clear hB8 hS hb hO hF
 rintro m_ vs_ w0_ ⟨i, hi, rfl, rfl, hB8, hS, hb, hO, hF⟩
 refine W_seq_k fun K5_ hK5_ => ?_
 refine W_region [18] rfl (Ops_step (R_lss rfl rfl) rfl rfl ?_)
 refine Ops_nil ?_
 refine then_n (hK5_ _ _ ?_)
 clear hK5_ K5_
 refine W_seq_k fun K6_ hK6_ => ?_
 refine W_if rfl (fun hc18 => ?_) (fun hc18 => ?_)
 ·
  refine W_skip ?_
  refine then_n (hK6_ _ _ ?_)
  clear hK6_ K6_
  refine W_seq_k fun K7_ hK7_ => ?_
  refine W_block ?_
  refine W_seq_k fun K8_ hK8_ => ?_
  refine W_region [19, 9] rfl (Ops_step (R_move rfl) rfl rfl (Ops_step (R_assign rfl) rfl rfl ?_))
  refine Ops_nil ?_
  refine then_n (hK8_ _ _ ?_)
  clear hK8_ K8_
  refine W_drawF [20, 21, 22, 23, 24, 25, 26, 27, 28, 29, 30, 31, 32, 33, 34, 35, 36, 37, 38, 39, 40, 41, 42, 43, 44, 45, 46, 47, 48, 49, 50, 51, 52, 53, 54, none] [(0, true), (1, true), (2, true), (3, true), (4, true), (5, true), (6, true), (7, true), (8, true), (9, true), (10, true), (11, true), (12, true), (13, true), (14, true), (15, true), (16, true), (17, true), (18, true), (19, true), (20, true), (21, true), (22, true), (23, true), (24, true), (25, true), (26, true), (27, true), (28, true), (29, true), (30, true), (31, true), (32, true), (33, true), (34, true), (35, false)] TFha.hm rfl (by kernel_rfl) fun ops9_ w9_ hops9_ hF9_ => ?_
  replace hS := hS.fr0 hF9_
  replace hb := hb.fr0 hF9_
  replace hO := hO.fr0 hF9_
  replace hF := hF.fr0 hF9_
  replace hB8 := hB8.fr0 hF9_
  clear hF9_
  refine HSp (R_move rfl) rfl rfl (HSp (R_move rfl) rfl rfl (HSp (R_move rfl) rfl rfl ?_))
  refine HSp (R_mul rfl rfl (wIc (n := 4 * i) (by omega) (by omega))) rfl rfl ?_
  refine HSp (R_indexSl Tryd.underlying30 sz5 rfl rfl (by omega) (by omega) rfl) rfl rfl ?_
  refine HS_load ag5 rfl (rdB hb (n := 4 * i) (by omega) (by omega)) rfl rfl ?_
  refine HSp (R_conv Tryd.underlying5 Tryd.underlying119 rfl (c8_32 _)) rfl rfl (HSp (R_move rfl) rfl rfl (HSp (R_move rfl) rfl rfl ?_))
  refine HSp (R_mul rfl rfl (wIc (n := 4 * i) (by omega) (by omega))) rfl rfl ?_
  refine HSp (R_add rfl rfl (wIc (n := 4 * i + 1) (by omega) (by omega))) rfl rfl ?_
  refine HSp (R_indexSl Tryd.underlying30 sz5 rfl rfl (by omega) (by omega) rfl) rfl rfl ?_
  refine HS_load ag5 rfl (rdB hb (n := 4 * i + 1) (by omega) (by omega)) rfl rfl ?_
  refine HSp (R_conv Tryd.underlying5 Tryd.underlying119 rfl (c8_32 _)) rfl rfl (HSp (R_shl rfl rfl (by decide) (shl32 _ 8 (by decide))) rfl rfl (HSp (R_or rfl rfl (or32 _ _)) rfl rfl (HSp (R_move rfl) rfl rfl (HSp (R_move rfl) rfl rfl ?_))))
  refine HSp (R_mul rfl rfl (wIc (n := 4 * i) (by omega) (by omega))) rfl rfl ?_
  refine HSp (R_add rfl rfl (wIc (n := 4 * i + 2) (by omega) (by omega))) rfl rfl ?_
  refine HSp (R_indexSl Tryd.underlying30 sz5 rfl rfl (by omega) (by omega) rfl) rfl rfl ?_
  refine HS_load ag5 rfl (rdB hb (n := 4 * i + 2) (by omega) (by omega)) rfl rfl ?_
  refine HSp (R_conv Tryd.underlying5 Tryd.underlying119 rfl (c8_32 _)) rfl rfl (HSp (R_shl rfl rfl (by decide) (shl32 _ 16 (by decide))) rfl rfl (HSp (R_or rfl rfl (or32 _ _)) rfl rfl (HSp (R_move rfl) rfl rfl (HSp (R_move rfl) rfl rfl ?_))))
  refine HSp (R_mul rfl rfl (wIc (n := 4 * i) (by omega) (by omega))) rfl rfl ?_
  refine HSp (R_add rfl rfl (wIc (n := 4 * i + 3) (by omega) (by omega))) rfl rfl ?_
  refine HSp (R_indexSl Tryd.underlying30 sz5 rfl rfl (by omega) (by omega) rfl) rfl rfl ?_
  refine HS_load ag5 rfl (rdB hb (n := 4 * i + 3) (by omega) (by omega)) rfl rfl ?_
  refine HSp (R_conv Tryd.underlying5 Tryd.underlying119 rfl (c8_32 _)) rfl rfl (HSp (R_shl rfl rfl (by decide) (shl32 _ 24 (by decide))) rfl rfl (HSp (R_or rfl rfl (or32 _ _)) rfl rfl (HSp (R_indexArr Tryd.underlying120 sz119 rfl rfl (by omega) (by omega)) rfl rfl ?_)))
  refine HS_to0 [] _ rfl (by rw [hops9_]; kernel_rfl) (R_store sz119 rfl rfl hB8 (by rw [List.length_map, fillTo_length _ _ (by omega)]; omega) rfl) rfl ?_
  clear hB8
  rintro _ w10_ ⟨hB8, hF10_⟩
  replace hS := hS.fr hF10_ (by simp only [mc_]; omega)
  replace hb := hb.fr hF10_ (by assumption)
  replace hO := hO.fr hF10_ (by assumption)
  replace hF := hF.then hF10_ (by simp only [mc_]; intro i_ hi_ hj_; omega)
  clear hF10_
  replace hB8 := hB8.to (cs' := (fillTo (0 : BitVec 32) (Bl.word bs) 16 (i + 1)).map w32) (by rw [setw]; exact congrArg (List.map w32) (fillTo_set (0 : BitVec 32) (Bl.word bs) (by omega)))
  refine ⟨trivial, ?_⟩
  refine HS_nil ?_
  clear hops9_
  refine block_n ?_
  refine then_n (hK7_ _ _ ?_)
  clear hK7_ K7_
  refine W_keepB [0, 1, 2, 3, 8, 17] fun B11 hB11_ => ?_
  simp only [e_, Nat.reduceAdd, Nat.reduceBEq] at hB11_
  subst hB11_
  refine W_region [55, 17] rfl ?_
  refine Ops_step (R_add rfl rfl (wIc (n := i + 1) (by omega) (by omega))) rfl rfl ?_
  refine Ops_step (R_move rfl) rfl rfl ?_
  refine Ops_nil ?_
  exact ⟨16 - (i + 1), _, by omega, rfl, ⟨i + 1, by omega, rfl, rfl, hB8, hS, hb, hO, hF⟩, ⟨rfl, rfl, rfl, rfl, rfl, trivial⟩⟩
 ·
  have hi16 : i = 16 := by omega
  subst hi16
  replace hB8 := hB8.to (cs' := (Bl.words bs).map w32) (by rw [fillTo_all]; rfl)
  refine W_exit ?_
  refine then_exit ?_
  clear hK6_ K6_
  refine then_exit ?_
  refine block_exit ?_
  refine then_n (hK2_ _ _ ?_)
  clear hK2_ K2_
  refine W_seq_k fun K12_ hK12_ => ?_
  refine W_region [10] rfl ?_
  have hn10_hS := hS.lt
  have hz10_hF := hF.size
  have hn10_hB8 := hB8.lt
  refine Ops_to (R_alloc zr137) rfl rfl ?_
  rintro _ w10_ ⟨b10, rfl, hb10, hB10, hF10_⟩
  have hl10 := hB10.lt
  replace hS := hS.fr0 hF10_
  replace hb := hb.fr0 hF10_
  replace hO := hO.fr0 hF10_
  replace hF := hF.fr0 hF10_
  replace hB8 := hB8.fr0 hF10_
  clear hF10_
  have o10 : Off (some A) [b10] := offlt (by omega)
  have q10 : Off (some ⟨2, 0, none⟩) [b10] := offlt (by show 2 ≠ b10; omega)
  refine Ops_nil ?_
  refine then_n (hK12_ _ _ ?_)
  clear hK12_ K12_
  refine W_seq_k fun K13_ hK13_ => ?_
  refine W_drawF [56, 57, 58, 59, 60] [(0, true), (1, true), (2, true), (3, true), (4, false)] TFha.hm rfl (by kernel_rfl) fun ops14_ w14_ hops14_ hF14_ => ?_
  replace hS := hS.fr0 hF14_
  replace hb := hb.fr0 hF14_
  replace hO := hO.fr0 hF14_
  replace hF := hF.fr0 hF14_
  replace hB8 := hB8.fr0 hF14_
  replace hB10 := hB10.fr0 hF14_
  clear hF14_
  refine HSp (R_sliceArr Tryd.underlying137 sz119 rfl rfl ⟨_, _, rfl, rfl⟩ (by decide) (by decide)) rfl rfl (HSp (R_move rfl) rfl rfl (HSp (R_nilCheck rfl) rfl rfl (HSp (R_sliceAll Tryd.underlying126 sz119 rfl) rfl rfl ?_)))
  refine HS_to [] _ rfl (by rw [hops14_]; kernel_rfl) (R_copy Tryd.underlying138 sz119 rfl rfl hB10 (Rd.pre hS) (by simp [hh]) (by simp [hh]) allw) rfl rfl ?_
  clear hB10
  rintro _ w60_ ⟨rfl, hB10, hF60_⟩
  replace hS := hS.fr hF60_ (by simp only [mc_]; omega)
  replace hb := hb.fr hF60_ (by assumption)
  replace hO := hO.fr hF60_ (by assumption)
  replace hF := hF.then hF60_ (by simp only [mc_]; intro i_ hi_ hj_; omega)
  replace hB8 := hB8.fr hF60_ (by simp only [mc_]; omega)
  clear hF60_
  replace hB10 := hB10.to (cs' := (h ++ List.replicate 8 (0 : BitVec 32)).map w32) (cells8 h hh)
  refine ⟨trivial, ?_⟩
  refine HS_nil ?_
  clear hops14_
  refine then_n (hK13_ _ _ ?_)
  clear hK13_ K13_
  refine W_keepB [0, 2, 3, 8, 10] fun B15 hB15_ => ?_
  simp only [e_, Nat.reduceAdd, Nat.reduceBEq] at hB15_
  subst hB15_
  refine W_seq_k fun K16_ hK16_ => ?_
  refine W_region [61, 11, none] rfl ?_
  refine Ops_call (C_func bd100 rfl) rfl rfl ?_
  refine (first_any _).mono ?_
  rintro _ w61_ ⟨rfl, hF61_⟩
  replace hS := hS.fr0 hF61_
  replace hb := hb.fr0 hF61_
  replace hO := hO.fr0 hF61_
  replace hF := hF.fr0 hF61_
  replace hB8 := hB8.fr0 hF61_
  replace hB10 := hB10.fr0 hF61_
  clear hF61_
  refine ⟨_, rfl, ?_⟩
  have hn11_hS := hS.lt
  have hz11_hF := hF.size
  have hn11_hB8 := hB8.lt
  have hn11_hB10 := hB10.lt
  refine Ops_to (R_alloc zr126) rfl rfl ?_
  rintro _ w11_ ⟨b11, rfl, hb11, hB11, hF11_⟩
  have hl11 := hB11.lt
  replace hS := hS.fr0 hF11_
  replace hb := hb.fr0 hF11_
  replace hO := hO.fr0 hF11_
  replace hF := hF.fr0 hF11_
  replace hB8 := hB8.fr0 hF11_
  replace hB10 := hB10.fr0 hF11_
  clear hF11_
  have o11 : Off (some A) [b11] := offlt (by omega)
  have q11 : Off (some ⟨2, 0, none⟩) [b11] := offlt (by show 2 ≠ b11; omega)
  refine Ops_to0 (R_storeN sz126 rfl rfl rfl hB11 (by decide) allw) rfl ?_
  clear hB11
  rintro _ w17_ ⟨hB11, hF17_⟩
  replace hS := hS.fr hF17_ (by simp only [mc_]; omega)
  replace hb := hb.fr hF17_ (by assumption)
  replace hO := hO.fr hF17_ (by assumption)
  replace hF := hF.then hF17_ (by simp only [mc_]; intro i_ hi_ hj_; omega)
  replace hB8 := hB8.fr hF17_ (by simp only [mc_]; omega)
  replace hB10 := hB10.fr hF17_ (by simp only [mc_]; omega)
  clear hF17_
  replace hB11 := hB11.to (cs' := Bl.first.map w32) (by kernel_rfl)
  refine Ops_nil ?_
  refine then_n (hK16_ _ _ ?_)
  clear hK16_ K16_
  refine W_seq_k fun K18_ hK18_ => ?_
  refine W_drawF [62, 63, 64] [(0, true), (1, true), (2, false)] TFha.hm rfl (by kernel_rfl) fun ops19_ w19_ hops19_ hF19_ => ?_
  replace hS := hS.fr0 hF19_
  replace hb := hb.fr0 hF19_
  replace hO := hO.fr0 hF19_
  replace hF := hF.fr0 hF19_
  replace hB8 := hB8.fr0 hF19_
  replace hB10 := hB10.fr0 hF19_
  replace hB11 := hB11.fr0 hF19_
  clear hF19_
  refine HSp (R_sliceArr Tryd.underlying137 sz119 rfl ⟨_, _, rfl, rfl⟩ rfl (by decide) (by decide)) rfl rfl (HSp (R_sliceAll Tryd.underlying126 sz119 rfl) rfl rfl ?_)
  refine HS_to [] _ rfl (by rw [hops19_]; kernel_rfl) (R_copy Tryd.underlying138 sz119 rfl rfl hB10 (Rd.ofBlk0 hB11) (by simp [first_length]) (by simp [hh, first_length]) allw) rfl rfl ?_
  clear hB10
  rintro _ w64_ ⟨rfl, hB10, hF64_⟩
  replace hS := hS.fr hF64_ (by simp only [mc_]; omega)
  replace hb := hb.fr hF64_ (by assumption)
  replace hO := hO.fr hF64_ (by assumption)
  replace hF := hF.then hF64_ (by simp only [mc_]; intro i_ hi_ hj_; omega)
  replace hB8 := hB8.fr hF64_ (by simp only [mc_]; omega)
  replace hB11 := hB11.fr hF64_ (by simp only [mc_]; omega)
  clear hF64_
  clear hB11
  replace hB10 := hB10.to (cs' := (h ++ Bl.first).map w32) (cells16 h hh)
  refine named (h ++ Bl.first) fun v1 e1 => ?_
  rw [← e1] at hB10
  have l1 : v1.length = 16 := by rw [e1, List.length_append, hh]; rfl
  refine ⟨trivial, ?_⟩
  refine HS_nil ?_
  clear hops19_
  refine then_n (hK18_ _ _ ?_)
  clear hK18_ K18_
  refine W_seq_k fun K20_ hK20_ => ?_
  refine W_region [65, 66, 67, 68, 69, 70, none] rfl (Ops_step (R_indexArr Tryd.underlying137 sz119 rfl rfl (by omega) (by omega)) rfl rfl ?_)
  refine Ops_step (R_loadB ag119 rfl hB10 (getw (a := 12) (by omega))) rfl rfl ?_
  refine Ops_step (R_move rfl) rfl rfl (Ops_step (R_conv Tryd.underlying72 Tryd.underlying119 rfl (c64_32 _)) rfl rfl (Ops_step (R_xor rfl rfl (xor32 _ _)) rfl rfl (Ops_step (R_indexArr Tryd.underlying137 sz119 rfl rfl (by omega) (by omega)) rfl rfl ?_)))
  refine Ops_to0 (R_store sz119 rfl rfl hB10 (by rw [List.length_map, l1]; decide) rfl) rfl ?_
  clear hB10
  rintro _ w21_ ⟨hB10, hF21_⟩
  replace hS := hS.fr hF21_ (by simp only [mc_]; omega)
  replace hb := hb.fr hF21_ (by assumption)
  replace hO := hO.fr hF21_ (by assumption)
  replace hF := hF.then hF21_ (by simp only [mc_]; intro i_ hi_ hj_; omega)
  replace hB8 := hB8.fr hF21_ (by simp only [mc_]; omega)
  clear hF21_
  refine named (v1.set 12 (v1.getD 12 0 ^^^ n.setWidth 32)) fun v2 e2 => ?_
  replace hB10 := hB10.to (cs' := v2.map w32) (by rw [e2]; exact setw _ 12 _)
  have l2 : v2.length = 16 := by rw [e2, List.length_set, l1]
  refine Ops_nil ?_
  refine then_n (hK20_ _ _ ?_)
  clear hK20_ K20_
  refine W_keepB [0, 2, 3, 8, 10] fun B22 hB22_ => ?_
  simp only [e_, Nat.reduceAdd, Nat.reduceBEq] at hB22_
  subst hB22_
  refine W_seq_k fun K23_ hK23_ => ?_
  refine W_region [71, 72, 73, 74, 75, 76, 77, none] rfl (Ops_step (R_indexArr Tryd.underlying137 sz119 rfl rfl (by omega) (by omega)) rfl rfl ?_)
  refine Ops_step (R_loadB ag119 rfl hB10 (getw (a := 13) (by omega))) rfl rfl ?_
  refine Ops_step (R_move rfl) rfl rfl (Ops_step (R_shr rfl rfl (by decide) (shr64 _ 32 (by decide))) rfl rfl (Ops_step (R_conv Tryd.underlying72 Tryd.underlying119 rfl (c64_32 _)) rfl rfl (Ops_step (R_xor rfl rfl (xor32 _ _)) rfl rfl (Ops_step (R_indexArr Tryd.underlying137 sz119 rfl rfl (by omega) (by omega)) rfl rfl ?_))))
  refine Ops_to0 (R_store sz119 rfl rfl hB10 (by rw [List.length_map, l2]; decide) rfl) rfl ?_
  clear hB10
  rintro _ w24_ ⟨hB10, hF24_⟩
  replace hS := hS.fr hF24_ (by simp only [mc_]; omega)
  replace hb := hb.fr hF24_ (by assumption)
  replace hO := hO.fr hF24_ (by assumption)
  replace hF := hF.then hF24_ (by simp only [mc_]; intro i_ hi_ hj_; omega)
  replace hB8 := hB8.fr hF24_ (by simp only [mc_]; omega)
  clear hF24_
  refine named (v2.set 13 (v2.getD 13 0 ^^^ (n >>> 32).setWidth 32)) fun v3 e3 => ?_
  replace hB10 := hB10.to (cs' := v3.map w32) (by rw [e3]; exact setw _ 13 _)
  have l3 : v3.length = 16 := by rw [e3, List.length_set, l2]
  refine Ops_nil ?_
  refine then_n (hK23_ _ _ ?_)
  clear hK23_ K23_
  refine W_keepB [0, 3, 8, 10] fun B25 hB25_ => ?_
  simp only [e_, Nat.reduceAdd, Nat.reduceBEq] at hB25_
  subst hB25_
  refine W_seq_k fun K26_ hK26_ => ?_
  refine W_seq_k fun K27_ hK27_ => ?_
  refine W_region [78] rfl (Ops_step (R_move rfl) rfl rfl ?_)
  refine Ops_nil ?_
  refine then_n (hK27_ _ _ ?_)
  clear hK27_ K27_
  refine W_cond rfl (fun hc78 => ?_) (fun hc78 => ?_)
  ·
   refine W_region [79, 80, 81, 82, none] rfl (Ops_step (R_indexArr Tryd.underlying137 sz119 rfl rfl (by omega) (by omega)) rfl rfl ?_)
   refine Ops_step (R_loadB ag119 rfl hB10 (getw (a := 14) (by omega))) rfl rfl ?_
   refine Ops_step (R_compl rfl (compl32 _)) rfl rfl (Ops_step (R_indexArr Tryd.underlying137 sz119 rfl rfl (by omega) (by omega)) rfl rfl ?_)
   refine Ops_to0 (R_store sz119 rfl rfl hB10 (by rw [List.length_map, l3]; decide) rfl) rfl ?_
   clear hB10
   rintro _ w28_ ⟨hB10, hF28_⟩
   replace hS := hS.fr hF28_ (by simp only [mc_]; omega)
   replace hb := hb.fr hF28_ (by assumption)
   replace hO := hO.fr hF28_ (by assumption)
   replace hF := hF.then hF28_ (by simp only [mc_]; intro i_ hi_ hj_; omega)
   replace hB8 := hB8.fr hF28_ (by simp only [mc_]; omega)
   clear hF28_
   refine named (v3.set 14 (~~~ (v3.getD 14 0))) fun v4 e4 => ?_
   replace hB10 := hB10.to (cs' := v4.map w32) (by rw [e4]; exact setw _ 14 _)
   have l4 : v4.length = 16 := by rw [e4, List.length_set, l3]
   replace hB10 := hB10.to (cs' := (Bl.start h n.toNat last).map w32) (by rw [start_bv, hc78, e4, e3, e2, e1]; rfl)
   refine Ops_nil ?_
   refine then_n (hK26_ _ _ ?_)
   clear hK26_ K26_
   refine W_keepB [0, 8, 10] fun B29 hB29_ => ?_
   simp only [e_, Nat.reduceAdd, Nat.reduceBEq] at hB29_
   subst hB29_
   refine W_seq_k fun K30_ hK30_ => ?_
   refine W_seq_k fun K31_ hK31_ => ?_
   refine W_region [83, 84] rfl ?_
   refine named (Bl.start h n.toNat last) fun v0 e0 => ?_
   have l0 : v0.length = 16 := by rw [e0]; exact start_length hh _ _
   rw [← e0] at hB10
   refine Ops_step (R_loadCs (cs := ordC) ag140 (by rw [ordC_len]; exact sz140) rfl hO.cells) rfl rfl ?_
   refine Ops_step (R_move rfl) rfl rfl ?_
   refine Ops_nil ?_
   refine then_n (hK31_ _ _ ?_)
   clear hK31_ K31_
   refine W_block ?_
   refine W_loopB [0, 8, 10, 83] [84] (fun m vs w' => ∃ i, i ≤ 10 ∧ m = 10 - i ∧ vs = [vi i] ∧ Blk w' b10 137 (((Bl.orders.take i).foldl (Bl.round (Bl.words bs)) v0).map w32) ∧ Blk w' b8 120 ((Bl.words bs).map w32) ∧ Blk w' bS tS (h.map w32 ++ tl) ∧ Rd w' (some A) (bs.map vb) ∧ Rd w' (some ⟨2, 0, none⟩) ordC ∧ Fr [bS] w w') (10) _ rfl (⟨0, by decide, rfl, rfl, hB10, hB8, hS, hb, hO, hF⟩) fun B32 hB32_ => ?_
   simp only [e_, Nat.reduceAdd, Nat.reduceBEq] at hB32_
   subst hB32_
   clear hB10 hB8 hS hb hO hF
   rintro m_ vs_ w0_ ⟨i, hi, rfl, rfl, hB10, hB8, hS, hb, hO, hF⟩
   refine W_seq_k fun K33_ hK33_ => ?_
   refine W_region [85] rfl (Ops_step (R_lss rfl rfl) rfl rfl ?_)
   refine Ops_nil ?_
   refine then_n (hK33_ _ _ ?_)
   clear hK33_ K33_
   refine W_seq_k fun K34_ hK34_ => ?_
   refine W_if rfl (fun hc85 => ?_) (fun hc85 => ?_)
   ·
    have hi10 : i < 10 := by omega
    refine named ((Bl.orders.take i).foldl (Bl.round (Bl.words bs)) v0) fun v5 e5 => ?_
    rw [← e5] at hB10
    have l5 : v5.length = 16 := by rw [e5, foldl_length _ (round_length _), l0]
    refine W_skip ?_
    refine then_n (hK34_ _ _ ?_)
    clear hK34_ K34_
    refine W_seq_k fun K35_ hK35_ => ?_
    refine W_block ?_
    refine W_seq_k fun K36_ hK36_ => ?_
    refine W_region [86, 13, none] rfl (Ops_step (R_indexN Tryd.underlying140 sz139 ag139 rfl rfl (by omega) (by omega)) rfl rfl ?_)
    have hn13_hS := hS.lt
    have hz13_hF := hF.size
    have hn13_hB8 := hB8.lt
    have hn13_hB10 := hB10.lt
    refine Ops_to (R_alloc zr139) rfl rfl ?_
    rintro _ w13_ ⟨b13, rfl, hb13, hB13, hF13_⟩
    have hl13 := hB13.lt
    replace hS := hS.fr0 hF13_
    replace hb := hb.fr0 hF13_
    replace hO := hO.fr0 hF13_
    replace hF := hF.fr0 hF13_
    replace hB8 := hB8.fr0 hF13_
    replace hB10 := hB10.fr0 hF13_
    clear hF13_
    have o13 : Off (some A) [b13] := offlt (by omega)
    have q13 : Off (some ⟨2, 0, none⟩) [b13] := offlt (by show 2 ≠ b13; omega)
    refine Ops_to0 (R_storeN sz139 (ord_size i hi10) rfl rfl hB13 (by decide) (by rw [ord_row i hi10]; exact allc)) rfl ?_
    clear hB13
    rintro _ w37_ ⟨hB13, hF37_⟩
    replace hS := hS.fr hF37_ (by simp only [mc_]; omega)
    replace hb := hb.fr hF37_ (by assumption)
    replace hO := hO.fr hF37_ (by assumption)
    replace hF := hF.then hF37_ (by simp only [mc_]; intro i_ hi_ hj_; omega)
    replace hB8 := hB8.fr hF37_ (by simp only [mc_]; omega)
    replace hB10 := hB10.fr hF37_ (by simp only [mc_]; omega)
    clear hF37_
    replace hB13 := hB13.to (cs' := (Bl.orders.getD i []).map c8) (by rw [ord_row i hi10]; exact over16 (by simp) (by rw [List.length_map]; exact (ord_ok i hi10).1))
    refine named (Bl.orders.getD i []) fun o eo => ?_
    have ol := (ord_ok i hi10).1
    have oo := (ord_ok i hi10).2
    rw [← eo] at hB13 ol oo
    refine Ops_nil ?_
    refine then_n (hK36_ _ _ ?_)
    clear hK36_ K36_
    refine W_seq_k fun K38_ hK38_ => ?_
    refine W_seq_k fun K39_ hK39_ => ?_
    refine W_region [87] rfl (Ops_step (R_move rfl) rfl rfl ?_)
    refine Ops_nil ?_
    refine then_n (hK39_ _ _ ?_)
    clear hK39_ K39_
    refine W_block ?_
    refine W_loopB [0, 8, 10, 13, 83, 84] [87] (fun m vs w' => ∃ j, j ≤ 4 ∧ m = 4 - j ∧ vs = [vi j] ∧ Blk w' b10 137 (((List.range j).foldl (Bl.step (Bl.words bs) o) v5).map w32) ∧ Blk w' b13 139 (o.map c8) ∧ Blk w' b8 120 ((Bl.words bs).map w32) ∧ Blk w' bS tS (h.map w32 ++ tl) ∧ Rd w' (some A) (bs.map vb) ∧ Rd w' (some ⟨2, 0, none⟩) ordC ∧ Fr [bS] w w') (4) _ rfl (⟨0, by decide, rfl, rfl, hB10, hB13, hB8, hS, hb, hO, hF⟩) fun B40 hB40_ => ?_
    simp only [e_, Nat.reduceAdd, Nat.reduceBEq] at hB40_
    subst hB40_
    clear hB10 hB13 hB8 hS hb hO hF
    rintro m_ vs_ w0_ ⟨j, hj, rfl, rfl, hB10, hB13, hB8, hS, hb, hO, hF⟩
    refine W_seq_k fun K41_ hK41_ => ?_
    refine W_region [88] rfl (Ops_step (R_lss rfl rfl) rfl rfl ?_)
    refine Ops_nil ?_
    refine then_n (hK41_ _ _ ?_)
    clear hK41_ K41_
    refine W_seq_k fun K42_ hK42_ => ?_
    refine W_if rfl (fun hc88 => ?_) (fun hc88 => ?_)
    ·
     refine named ((List.range j).foldl (Bl.step (Bl.words bs) o) v5) fun v ev => ?_
     rw [← ev] at hB10
     have lv : v.length = 16 := by rw [ev, foldl_length _ (step_length _ _), l5]
     refine W_skip ?_
     refine then_n (hK42_ _ _ ?_)
     clear hK42_ K42_
     refine W_seq_k fun K43_ hK43_ => ?_
     refine W_block ?_
     refine W_seq_k fun K44_ hK44_ => ?_
     refine W_region [89, 14] rfl (Ops_step (R_move rfl) rfl rfl (Ops_step (R_assign rfl) rfl rfl ?_))
     refine Ops_nil ?_
     refine then_n (hK44_ _ _ ?_)
     clear hK44_ K44_
     refine W_drawF [90, 91, 92, 93, 94, 95, 96, 97, 98, 99, 100, 101, 102, 103, 104, 105, 106, 107, 108, 109, 110] [(0, true), (1, true), (2, true), (3, true), (4, true), (5, true), (6, true), (7, true), (8, true), (9, true), (10, true), (11, true), (12, true), (13, true), (14, true), (15, true), (16, true), (17, true), (18, true), (19, true), (20, false)] TFha.hm rfl (by kernel_rfl) fun ops45_ w45_ hops45_ hF45_ => ?_
     replace hS := hS.fr0 hF45_
     replace hb := hb.fr0 hF45_
     replace hO := hO.fr0 hF45_
     replace hF := hF.fr0 hF45_
     replace hB8 := hB8.fr0 hF45_
     replace hB10 := hB10.fr0 hF45_
     replace hB13 := hB13.fr0 hF45_
     clear hF45_
     refine HSp (R_move rfl) rfl rfl (HSp (R_move rfl) rfl rfl ?_)
     refine HSp (R_add rfl rfl (wIc (n := 4 + j) (by omega) (by omega))) rfl rfl ?_
     refine HSp (R_move rfl) rfl rfl ?_
     refine HSp (R_add rfl rfl (wIc (n := 8 + j) (by omega) (by omega))) rfl rfl ?_
     refine HSp (R_move rfl) rfl rfl ?_
     refine HSp (R_add rfl rfl (wIc (n := 12 + j) (by omega) (by omega))) rfl rfl ?_
     refine HSp (R_move rfl) rfl rfl ?_
     refine HSp (R_mul rfl rfl (wIc (n := 2 * j) (by omega) (by omega))) rfl rfl ?_
     refine HSp (R_indexArr Tryd.underlying139 sz5 rfl rfl (by omega) (by omega)) rfl rfl ?_
     refine HS_loadB ag5 rfl hB13 (getc (a := 2 * j) (by omega)) rfl rfl ?_
     refine HSp (R_indexArr Tryd.underlying120 sz119 rfl rfl (by omega) (by have := oo (2 * j) (by omega); omega)) rfl rfl ?_
     refine HS_loadB ag119 rfl hB8 (getw (a := o.getD (2 * j) 0) (by have := oo (2 * j) (by omega); simpa [Bl.words] using this)) rfl rfl ?_
     refine HSp (R_move rfl) rfl rfl ?_
     refine HSp (R_mul rfl rfl (wIc (n := 2 * j) (by omega) (by omega))) rfl rfl ?_
     refine HSp (R_add rfl rfl (wIc (n := 2 * j + 1) (by omega) (by omega))) rfl rfl ?_
     refine HSp (R_indexArr Tryd.underlying139 sz5 rfl rfl (by omega) (by omega)) rfl rfl ?_
     refine HS_loadB ag5 rfl hB13 (getc (a := 2 * j + 1) (by omega)) rfl rfl ?_
     refine HSp (R_indexArr Tryd.underlying120 sz119 rfl rfl (by omega) (by have := oo (2 * j + 1) (by omega); omega)) rfl rfl ?_
     refine HS_loadB ag119 rfl hB8 (getw (a := o.getD (2 * j + 1) 0) (by have := oo (2 * j + 1) (by omega); simpa [Bl.words] using this)) rfl rfl ?_
     refine HS_call [] _ rfl (by rw [hops45_]; kernel_rfl) (C_func bd106 rfl) rfl rfl ?_
     refine (stir_any v lv b10 _ j (4 + j) (8 + j) (12 + j) (by omega) (by omega) (by omega) (by omega) _ _ _ hB10).mono ?_
     rintro _ w110_ ⟨rfl, hB10, hF110_⟩
     replace hS := hS.fr hF110_ (by simp only [mc_]; omega)
     replace hb := hb.fr hF110_ (by assumption)
     replace hO := hO.fr hF110_ (by assumption)
     replace hF := hF.then hF110_ (by simp only [mc_]; intro i_ hi_ hj_; omega)
     replace hB8 := hB8.fr hF110_ (by simp only [mc_]; omega)
     replace hB13 := hB13.fr hF110_ (by simp only [mc_]; omega)
     clear hF110_
     replace hB10 := hB10.to (cs' := ((List.range (j + 1)).foldl (Bl.step (Bl.words bs) o) v5).map w32) (by rw [range_foldl, ← ev]; exact congrArg (List.map w32) (step_lo _ _ _ (by omega)))
     refine ⟨_, rfl, trivial, ?_⟩
     refine HS_nil ?_
     clear hops45_
     refine block_n ?_
     refine then_n (hK43_ _ _ ?_)
     clear hK43_ K43_
     refine W_keepB [0, 8, 10, 13, 83, 84, 87] fun B46 hB46_ => ?_
     simp only [e_, Nat.reduceAdd, Nat.reduceBEq] at hB46_
     subst hB46_
     refine W_region [111, 87] rfl ?_
     refine Ops_step (R_add rfl rfl (wIc (n := j + 1) (by omega) (by omega))) rfl rfl ?_
     refine Ops_step (R_move rfl) rfl rfl ?_
     refine Ops_nil ?_
     exact ⟨4 - (j + 1), _, by omega, rfl, ⟨j + 1, by omega, rfl, rfl, hB10, hB13, hB8, hS, hb, hO, hF⟩, ⟨rfl, rfl, rfl, rfl, rfl, rfl, trivial⟩⟩
    ·
     have hj4 : j = 4 := by omega
     subst hj4
     refine W_exit ?_
     refine then_exit ?_
     clear hK42_ K42_
     refine then_exit ?_
     refine block_exit ?_
     refine then_n (hK38_ _ _ ?_)
     clear hK38_ K38_
     refine W_seq_k fun K47_ hK47_ => ?_
     refine W_region [112] rfl (Ops_step (R_move rfl) rfl rfl ?_)
     refine Ops_nil ?_
     refine then_n (hK47_ _ _ ?_)
     clear hK47_ K47_
     refine W_block ?_
     refine W_loopB [0, 8, 10, 13, 83, 84] [112] (fun m vs w' => ∃ j, j ≤ 4 ∧ m = 4 - j ∧ vs = [vi j] ∧ Blk w' b10 137 (((List.range (4 + j)).foldl (Bl.step (Bl.words bs) o) v5).map w32) ∧ Blk w' b13 139 (o.map c8) ∧ Blk w' b8 120 ((Bl.words bs).map w32) ∧ Blk w' bS tS (h.map w32 ++ tl) ∧ Rd w' (some A) (bs.map vb) ∧ Rd w' (some ⟨2, 0, none⟩) ordC ∧ Fr [bS] w w') (4) _ rfl (⟨0, by decide, rfl, rfl, hB10, hB13, hB8, hS, hb, hO, hF⟩) fun B48 hB48_ => ?_
     simp only [e_, Nat.reduceAdd, Nat.reduceBEq] at hB48_
     subst hB48_
     clear hB10 hB13 hB8 hS hb hO hF
     rintro m_ vs_ w0_ ⟨j, hj, rfl, rfl, hB10, hB13, hB8, hS, hb, hO, hF⟩
     refine W_seq_k fun K49_ hK49_ => ?_
     refine W_region [113] rfl (Ops_step (R_lss rfl rfl) rfl rfl ?_)
     refine Ops_nil ?_
     refine then_n (hK49_ _ _ ?_)
     clear hK49_ K49_
     refine W_seq_k fun K50_ hK50_ => ?_
     refine W_if rfl (fun hc113 => ?_) (fun hc113 => ?_)
     ·
      refine named ((List.range (4 + j)).foldl (Bl.step (Bl.words bs) o) v5) fun v ev => ?_
      rw [← ev] at hB10
      have lv : v.length = 16 := by rw [ev, foldl_length _ (step_length _ _), l5]
      refine W_skip ?_
      refine then_n (hK50_ _ _ ?_)
      clear hK50_ K50_
      refine W_seq_k fun K51_ hK51_ => ?_
      refine W_block ?_
      refine W_seq_k fun K52_ hK52_ => ?_
      refine W_region [114, 15] rfl (Ops_step (R_move rfl) rfl rfl (Ops_step (R_assign rfl) rfl rfl ?_))
      refine Ops_nil ?_
      refine then_n (hK52_ _ _ ?_)
      clear hK52_ K52_
      refine W_drawF [115, 116, 117, 118, 119, 120, 121, 122, 123, 124, 125, 126, 127, 128, 129, 130, 131, 132, 133, 134, 135, 136, 137, 138, 139, 140, 141, 142] [(0, true), (1, true), (2, true), (3, true), (4, true), (5, true), (6, true), (7, true), (8, true), (9, true), (10, true), (11, true), (12, true), (13, true), (14, true), (15, true), (16, true), (17, true), (18, true), (19, true), (20, true), (21, true), (22, true), (23, true), (24, true), (25, true), (26, true), (27, false)] TFha.hm rfl (by kernel_rfl) fun ops53_ w53_ hops53_ hF53_ => ?_
      replace hS := hS.fr0 hF53_
      replace hb := hb.fr0 hF53_
      replace hO := hO.fr0 hF53_
      replace hF := hF.fr0 hF53_
      replace hB8 := hB8.fr0 hF53_
      replace hB10 := hB10.fr0 hF53_
      replace hB13 := hB13.fr0 hF53_
      clear hF53_
      refine HSp (R_move rfl) rfl rfl (HSp (R_move rfl) rfl rfl ?_)
      refine HSp (R_add rfl rfl (wIc (n := j + 1) (by omega) (by omega))) rfl rfl ?_
      refine HSp (R_rem rfl rfl (by decide) (remc (j + 1) 4)) rfl rfl ?_
      refine HSp (R_add rfl rfl (wIc (n := 4 + (j + 1) % 4) (by omega) (by omega))) rfl rfl ?_
      refine HSp (R_move rfl) rfl rfl ?_
      refine HSp (R_add rfl rfl (wIc (n := j + 2) (by omega) (by omega))) rfl rfl ?_
      refine HSp (R_rem rfl rfl (by decide) (remc (j + 2) 4)) rfl rfl ?_
      refine HSp (R_add rfl rfl (wIc (n := 8 + (j + 2) % 4) (by omega) (by omega))) rfl rfl ?_
      refine HSp (R_move rfl) rfl rfl ?_
      refine HSp (R_add rfl rfl (wIc (n := j + 3) (by omega) (by omega))) rfl rfl ?_
      refine HSp (R_rem rfl rfl (by decide) (remc (j + 3) 4)) rfl rfl ?_
      refine HSp (R_add rfl rfl (wIc (n := 12 + (j + 3) % 4) (by omega) (by omega))) rfl rfl ?_
      refine HSp (R_move rfl) rfl rfl ?_
      refine HSp (R_mul rfl rfl (wIc (n := 2 * j) (by omega) (by omega))) rfl rfl ?_
      refine HSp (R_add rfl rfl (wIc (n := 8 + 2 * j) (by omega) (by omega))) rfl rfl ?_
      refine HSp (R_indexArr Tryd.underlying139 sz5 rfl rfl (by omega) (by omega)) rfl rfl ?_
      refine HS_loadB ag5 rfl hB13 (getc (a := 8 + 2 * j) (by omega)) rfl rfl ?_
      refine HSp (R_indexArr Tryd.underlying120 sz119 rfl rfl (by omega) (by have := oo (8 + 2 * j) (by omega); omega)) rfl rfl ?_
      refine HS_loadB ag119 rfl hB8 (getw (a := o.getD (8 + 2 * j) 0) (by have := oo (8 + 2 * j) (by omega); simpa [Bl.words] using this)) rfl rfl ?_
      refine HSp (R_move rfl) rfl rfl ?_
      refine HSp (R_mul rfl rfl (wIc (n := 2 * j) (by omega) (by omega))) rfl rfl ?_
      refine HSp (R_add rfl rfl (wIc (n := 9 + 2 * j) (by omega) (by omega))) rfl rfl ?_
      refine HSp (R_indexArr Tryd.underlying139 sz5 rfl rfl (by omega) (by omega)) rfl rfl ?_
      refine HS_loadB ag5 rfl hB13 (getc (a := 9 + 2 * j) (by omega)) rfl rfl ?_
      refine HSp (R_indexArr Tryd.underlying120 sz119 rfl rfl (by omega) (by have := oo (9 + 2 * j) (by omega); omega)) rfl rfl ?_
      refine HS_loadB ag119 rfl hB8 (getw (a := o.getD (9 + 2 * j) 0) (by have := oo (9 + 2 * j) (by omega); simpa [Bl.words] using this)) rfl rfl ?_
      refine HS_call [] _ rfl (by rw [hops53_]; kernel_rfl) (C_func bd106 rfl) rfl rfl ?_
      refine (stir_any v lv b10 _ j (4 + (j + 1) % 4) (8 + (j + 2) % 4) (12 + (j + 3) % 4) (by omega) (by omega) (by omega) (by omega) _ _ _ hB10).mono ?_
      rintro _ w142_ ⟨rfl, hB10, hF142_⟩
      replace hS := hS.fr hF142_ (by simp only [mc_]; omega)
      replace hb := hb.fr hF142_ (by assumption)
      replace hO := hO.fr hF142_ (by assumption)
      replace hF := hF.then hF142_ (by simp only [mc_]; intro i_ hi_ hj_; omega)
      replace hB8 := hB8.fr hF142_ (by simp only [mc_]; omega)
      replace hB13 := hB13.fr hF142_ (by simp only [mc_]; omega)
      clear hF142_
      replace hB10 := hB10.to (cs' := ((List.range (4 + j + 1)).foldl (Bl.step (Bl.words bs) o) v5).map w32) (by rw [range_foldl, ← ev]; exact congrArg (List.map w32) (step_hi _ _ _ j))
      refine ⟨_, rfl, trivial, ?_⟩
      refine HS_nil ?_
      clear hops53_
      refine block_n ?_
      refine then_n (hK51_ _ _ ?_)
      clear hK51_ K51_
      refine W_keepB [0, 8, 10, 13, 83, 84, 112] fun B54 hB54_ => ?_
      simp only [e_, Nat.reduceAdd, Nat.reduceBEq] at hB54_
      subst hB54_
      refine W_region [143, 112] rfl ?_
      refine Ops_step (R_add rfl rfl (wIc (n := j + 1) (by omega) (by omega))) rfl rfl ?_
      refine Ops_step (R_move rfl) rfl rfl ?_
      refine Ops_nil ?_
      exact ⟨4 - (j + 1), _, by omega, rfl, ⟨j + 1, by omega, rfl, rfl, hB10, hB13, hB8, hS, hb, hO, hF⟩, ⟨rfl, rfl, rfl, rfl, rfl, rfl, trivial⟩⟩
     ·
      have hj4 : j = 4 := by omega
      subst hj4
      replace hB10 := hB10.to (cs' := ((Bl.orders.take (i + 1)).foldl (Bl.round (Bl.words bs)) v0).map w32) (by rw [ord_take hi10, List.foldl_append, ← e5, ← eo, round_one])
      clear hB13
      refine W_exit ?_
      refine then_exit ?_
      clear hK50_ K50_
      refine then_exit ?_
      refine block_exit ?_
      refine block_n ?_
      refine then_n (hK35_ _ _ ?_)
      clear hK35_ K35_
      refine W_region [144, 84] rfl ?_
      refine Ops_step (R_add rfl rfl (wIc (n := i + 1) (by omega) (by omega))) rfl rfl ?_
      refine Ops_step (R_move rfl) rfl rfl ?_
      refine Ops_nil ?_
      exact ⟨10 - (i + 1), _, by omega, rfl, ⟨i + 1, by omega, rfl, rfl, hB10, hB8, hS, hb, hO, hF⟩, ⟨rfl, rfl, rfl, rfl, trivial⟩⟩
   ·
    have hi10 : i = 10 := by omega
    subst hi10
    refine named ((Bl.orders.take 10).foldl (Bl.round (Bl.words bs)) v0) fun v9 e9 => ?_
    rw [← e9] at hB10
    have l9 : v9.length = 16 := by rw [e9, foldl_length _ (round_length _), l0]
    clear hB8
    refine W_exit ?_
    refine then_exit ?_
    clear hK34_ K34_
    refine then_exit ?_
    refine block_exit ?_
    refine then_n (hK30_ _ _ ?_)
    clear hK30_ K30_
    refine W_seq_k fun K55_ hK55_ => ?_
    refine W_region [145] rfl (Ops_step (R_move rfl) rfl rfl ?_)
    refine Ops_nil ?_
    refine then_n (hK55_ _ _ ?_)
    clear hK55_ K55_
    refine W_block ?_
    refine W_loopB [0, 10] [145] (fun m vs w' => ∃ i, i ≤ 8 ∧ m = 8 - i ∧ vs = [vi i] ∧ Blk w' b10 137 (v9.map w32) ∧ Blk w' bS tS ((mixed (Bl.outw h v9) h i).map w32 ++ tl) ∧ Fr [bS] w w') (8) _ rfl (⟨0, by decide, rfl, rfl, hB10, hS, hF⟩) fun B56 hB56_ => ?_
    simp only [e_, Nat.reduceAdd, Nat.reduceBEq] at hB56_
    subst hB56_
    clear hB10 hS hF hb hO
    rintro m_ vs_ w0_ ⟨i, hi, rfl, rfl, hB10, hS, hF⟩
    refine W_seq_k fun K57_ hK57_ => ?_
    refine W_region [146] rfl (Ops_step (R_lss rfl rfl) rfl rfl ?_)
    refine Ops_nil ?_
    refine then_n (hK57_ _ _ ?_)
    clear hK57_ K57_
    refine W_seq_k fun K58_ hK58_ => ?_
    refine W_if rfl (fun hc146 => ?_) (fun hc146 => ?_)
    ·
     refine W_skip ?_
     refine then_n (hK58_ _ _ ?_)
     clear hK58_ K58_
     refine W_seq_k fun K59_ hK59_ => ?_
     refine W_block ?_
     refine W_seq_k fun K60_ hK60_ => ?_
     refine W_region [147, 16] rfl (Ops_step (R_move rfl) rfl rfl (Ops_step (R_assign rfl) rfl rfl ?_))
     refine Ops_nil ?_
     refine then_n (hK60_ _ _ ?_)
     clear hK60_ K60_
     refine W_drawF [148, 149, 150, 151, 152, 153, 154, 155, 156, 157, 158, 159, 160, 161, 162, 163, none] [(0, true), (1, true), (2, true), (3, true), (4, true), (5, true), (6, true), (7, true), (8, true), (9, true), (10, true), (11, true), (12, true), (13, true), (14, true), (15, true), (16, false)] TFha.hm rfl (by kernel_rfl) fun ops61_ w61_ hops61_ hF61_ => ?_
     replace hB10 := hB10.fr0 hF61_
     replace hS := hS.fr0 hF61_
     replace hF := hF.fr0 hF61_
     clear hF61_
     refine HSp (R_move rfl) rfl rfl (HSp (R_move rfl) rfl rfl (HSp (R_nilCheck rfl) rfl rfl (HSp (R_indexArr Tryd.underlying126 sz119 rfl rfl (by omega) (by omega)) rfl rfl ?_)))
     refine HS_loadB ag119 rfl hS (getwt (a := i) (by rw [mixed_length _ _ (by omega)]; omega)) rfl rfl ?_
     refine HSp (R_move rfl) rfl rfl (HSp (R_indexArr Tryd.underlying137 sz119 rfl rfl (by omega) (by omega)) rfl rfl ?_)
     refine HS_loadB ag119 rfl hB10 (getw (a := i) (by omega)) rfl rfl ?_
     refine HSp (R_move rfl) rfl rfl ?_
     refine HSp (R_add rfl rfl (wIc (n := 8 + i) (by omega) (by omega))) rfl rfl ?_
     refine HSp (R_indexArr Tryd.underlying137 sz119 rfl rfl (by omega) (by omega)) rfl rfl ?_
     refine HS_loadB ag119 rfl hB10 (getw (a := 8 + i) (by omega)) rfl rfl ?_
     refine HSp (R_xor rfl rfl (xor32 _ _)) rfl rfl (HSp (R_xor rfl rfl (xor32 _ _)) rfl rfl (HSp (R_nilCheck rfl) rfl rfl (HSp (R_indexArr Tryd.underlying126 sz119 rfl rfl (by omega) (by omega)) rfl rfl ?_)))
     refine HS_to0 [] _ rfl (by rw [hops61_]; kernel_rfl) (R_store sz119 rfl rfl hS (by rw [List.length_append, List.length_map, mixed_length _ _ (by omega)]; omega) rfl) rfl ?_
     clear hS
     rintro _ w62_ ⟨hS, hF62_⟩
     replace hB10 := hB10.fr hF62_ (by simp only [mc_]; omega)
     replace hF := hF.then hF62_ (by simp only [mc_]; intro i_ hi_ hj_; omega)
     clear hF62_
     replace hS := hS.to (cs' := (mixed (Bl.outw h v9) h (i + 1)).map w32 ++ tl) (by rw [mixed_get _ _ _ (by omega), ← Bl.outw_eq]; rw [setwt _ _ _ _ (by rw [mixed_length _ _ (by omega)]; omega)]; exact congrArg (fun x => List.map w32 x ++ tl) (mixed_set (Bl.outw h v9) h (by omega)))
     refine ⟨trivial, ?_⟩
     refine HS_nil ?_
     clear hops61_
     refine block_n ?_
     refine then_n (hK59_ _ _ ?_)
     clear hK59_ K59_
     refine W_keepB [0, 10, 145] fun B63 hB63_ => ?_
     simp only [e_, Nat.reduceAdd, Nat.reduceBEq] at hB63_
     subst hB63_
     refine W_region [164, 145] rfl ?_
     refine Ops_step (R_add rfl rfl (wIc (n := i + 1) (by omega) (by omega))) rfl rfl ?_
     refine Ops_step (R_move rfl) rfl rfl ?_
     refine Ops_nil ?_
     exact ⟨8 - (i + 1), _, by omega, rfl, ⟨i + 1, by omega, rfl, rfl, hB10, hS, hF⟩, ⟨rfl, rfl, trivial⟩⟩
    ·
     have hi8 : i = 8 := by omega
     subst hi8
     refine W_exit ?_
     refine then_exit ?_
     clear hK58_ K58_
     refine then_exit ?_
     refine block_exit ?_
     refine ⟨_, rfl, ?_⟩
     exact ⟨rfl, hS.to (by rw [mixed_all _ _ hh, Bl.mix_eq, ← e0, ← take10, ← e9]), hF⟩
  ·
   replace hB10 := hB10.to (cs' := (Bl.start h n.toNat last).map w32) (by rw [start_bv, hc78, e3, e2, e1]; rfl)
   refine W_skip ?_
   refine then_n (hK26_ _ _ ?_)
   clear hK26_ K26_
   refine W_seq_k fun K64_ hK64_ => ?_
   refine W_seq_k fun K65_ hK65_ => ?_
   refine W_region [83, 84] rfl ?_
   refine named (Bl.start h n.toNat last) fun v0 e0 => ?_
   have l0 : v0.length = 16 := by rw [e0]; exact start_length hh _ _
   rw [← e0] at hB10
   refine Ops_step (R_loadCs (cs := ordC) ag140 (by rw [ordC_len]; exact sz140) rfl hO.cells) rfl rfl ?_
   refine Ops_step (R_move rfl) rfl rfl ?_
   refine Ops_nil ?_
   refine then_n (hK65_ _ _ ?_)
   clear hK65_ K65_
   refine W_block ?_
   refine W_loopB [0, 8, 10, 83] [84] (fun m vs w' => ∃ i, i ≤ 10 ∧ m = 10 - i ∧ vs = [vi i] ∧ Blk w' b10 137 (((Bl.orders.take i).foldl (Bl.round (Bl.words bs)) v0).map w32) ∧ Blk w' b8 120 ((Bl.words bs).map w32) ∧ Blk w' bS tS (h.map w32 ++ tl) ∧ Rd w' (some A) (bs.map vb) ∧ Rd w' (some ⟨2, 0, none⟩) ordC ∧ Fr [bS] w w') (10) _ rfl (⟨0, by decide, rfl, rfl, hB10, hB8, hS, hb, hO, hF⟩) fun B66 hB66_ => ?_
   simp only [e_, Nat.reduceAdd, Nat.reduceBEq] at hB66_
   subst hB66_
   clear hB10 hB8 hS hb hO hF
   rintro m_ vs_ w0_ ⟨i, hi, rfl, rfl, hB10, hB8, hS, hb, hO, hF⟩
   refine W_seq_k fun K67_ hK67_ => ?_
   refine W_region [85] rfl (Ops_step (R_lss rfl rfl) rfl rfl ?_)
   refine Ops_nil ?_
   refine then_n (hK67_ _ _ ?_)
   clear hK67_ K67_
   refine W_seq_k fun K68_ hK68_ => ?_
   refine W_if rfl (fun hc85 => ?_) (fun hc85 => ?_)
   ·
    have hi10 : i < 10 := by omega
    refine named ((Bl.orders.take i).foldl (Bl.round (Bl.words bs)) v0) fun v5 e5 => ?_
    rw [← e5] at hB10
    have l5 : v5.length = 16 := by rw [e5, foldl_length _ (round_length _), l0]
    refine W_skip ?_
    refine then_n (hK68_ _ _ ?_)
    clear hK68_ K68_
    refine W_seq_k fun K69_ hK69_ => ?_
    refine W_block ?_
    refine W_seq_k fun K70_ hK70_ => ?_
    refine W_region [86, 13, none] rfl (Ops_step (R_indexN Tryd.underlying140 sz139 ag139 rfl rfl (by omega) (by omega)) rfl rfl ?_)
    have hn13_hS := hS.lt
    have hz13_hF := hF.size
    have hn13_hB8 := hB8.lt
    have hn13_hB10 := hB10.lt
    refine Ops_to (R_alloc zr139) rfl rfl ?_
    rintro _ w13_ ⟨b13, rfl, hb13, hB13, hF13_⟩
    have hl13 := hB13.lt
    replace hS := hS.fr0 hF13_
    replace hb := hb.fr0 hF13_
    replace hO := hO.fr0 hF13_
    replace hF := hF.fr0 hF13_
    replace hB8 := hB8.fr0 hF13_
    replace hB10 := hB10.fr0 hF13_
    clear hF13_
    have o13 : Off (some A) [b13] := offlt (by omega)
    have q13 : Off (some ⟨2, 0, none⟩) [b13] := offlt (by show 2 ≠ b13; omega)
    refine Ops_to0 (R_storeN sz139 (ord_size i hi10) rfl rfl hB13 (by decide) (by rw [ord_row i hi10]; exact allc)) rfl ?_
    clear hB13
    rintro _ w71_ ⟨hB13, hF71_⟩
    replace hS := hS.fr hF71_ (by simp only [mc_]; omega)
    replace hb := hb.fr hF71_ (by assumption)
    replace hO := hO.fr hF71_ (by assumption)
    replace hF := hF.then hF71_ (by simp only [mc_]; intro i_ hi_ hj_; omega)
    replace hB8 := hB8.fr hF71_ (by simp only [mc_]; omega)
    replace hB10 := hB10.fr hF71_ (by simp only [mc_]; omega)
    clear hF71_
    replace hB13 := hB13.to (cs' := (Bl.orders.getD i []).map c8) (by rw [ord_row i hi10]; exact over16 (by simp) (by rw [List.length_map]; exact (ord_ok i hi10).1))
    refine named (Bl.orders.getD i []) fun o eo => ?_
    have ol := (ord_ok i hi10).1
    have oo := (ord_ok i hi10).2
    rw [← eo] at hB13 ol oo
    refine Ops_nil ?_
    refine then_n (hK70_ _ _ ?_)
    clear hK70_ K70_
    refine W_seq_k fun K72_ hK72_ => ?_
    refine W_seq_k fun K73_ hK73_ => ?_
    refine W_region [87] rfl (Ops_step (R_move rfl) rfl rfl ?_)
    refine Ops_nil ?_
    refine then_n (hK73_ _ _ ?_)
    clear hK73_ K73_
    refine W_block ?_
    refine W_loopB [0, 8, 10, 13, 83, 84] [87] (fun m vs w' => ∃ j, j ≤ 4 ∧ m = 4 - j ∧ vs = [vi j] ∧ Blk w' b10 137 (((List.range j).foldl (Bl.step (Bl.words bs) o) v5).map w32) ∧ Blk w' b13 139 (o.map c8) ∧ Blk w' b8 120 ((Bl.words bs).map w32) ∧ Blk w' bS tS (h.map w32 ++ tl) ∧ Rd w' (some A) (bs.map vb) ∧ Rd w' (some ⟨2, 0, none⟩) ordC ∧ Fr [bS] w w') (4) _ rfl (⟨0, by decide, rfl, rfl, hB10, hB13, hB8, hS, hb, hO, hF⟩) fun B74 hB74_ => ?_
    simp only [e_, Nat.reduceAdd, Nat.reduceBEq] at hB74_
    subst hB74_
    clear hB10 hB13 hB8 hS hb hO hF
    rintro m_ vs_ w0_ ⟨j, hj, rfl, rfl, hB10, hB13, hB8, hS, hb, hO, hF⟩
    refine W_seq_k fun K75_ hK75_ => ?_
    refine W_region [88] rfl (Ops_step (R_lss rfl rfl) rfl rfl ?_)
    refine Ops_nil ?_
    refine then_n (hK75_ _ _ ?_)
    clear hK75_ K75_
    refine W_seq_k fun K76_ hK76_ => ?_
    refine W_if rfl (fun hc88 => ?_) (fun hc88 => ?_)
    ·
     refine named ((List.range j).foldl (Bl.step (Bl.words bs) o) v5) fun v ev => ?_
     rw [← ev] at hB10
     have lv : v.length = 16 := by rw [ev, foldl_length _ (step_length _ _), l5]
     refine W_skip ?_
     refine then_n (hK76_ _ _ ?_)
     clear hK76_ K76_
     refine W_seq_k fun K77_ hK77_ => ?_
     refine W_block ?_
     refine W_seq_k fun K78_ hK78_ => ?_
     refine W_region [89, 14] rfl (Ops_step (R_move rfl) rfl rfl (Ops_step (R_assign rfl) rfl rfl ?_))
     refine Ops_nil ?_
     refine then_n (hK78_ _ _ ?_)
     clear hK78_ K78_
     refine W_drawF [90, 91, 92, 93, 94, 95, 96, 97, 98, 99, 100, 101, 102, 103, 104, 105, 106, 107, 108, 109, 110] [(0, true), (1, true), (2, true), (3, true), (4, true), (5, true), (6, true), (7, true), (8, true), (9, true), (10, true), (11, true), (12, true), (13, true), (14, true), (15, true), (16, true), (17, true), (18, true), (19, true), (20, false)] TFha.hm rfl (by kernel_rfl) fun ops79_ w79_ hops79_ hF79_ => ?_
     replace hS := hS.fr0 hF79_
     replace hb := hb.fr0 hF79_
     replace hO := hO.fr0 hF79_
     replace hF := hF.fr0 hF79_
     replace hB8 := hB8.fr0 hF79_
     replace hB10 := hB10.fr0 hF79_
     replace hB13 := hB13.fr0 hF79_
     clear hF79_
     refine HSp (R_move rfl) rfl rfl (HSp (R_move rfl) rfl rfl ?_)
     refine HSp (R_add rfl rfl (wIc (n := 4 + j) (by omega) (by omega))) rfl rfl ?_
     refine HSp (R_move rfl) rfl rfl ?_
     refine HSp (R_add rfl rfl (wIc (n := 8 + j) (by omega) (by omega))) rfl rfl ?_
     refine HSp (R_move rfl) rfl rfl ?_
     refine HSp (R_add rfl rfl (wIc (n := 12 + j) (by omega) (by omega))) rfl rfl ?_
     refine HSp (R_move rfl) rfl rfl ?_
     refine HSp (R_mul rfl rfl (wIc (n := 2 * j) (by omega) (by omega))) rfl rfl ?_
     refine HSp (R_indexArr Tryd.underlying139 sz5 rfl rfl (by omega) (by omega)) rfl rfl ?_
     refine HS_loadB ag5 rfl hB13 (getc (a := 2 * j) (by omega)) rfl rfl ?_
     refine HSp (R_indexArr Tryd.underlying120 sz119 rfl rfl (by omega) (by have := oo (2 * j) (by omega); omega)) rfl rfl ?_
     refine HS_loadB ag119 rfl hB8 (getw (a := o.getD (2 * j) 0) (by have := oo (2 * j) (by omega); simpa [Bl.words] using this)) rfl rfl ?_
     refine HSp (R_move rfl) rfl rfl ?_
     refine HSp (R_mul rfl rfl (wIc (n := 2 * j) (by omega) (by omega))) rfl rfl ?_
     refine HSp (R_add rfl rfl (wIc (n := 2 * j + 1) (by omega) (by omega))) rfl rfl ?_
     refine HSp (R_indexArr Tryd.underlying139 sz5 rfl rfl (by omega) (by omega)) rfl rfl ?_
     refine HS_loadB ag5 rfl hB13 (getc (a := 2 * j + 1) (by omega)) rfl rfl ?_
     refine HSp (R_indexArr Tryd.underlying120 sz119 rfl rfl (by omega) (by have := oo (2 * j + 1) (by omega); omega)) rfl rfl ?_
     refine HS_loadB ag119 rfl hB8 (getw (a := o.getD (2 * j + 1) 0) (by have := oo (2 * j + 1) (by omega); simpa [Bl.words] using this)) rfl rfl ?_
     refine HS_call [] _ rfl (by rw [hops79_]; kernel_rfl) (C_func bd106 rfl) rfl rfl ?_
     refine (stir_any v lv b10 _ j (4 + j) (8 + j) (12 + j) (by omega) (by omega) (by omega) (by omega) _ _ _ hB10).mono ?_
     rintro _ w110_ ⟨rfl, hB10, hF110_⟩
     replace hS := hS.fr hF110_ (by simp only [mc_]; omega)
     replace hb := hb.fr hF110_ (by assumption)
     replace hO := hO.fr hF110_ (by assumption)
     replace hF := hF.then hF110_ (by simp only [mc_]; intro i_ hi_ hj_; omega)
     replace hB8 := hB8.fr hF110_ (by simp only [mc_]; omega)
     replace hB13 := hB13.fr hF110_ (by simp only [mc_]; omega)
     clear hF110_
     replace hB10 := hB10.to (cs' := ((List.range (j + 1)).foldl (Bl.step (Bl.words bs) o) v5).map w32) (by rw [range_foldl, ← ev]; exact congrArg (List.map w32) (step_lo _ _ _ (by omega)))
     refine ⟨_, rfl, trivial, ?_⟩
     refine HS_nil ?_
     clear hops79_
     refine block_n ?_
     refine then_n (hK77_ _ _ ?_)
     clear hK77_ K77_
     refine W_keepB [0, 8, 10, 13, 83, 84, 87] fun B80 hB80_ => ?_
     simp only [e_, Nat.reduceAdd, Nat.reduceBEq] at hB80_
     subst hB80_
     refine W_region [111, 87] rfl ?_
     refine Ops_step (R_add rfl rfl (wIc (n := j + 1) (by omega) (by omega))) rfl rfl ?_
     refine Ops_step (R_move rfl) rfl rfl ?_
     refine Ops_nil ?_
     exact ⟨4 - (j + 1), _, by omega, rfl, ⟨j + 1, by omega, rfl, rfl, hB10, hB13, hB8, hS, hb, hO, hF⟩, ⟨rfl, rfl, rfl, rfl, rfl, rfl, trivial⟩⟩
    ·
     have hj4 : j = 4 := by omega
     subst hj4
     refine W_exit ?_
     refine then_exit ?_
     clear hK76_ K76_
     refine then_exit ?_
     refine block_exit ?_
     refine then_n (hK72_ _ _ ?_)
     clear hK72_ K72_
     refine W_seq_k fun K81_ hK81_ => ?_
     refine W_region [112] rfl (Ops_step (R_move rfl) rfl rfl ?_)
     refine Ops_nil ?_
     refine then_n (hK81_ _ _ ?_)
     clear hK81_ K81_
     refine W_block ?_
     refine W_loopB [0, 8, 10, 13, 83, 84] [112] (fun m vs w' => ∃ j, j ≤ 4 ∧ m = 4 - j ∧ vs = [vi j] ∧ Blk w' b10 137 (((List.range (4 + j)).foldl (Bl.step (Bl.words bs) o) v5).map w32) ∧ Blk w' b13 139 (o.map c8) ∧ Blk w' b8 120 ((Bl.words bs).map w32) ∧ Blk w' bS tS (h.map w32 ++ tl) ∧ Rd w' (some A) (bs.map vb) ∧ Rd w' (some ⟨2, 0, none⟩) ordC ∧ Fr [bS] w w') (4) _ rfl (⟨0, by decide, rfl, rfl, hB10, hB13, hB8, hS, hb, hO, hF⟩) fun B82 hB82_ => ?_
     simp only [e_, Nat.reduceAdd, Nat.reduceBEq] at hB82_
     subst hB82_
     clear hB10 hB13 hB8 hS hb hO hF
     rintro m_ vs_ w0_ ⟨j, hj, rfl, rfl, hB10, hB13, hB8, hS, hb, hO, hF⟩
     refine W_seq_k fun K83_ hK83_ => ?_
     refine W_region [113] rfl (Ops_step (R_lss rfl rfl) rfl rfl ?_)
     refine Ops_nil ?_
     refine then_n (hK83_ _ _ ?_)
     clear hK83_ K83_
     refine W_seq_k fun K84_ hK84_ => ?_
     refine W_if rfl (fun hc113 => ?_) (fun hc113 => ?_)
     ·
      refine named ((List.range (4 + j)).foldl (Bl.step (Bl.words bs) o) v5) fun v ev => ?_
      rw [← ev] at hB10
      have lv : v.length = 16 := by rw [ev, foldl_length _ (step_length _ _), l5]
      refine W_skip ?_
      refine then_n (hK84_ _ _ ?_)
      clear hK84_ K84_
      refine W_seq_k fun K85_ hK85_ => ?_
      refine W_block ?_
      refine W_seq_k fun K86_ hK86_ => ?_
      refine W_region [114, 15] rfl (Ops_step (R_move rfl) rfl rfl (Ops_step (R_assign rfl) rfl rfl ?_))
      refine Ops_nil ?_
      refine then_n (hK86_ _ _ ?_)
      clear hK86_ K86_
      refine W_drawF [115, 116, 117, 118, 119, 120, 121, 122, 123, 124, 125, 126, 127, 128, 129, 130, 131, 132, 133, 134, 135, 136, 137, 138, 139, 140, 141, 142] [(0, true), (1, true), (2, true), (3, true), (4, true), (5, true), (6, true), (7, true), (8, true), (9, true), (10, true), (11, true), (12, true), (13, true), (14, true), (15, true), (16, true), (17, true), (18, true), (19, true), (20, true), (21, true), (22, true), (23, true), (24, true), (25, true), (26, true), (27, false)] TFha.hm rfl (by kernel_rfl) fun ops87_ w87_ hops87_ hF87_ => ?_
      replace hS := hS.fr0 hF87_
      replace hb := hb.fr0 hF87_
      replace hO := hO.fr0 hF87_
      replace hF := hF.fr0 hF87_
      replace hB8 := hB8.fr0 hF87_
      replace hB10 := hB10.fr0 hF87_
      replace hB13 := hB13.fr0 hF87_
      clear hF87_
      refine HSp (R_move rfl) rfl rfl (HSp (R_move rfl) rfl rfl ?_)
      refine HSp (R_add rfl rfl (wIc (n := j + 1) (by omega) (by omega))) rfl rfl ?_
      refine HSp (R_rem rfl rfl (by decide) (remc (j + 1) 4)) rfl rfl ?_
      refine HSp (R_add rfl rfl (wIc (n := 4 + (j + 1) % 4) (by omega) (by omega))) rfl rfl ?_
      refine HSp (R_move rfl) rfl rfl ?_
      refine HSp (R_add rfl rfl (wIc (n := j + 2) (by omega) (by omega))) rfl rfl ?_
      refine HSp (R_rem rfl rfl (by decide) (remc (j + 2) 4)) rfl rfl ?_
      refine HSp (R_add rfl rfl (wIc (n := 8 + (j + 2) % 4) (by omega) (by omega))) rfl rfl ?_
      refine HSp (R_move rfl) rfl rfl ?_
      refine HSp (R_add rfl rfl (wIc (n := j + 3) (by omega) (by omega))) rfl rfl ?_
      refine HSp (R_rem rfl rfl (by decide) (remc (j + 3) 4)) rfl rfl ?_
      refine HSp (R_add rfl rfl (wIc (n := 12 + (j + 3) % 4) (by omega) (by omega))) rfl rfl ?_
      refine HSp (R_move rfl) rfl rfl ?_
      refine HSp (R_mul rfl rfl (wIc (n := 2 * j) (by omega) (by omega))) rfl rfl ?_
      refine HSp (R_add rfl rfl (wIc (n := 8 + 2 * j) (by omega) (by omega))) rfl rfl ?_
      refine HSp (R_indexArr Tryd.underlying139 sz5 rfl rfl (by omega) (by omega)) rfl rfl ?_
      refine HS_loadB ag5 rfl hB13 (getc (a := 8 + 2 * j) (by omega)) rfl rfl ?_
      refine HSp (R_indexArr Tryd.underlying120 sz119 rfl rfl (by omega) (by have := oo (8 + 2 * j) (by omega); omega)) rfl rfl ?_
      refine HS_loadB ag119 rfl hB8 (getw (a := o.getD (8 + 2 * j) 0) (by have := oo (8 + 2 * j) (by omega); simpa [Bl.words] using this)) rfl rfl ?_
      refine HSp (R_move rfl) rfl rfl ?_
      refine HSp (R_mul rfl rfl (wIc (n := 2 * j) (by omega) (by omega))) rfl rfl ?_
      refine HSp (R_add rfl rfl (wIc (n := 9 + 2 * j) (by omega) (by omega))) rfl rfl ?_
      refine HSp (R_indexArr Tryd.underlying139 sz5 rfl rfl (by omega) (by omega)) rfl rfl ?_
      refine HS_loadB ag5 rfl hB13 (getc (a := 9 + 2 * j) (by omega)) rfl rfl ?_
      refine HSp (R_indexArr Tryd.underlying120 sz119 rfl rfl (by omega) (by have := oo (9 + 2 * j) (by omega); omega)) rfl rfl ?_
      refine HS_loadB ag119 rfl hB8 (getw (a := o.getD (9 + 2 * j) 0) (by have := oo (9 + 2 * j) (by omega); simpa [Bl.words] using this)) rfl rfl ?_
      refine HS_call [] _ rfl (by rw [hops87_]; kernel_rfl) (C_func bd106 rfl) rfl rfl ?_
      refine (stir_any v lv b10 _ j (4 + (j + 1) % 4) (8 + (j + 2) % 4) (12 + (j + 3) % 4) (by omega) (by omega) (by omega) (by omega) _ _ _ hB10).mono ?_
      rintro _ w142_ ⟨rfl, hB10, hF142_⟩
      replace hS := hS.fr hF142_ (by simp only [mc_]; omega)
      replace hb := hb.fr hF142_ (by assumption)
      replace hO := hO.fr hF142_ (by assumption)
      replace hF := hF.then hF142_ (by simp only [mc_]; intro i_ hi_ hj_; omega)
      replace hB8 := hB8.fr hF142_ (by simp only [mc_]; omega)
      replace hB13 := hB13.fr hF142_ (by simp only [mc_]; omega)
      clear hF142_
      replace hB10 := hB10.to (cs' := ((List.range (4 + j + 1)).foldl (Bl.step (Bl.words bs) o) v5).map w32) (by rw [range_foldl, ← ev]; exact congrArg (List.map w32) (step_hi _ _ _ j))
      refine ⟨_, rfl, trivial, ?_⟩
      refine HS_nil ?_
      clear hops87_
      refine block_n ?_
      refine then_n (hK85_ _ _ ?_)
      clear hK85_ K85_
      refine W_keepB [0, 8, 10, 13, 83, 84, 112] fun B88 hB88_ => ?_
      simp only [e_, Nat.reduceAdd, Nat.reduceBEq] at hB88_
      subst hB88_
      refine W_region [143, 112] rfl ?_
      refine Ops_step (R_add rfl rfl (wIc (n := j + 1) (by omega) (by omega))) rfl rfl ?_
      refine Ops_step (R_move rfl) rfl rfl ?_
      refine Ops_nil ?_
      exact ⟨4 - (j + 1), _, by omega, rfl, ⟨j + 1, by omega, rfl, rfl, hB10, hB13, hB8, hS, hb, hO, hF⟩, ⟨rfl, rfl, rfl, rfl, rfl, rfl, trivial⟩⟩
     ·
      have hj4 : j = 4 := by omega
      subst hj4
      replace hB10 := hB10.to (cs' := ((Bl.orders.take (i + 1)).foldl (Bl.round (Bl.words bs)) v0).map w32) (by rw [ord_take hi10, List.foldl_append, ← e5, ← eo, round_one])
      clear hB13
      refine W_exit ?_
      refine then_exit ?_
      clear hK84_ K84_
      refine then_exit ?_
      refine block_exit ?_
      refine block_n ?_
      refine then_n (hK69_ _ _ ?_)
      clear hK69_ K69_
      refine W_region [144, 84] rfl ?_
      refine Ops_step (R_add rfl rfl (wIc (n := i + 1) (by omega) (by omega))) rfl rfl ?_
      refine Ops_step (R_move rfl) rfl rfl ?_
      refine Ops_nil ?_
      exact ⟨10 - (i + 1), _, by omega, rfl, ⟨i + 1, by omega, rfl, rfl, hB10, hB8, hS, hb, hO, hF⟩, ⟨rfl, rfl, rfl, rfl, trivial⟩⟩
   ·
    have hi10 : i = 10 := by omega
    subst hi10
    refine named ((Bl.orders.take 10).foldl (Bl.round (Bl.words bs)) v0) fun v9 e9 => ?_
    rw [← e9] at hB10
    have l9 : v9.length = 16 := by rw [e9, foldl_length _ (round_length _), l0]
    clear hB8
    refine W_exit ?_
    refine then_exit ?_
    clear hK68_ K68_
    refine then_exit ?_
    refine block_exit ?_
    refine then_n (hK64_ _ _ ?_)
    clear hK64_ K64_
    refine W_seq_k fun K89_ hK89_ => ?_
    refine W_region [145] rfl (Ops_step (R_move rfl) rfl rfl ?_)
    refine Ops_nil ?_
    refine then_n (hK89_ _ _ ?_)
    clear hK89_ K89_
    refine W_block ?_
    refine W_loopB [0, 10] [145] (fun m vs w' => ∃ i, i ≤ 8 ∧ m = 8 - i ∧ vs = [vi i] ∧ Blk w' b10 137 (v9.map w32) ∧ Blk w' bS tS ((mixed (Bl.outw h v9) h i).map w32 ++ tl) ∧ Fr [bS] w w') (8) _ rfl (⟨0, by decide, rfl, rfl, hB10, hS, hF⟩) fun B90 hB90_ => ?_
    simp only [e_, Nat.reduceAdd, Nat.reduceBEq] at hB90_
    subst hB90_
    clear hB10 hS hF hb hO
    rintro m_ vs_ w0_ ⟨i, hi, rfl, rfl, hB10, hS, hF⟩
    refine W_seq_k fun K91_ hK91_ => ?_
    refine W_region [146] rfl (Ops_step (R_lss rfl rfl) rfl rfl ?_)
    refine Ops_nil ?_
    refine then_n (hK91_ _ _ ?_)
    clear hK91_ K91_
    refine W_seq_k fun K92_ hK92_ => ?_
    refine W_if rfl (fun hc146 => ?_) (fun hc146 => ?_)
    ·
     refine W_skip ?_
     refine then_n (hK92_ _ _ ?_)
     clear hK92_ K92_
     refine W_seq_k fun K93_ hK93_ => ?_
     refine W_block ?_
     refine W_seq_k fun K94_ hK94_ => ?_
     refine W_region [147, 16] rfl (Ops_step (R_move rfl) rfl rfl (Ops_step (R_assign rfl) rfl rfl ?_))
     refine Ops_nil ?_
     refine then_n (hK94_ _ _ ?_)
     clear hK94_ K94_
     refine W_drawF [148, 149, 150, 151, 152, 153, 154, 155, 156, 157, 158, 159, 160, 161, 162, 163, none] [(0, true), (1, true), (2, true), (3, true), (4, true), (5, true), (6, true), (7, true), (8, true), (9, true), (10, true), (11, true), (12, true), (13, true), (14, true), (15, true), (16, false)] TFha.hm rfl (by kernel_rfl) fun ops95_ w95_ hops95_ hF95_ => ?_
     replace hB10 := hB10.fr0 hF95_
     replace hS := hS.fr0 hF95_
     replace hF := hF.fr0 hF95_
     clear hF95_
     refine HSp (R_move rfl) rfl rfl (HSp (R_move rfl) rfl rfl (HSp (R_nilCheck rfl) rfl rfl (HSp (R_indexArr Tryd.underlying126 sz119 rfl rfl (by omega) (by omega)) rfl rfl ?_)))
     refine HS_loadB ag119 rfl hS (getwt (a := i) (by rw [mixed_length _ _ (by omega)]; omega)) rfl rfl ?_
     refine HSp (R_move rfl) rfl rfl (HSp (R_indexArr Tryd.underlying137 sz119 rfl rfl (by omega) (by omega)) rfl rfl ?_)
     refine HS_loadB ag119 rfl hB10 (getw (a := i) (by omega)) rfl rfl ?_
     refine HSp (R_move rfl) rfl rfl ?_
     refine HSp (R_add rfl rfl (wIc (n := 8 + i) (by omega) (by omega))) rfl rfl ?_
     refine HSp (R_indexArr Tryd.underlying137 sz119 rfl rfl (by omega) (by omega)) rfl rfl ?_
     refine HS_loadB ag119 rfl hB10 (getw (a := 8 + i) (by omega)) rfl rfl ?_
     refine HSp (R_xor rfl rfl (xor32 _ _)) rfl rfl (HSp (R_xor rfl rfl (xor32 _ _)) rfl rfl (HSp (R_nilCheck rfl) rfl rfl (HSp (R_indexArr Tryd.underlying126 sz119 rfl rfl (by omega) (by omega)) rfl rfl ?_)))
     refine HS_to0 [] _ rfl (by rw [hops95_]; kernel_rfl) (R_store sz119 rfl rfl hS (by rw [List.length_append, List.length_map, mixed_length _ _ (by omega)]; omega) rfl) rfl ?_
     clear hS
     rintro _ w96_ ⟨hS, hF96_⟩
     replace hB10 := hB10.fr hF96_ (by simp only [mc_]; omega)
     replace hF := hF.then hF96_ (by simp only [mc_]; intro i_ hi_ hj_; omega)
     clear hF96_
     replace hS := hS.to (cs' := (mixed (Bl.outw h v9) h (i + 1)).map w32 ++ tl) (by rw [mixed_get _ _ _ (by omega), ← Bl.outw_eq]; rw [setwt _ _ _ _ (by rw [mixed_length _ _ (by omega)]; omega)]; exact congrArg (fun x => List.map w32 x ++ tl) (mixed_set (Bl.outw h v9) h (by omega)))
     refine ⟨trivial, ?_⟩
     refine HS_nil ?_
     clear hops95_
     refine block_n ?_
     refine then_n (hK93_ _ _ ?_)
     clear hK93_ K93_
     refine W_keepB [0, 10, 145] fun B97 hB97_ => ?_
     simp only [e_, Nat.reduceAdd, Nat.reduceBEq] at hB97_
     subst hB97_
     refine W_region [164, 145] rfl ?_
     refine Ops_step (R_add rfl rfl (wIc (n := i + 1) (by omega) (by omega))) rfl rfl ?_
     refine Ops_step (R_move rfl) rfl rfl ?_
     refine Ops_nil ?_
     exact ⟨8 - (i + 1), _, by omega, rfl, ⟨i + 1, by omega, rfl, rfl, hB10, hS, hF⟩, ⟨rfl, rfl, trivial⟩⟩
    ·
     have hi8 : i = 8 := by omega
     subst hi8
     refine W_exit ?_
     refine then_exit ?_
     clear hK92_ K92_
     refine then_exit ?_
     refine block_exit ?_
     refine ⟨_, rfl, ?_⟩
     exact ⟨rfl, hS.to (by rw [mixed_all _ _ hh, Bl.mix_eq, ← e0, ← take10, ← e9]), hF⟩

end Go.Proofs.YtbjmngacjdcddaaDoor

