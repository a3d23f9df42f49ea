/- What is shown of the program on the way to the law. -/
import Derived.Test.YtbjmngacjdcddaaDoorZW1
import Derived.Test.YtbjmngacjdcddaaDoorZW5
import Derived.Test.YtbjmngacjdcddaaDoorProg
set_option linter.unusedVariables false
set_option linter.unusedSimpArgs false
set_option maxHeartbeats 4000000
namespace Go.Proofs.YtbjmngacjdcddaaDoor
open Go Go.Sx

namespace TFhd
theorem hm : Tryd.prog.follows .mixedOrders = true := by kernel_rfl
theorem ag119 : aggB Tryd.prog 119 = some false := by kernel_rfl
theorem ag120 : aggB Tryd.prog 120 = some true := by kernel_rfl
theorem ag125 : aggB Tryd.prog 125 = some true := by kernel_rfl
theorem ag126 : aggB Tryd.prog 126 = some true := by kernel_rfl
theorem ag142 : aggB Tryd.prog 142 = some true := by kernel_rfl
theorem ag143 : aggB Tryd.prog 143 = some true := by kernel_rfl
theorem ag144 : aggB Tryd.prog 144 = some true := by kernel_rfl
theorem ag145 : aggB Tryd.prog 145 = some true := by kernel_rfl
theorem ag3 : aggB Tryd.prog 3 = some false := by kernel_rfl
theorem ag5 : aggB Tryd.prog 5 = some false := by kernel_rfl
theorem bd102 : bodied Tryd.prog 102 = true := by kernel_rfl
theorem bd107 : bodied Tryd.prog 107 = true := by kernel_rfl
theorem bd108 : bodied Tryd.prog 108 = true := by kernel_rfl
theorem bd110 : bodied Tryd.prog 110 = true := by kernel_rfl
theorem pl125 : partPl Tryd.prog 125 = some [(0, 1), (1, 1), (2, 1), (3, 1), (4, 1), (5, 1), (6, 1), (7, 1)] := by kernel_rfl
theorem pl142 : partPl Tryd.prog 142 = some [(0, 1), (1, 1), (2, 1), (3, 1)] := by kernel_rfl
theorem pl143 : partPl Tryd.prog 143 = some [(0, 4), (4, 4), (8, 4), (12, 4), (16, 4), (20, 4), (24, 4), (28, 4)] := by kernel_rfl
theorem pl144 : partPl Tryd.prog 144 = some [(0, 1), (1, 1), (2, 1), (3, 1), (4, 1), (5, 1), (6, 1), (7, 1), (8, 1), (9, 1), (10, 1), (11, 1), (12, 1), (13, 1), (14, 1), (15, 1)] := by kernel_rfl
theorem pl145 : partPl Tryd.prog 145 = some [(0, 16), (16, 16), (32, 16), (48, 16), (64, 16), (80, 16), (96, 16), (112, 16), (128, 16), (144, 16)] := by kernel_rfl
theorem sz119 : sz Tryd.prog 119 = some 1 := by kernel_rfl
theorem sz120 : sz Tryd.prog 120 = some 16 := by kernel_rfl
theorem sz125 : sz Tryd.prog 125 = some 8 := by kernel_rfl
theorem sz126 : sz Tryd.prog 126 = some 8 := by kernel_rfl
theorem sz142 : sz Tryd.prog 142 = some 4 := by kernel_rfl
theorem sz143 : sz Tryd.prog 143 = some 32 := by kernel_rfl
theorem sz144 : sz Tryd.prog 144 = some 16 := by kernel_rfl
theorem sz145 : sz Tryd.prog 145 = some 160 := by kernel_rfl
theorem sz3 : sz Tryd.prog 3 = some 1 := by kernel_rfl
theorem sz5 : sz Tryd.prog 5 = some 1 := by kernel_rfl
theorem zr120 : zr Tryd.prog 120 = some (List.replicate 16 (.int .u32 0)) := by kernel_rfl
theorem zr125 : zr Tryd.prog 125 = some (List.replicate 8 (.int .u32 0)) := by kernel_rfl
theorem zr142 : zr Tryd.prog 142 = some (List.replicate 4 (.int .i64 0)) := by kernel_rfl
theorem zr143 : zr Tryd.prog 143 = some ((List.replicate 8 (List.replicate 4 (.int .i64 0))).flatten) := by kernel_rfl
theorem zr144 : zr Tryd.prog 144 = some (List.replicate 16 (.int .i64 0)) := by kernel_rfl
theorem zr145 : zr Tryd.prog 145 = some ((List.replicate 10 (List.replicate 16 (.int .i64 0))).flatten) := by kernel_rfl
end TFhd
open TFhd
theorem right_any (x : BitVec 32) (k : Nat) (hk : k ≤ 32) (w : World) : Calls Tryd.prog 110 #[w32 x, vi k] w fun e w2 => e = .returned (w32 (rotN x k)) ∧ w2 = w := by
 refine calls_W 18 Tryd.func110 rfl Tryd.ntmps110 rfl [.tmp 4] rfl ?_
 refine W_seq_k fun K1_ hK1_ => ?_
 refine W_region [4] rfl (Ops_step (R_assign rfl) rfl rfl ?_)
 refine Ops_nil ?_
 refine then_n (hK1_ _ _ ?_)
 clear hK1_ K1_
 refine W_seq_k fun K2_ hK2_ => ?_
 refine W_seq_k fun K3_ hK3_ => ?_
 refine W_region [6, 7] rfl (Ops_step (R_move rfl) rfl rfl (Ops_step (R_move rfl) rfl rfl ?_))
 refine Ops_nil ?_
 refine then_n (hK3_ _ _ ?_)
 clear hK3_ K3_
 refine W_block ?_
 refine W_loopB [6] [0, 7] (fun m vs w' => ∃ i, i ≤ k ∧ m = k - i ∧ vs = [w32 (rotN x i), vi (i : Nat)] ∧ w' = w) (k) _ rfl (⟨0, by omega, rfl, rfl, rfl⟩) fun B4 hB4_ => ?_
 simp only [e_, Nat.reduceAdd, Nat.reduceBEq] at hB4_
 subst hB4_
 rintro m_ vs_ w0_ ⟨i, hi, rfl, rfl, rfl⟩
 refine W_seq_k fun K5_ hK5_ => ?_
 refine W_region [8] rfl (Ops_step (R_lss rfl rfl) rfl rfl ?_)
 refine Ops_nil ?_
 refine then_n (hK5_ _ _ ?_)
 clear hK5_ K5_
 refine W_seq_k fun K6_ hK6_ => ?_
 refine W_if rfl (fun hc8 => ?_) (fun hc8 => ?_)
 ·
  refine W_skip ?_
  refine then_n (hK6_ _ _ ?_)
  clear hK6_ K6_
  refine W_seq_k fun K7_ hK7_ => ?_
  refine W_block ?_
  refine W_seq_k fun K8_ hK8_ => ?_
  refine W_region [9, 10, 5] rfl (Ops_step (R_move rfl) rfl rfl (Ops_step (R_rem rfl rfl (by decide) (remc _ 2)) rfl rfl (Ops_step (R_assign rfl) rfl rfl ?_)))
  refine Ops_nil ?_
  refine then_n (hK8_ _ _ ?_)
  clear hK8_ K8_
  refine W_region [11, 12, 13, 14, 15, 0] rfl (Ops_step (R_move rfl) rfl rfl (Ops_step (R_quo rfl rfl (by decide) (show _ = (((rotN x i).toNat / 2 : Nat) : Int) by rw [show ((rotN x i).toNat : Int).tdiv 2 = (((rotN x i).toNat / 2 : Nat) : Int) from rfl, wU32]; omega)) rfl rfl (Ops_step (R_move rfl) rfl rfl (Ops_step (R_mul rfl rfl (show _ = (((rotN x i).toNat % 2 * 2147483648 : Nat) : Int) by rw [wU32]; omega)) rfl rfl ?_))))
  refine Ops_step (R_add rfl rfl (show _ = ((rot1 (rotN x i)).toNat : Int) by rw [wU32, rot1_nat]; have := (rotN x i).isLt; omega)) rfl rfl ?_
  refine Ops_step (R_assign rfl) rfl rfl ?_
  refine Ops_nil ?_
  refine block_n ?_
  refine then_n (hK7_ _ _ ?_)
  clear hK7_ K7_
  refine W_keepB [0, 6, 7] fun B9 hB9_ => ?_
  simp only [e_, Nat.reduceAdd, Nat.reduceBEq] at hB9_
  subst hB9_
  refine W_region [16, 7] rfl ?_
  refine Ops_step (R_add rfl rfl (wIc (n := i + 1) (by omega) (by omega))) rfl rfl ?_
  refine Ops_step (R_move rfl) rfl rfl ?_
  refine Ops_nil ?_
  exact ⟨k - (i + 1), _, by omega, rfl, ⟨i + 1, by omega, rfl, rfl, rfl⟩, ⟨rfl, trivial⟩⟩
 ·
  have hik : i = k := by omega
  subst hik
  refine W_exit ?_
  refine then_exit ?_
  clear hK6_ K6_
  refine then_exit ?_
  refine block_exit ?_
  refine then_n (hK2_ _ _ ?_)
  clear hK2_ K2_
  refine W_seq_k fun K10_ hK10_ => ?_
  refine W_region [17, 4] rfl (Ops_step (R_move rfl) rfl rfl (Ops_step (R_assign rfl) rfl rfl ?_))
  refine Ops_nil ?_
  refine then_n (hK10_ _ _ ?_)
  clear hK10_ K10_
  refine W_ret ?_
  refine ⟨_, ⟨_, _, rfl, rfl, rfl⟩, ?_⟩
  exact ⟨rfl, rfl⟩
theorem rwords_any (w : World) : Calls Tryd.prog 102 #[] w fun e w2 => e = .returned (.agg (Bl.first.map w32).toArray) ∧ Fr [] w w2 := by
 have hF := Fr.refl [] w
 refine calls_W 2 Tryd.func102 rfl Tryd.ntmps102 rfl [.cell 0 125] rfl ?_
 refine W_seq_k fun K1_ hK1_ => ?_
 refine W_region [0] rfl ?_
 have hz0_hF := hF.size
 refine Ops_to (R_alloc zr125) rfl rfl ?_
 rintro _ w0_ ⟨b0, rfl, hb0, hB0, hF0_⟩
 have hl0 := hB0.lt
 replace hF := hF.fr0 hF0_
 clear hF0_
 refine Ops_nil ?_
 refine then_n (hK1_ _ _ ?_)
 clear hK1_ K1_
 refine W_seq_k fun K2_ hK2_ => ?_
 refine W_region [1, none] rfl ?_
 refine Ops_step (R_build (pl := [(0, 1), (1, 1), (2, 1), (3, 1), (4, 1), (5, 1), (6, 1), (7, 1)]) (cs := Bl.first.map w32) zr125 pl125 rfl rfl (by kernel_rfl)) rfl rfl ?_
 refine Ops_to0 (R_storeN sz125 rfl rfl rfl hB0 (by decide) allw) rfl ?_
 clear hB0
 rintro _ w3_ ⟨hB0, hF3_⟩
 replace hF := hF.then hF3_ (by simp only [mc_]; intro i_ hi_ hj_; omega)
 clear hF3_
 replace hB0 := hB0.to (cs' := Bl.first.map w32) (by kernel_rfl)
 refine Ops_nil ?_
 refine then_n (hK2_ _ _ ?_)
 clear hK2_ K2_
 refine W_ret ?_
 refine ⟨_, ⟨_, _, _, rfl, rfl, run_loadVarN ag125 sz125 hB0 (by decide), rfl⟩, ?_⟩
 exact ⟨rfl, hF⟩

theorem rr16 (x : BitVec 32) (w : World) : Calls Tryd.prog 110 #[w32 x, vi 16] w fun e w2 => e = .returned (w32 (Bl.ror x 16)) ∧ w2 = w := by rw [← rotN_ror x 16 (by decide)]; exact right_any x 16 (by decide) w
theorem rr12 (x : BitVec 32) (w : World) : Calls Tryd.prog 110 #[w32 x, vi 12] w fun e w2 => e = .returned (w32 (Bl.ror x 12)) ∧ w2 = w := by rw [← rotN_ror x 12 (by decide)]; exact right_any x 12 (by decide) w
theorem rr8 (x : BitVec 32) (w : World) : Calls Tryd.prog 110 #[w32 x, vi 8] w fun e w2 => e = .returned (w32 (Bl.ror x 8)) ∧ w2 = w := by rw [← rotN_ror x 8 (by decide)]; exact right_any x 8 (by decide) w
theorem rr7 (x : BitVec 32) (w : World) : Calls Tryd.prog 110 #[w32 x, vi 7] w fun e w2 => e = .returned (w32 (Bl.ror x 7)) ∧ w2 = w := by rw [← rotN_ror x 7 (by decide)]; exact right_any x 7 (by decide) w
theorem rstir_any (v0 : List (BitVec 32)) (hv : v0.length = 16) (a1 b1 c1 d1 : Nat) (ha : a1 < 16) (hb : b1 < 16) (hc : c1 < 16) (hd : d1 < 16) (x y : BitVec 32) (w : World) :
  Calls Tryd.prog 108 #[.agg (v0.map w32).toArray, vi a1, vi b1, vi c1, vi d1, w32 x, w32 y] w fun e w2 => e = .returned (.agg ((Bl.stir v0 a1 b1 c1 d1 x y).map w32).toArray) ∧ Fr [] w w2 := by
 have hF := Fr.refl [] w
 refine calls_W 96 Tryd.func108 rfl Tryd.ntmps108 rfl [.cell 14 120] rfl ?_
 refine W_seq_k fun K1_ hK1_ => ?_
 refine W_region [7, 14] rfl ?_
 have hz7_hF := hF.size
 refine Ops_to (R_box rfl) rfl rfl ?_
 rintro _ w7_ ⟨b7, rfl, hb7, hB7, hF7_⟩
 have hl7 := hB7.lt
 replace hF := hF.fr0 hF7_
 clear hF7_
 replace hB7 : Blk _ b7 120 (v0.map w32) := hB7
 have hz14_hF := hF.size
 have hn14_hB7 := hB7.lt
 refine Ops_to (R_alloc zr120) rfl rfl ?_
 rintro _ w14_ ⟨b14, rfl, hb14, hB14, hF14_⟩
 have hl14 := hB14.lt
 replace hF := hF.fr0 hF14_
 replace hB7 := hB7.fr0 hF14_
 clear hF14_
 refine Ops_nil ?_
 refine then_n (hK1_ _ _ ?_)
 clear hK1_ K1_
 refine W_seq_k fun K2_ hK2_ => ?_
 refine W_drawF [15, 16, 17, 18, 19, 20, 21, 22, 23, 24, 25, none] [(0, true), (1, true), (2, true), (3, true), (4, true), (5, true), (6, true), (7, true), (8, true), (9, true), (10, true), (11, false)] TFhd.hm rfl (by kernel_rfl) fun ops3_ w3_ hops3_ hF3_ => ?_
 replace hF := hF.fr0 hF3_
 replace hB7 := hB7.fr0 hF3_
 replace hB14 := hB14.fr0 hF3_
 clear hF3_
 refine HSp (R_move rfl) rfl rfl (HSp (R_move rfl) rfl rfl (HSp (R_indexArr Tryd.underlying120 sz119 rfl rfl (by omega) (by omega)) rfl rfl ?_))
 refine HS_loadB ag119 rfl hB7 (getw (by omega)) rfl rfl ?_
 refine HSp (R_move rfl) rfl rfl (HSp (R_indexArr Tryd.underlying120 sz119 rfl rfl (by omega) (by omega)) rfl rfl ?_)
 refine HS_loadB ag119 rfl hB7 (getw (by omega)) rfl rfl ?_
 refine HSp (R_add rfl rfl (add32 _ _)) rfl rfl (HSp (R_move rfl) rfl rfl (HSp (R_add rfl rfl (add32 _ _)) rfl rfl (HSp (R_indexArr Tryd.underlying120 sz119 rfl rfl (by omega) (by omega)) rfl rfl ?_)))
 refine HS_to0 [] _ rfl (by rw [hops3_]; kernel_rfl) (R_store sz119 rfl rfl hB7 (by simp only [List.length_map]; omega) rfl) rfl ?_
 clear hB7
 rintro _ w4_ ⟨hB7, hF4_⟩
 replace hF := hF.then hF4_ (by simp only [mc_]; intro i_ hi_ hj_; omega)
 replace hB14 := hB14.fr hF4_ (by simp only [mc_]; omega)
 clear hF4_
 rw [setw] at hB7
 refine named (Bl.addS v0 a1 b1 x) fun v1 e1 => ?_
 have l1 : v1.length = 16 := by rw [e1]; simp only [Bl.addS_length, Bl.addT_length, Bl.xorS_length]; omega
 replace hB7 := hB7.to (cs' := v1.map w32) (by rw [e1]; rw [Bl.addS, ← BitVec.add_assoc])
 refine ⟨trivial, ?_⟩
 refine HS_nil ?_
 clear hops3_
 refine then_n (hK2_ _ _ ?_)
 clear hK2_ K2_
 refine W_keepB [1, 2, 3, 4, 6, 7, 14] fun B5 hB5_ => ?_
 simp only [e_, Nat.reduceAdd, Nat.reduceBEq] at hB5_
 subst hB5_
 refine W_seq_k fun K6_ hK6_ => ?_
 refine W_drawF [26, 27, 28, 29, 30, 31, 32, 33, 34, 35, none] [(0, true), (1, true), (2, true), (3, true), (4, true), (5, true), (6, true), (7, true), (8, false), (9, true), (10, false)] TFhd.hm rfl (by kernel_rfl) fun ops7_ w7_ hops7_ hF7_ => ?_
 replace hF := hF.fr0 hF7_
 replace hB7 := hB7.fr0 hF7_
 replace hB14 := hB14.fr0 hF7_
 clear hF7_
 refine HSp (R_move rfl) rfl rfl (HSp (R_move rfl) rfl rfl (HSp (R_indexArr Tryd.underlying120 sz119 rfl rfl (by omega) (by omega)) rfl rfl ?_))
 refine HS_loadB ag119 rfl hB7 (getw (by omega)) rfl rfl ?_
 refine HSp (R_move rfl) rfl rfl (HSp (R_indexArr Tryd.underlying120 sz119 rfl rfl (by omega) (by omega)) rfl rfl ?_)
 refine HS_loadB ag119 rfl hB7 (getw (by omega)) rfl rfl ?_
 refine HSp (R_xor rfl rfl (xor32 _ _)) rfl rfl ?_
 refine HS_call [] _ rfl (by rw [hops7_]; kernel_rfl) (C_func bd110 rfl) rfl rfl ?_
 refine (rr16 _ _).mono ?_
 rintro _ _ ⟨rfl, rfl⟩
 refine ⟨_, rfl, trivial, ?_⟩
 refine HSp (R_indexArr Tryd.underlying120 sz119 rfl rfl (by omega) (by omega)) rfl rfl ?_
 refine HS_to0 [] _ rfl (by rw [hops7_]; kernel_rfl) (R_store sz119 rfl rfl hB7 (by simp only [List.length_map]; omega) rfl) rfl ?_
 clear hB7
 rintro _ w8_ ⟨hB7, hF8_⟩
 replace hF := hF.then hF8_ (by simp only [mc_]; intro i_ hi_ hj_; omega)
 replace hB14 := hB14.fr hF8_ (by simp only [mc_]; omega)
 clear hF8_
 rw [setw] at hB7
 refine named (Bl.xorS v1 d1 a1 16) fun v2 e2 => ?_
 have l2 : v2.length = 16 := by rw [e2]; simp only [Bl.addS_length, Bl.addT_length, Bl.xorS_length]; omega
 replace hB7 := hB7.to (cs' := v2.map w32) (by rw [e2]; rfl)
 refine ⟨trivial, ?_⟩
 refine HS_nil ?_
 clear hops7_
 refine then_n (hK6_ _ _ ?_)
 clear hK6_ K6_
 refine W_keepB [1, 2, 3, 4, 6, 7, 14] fun B9 hB9_ => ?_
 simp only [e_, Nat.reduceAdd, Nat.reduceBEq] at hB9_
 subst hB9_
 refine W_seq_k fun K10_ hK10_ => ?_
 refine W_drawF [36, 37, 38, 39, 40, 41, 42, 43, 44, none] [(0, true), (1, true), (2, true), (3, true), (4, true), (5, true), (6, true), (7, true), (8, true), (9, false)] TFhd.hm rfl (by kernel_rfl) fun ops11_ w11_ hops11_ hF11_ => ?_
 replace hF := hF.fr0 hF11_
 replace hB7 := hB7.fr0 hF11_
 replace hB14 := hB14.fr0 hF11_
 clear hF11_
 refine HSp (R_move rfl) rfl rfl (HSp (R_move rfl) rfl rfl (HSp (R_indexArr Tryd.underlying120 sz119 rfl rfl (by omega) (by omega)) rfl rfl ?_))
 refine HS_loadB ag119 rfl hB7 (getw (by omega)) rfl rfl ?_
 refine HSp (R_move rfl) rfl rfl (HSp (R_indexArr Tryd.underlying120 sz119 rfl rfl (by omega) (by omega)) rfl rfl ?_)
 refine HS_loadB ag119 rfl hB7 (getw (by omega)) rfl rfl ?_
 refine HSp (R_add rfl rfl (add32 _ _)) rfl rfl (HSp (R_indexArr Tryd.underlying120 sz119 rfl rfl (by omega) (by omega)) rfl rfl ?_)
 refine HS_to0 [] _ rfl (by rw [hops11_]; kernel_rfl) (R_store sz119 rfl rfl hB7 (by simp only [List.length_map]; omega) rfl) rfl ?_
 clear hB7
 rintro _ w12_ ⟨hB7, hF12_⟩
 replace hF := hF.then hF12_ (by simp only [mc_]; intro i_ hi_ hj_; omega)
 replace hB14 := hB14.fr hF12_ (by simp only [mc_]; omega)
 clear hF12_
 rw [setw] at hB7
 refine named (Bl.addT v2 c1 d1) fun v3 e3 => ?_
 have l3 : v3.length = 16 := by rw [e3]; simp only [Bl.addS_length, Bl.addT_length, Bl.xorS_length]; omega
 replace hB7 := hB7.to (cs' := v3.map w32) (by rw [e3]; rfl)
 refine ⟨trivial, ?_⟩
 refine HS_nil ?_
 clear hops11_
 refine then_n (hK10_ _ _ ?_)
 clear hK10_ K10_
 refine W_keepB [1, 2, 3, 4, 6, 7, 14] fun B13 hB13_ => ?_
 simp only [e_, Nat.reduceAdd, Nat.reduceBEq] at hB13_
 subst hB13_
 refine W_seq_k fun K14_ hK14_ => ?_
 refine W_drawF [45, 46, 47, 48, 49, 50, 51, 52, 53, 54, none] [(0, true), (1, true), (2, true), (3, true), (4, true), (5, true), (6, true), (7, true), (8, false), (9, true), (10, false)] TFhd.hm rfl (by kernel_rfl) fun ops15_ w15_ hops15_ hF15_ => ?_
 replace hF := hF.fr0 hF15_
 replace hB7 := hB7.fr0 hF15_
 replace hB14 := hB14.fr0 hF15_
 clear hF15_
 refine HSp (R_move rfl) rfl rfl (HSp (R_move rfl) rfl rfl (HSp (R_indexArr Tryd.underlying120 sz119 rfl rfl (by omega) (by omega)) rfl rfl ?_))
 refine HS_loadB ag119 rfl hB7 (getw (by omega)) rfl rfl ?_
 refine HSp (R_move rfl) rfl rfl (HSp (R_indexArr Tryd.underlying120 sz119 rfl rfl (by omega) (by omega)) rfl rfl ?_)
 refine HS_loadB ag119 rfl hB7 (getw (by omega)) rfl rfl ?_
 refine HSp (R_xor rfl rfl (xor32 _ _)) rfl rfl ?_
 refine HS_call [] _ rfl (by rw [hops15_]; kernel_rfl) (C_func bd110 rfl) rfl rfl ?_
 refine (rr12 _ _).mono ?_
 rintro _ _ ⟨rfl, rfl⟩
 refine ⟨_, rfl, trivial, ?_⟩
 refine HSp (R_indexArr Tryd.underlying120 sz119 rfl rfl (by omega) (by omega)) rfl rfl ?_
 refine HS_to0 [] _ rfl (by rw [hops15_]; kernel_rfl) (R_store sz119 rfl rfl hB7 (by simp only [List.length_map]; omega) rfl) rfl ?_
 clear hB7
 rintro _ w16_ ⟨hB7, hF16_⟩
 replace hF := hF.then hF16_ (by simp only [mc_]; intro i_ hi_ hj_; omega)
 replace hB14 := hB14.fr hF16_ (by simp only [mc_]; omega)
 clear hF16_
 rw [setw] at hB7
 refine named (Bl.xorS v3 b1 c1 12) fun v4 e4 => ?_
 have l4 : v4.length = 16 := by rw [e4]; simp only [Bl.addS_length, Bl.addT_length, Bl.xorS_length]; omega
 replace hB7 := hB7.to (cs' := v4.map w32) (by rw [e4]; rfl)
 refine ⟨trivial, ?_⟩
 refine HS_nil ?_
 clear hops15_
 refine then_n (hK14_ _ _ ?_)
 clear hK14_ K14_
 refine W_keepB [1, 2, 3, 4, 6, 7, 14] fun B17 hB17_ => ?_
 simp only [e_, Nat.reduceAdd, Nat.reduceBEq] at hB17_
 subst hB17_
 refine W_seq_k fun K18_ hK18_ => ?_
 refine W_drawF [55, 56, 57, 58, 59, 60, 61, 62, 63, 64, 65, none] [(0, true), (1, true), (2, true), (3, true), (4, true), (5, true), (6, true), (7, true), (8, true), (9, true), (10, true), (11, false)] TFhd.hm rfl (by kernel_rfl) fun ops19_ w19_ hops19_ hF19_ => ?_
 replace hF := hF.fr0 hF19_
 replace hB7 := hB7.fr0 hF19_
 replace hB14 := hB14.fr0 hF19_
 clear hF19_
 refine HSp (R_move rfl) rfl rfl (HSp (R_move rfl) rfl rfl (HSp (R_indexArr Tryd.underlying120 sz119 rfl rfl (by omega) (by omega)) rfl rfl ?_))
 refine HS_loadB ag119 rfl hB7 (getw (by omega)) rfl rfl ?_
 refine HSp (R_move rfl) rfl rfl (HSp (R_indexArr Tryd.underlying120 sz119 rfl rfl (by omega) (by omega)) rfl rfl ?_)
 refine HS_loadB ag119 rfl hB7 (getw (by omega)) rfl rfl ?_
 refine HSp (R_add rfl rfl (add32 _ _)) rfl rfl (HSp (R_move rfl) rfl rfl (HSp (R_add rfl rfl (add32 _ _)) rfl rfl (HSp (R_indexArr Tryd.underlying120 sz119 rfl rfl (by omega) (by omega)) rfl rfl ?_)))
 refine HS_to0 [] _ rfl (by rw [hops19_]; kernel_rfl) (R_store sz119 rfl rfl hB7 (by simp only [List.length_map]; omega) rfl) rfl ?_
 clear hB7
 rintro _ w20_ ⟨hB7, hF20_⟩
 replace hF := hF.then hF20_ (by simp only [mc_]; intro i_ hi_ hj_; omega)
 replace hB14 := hB14.fr hF20_ (by simp only [mc_]; omega)
 clear hF20_
 rw [setw] at hB7
 refine named (Bl.addS v4 a1 b1 y) fun v5 e5 => ?_
 have l5 : v5.length = 16 := by rw [e5]; simp only [Bl.addS_length, Bl.addT_length, Bl.xorS_length]; omega
 replace hB7 := hB7.to (cs' := v5.map w32) (by rw [e5]; rw [Bl.addS, ← BitVec.add_assoc])
 refine ⟨trivial, ?_⟩
 refine HS_nil ?_
 clear hops19_
 refine then_n (hK18_ _ _ ?_)
 clear hK18_ K18_
 refine W_keepB [1, 2, 3, 4, 7, 14] fun B21 hB21_ => ?_
 simp only [e_, Nat.reduceAdd, Nat.reduceBEq] at hB21_
 subst hB21_
 refine W_seq_k fun K22_ hK22_ => ?_
 refine W_drawF [66, 67, 68, 69, 70, 71, 72, 73, 74, 75, none] [(0, true), (1, true), (2, true), (3, true), (4, true), (5, true), (6, true), (7, true), (8, false), (9, true), (10, false)] TFhd.hm rfl (by kernel_rfl) fun ops23_ w23_ hops23_ hF23_ => ?_
 replace hF := hF.fr0 hF23_
 replace hB7 := hB7.fr0 hF23_
 replace hB14 := hB14.fr0 hF23_
 clear hF23_
 refine HSp (R_move rfl) rfl rfl (HSp (R_move rfl) rfl rfl (HSp (R_indexArr Tryd.underlying120 sz119 rfl rfl (by omega) (by omega)) rfl rfl ?_))
 refine HS_loadB ag119 rfl hB7 (getw (by omega)) rfl rfl ?_
 refine HSp (R_move rfl) rfl rfl (HSp (R_indexArr Tryd.underlying120 sz119 rfl rfl (by omega) (by omega)) rfl rfl ?_)
 refine HS_loadB ag119 rfl hB7 (getw (by omega)) rfl rfl ?_
 refine HSp (R_xor rfl rfl (xor32 _ _)) rfl rfl ?_
 refine HS_call [] _ rfl (by rw [hops23_]; kernel_rfl) (C_func bd110 rfl) rfl rfl ?_
 refine (rr8 _ _).mono ?_
 rintro _ _ ⟨rfl, rfl⟩
 refine ⟨_, rfl, trivial, ?_⟩
 refine HSp (R_indexArr Tryd.underlying120 sz119 rfl rfl (by omega) (by omega)) rfl rfl ?_
 refine HS_to0 [] _ rfl (by rw [hops23_]; kernel_rfl) (R_store sz119 rfl rfl hB7 (by simp only [List.length_map]; omega) rfl) rfl ?_
 clear hB7
 rintro _ w24_ ⟨hB7, hF24_⟩
 replace hF := hF.then hF24_ (by simp only [mc_]; intro i_ hi_ hj_; omega)
 replace hB14 := hB14.fr hF24_ (by simp only [mc_]; omega)
 clear hF24_
 rw [setw] at hB7
 refine named (Bl.xorS v5 d1 a1 8) fun v6 e6 => ?_
 have l6 : v6.length = 16 := by rw [e6]; simp only [Bl.addS_length, Bl.addT_length, Bl.xorS_length]; omega
 replace hB7 := hB7.to (cs' := v6.map w32) (by rw [e6]; rfl)
 refine ⟨trivial, ?_⟩
 refine HS_nil ?_
 clear hops23_
 refine then_n (hK22_ _ _ ?_)
 clear hK22_ K22_
 refine W_keepB [2, 3, 4, 7, 14] fun B25 hB25_ => ?_
 simp only [e_, Nat.reduceAdd, Nat.reduceBEq] at hB25_
 subst hB25_
 refine W_seq_k fun K26_ hK26_ => ?_
 refine W_drawF [76, 77, 78, 79, 80, 81, 82, 83, 84, none] [(0, true), (1, true), (2, true), (3, true), (4, true), (5, true), (6, true), (7, true), (8, true), (9, false)] TFhd.hm rfl (by kernel_rfl) fun ops27_ w27_ hops27_ hF27_ => ?_
 replace hF := hF.fr0 hF27_
 replace hB7 := hB7.fr0 hF27_
 replace hB14 := hB14.fr0 hF27_
 clear hF27_
 refine HSp (R_move rfl) rfl rfl (HSp (R_move rfl) rfl rfl (HSp (R_indexArr Tryd.underlying120 sz119 rfl rfl (by omega) (by omega)) rfl rfl ?_))
 refine HS_loadB ag119 rfl hB7 (getw (by omega)) rfl rfl ?_
 refine HSp (R_move rfl) rfl rfl (HSp (R_indexArr Tryd.underlying120 sz119 rfl rfl (by omega) (by omega)) rfl rfl ?_)
 refine HS_loadB ag119 rfl hB7 (getw (by omega)) rfl rfl ?_
 refine HSp (R_add rfl rfl (add32 _ _)) rfl rfl (HSp (R_indexArr Tryd.underlying120 sz119 rfl rfl (by omega) (by omega)) rfl rfl ?_)
 refine HS_to0 [] _ rfl (by rw [hops27_]; kernel_rfl) (R_store sz119 rfl rfl hB7 (by simp only [List.length_map]; omega) rfl) rfl ?_
 clear hB7
 rintro _ w28_ ⟨hB7, hF28_⟩
 replace hF := hF.then hF28_ (by simp only [mc_]; intro i_ hi_ hj_; omega)
 replace hB14 := hB14.fr hF28_ (by simp only [mc_]; omega)
 clear hF28_
 rw [setw] at hB7
 refine named (Bl.addT v6 c1 d1) fun v7 e7 => ?_
 have l7 : v7.length = 16 := by rw [e7]; simp only [Bl.addS_length, Bl.addT_length, Bl.xorS_length]; omega
 replace hB7 := hB7.to (cs' := v7.map w32) (by rw [e7]; rfl)
 refine ⟨trivial, ?_⟩
 refine HS_nil ?_
 clear hops27_
 refine then_n (hK26_ _ _ ?_)
 clear hK26_ K26_
 refine W_keepB [2, 3, 7, 14] fun B29 hB29_ => ?_
 simp only [e_, Nat.reduceAdd, Nat.reduceBEq] at hB29_
 subst hB29_
 refine W_seq_k fun K30_ hK30_ => ?_
 refine W_drawF [85, 86, 87, 88, 89, 90, 91, 92, 93, 94, none] [(0, true), (1, true), (2, true), (3, true), (4, true), (5, true), (6, true), (7, true), (8, false), (9, true), (10, false)] TFhd.hm rfl (by kernel_rfl) fun ops31_ w31_ hops31_ hF31_ => ?_
 replace hF := hF.fr0 hF31_
 replace hB7 := hB7.fr0 hF31_
 replace hB14 := hB14.fr0 hF31_
 clear hF31_
 refine HSp (R_move rfl) rfl rfl (HSp (R_move rfl) rfl rfl (HSp (R_indexArr Tryd.underlying120 sz119 rfl rfl (by omega) (by omega)) rfl rfl ?_))
 refine HS_loadB ag119 rfl hB7 (getw (by omega)) rfl rfl ?_
 refine HSp (R_move rfl) rfl rfl (HSp (R_indexArr Tryd.underlying120 sz119 rfl rfl (by omega) (by omega)) rfl rfl ?_)
 refine HS_loadB ag119 rfl hB7 (getw (by omega)) rfl rfl ?_
 refine HSp (R_xor rfl rfl (xor32 _ _)) rfl rfl ?_
 refine HS_call [] _ rfl (by rw [hops31_]; kernel_rfl) (C_func bd110 rfl) rfl rfl ?_
 refine (rr7 _ _).mono ?_
 rintro _ _ ⟨rfl, rfl⟩
 refine ⟨_, rfl, trivial, ?_⟩
 refine HSp (R_indexArr Tryd.underlying120 sz119 rfl rfl (by omega) (by omega)) rfl rfl ?_
 refine HS_to0 [] _ rfl (by rw [hops31_]; kernel_rfl) (R_store sz119 rfl rfl hB7 (by simp only [List.length_map]; omega) rfl) rfl ?_
 clear hB7
 rintro _ w32_ ⟨hB7, hF32_⟩
 replace hF := hF.then hF32_ (by simp only [mc_]; intro i_ hi_ hj_; omega)
 replace hB14 := hB14.fr hF32_ (by simp only [mc_]; omega)
 clear hF32_
 rw [setw] at hB7
 refine named (Bl.xorS v7 b1 c1 7) fun v8 e8 => ?_
 have l8 : v8.length = 16 := by rw [e8]; simp only [Bl.addS_length, Bl.addT_length, Bl.xorS_length]; omega
 replace hB7 := hB7.to (cs' := v8.map w32) (by rw [e8]; rfl)
 refine ⟨trivial, ?_⟩
 refine HS_nil ?_
 clear hops31_
 refine then_n (hK30_ _ _ ?_)
 clear hK30_ K30_
 refine W_keepB [7, 14] fun B33 hB33_ => ?_
 simp only [e_, Nat.reduceAdd, Nat.reduceBEq] at hB33_
 subst hB33_
 refine W_seq_k fun K34_ hK34_ => ?_
 refine W_region [95, none] rfl (Ops_step (R_loadN ag120 sz120 rfl hB7 (by rw [List.length_map, l8]; decide)) rfl rfl ?_)
 refine Ops_to0 (R_storeN sz120 (by simp [l8]) rfl rfl hB14 (by simp) (all_cut allw _ _)) rfl ?_
 clear hB14
 rintro _ w35_ ⟨hB14, hF35_⟩
 replace hF := hF.then hF35_ (by simp only [mc_]; intro i_ hi_ hj_; omega)
 replace hB7 := hB7.fr hF35_ (by simp only [mc_]; omega)
 clear hF35_
 replace hB14 := hB14.to (cs' := v8.map w32) (over_whole (by simp) (by rw [List.length_map, l8]))
 refine Ops_nil ?_
 refine then_n (hK34_ _ _ ?_)
 clear hK34_ K34_
 refine W_ret ?_
 refine ⟨_, ⟨_, _, _, rfl, rfl, run_loadVarN ag120 sz120 hB14 (by rw [List.length_map, l8]; decide), rfl⟩, ?_⟩
 exact ⟨by rw [Bl.stir, ← e1, ← e2, ← e3, ← e4, ← e5, ← e6, ← e7, ← e8]; simp [l8, List.take_of_length_le, tupled], hF⟩
set_option maxRecDepth 100000 in
theorem rorders_any (w : World) : Calls Tryd.prog 107 #[] w fun e w2 => e = .returned (.agg ordCI.toArray) ∧ Fr [] w w2 := by
 have hF := Fr.refl [] w
 refine calls_W 12 Tryd.func107 rfl Tryd.ntmps107 rfl [.cell 0 145] rfl ?_
 refine W_seq_k fun K1_ hK1_ => ?_
 refine W_region [0] rfl ?_
 have hz0_hF := hF.size
 refine Ops_to (R_alloc zr145) rfl rfl ?_
 rintro _ w0_ ⟨b0, rfl, hb0, hB0, hF0_⟩
 have hl0 := hB0.lt
 replace hF := hF.fr0 hF0_
 clear hF0_
 refine Ops_nil ?_
 refine then_n (hK1_ _ _ ?_)
 clear hK1_ K1_
 refine W_seq_k fun K2_ hK2_ => ?_
 refine W_region [1, 2, 3, 4, 5, 6, 7, 8, 9, 10, 11, none] rfl ?_
 refine Ops_step (R_build (pl := [(0, 1), (1, 1), (2, 1), (3, 1), (4, 1), (5, 1), (6, 1), (7, 1), (8, 1), (9, 1), (10, 1), (11, 1), (12, 1), (13, 1), (14, 1), (15, 1)]) (cs := (Bl.orders.getD 0 []).map ci) zr144 pl144 rfl rfl (by kernel_rfl)) rfl rfl ?_
 refine Ops_step (R_build (pl := [(0, 1), (1, 1), (2, 1), (3, 1), (4, 1), (5, 1), (6, 1), (7, 1), (8, 1), (9, 1), (10, 1), (11, 1), (12, 1), (13, 1), (14, 1), (15, 1)]) (cs := (Bl.orders.getD 1 []).map ci) zr144 pl144 rfl rfl (by kernel_rfl)) rfl rfl ?_
 refine Ops_step (R_build (pl := [(0, 1), (1, 1), (2, 1), (3, 1), (4, 1), (5, 1), (6, 1), (7, 1), (8, 1), (9, 1), (10, 1), (11, 1), (12, 1), (13, 1), (14, 1), (15, 1)]) (cs := (Bl.orders.getD 2 []).map ci) zr144 pl144 rfl rfl (by kernel_rfl)) rfl rfl ?_
 refine Ops_step (R_build (pl := [(0, 1), (1, 1), (2, 1), (3, 1), (4, 1), (5, 1), (6, 1), (7, 1), (8, 1), (9, 1), (10, 1), (11, 1), (12, 1), (13, 1), (14, 1), (15, 1)]) (cs := (Bl.orders.getD 3 []).map ci) zr144 pl144 rfl rfl (by kernel_rfl)) rfl rfl ?_
 refine Ops_step (R_build (pl := [(0, 1), (1, 1), (2, 1), (3, 1), (4, 1), (5, 1), (6, 1), (7, 1), (8, 1), (9, 1), (10, 1), (11, 1), (12, 1), (13, 1), (14, 1), (15, 1)]) (cs := (Bl.orders.getD 4 []).map ci) zr144 pl144 rfl rfl (by kernel_rfl)) rfl rfl ?_
 refine Ops_step (R_build (pl := [(0, 1), (1, 1), (2, 1), (3, 1), (4, 1), (5, 1), (6, 1), (7, 1), (8, 1), (9, 1), (10, 1), (11, 1), (12, 1), (13, 1), (14, 1), (15, 1)]) (cs := (Bl.orders.getD 5 []).map ci) zr144 pl144 rfl rfl (by kernel_rfl)) rfl rfl ?_
 refine Ops_step (R_build (pl := [(0, 1), (1, 1), (2, 1), (3, 1), (4, 1), (5, 1), (6, 1), (7, 1), (8, 1), (9, 1), (10, 1), (11, 1), (12, 1), (13, 1), (14, 1), (15, 1)]) (cs := (Bl.orders.getD 6 []).map ci) zr144 pl144 rfl rfl (by kernel_rfl)) rfl rfl ?_
 refine Ops_step (R_build (pl := [(0, 1), (1, 1), (2, 1), (3, 1), (4, 1), (5, 1), (6, 1), (7, 1), (8, 1), (9, 1), (10, 1), (11, 1), (12, 1), (13, 1), (14, 1), (15, 1)]) (cs := (Bl.orders.getD 7 []).map ci) zr144 pl144 rfl rfl (by kernel_rfl)) rfl rfl ?_
 refine Ops_step (R_build (pl := [(0, 1), (1, 1), (2, 1), (3, 1), (4, 1), (5, 1), (6, 1), (7, 1), (8, 1), (9, 1), (10, 1), (11, 1), (12, 1), (13, 1), (14, 1), (15, 1)]) (cs := (Bl.orders.getD 8 []).map ci) zr144 pl144 rfl rfl (by kernel_rfl)) rfl rfl ?_
 refine Ops_step (R_build (pl := [(0, 1), (1, 1), (2, 1), (3, 1), (4, 1), (5, 1), (6, 1), (7, 1), (8, 1), (9, 1), (10, 1), (11, 1), (12, 1), (13, 1), (14, 1), (15, 1)]) (cs := (Bl.orders.getD 9 []).map ci) zr144 pl144 rfl rfl (by kernel_rfl)) rfl rfl ?_
 refine Ops_step (R_build (pl := [(0, 16), (16, 16), (32, 16), (48, 16), (64, 16), (80, 16), (96, 16), (112, 16), (128, 16), (144, 16)]) (cs := ordCI) zr145 pl145 rfl rfl (by kernel_rfl)) rfl rfl ?_
 refine Ops_to0 (R_storeN sz145 (by kernel_rfl) rfl rfl hB0 (by simp) (by kernel_rfl)) rfl ?_
 clear hB0
 rintro _ w3_ ⟨hB0, hF3_⟩
 replace hF := hF.then hF3_ (by simp only [mc_]; intro i_ hi_ hj_; omega)
 clear hF3_
 replace hB0 := hB0.to (cs' := ordCI) (by kernel_rfl)
 refine Ops_nil ?_
 refine then_n (hK2_ _ _ ?_)
 clear hK2_ K2_
 refine W_keepB [0] fun B4 hB4_ => ?_
 simp only [e_, Nat.reduceAdd, Nat.reduceBEq] at hB4_
 subst hB4_
 refine W_ret ?_
 refine ⟨_, ⟨_, _, _, rfl, rfl, run_loadVarN ag145 sz145 hB0 (by rw [show ordCI.length = 160 by kernel_rfl]; decide), rfl⟩, ?_⟩
 exact ⟨by kernel_rfl, hF⟩
theorem rmix_any (h : List (BitVec 32)) (hh : h.length = 8) (A : Addr) (c : Nat) (bs : List UInt8) (hl : bs.length = 64) (n : Nat) (hn : n < 9223372036854775808) (last : Bool) (w : World) (hb : Rd w (some A) (bs.map vb)) :
  Calls Tryd.prog 103 #[.agg (h.map w32).toArray, .slice (some A) 64 c, vi n, .bool last] w fun e w2 => e = .returned (.agg ((Bl.mix h bs n last).map w32).toArray) ∧ Fr [] w w2 := by
 have hF := Fr.refl [] w
 refine calls_W 144 Tryd.func103 rfl Tryd.ntmps103 rfl [.cell 8 125] rfl ?_
 refine W_seq_k fun K1_ hK1_ => ?_
 refine W_region [4, 8] rfl ?_
 have hz4_hF := hF.size
 refine Ops_to (R_box rfl) rfl rfl ?_
 rintro _ w4_ ⟨b4, rfl, hb4, hB4, hF4_⟩
 have hl4 := hB4.lt
 replace hF := hF.fr0 hF4_
 clear hF4_
 replace hB4 : Blk _ b4 125 (h.map w32) := hB4
 have hz8_hF := hF.size
 have hn8_hB4 := hB4.lt
 refine Ops_to (R_alloc zr125) rfl rfl ?_
 rintro _ w8_ ⟨b8, rfl, hb8, hB8, hF8_⟩
 have hl8 := hB8.lt
 replace hF := hF.fr0 hF8_
 replace hB4 := hB4.fr0 hF8_
 clear hF8_
 refine Ops_nil ?_
 refine then_n (hK1_ _ _ ?_)
 clear hK1_ K1_
 refine W_seq_k fun K2_ hK2_ => ?_
 refine W_region [9] rfl ?_
 have hz9_hF := hF.size
 have hn9_hB4 := hB4.lt
 have hn9_hB8 := hB8.lt
 refine Ops_to (R_alloc zr120) rfl rfl ?_
 rintro _ w9_ ⟨b9, rfl, hb9, hB9, hF9_⟩
 have hl9 := hB9.lt
 replace hF := hF.fr0 hF9_
 replace hB4 := hB4.fr0 hF9_
 replace hB8 := hB8.fr0 hF9_
 clear hF9_
 refine Ops_nil ?_
 refine then_n (hK2_ _ _ ?_)
 clear hK2_ K2_
 refine W_seq_k fun K3_ hK3_ => ?_
 refine W_seq_k fun K4_ hK4_ => ?_
 refine W_region [21] rfl (Ops_step (R_move rfl) rfl rfl ?_)
 refine Ops_nil ?_
 refine then_n (hK4_ _ _ ?_)
 clear hK4_ K4_
 refine W_block ?_
 refine W_loopB [1, 2, 3, 4, 8, 9] [21] (fun m vs w' => ∃ i, i ≤ 16 ∧ m = 16 - i ∧ vs = [vi i] ∧ Blk w' b9 120 ((fillTo (0 : BitVec 32) (Bl.word bs) 16 i).map w32) ∧ Blk w' b4 125 (h.map w32) ∧ (∃ zs, zs.length = 8 ∧ Blk w' b8 125 zs) ∧ Fr [] w w') (16) _ rfl (⟨0, by omega, rfl, rfl, hB9, hB4, ⟨List.replicate 8 (.int .u32 0), by simp, hB8⟩, hF⟩) fun B5 hB5_ => ?_
 simp only [e_, Nat.reduceAdd, Nat.reduceBEq] at hB5_
 subst hB5_
 clear hB9 hB4 hB8 hF
 rintro m_ vs_ w0_ ⟨i, hi, rfl, rfl, hB9, hB4, ⟨zs8, lz8, hB8⟩, hF⟩
 refine W_seq_k fun K6_ hK6_ => ?_
 refine W_region [22] rfl (Ops_step (R_lss rfl rfl) rfl rfl ?_)
 refine Ops_nil ?_
 refine then_n (hK6_ _ _ ?_)
 clear hK6_ K6_
 refine W_seq_k fun K7_ hK7_ => ?_
 refine W_if rfl (fun hc22 => ?_) (fun hc22 => ?_)
 ·
  refine W_skip ?_
  refine then_n (hK7_ _ _ ?_)
  clear hK7_ K7_
  refine W_seq_k fun K8_ hK8_ => ?_
  refine W_block ?_
  refine W_seq_k fun K9_ hK9_ => ?_
  refine W_region [23, 10] rfl (Ops_step (R_move rfl) rfl rfl (Ops_step (R_assign rfl) rfl rfl ?_))
  refine Ops_nil ?_
  refine then_n (hK9_ _ _ ?_)
  clear hK9_ K9_
  refine W_seq_k fun K10_ hK10_ => ?_
  refine W_region [24] rfl (Ops_step (R_move rfl) rfl rfl ?_)
  refine Ops_nil ?_
  refine then_n (hK10_ _ _ ?_)
  clear hK10_ K10_
  refine W_block ?_
  refine W_loopB [1, 2, 3, 4, 8, 9, 10, 21] [24] (fun m vs w' => ∃ k, k ≤ 4 ∧ m = 4 - k ∧ vs = [vi (k : Nat)] ∧ Blk w' b9 120 (((fillTo (0 : BitVec 32) (Bl.word bs) 16 i).set i (inN bs i k)).map w32) ∧ Blk w' b4 125 (h.map w32) ∧ Blk w' b8 125 zs8 ∧ Fr [] w w') (4) _ rfl (⟨0, by omega, rfl, rfl, hB9.to (by rw [inN, fill_zero _ _ (by omega)]), hB4, hB8, hF⟩) fun B11 hB11_ => ?_
  simp only [e_, Nat.reduceAdd, Nat.reduceBEq] at hB11_
  subst hB11_
  clear hB9 hB4 hB8 hF
  rintro m_ vs_ w0_ ⟨k, hk, rfl, rfl, hB9, hB4, hB8, hF⟩
  refine W_seq_k fun K12_ hK12_ => ?_
  refine W_region [25] rfl (Ops_step (R_lss rfl rfl) rfl rfl ?_)
  refine Ops_nil ?_
  refine then_n (hK12_ _ _ ?_)
  clear hK12_ K12_
  refine W_seq_k fun K13_ hK13_ => ?_
  refine W_if rfl (fun hc25 => ?_) (fun hc25 => ?_)
  ·
   refine W_skip ?_
   refine then_n (hK13_ _ _ ?_)
   clear hK13_ K13_
   refine W_seq_k fun K14_ hK14_ => ?_
   refine W_block ?_
   refine W_seq_k fun K15_ hK15_ => ?_
   refine W_region [26, 11] rfl (Ops_step (R_move rfl) rfl rfl (Ops_step (R_assign rfl) rfl rfl ?_))
   refine Ops_nil ?_
   refine then_n (hK15_ _ _ ?_)
   clear hK15_ K15_
   refine W_drawF [27, 28, 29, 30, 31, 32, 33, 34, 35, 36, 37, 38, 39, 40, 41, 42, none] [(0, true), (1, true), (2, true), (3, true), (4, true), (5, true), (6, true), (7, true), (8, true), (9, true), (10, true), (11, true), (12, true), (13, true), (14, true), (15, true), (16, false)] TFhd.hm rfl (by kernel_rfl) fun ops16_ w16_ hops16_ hF16_ => ?_
   replace hB9 := hB9.fr0 hF16_
   replace hB4 := hB4.fr0 hF16_
   replace hB8 := hB8.fr0 hF16_
   replace hF := hF.fr0 hF16_
   clear hF16_
   refine HSp (R_move rfl) rfl rfl (HSp (R_move rfl) rfl rfl (HSp (R_indexArr Tryd.underlying120 sz119 rfl rfl (by omega) (by omega)) rfl rfl ?_))
   refine HS_loadB ag119 rfl hB9 (getw (a := i) (by rw [List.length_set, fillTo_length _ _ (by omega)]; omega)) rfl rfl ?_
   refine HSp (R_quo rfl rfl (by decide) (quoN _ 256 .u32 (.inr rfl) (.inl (BitVec.isLt _)))) rfl rfl (HSp (R_move rfl) rfl rfl (HSp (R_move rfl) rfl rfl ?_))
   refine HSp (R_mul rfl rfl (wIc (n := 4 * i) (by omega) (by omega))) rfl rfl ?_
   refine HSp (R_move rfl) rfl rfl ?_
   refine HSp (R_add rfl rfl (wIc (n := (4 * i) + k) (by omega) (by omega))) rfl rfl ?_
   refine HSp (R_indexSl Tryd.underlying30 sz5 rfl rfl (by omega) (by omega) rfl) rfl rfl ?_
   refine HS_load ag5 rfl ((hb.fr0 hF).atB (i := 4 * i + k) (by omega)) rfl rfl ?_
   refine HSp (R_conv Tryd.underlying5 Tryd.underlying119 rfl (show _ = ((bs.getD (4 * i + k) 0).toNat : Int) by rw [wU32]; have : (bs.getD (4 * i + k) 0).toNat < 256 := (bs.getD (4 * i + k) 0).toBitVec.isLt; omega)) rfl rfl ?_
   refine HSp (R_mul rfl rfl (show _ = (((bs.getD (4 * i + k) 0).toNat * 16777216 : Nat) : Int) by rw [wU32]; have : (bs.getD (4 * i + k) 0).toNat < 256 := (bs.getD (4 * i + k) 0).toBitVec.isLt; omega)) rfl rfl ?_
   refine HSp (R_add rfl rfl (show _ = ((inB (inN bs i k) (bs.getD (4 * i + k) 0)).toNat : Int) by rw [set_get _ _ _ (by rw [fillTo_length _ _ (by omega)]; omega), wU32, inB_nat]; have := (inN bs i k).isLt; have : (bs.getD (4 * i + k) 0).toNat < 256 := (bs.getD (4 * i + k) 0).toBitVec.isLt; omega)) rfl rfl ?_
   refine HSp (R_indexArr Tryd.underlying120 sz119 rfl rfl (by omega) (by omega)) rfl rfl ?_
   refine HS_to0 [] _ rfl (by rw [hops16_]; kernel_rfl) (R_store sz119 rfl rfl hB9 (by rw [List.length_map, List.length_set, fillTo_length _ _ (by omega)]; omega) rfl) rfl ?_
   clear hB9
   rintro _ w17_ ⟨hB9, hF17_⟩
   replace hB4 := hB4.fr hF17_ (by simp only [mc_]; omega)
   replace hB8 := hB8.fr hF17_ (by simp only [mc_]; omega)
   replace hF := hF.then hF17_ (by simp only [mc_]; intro i_ hi_ hj_; omega)
   clear hF17_
   replace hB9 := hB9.to (cs' := ((fillTo (0 : BitVec 32) (Bl.word bs) 16 i).set i (inN bs i (k + 1))).map w32) (by rw [setw, List.set_set]; rfl)
   refine ⟨trivial, ?_⟩
   refine HS_nil ?_
   clear hops16_
   refine block_n ?_
   refine then_n (hK14_ _ _ ?_)
   clear hK14_ K14_
   refine W_keepB [1, 2, 3, 4, 8, 9, 10, 21, 24] fun B18 hB18_ => ?_
   simp only [e_, Nat.reduceAdd, Nat.reduceBEq] at hB18_
   subst hB18_
   refine W_region [43, 24] rfl ?_
   refine Ops_step (R_add rfl rfl (wIc (n := k + 1) (by omega) (by omega))) rfl rfl ?_
   refine Ops_step (R_move rfl) rfl rfl ?_
   refine Ops_nil ?_
   exact ⟨4 - (k + 1), _, by omega, rfl, ⟨k + 1, by omega, rfl, rfl, hB9, hB4, hB8, hF⟩, ⟨rfl, rfl, rfl, rfl, rfl, rfl, rfl, rfl, trivial⟩⟩
  ·
   have hk4 : k = 4 := by omega
   subst hk4
   replace hB9 := hB9.to (cs' := (fillTo (0 : BitVec 32) (Bl.word bs) 16 (i + 1)).map w32) (by rw [inN_word, fillTo_set _ _ (by omega)])
   refine W_exit ?_
   refine then_exit ?_
   clear hK13_ K13_
   refine then_exit ?_
   refine block_exit ?_
   refine block_n ?_
   refine then_n (hK8_ _ _ ?_)
   clear hK8_ K8_
   refine W_region [44, 21] rfl ?_
   refine Ops_step (R_add rfl rfl (wIc (n := i + 1) (by omega) (by omega))) rfl rfl ?_
   refine Ops_step (R_move rfl) rfl rfl ?_
   refine Ops_nil ?_
   exact ⟨16 - (i + 1), _, by omega, rfl, ⟨i + 1, by omega, rfl, rfl, hB9, hB4, ⟨zs8, lz8, hB8⟩, hF⟩, ⟨rfl, rfl, rfl, rfl, rfl, rfl, trivial⟩⟩
 ·
  have hi16 : i = 16 := by omega
  subst hi16
  replace hB9 := hB9.to (cs' := (Bl.words bs).map w32) (by rw [fillTo_all]; rfl)
  refine W_exit ?_
  refine then_exit ?_
  clear hK7_ K7_
  refine then_exit ?_
  refine block_exit ?_
  refine then_n (hK3_ _ _ ?_)
  clear hK3_ K3_
  refine W_seq_k fun K19_ hK19_ => ?_
  refine W_region [12] rfl ?_
  have hn12_hB9 := hB9.lt
  have hn12_hB4 := hB4.lt
  have hn12_hB8 := hB8.lt
  have hz12_hF := hF.size
  refine Ops_to (R_alloc zr120) rfl rfl ?_
  rintro _ w12_ ⟨b12, rfl, hb12, hB12, hF12_⟩
  have hl12 := hB12.lt
  replace hB9 := hB9.fr0 hF12_
  replace hB4 := hB4.fr0 hF12_
  replace hB8 := hB8.fr0 hF12_
  replace hF := hF.fr0 hF12_
  clear hF12_
  refine Ops_nil ?_
  refine then_n (hK19_ _ _ ?_)
  clear hK19_ K19_
  refine W_seq_k fun K20_ hK20_ => ?_
  refine W_region [45, 13, none] rfl ?_
  refine Ops_call (C_func bd102 rfl) rfl rfl ?_
  refine (rwords_any _).mono ?_
  rintro _ w45_ ⟨rfl, hF45_⟩
  replace hB9 := hB9.fr0 hF45_
  replace hB4 := hB4.fr0 hF45_
  replace hB8 := hB8.fr0 hF45_
  replace hF := hF.fr0 hF45_
  replace hB12 := hB12.fr0 hF45_
  clear hF45_
  refine ⟨_, rfl, ?_⟩
  have hn13_hB9 := hB9.lt
  have hn13_hB4 := hB4.lt
  have hn13_hB8 := hB8.lt
  have hz13_hF := hF.size
  have hn13_hB12 := hB12.lt
  refine Ops_to (R_alloc zr125) rfl rfl ?_
  rintro _ w13_ ⟨b13, rfl, hb13, hB13, hF13_⟩
  have hl13 := hB13.lt
  replace hB9 := hB9.fr0 hF13_
  replace hB4 := hB4.fr0 hF13_
  replace hB8 := hB8.fr0 hF13_
  replace hF := hF.fr0 hF13_
  replace hB12 := hB12.fr0 hF13_
  clear hF13_
  refine Ops_to0 (R_storeN sz125 rfl rfl rfl hB13 (by decide) allw) rfl ?_
  clear hB13
  rintro _ w21_ ⟨hB13, hF21_⟩
  replace hB9 := hB9.fr hF21_ (by simp only [mc_]; omega)
  replace hB4 := hB4.fr hF21_ (by simp only [mc_]; omega)
  replace hB8 := hB8.fr hF21_ (by simp only [mc_]; omega)
  replace hF := hF.then hF21_ (by simp only [mc_]; intro i_ hi_ hj_; omega)
  replace hB12 := hB12.fr hF21_ (by simp only [mc_]; omega)
  clear hF21_
  replace hB13 := hB13.to (cs' := Bl.first.map w32) (by kernel_rfl)
  refine Ops_nil ?_
  refine then_n (hK20_ _ _ ?_)
  clear hK20_ K20_
  refine W_seq_k fun K22_ hK22_ => ?_
  refine W_seq_k fun K23_ hK23_ => ?_
  refine W_region [46] rfl (Ops_step (R_move rfl) rfl rfl ?_)
  refine Ops_nil ?_
  refine then_n (hK23_ _ _ ?_)
  clear hK23_ K23_
  refine W_block ?_
  refine W_loopB [2, 3, 4, 8, 9, 12, 13] [46] (fun m vs w' => ∃ i, i ≤ 8 ∧ m = 8 - i ∧ vs = [vi (i : Nat)] ∧ Blk w' b12 120 ((fill2 h i).map w32) ∧ Blk w' b13 125 (Bl.first.map w32) ∧ Blk w' b9 120 ((Bl.words bs).map w32) ∧ Blk w' b4 125 (h.map w32) ∧ Blk w' b8 125 zs8 ∧ Fr [] w w') (8) _ rfl (⟨0, by omega, rfl, rfl, hB12, hB13, hB9, hB4, hB8, hF⟩) fun B24 hB24_ => ?_
  simp only [e_, Nat.reduceAdd, Nat.reduceBEq] at hB24_
  subst hB24_
  clear hB12 hB13 hB9 hB4 hB8 hF
  rintro m_ vs_ w0_ ⟨i, hi, rfl, rfl, hB12, hB13, hB9, hB4, hB8, hF⟩
  refine W_seq_k fun K25_ hK25_ => ?_
  refine W_region [47] rfl (Ops_step (R_lss rfl rfl) rfl rfl ?_)
  refine Ops_nil ?_
  refine then_n (hK25_ _ _ ?_)
  clear hK25_ K25_
  refine W_seq_k fun K26_ hK26_ => ?_
  refine W_if rfl (fun hc47 => ?_) (fun hc47 => ?_)
  ·
   refine named (fill2 h i) fun va ea => ?_
   rw [← ea] at hB12
   have la : va.length = 16 := by rw [ea]; exact fill2_len h (by omega)
   refine W_skip ?_
   refine then_n (hK26_ _ _ ?_)
   clear hK26_ K26_
   refine W_seq_k fun K27_ hK27_ => ?_
   refine W_block ?_
   refine W_seq_k fun K28_ hK28_ => ?_
   refine W_region [48, 14] rfl (Ops_step (R_move rfl) rfl rfl (Ops_step (R_assign rfl) rfl rfl ?_))
   refine Ops_nil ?_
   refine then_n (hK28_ _ _ ?_)
   clear hK28_ K28_
   refine W_seq_k fun K29_ hK29_ => ?_
   refine W_region [49, 50, 51, 52, 53, none] rfl (Ops_step (R_move rfl) rfl rfl (Ops_step (R_move rfl) rfl rfl (Ops_step (R_indexArr Tryd.underlying125 sz119 rfl rfl (by omega) (by omega)) rfl rfl ?_)))
   refine Ops_step (R_loadB ag119 rfl hB4 (getw (a := i) (by omega))) rfl rfl ?_
   refine Ops_step (R_indexArr Tryd.underlying120 sz119 rfl rfl (by omega) (by omega)) rfl rfl ?_
   refine Ops_to0 (R_store sz119 rfl rfl hB12 (by rw [List.length_map, la]; omega) rfl) rfl ?_
   clear hB12
   rintro _ w30_ ⟨hB12, hF30_⟩
   replace hB13 := hB13.fr hF30_ (by simp only [mc_]; omega)
   replace hB9 := hB9.fr hF30_ (by simp only [mc_]; omega)
   replace hB4 := hB4.fr hF30_ (by simp only [mc_]; omega)
   replace hB8 := hB8.fr hF30_ (by simp only [mc_]; omega)
   replace hF := hF.then hF30_ (by simp only [mc_]; intro i_ hi_ hj_; omega)
   clear hF30_
   refine named (va.set (i) (h.getD i 0)) fun vb eb => ?_
   replace hB12 := hB12.to (cs' := vb.map w32) (by rw [eb]; exact setw _ (i) _)
   have lb : vb.length = 16 := by rw [eb, List.length_set, la]
   refine Ops_nil ?_
   refine then_n (hK29_ _ _ ?_)
   clear hK29_ K29_
   refine W_keepB [2, 3, 4, 8, 9, 12, 13, 14, 46] fun B31 hB31_ => ?_
   simp only [e_, Nat.reduceAdd, Nat.reduceBEq] at hB31_
   subst hB31_
   refine W_region [54, 55, 56, 57, 58, 59, none] rfl (Ops_step (R_move rfl) rfl rfl ?_)
   refine Ops_step (R_add rfl rfl (wIc (n := i + 8) (by omega) (by omega))) rfl rfl ?_
   refine Ops_step (R_move rfl) rfl rfl (Ops_step (R_indexArr Tryd.underlying125 sz119 rfl rfl (by omega) (by omega)) rfl rfl ?_)
   refine Ops_step (R_loadB ag119 rfl hB13 (getw (a := i) (by rw [first_length]; omega))) rfl rfl ?_
   refine Ops_step (R_indexArr Tryd.underlying120 sz119 rfl rfl (by omega) (by omega)) rfl rfl ?_
   refine Ops_to0 (R_store sz119 rfl rfl hB12 (by rw [List.length_map, lb]; omega) rfl) rfl ?_
   clear hB12
   rintro _ w32_ ⟨hB12, hF32_⟩
   replace hB13 := hB13.fr hF32_ (by simp only [mc_]; omega)
   replace hB9 := hB9.fr hF32_ (by simp only [mc_]; omega)
   replace hB4 := hB4.fr hF32_ (by simp only [mc_]; omega)
   replace hB8 := hB8.fr hF32_ (by simp only [mc_]; omega)
   replace hF := hF.then hF32_ (by simp only [mc_]; intro i_ hi_ hj_; omega)
   clear hF32_
   refine named (vb.set (i + 8) (Bl.first.getD i 0)) fun vc ec => ?_
   replace hB12 := hB12.to (cs' := vc.map w32) (by rw [ec]; exact setw _ (i + 8) _)
   have lc : vc.length = 16 := by rw [ec, List.length_set, lb]
   refine Ops_nil ?_
   refine block_n ?_
   refine then_n (hK27_ _ _ ?_)
   clear hK27_ K27_
   refine W_keepB [2, 3, 4, 8, 9, 12, 13, 46] fun B33 hB33_ => ?_
   simp only [e_, Nat.reduceAdd, Nat.reduceBEq] at hB33_
   subst hB33_
   refine W_region [60, 46] rfl ?_
   refine Ops_step (R_add rfl rfl (wIc (n := i + 1) (by omega) (by omega))) rfl rfl ?_
   refine Ops_step (R_move rfl) rfl rfl ?_
   refine Ops_nil ?_
   exact ⟨8 - (i + 1), _, by omega, rfl, ⟨i + 1, by omega, rfl, rfl, hB12.to (by rw [ec, eb, ea, fill2_set h (by omega)]), hB13, hB9, hB4, hB8, hF⟩, ⟨rfl, rfl, rfl, rfl, rfl, rfl, rfl, trivial⟩⟩
  ·
   have hi8 : i = 8 := by omega
   subst hi8
   replace hB12 := hB12.to (cs' := (h ++ Bl.first).map w32) (by rw [fill2_all h hh])
   refine W_exit ?_
   refine then_exit ?_
   clear hK26_ K26_
   refine then_exit ?_
   refine block_exit ?_
   refine then_n (hK22_ _ _ ?_)
   clear hK22_ K22_
   refine W_seq_k fun K34_ hK34_ => ?_
   refine W_region [61, 62, 63, 64, 65, 66, 67, 68, none] rfl ?_
   refine named (h ++ Bl.first) fun v1 e1 => ?_
   rw [← e1] at hB12
   have l1 : v1.length = 16 := by rw [e1, List.length_append, hh]; rfl
   refine Ops_step (R_indexArr Tryd.underlying120 sz119 rfl rfl (by omega) (by omega)) rfl rfl ?_
   refine Ops_step (R_loadB ag119 rfl hB12 (getw (a := 12) (by omega))) rfl rfl ?_
   refine Ops_step (R_move rfl) rfl rfl (Ops_step (R_conv Tryd.underlying3 Tryd.underlying72 rfl (cN_64 _)) rfl rfl (Ops_step (R_rem rfl rfl (by decide) (remc _ 4294967296)) rfl rfl (Ops_step (R_conv Tryd.underlying72 Tryd.underlying119 rfl (lo_n n)) rfl rfl (Ops_step (R_xor rfl rfl (xor32 _ _)) rfl rfl ?_))))
   refine Ops_step (R_indexArr Tryd.underlying120 sz119 rfl rfl (by omega) (by omega)) rfl rfl ?_
   refine Ops_to0 (R_store sz119 rfl rfl hB12 (by rw [List.length_map, l1]; omega) rfl) rfl ?_
   clear hB12
   rintro _ w35_ ⟨hB12, hF35_⟩
   replace hB13 := hB13.fr hF35_ (by simp only [mc_]; omega)
   replace hB9 := hB9.fr hF35_ (by simp only [mc_]; omega)
   replace hB4 := hB4.fr hF35_ (by simp only [mc_]; omega)
   replace hB8 := hB8.fr hF35_ (by simp only [mc_]; omega)
   replace hF := hF.then hF35_ (by simp only [mc_]; intro i_ hi_ hj_; omega)
   clear hF35_
   refine named (v1.set (12) (v1.getD 12 0 ^^^ BitVec.ofNat 32 n)) fun v2 e2 => ?_
   replace hB12 := hB12.to (cs' := v2.map w32) (by rw [e2]; exact setw _ (12) _)
   have l2 : v2.length = 16 := by rw [e2, List.length_set, l1]
   refine Ops_nil ?_
   refine then_n (hK34_ _ _ ?_)
   clear hK34_ K34_
   refine W_keepB [2, 3, 4, 8, 9, 12] fun B36 hB36_ => ?_
   simp only [e_, Nat.reduceAdd, Nat.reduceBEq] at hB36_
   subst hB36_
   refine W_seq_k fun K37_ hK37_ => ?_
   refine W_region [69, 70, 71, 72, 73, 74, 75, 76, none] rfl (Ops_step (R_indexArr Tryd.underlying120 sz119 rfl rfl (by omega) (by omega)) rfl rfl ?_)
   refine Ops_step (R_loadB ag119 rfl hB12 (getw (a := 13) (by omega))) rfl rfl ?_
   refine Ops_step (R_move rfl) rfl rfl (Ops_step (R_conv Tryd.underlying3 Tryd.underlying72 rfl (cN_64 _)) rfl rfl (Ops_step (R_quo rfl rfl (by decide) (quoN _ 4294967296 .u64 (.inl rfl) (.inr ⟨rfl, BitVec.isLt _⟩))) rfl rfl (Ops_step (R_conv Tryd.underlying72 Tryd.underlying119 rfl (hi_n n (by omega))) rfl rfl (Ops_step (R_xor rfl rfl (xor32 _ _)) rfl rfl ?_))))
   refine Ops_step (R_indexArr Tryd.underlying120 sz119 rfl rfl (by omega) (by omega)) rfl rfl ?_
   refine Ops_to0 (R_store sz119 rfl rfl hB12 (by rw [List.length_map, l2]; omega) rfl) rfl ?_
   clear hB12
   rintro _ w38_ ⟨hB12, hF38_⟩
   replace hB13 := hB13.fr hF38_ (by simp only [mc_]; omega)
   replace hB9 := hB9.fr hF38_ (by simp only [mc_]; omega)
   replace hB4 := hB4.fr hF38_ (by simp only [mc_]; omega)
   replace hB8 := hB8.fr hF38_ (by simp only [mc_]; omega)
   replace hF := hF.then hF38_ (by simp only [mc_]; intro i_ hi_ hj_; omega)
   clear hF38_
   refine named (v2.set (13) (v2.getD 13 0 ^^^ BitVec.ofNat 32 (n / 4294967296))) fun v3 e3 => ?_
   replace hB12 := hB12.to (cs' := v3.map w32) (by rw [e3]; exact setw _ (13) _)
   have l3 : v3.length = 16 := by rw [e3, List.length_set, l2]
   refine Ops_nil ?_
   refine then_n (hK37_ _ _ ?_)
   clear hK37_ K37_
   refine W_keepB [3, 4, 8, 9, 12] fun B39 hB39_ => ?_
   simp only [e_, Nat.reduceAdd, Nat.reduceBEq] at hB39_
   subst hB39_
   refine W_seq_k fun K40_ hK40_ => ?_
   refine W_seq_k fun K41_ hK41_ => ?_
   refine W_region [77] rfl (Ops_step (R_move rfl) rfl rfl ?_)
   refine Ops_nil ?_
   refine then_n (hK41_ _ _ ?_)
   clear hK41_ K41_
   refine W_cond rfl (fun hc77 => ?_) (fun hc77 => ?_)
   ·
    refine W_region [78, 79, 80, 81, none] rfl (Ops_step (R_indexArr Tryd.underlying120 sz119 rfl rfl (by omega) (by omega)) rfl rfl ?_)
    refine Ops_step (R_loadB ag119 rfl hB12 (getw (a := 14) (by omega))) rfl rfl ?_
    refine Ops_step (R_sub rfl rfl (compl_sub _)) rfl rfl (Ops_step (R_indexArr Tryd.underlying120 sz119 rfl rfl (by omega) (by omega)) rfl rfl ?_)
    refine Ops_to0 (R_store sz119 rfl rfl hB12 (by rw [List.length_map, l3]; omega) rfl) rfl ?_
    clear hB12
    rintro _ w42_ ⟨hB12, hF42_⟩
    replace hB13 := hB13.fr hF42_ (by simp only [mc_]; omega)
    replace hB9 := hB9.fr hF42_ (by simp only [mc_]; omega)
    replace hB4 := hB4.fr hF42_ (by simp only [mc_]; omega)
    replace hB8 := hB8.fr hF42_ (by simp only [mc_]; omega)
    replace hF := hF.then hF42_ (by simp only [mc_]; intro i_ hi_ hj_; omega)
    clear hF42_
    refine named (v3.set (14) (~~~ (v3.getD 14 0))) fun v4 e4 => ?_
    replace hB12 := hB12.to (cs' := v4.map w32) (by rw [e4]; exact setw _ (14) _)
    have l4 : v4.length = 16 := by rw [e4, List.length_set, l3]
    replace hB12 := hB12.to (cs' := (Bl.start h n last).map w32) (by rw [start_ref, hc77, e4, e3, e2, e1]; rfl)
    refine Ops_nil ?_
    refine then_n (hK40_ _ _ ?_)
    clear hK40_ K40_
    refine W_keepB [4, 8, 9, 12] fun B43 hB43_ => ?_
    simp only [e_, Nat.reduceAdd, Nat.reduceBEq] at hB43_
    subst hB43_
    refine W_seq_k fun K44_ hK44_ => ?_
    refine W_region [82, 83, 84, 85, 86, 87, 88, 89, 90, 15, none] rfl ?_
    refine named (Bl.start h n last) fun v0 e0 => ?_
    have l0 : v0.length = 16 := by rw [e0]; exact start_length hh _ _
    rw [← e0] at hB12
    refine Ops_step (R_build (pl := [(0, 1), (1, 1), (2, 1), (3, 1)]) (cs := (rows8.getD 0 []).map ci) zr142 pl142 rfl rfl (by kernel_rfl)) rfl rfl ?_
    refine Ops_step (R_build (pl := [(0, 1), (1, 1), (2, 1), (3, 1)]) (cs := (rows8.getD 1 []).map ci) zr142 pl142 rfl rfl (by kernel_rfl)) rfl rfl ?_
    refine Ops_step (R_build (pl := [(0, 1), (1, 1), (2, 1), (3, 1)]) (cs := (rows8.getD 2 []).map ci) zr142 pl142 rfl rfl (by kernel_rfl)) rfl rfl ?_
    refine Ops_step (R_build (pl := [(0, 1), (1, 1), (2, 1), (3, 1)]) (cs := (rows8.getD 3 []).map ci) zr142 pl142 rfl rfl (by kernel_rfl)) rfl rfl ?_
    refine Ops_step (R_build (pl := [(0, 1), (1, 1), (2, 1), (3, 1)]) (cs := (rows8.getD 4 []).map ci) zr142 pl142 rfl rfl (by kernel_rfl)) rfl rfl ?_
    refine Ops_step (R_build (pl := [(0, 1), (1, 1), (2, 1), (3, 1)]) (cs := (rows8.getD 5 []).map ci) zr142 pl142 rfl rfl (by kernel_rfl)) rfl rfl ?_
    refine Ops_step (R_build (pl := [(0, 1), (1, 1), (2, 1), (3, 1)]) (cs := (rows8.getD 6 []).map ci) zr142 pl142 rfl rfl (by kernel_rfl)) rfl rfl ?_
    refine Ops_step (R_build (pl := [(0, 1), (1, 1), (2, 1), (3, 1)]) (cs := (rows8.getD 7 []).map ci) zr142 pl142 rfl rfl (by kernel_rfl)) rfl rfl ?_
    refine Ops_step (R_build (pl := [(0, 4), (4, 4), (8, 4), (12, 4), (16, 4), (20, 4), (24, 4), (28, 4)]) (cs := rowCI) zr143 pl143 rfl rfl (by kernel_rfl)) rfl rfl ?_
    have hn15_hB12 := hB12.lt
    have hn15_hB13 := hB13.lt
    have hn15_hB9 := hB9.lt
    have hn15_hB4 := hB4.lt
    have hn15_hB8 := hB8.lt
    have hz15_hF := hF.size
    refine Ops_to (R_alloc zr143) rfl rfl ?_
    rintro _ w15_ ⟨b15, rfl, hb15, hB15, hF15_⟩
    have hl15 := hB15.lt
    replace hB12 := hB12.fr0 hF15_
    replace hB13 := hB13.fr0 hF15_
    replace hB9 := hB9.fr0 hF15_
    replace hB4 := hB4.fr0 hF15_
    replace hB8 := hB8.fr0 hF15_
    replace hF := hF.fr0 hF15_
    clear hF15_
    refine Ops_to0 (R_storeN sz143 (by kernel_rfl) rfl rfl hB15 (by simp) (by kernel_rfl)) rfl ?_
    clear hB15
    rintro _ w45_ ⟨hB15, hF45_⟩
    replace hB12 := hB12.fr hF45_ (by simp only [mc_]; omega)
    replace hB13 := hB13.fr hF45_ (by simp only [mc_]; omega)
    replace hB9 := hB9.fr hF45_ (by simp only [mc_]; omega)
    replace hB4 := hB4.fr hF45_ (by simp only [mc_]; omega)
    replace hB8 := hB8.fr hF45_ (by simp only [mc_]; omega)
    replace hF := hF.then hF45_ (by simp only [mc_]; intro i_ hi_ hj_; omega)
    clear hF45_
    replace hB15 := hB15.to (cs' := rowCI) (by kernel_rfl)
    refine Ops_nil ?_
    refine then_n (hK44_ _ _ ?_)
    clear hK44_ K44_
    refine W_keepB [4, 8, 9, 12, 15] fun B46 hB46_ => ?_
    simp only [e_, Nat.reduceAdd, Nat.reduceBEq] at hB46_
    subst hB46_
    refine W_seq_k fun K47_ hK47_ => ?_
    refine W_seq_k fun K48_ hK48_ => ?_
    refine W_region [91, 92] rfl ?_
    refine Ops_call (C_func bd107 rfl) rfl rfl ?_
    refine (rorders_any _).mono ?_
    rintro _ w91_ ⟨rfl, hF91_⟩
    replace hB12 := hB12.fr0 hF91_
    replace hB13 := hB13.fr0 hF91_
    replace hB9 := hB9.fr0 hF91_
    replace hB4 := hB4.fr0 hF91_
    replace hB8 := hB8.fr0 hF91_
    replace hF := hF.fr0 hF91_
    replace hB15 := hB15.fr0 hF91_
    clear hF91_
    refine ⟨_, rfl, ?_⟩
    refine Ops_step (R_move rfl) rfl rfl ?_
    refine Ops_nil ?_
    refine then_n (hK48_ _ _ ?_)
    clear hK48_ K48_
    refine W_block ?_
    refine W_loopB [4, 8, 9, 12, 15, 91] [92] (fun m vs w' => ∃ i, i ≤ 10 ∧ m = 10 - i ∧ vs = [vi (i : Nat)] ∧ Blk w' b12 120 (((Bl.orders.take i).foldl (Bl.round (Bl.words bs)) v0).map w32) ∧ Blk w' b15 143 rowCI ∧ Blk w' b9 120 ((Bl.words bs).map w32) ∧ Blk w' b4 125 (h.map w32) ∧ Blk w' b8 125 zs8 ∧ Fr [] w w') (10) _ rfl (⟨0, by omega, rfl, rfl, hB12, hB15, hB9, hB4, hB8, hF⟩) fun B49 hB49_ => ?_
    simp only [e_, Nat.reduceAdd, Nat.reduceBEq] at hB49_
    subst hB49_
    clear hB12 hB15 hB9 hB4 hB8 hF hB13
    rintro m_ vs_ w0_ ⟨i, hi, rfl, rfl, hB12, hB15, hB9, hB4, hB8, hF⟩
    refine W_seq_k fun K50_ hK50_ => ?_
    refine W_region [93] rfl (Ops_step (R_lss rfl rfl) rfl rfl ?_)
    refine Ops_nil ?_
    refine then_n (hK50_ _ _ ?_)
    clear hK50_ K50_
    refine W_seq_k fun K51_ hK51_ => ?_
    refine W_if rfl (fun hc93 => ?_) (fun hc93 => ?_)
    ·
     have hi10 : i < 10 := by omega
     refine named ((Bl.orders.take i).foldl (Bl.round (Bl.words bs)) v0) fun v5 e5 => ?_
     rw [← e5] at hB12
     have l5 : v5.length = 16 := by rw [e5, foldl_length _ (round_length _), l0]
     refine W_skip ?_
     refine then_n (hK51_ _ _ ?_)
     clear hK51_ K51_
     refine W_seq_k fun K52_ hK52_ => ?_
     refine W_block ?_
     refine W_seq_k fun K53_ hK53_ => ?_
     refine W_region [94, 17, none] rfl (Ops_step (R_indexN Tryd.underlying145 sz144 ag144 rfl rfl (by omega) (by omega)) rfl rfl ?_)
     have hn17_hB12 := hB12.lt
     have hn17_hB15 := hB15.lt
     have hn17_hB9 := hB9.lt
     have hn17_hB4 := hB4.lt
     have hn17_hB8 := hB8.lt
     have hz17_hF := hF.size
     refine Ops_to (R_alloc zr144) rfl rfl ?_
     rintro _ w17_ ⟨b17, rfl, hb17, hB17, hF17_⟩
     have hl17 := hB17.lt
     replace hB12 := hB12.fr0 hF17_
     replace hB15 := hB15.fr0 hF17_
     replace hB9 := hB9.fr0 hF17_
     replace hB4 := hB4.fr0 hF17_
     replace hB8 := hB8.fr0 hF17_
     replace hF := hF.fr0 hF17_
     clear hF17_
     refine Ops_to0 (R_storeN sz144 (ordI_size i hi10) rfl rfl hB17 (by simp) (by rw [ordI_row i hi10]; exact allci)) rfl ?_
     clear hB17
     rintro _ w54_ ⟨hB17, hF54_⟩
     replace hB12 := hB12.fr hF54_ (by simp only [mc_]; omega)
     replace hB15 := hB15.fr hF54_ (by simp only [mc_]; omega)
     replace hB9 := hB9.fr hF54_ (by simp only [mc_]; omega)
     replace hB4 := hB4.fr hF54_ (by simp only [mc_]; omega)
     replace hB8 := hB8.fr hF54_ (by simp only [mc_]; omega)
     replace hF := hF.then hF54_ (by simp only [mc_]; intro i_ hi_ hj_; omega)
     clear hF54_
     replace hB17 := hB17.to (cs' := (Bl.orders.getD i []).map ci) (by rw [ordI_row i hi10]; exact over16 (by simp) (by rw [List.length_map]; exact (ord_ok i hi10).1))
     refine named (Bl.orders.getD i []) fun o eo => ?_
     have ol := (ord_ok i hi10).1
     have oo := (ord_ok i hi10).2
     rw [← eo] at hB17 ol oo
     refine Ops_nil ?_
     refine then_n (hK53_ _ _ ?_)
     clear hK53_ K53_
     refine W_seq_k fun K55_ hK55_ => ?_
     refine W_region [95, 96] rfl (Ops_step (R_loadW ag143 sz143 rfl hB15 (by kernel_rfl)) rfl rfl (Ops_step (R_move rfl) rfl rfl ?_))
     refine Ops_nil ?_
     refine then_n (hK55_ _ _ ?_)
     clear hK55_ K55_
     refine W_block ?_
     refine W_loopB [4, 8, 9, 12, 15, 17, 91, 92, 95] [96] (fun m vs w' => ∃ j, j ≤ 8 ∧ m = 8 - j ∧ vs = [vi (j : Nat)] ∧ Blk w' b12 120 (((List.range j).foldl (Bl.step (Bl.words bs) o) v5).map w32) ∧ Blk w' b17 144 (o.map ci) ∧ Blk w' b15 143 rowCI ∧ Blk w' b9 120 ((Bl.words bs).map w32) ∧ Blk w' b4 125 (h.map w32) ∧ Blk w' b8 125 zs8 ∧ Fr [] w w') (8) _ rfl (⟨0, by omega, rfl, rfl, hB12, hB17, hB15, hB9, hB4, hB8, hF⟩) fun B56 hB56_ => ?_
     simp only [e_, Nat.reduceAdd, Nat.reduceBEq] at hB56_
     subst hB56_
     clear hB12 hB17 hB15 hB9 hB4 hB8 hF
     rintro m_ vs_ w0_ ⟨j, hj, rfl, rfl, hB12, hB17, hB15, hB9, hB4, hB8, hF⟩
     refine W_seq_k fun K57_ hK57_ => ?_
     refine W_region [97] rfl (Ops_step (R_lss rfl rfl) rfl rfl ?_)
     refine Ops_nil ?_
     refine then_n (hK57_ _ _ ?_)
     clear hK57_ K57_
     refine W_seq_k fun K58_ hK58_ => ?_
     refine W_if rfl (fun hc97 => ?_) (fun hc97 => ?_)
     ·
      have hj8 : j < 8 := by omega
      refine named ((List.range j).foldl (Bl.step (Bl.words bs) o) v5) fun v ev => ?_
      rw [← ev] at hB12
      have lv : v.length = 16 := by rw [ev, foldl_length _ (step_length _ _), l5]
      refine W_skip ?_
      refine then_n (hK58_ _ _ ?_)
      clear hK58_ K58_
      refine W_seq_k fun K59_ hK59_ => ?_
      refine W_block ?_
      refine W_seq_k fun K60_ hK60_ => ?_
      refine W_region [98, 99, 19, 18, none] rfl (Ops_step (R_move rfl) rfl rfl (Ops_step (R_indexN Tryd.underlying143 sz142 ag142 rfl rfl (by omega) (by omega)) rfl rfl ?_))
      have hn19_hB12 := hB12.lt
      have hn19_hB17 := hB17.lt
      have hn19_hB15 := hB15.lt
      have hn19_hB9 := hB9.lt
      have hn19_hB4 := hB4.lt
      have hn19_hB8 := hB8.lt
      have hz19_hF := hF.size
      refine Ops_to (R_alloc zr142) rfl rfl ?_
      rintro _ w19_ ⟨b19, rfl, hb19, hB19, hF19_⟩
      have hl19 := hB19.lt
      replace hB12 := hB12.fr0 hF19_
      replace hB17 := hB17.fr0 hF19_
      replace hB15 := hB15.fr0 hF19_
      replace hB9 := hB9.fr0 hF19_
      replace hB4 := hB4.fr0 hF19_
      replace hB8 := hB8.fr0 hF19_
      replace hF := hF.fr0 hF19_
      clear hF19_
      refine Ops_step (R_assign rfl) rfl rfl ?_
      refine Ops_to0 (R_storeN sz142 (rowI_size j hj8) rfl rfl hB19 (by simp) (by rw [rowI_row j hj8]; exact allci)) rfl ?_
      clear hB19
      rintro _ w61_ ⟨hB19, hF61_⟩
      replace hB12 := hB12.fr hF61_ (by simp only [mc_]; omega)
      replace hB17 := hB17.fr hF61_ (by simp only [mc_]; omega)
      replace hB15 := hB15.fr hF61_ (by simp only [mc_]; omega)
      replace hB9 := hB9.fr hF61_ (by simp only [mc_]; omega)
      replace hB4 := hB4.fr hF61_ (by simp only [mc_]; omega)
      replace hB8 := hB8.fr hF61_ (by simp only [mc_]; omega)
      replace hF := hF.then hF61_ (by simp only [mc_]; intro i_ hi_ hj_; omega)
      clear hF61_
      replace hB19 := hB19.to (cs' := (rows8.getD j []).map ci) (by rw [rowI_row j hj8]; exact over4 (n := 4) (by simp) (by rw [List.length_map]; exact row_len hj8))
      have rl := row_len hj8
      refine Ops_nil ?_
      refine then_n (hK60_ _ _ ?_)
      clear hK60_ K60_
      refine W_drawF [100, 101, 102, 103, 104, 105, 106, 107, 108, 109, 110, 111, 112, 113, 114, 115, 116, 117, 118, 119, 120, 121, 122, none] [(0, true), (1, true), (2, true), (3, true), (4, true), (5, true), (6, true), (7, true), (8, true), (9, true), (10, true), (11, true), (12, true), (13, true), (14, true), (15, true), (16, true), (17, true), (18, true), (19, true), (20, true), (21, true), (22, false), (23, false)] TFhd.hm rfl (by kernel_rfl) fun ops62_ w62_ hops62_ hF62_ => ?_
      replace hB12 := hB12.fr0 hF62_
      replace hB17 := hB17.fr0 hF62_
      replace hB15 := hB15.fr0 hF62_
      replace hB9 := hB9.fr0 hF62_
      replace hB4 := hB4.fr0 hF62_
      replace hB8 := hB8.fr0 hF62_
      replace hF := hF.fr0 hF62_
      replace hB19 := hB19.fr0 hF62_
      clear hF62_
      refine HS_loadW ag120 sz120 rfl hB12 (by rw [List.length_map, lv]) rfl rfl ?_
      refine HSp (R_indexArr Tryd.underlying142 sz3 rfl rfl (by omega) (by omega)) rfl rfl ?_
      refine HS_loadB ag3 rfl hB19 (getci (a := 0) (by omega)) rfl rfl ?_
      refine HSp (R_indexArr Tryd.underlying142 sz3 rfl rfl (by omega) (by omega)) rfl rfl ?_
      refine HS_loadB ag3 rfl hB19 (getci (a := 1) (by omega)) rfl rfl ?_
      refine HSp (R_indexArr Tryd.underlying142 sz3 rfl rfl (by omega) (by omega)) rfl rfl ?_
      refine HS_loadB ag3 rfl hB19 (getci (a := 2) (by omega)) rfl rfl ?_
      refine HSp (R_indexArr Tryd.underlying142 sz3 rfl rfl (by omega) (by omega)) rfl rfl ?_
      refine HS_loadB ag3 rfl hB19 (getci (a := 3) (by omega)) rfl rfl ?_
      refine HSp (R_move rfl) rfl rfl ?_
      refine HSp (R_mul rfl rfl (wIc (n := j * 2) (by omega) (by omega))) rfl rfl ?_
      refine HSp (R_indexArr Tryd.underlying144 sz3 rfl rfl (by omega) (by omega)) rfl rfl ?_
      refine HS_loadB ag3 rfl hB17 (getci (a := j * 2) (by omega)) rfl rfl ?_
      refine HSp (R_indexArr Tryd.underlying120 sz119 rfl rfl (by omega) (by have := oo (j * 2) (by omega); omega)) rfl rfl ?_
      refine HS_loadB ag119 rfl hB9 (getw (a := o.getD (j * 2) 0) (by have := oo (j * 2) (by omega); simpa [Bl.words] using this)) rfl rfl ?_
      refine HSp (R_move rfl) rfl rfl ?_
      refine HSp (R_mul rfl rfl (wIc (n := j * 2) (by omega) (by omega))) rfl rfl ?_
      refine HSp (R_add rfl rfl (wIc (n := j * 2 + 1) (by omega) (by omega))) rfl rfl ?_
      refine HSp (R_indexArr Tryd.underlying144 sz3 rfl rfl (by omega) (by omega)) rfl rfl ?_
      refine HS_loadB ag3 rfl hB17 (getci (a := j * 2 + 1) (by omega)) rfl rfl ?_
      refine HSp (R_indexArr Tryd.underlying120 sz119 rfl rfl (by omega) (by have := oo (j * 2 + 1) (by omega); omega)) rfl rfl ?_
      refine HS_loadB ag119 rfl hB9 (getw (a := o.getD (j * 2 + 1) 0) (by have := oo (j * 2 + 1) (by omega); simpa [Bl.words] using this)) rfl rfl ?_
      refine HS_call [] _ rfl (by rw [hops62_]; kernel_rfl) (C_func bd108 rfl) rfl rfl ?_
      refine (rstir_any v lv (rrow j 0) (rrow j 1) (rrow j 2) (rrow j 3) (rrow_lt hj8 (by decide)) (rrow_lt hj8 (by decide)) (rrow_lt hj8 (by decide)) (rrow_lt hj8 (by decide)) _ _ _).mono ?_
      rintro _ w122_ ⟨rfl, hF122_⟩
      replace hB12 := hB12.fr0 hF122_
      replace hB17 := hB17.fr0 hF122_
      replace hB15 := hB15.fr0 hF122_
      replace hB9 := hB9.fr0 hF122_
      replace hB4 := hB4.fr0 hF122_
      replace hB8 := hB8.fr0 hF122_
      replace hF := hF.fr0 hF122_
      replace hB19 := hB19.fr0 hF122_
      clear hF122_
      refine ⟨_, rfl, trivial, ?_⟩
      refine HS_to0 [] _ rfl (by rw [hops62_]; kernel_rfl) (R_storeN sz120 (by simp [Bl.stir_length, lv]) rfl rfl hB12 (by rw [List.length_map, lv]; decide) allw) rfl ?_
      clear hB12
      rintro _ w63_ ⟨hB12, hF63_⟩
      replace hB17 := hB17.fr hF63_ (by simp only [mc_]; omega)
      replace hB15 := hB15.fr hF63_ (by simp only [mc_]; omega)
      replace hB9 := hB9.fr hF63_ (by simp only [mc_]; omega)
      replace hB4 := hB4.fr hF63_ (by simp only [mc_]; omega)
      replace hB8 := hB8.fr hF63_ (by simp only [mc_]; omega)
      replace hF := hF.then hF63_ (by simp only [mc_]; intro i_ hi_ hj_; omega)
      replace hB19 := hB19.fr hF63_ (by simp only [mc_]; omega)
      clear hF63_
      replace hB12 := hB12.to (cs' := ((List.range (j + 1)).foldl (Bl.step (Bl.words bs) o) v5).map w32) (by rw [range_foldl, ← ev, ← row_step _ _ _ hj8, Nat.mul_comm 2 j]; exact over4 (n := 16) (by rw [List.length_map, lv]) (by rw [List.length_map, Bl.stir_length, lv]))
      refine ⟨trivial, ?_⟩
      refine HS_nil ?_
      clear hops62_
      refine block_n ?_
      refine then_n (hK59_ _ _ ?_)
      clear hK59_ K59_
      refine W_keepB [4, 8, 9, 12, 15, 17, 91, 92, 95, 96] fun B64 hB64_ => ?_
      simp only [e_, Nat.reduceAdd, Nat.reduceBEq] at hB64_
      subst hB64_
      refine W_region [123, 96] rfl ?_
      refine Ops_step (R_add rfl rfl (wIc (n := j + 1) (by omega) (by omega))) rfl rfl ?_
      refine Ops_step (R_move rfl) rfl rfl ?_
      refine Ops_nil ?_
      exact ⟨8 - (j + 1), _, by omega, rfl, ⟨j + 1, by omega, rfl, rfl, hB12, hB17, hB15, hB9, hB4, hB8, hF⟩, ⟨rfl, rfl, rfl, rfl, rfl, rfl, rfl, rfl, rfl, trivial⟩⟩
     ·
      have hj4 : j = 8 := by omega
      subst hj4
      replace hB12 := hB12.to (cs' := ((Bl.orders.take (i + 1)).foldl (Bl.round (Bl.words bs)) v0).map w32) (by rw [ord_take hi10, List.foldl_append, ← e5, ← eo, round_one8])
      refine W_exit ?_
      refine then_exit ?_
      clear hK58_ K58_
      refine then_exit ?_
      refine block_exit ?_
      refine block_n ?_
      refine then_n (hK52_ _ _ ?_)
      clear hK52_ K52_
      refine W_region [124, 92] rfl ?_
      refine Ops_step (R_add rfl rfl (wIc (n := i + 1) (by omega) (by omega))) rfl rfl ?_
      refine Ops_step (R_move rfl) rfl rfl ?_
      refine Ops_nil ?_
      exact ⟨10 - (i + 1), _, by omega, rfl, ⟨i + 1, by omega, rfl, rfl, hB12, hB15, hB9, hB4, hB8, hF⟩, ⟨rfl, rfl, rfl, rfl, rfl, rfl, trivial⟩⟩
    ·
     have hi10 : i = 10 := by omega
     subst hi10
     refine named ((Bl.orders.take 10).foldl (Bl.round (Bl.words bs)) v0) fun v9 e9 => ?_
     rw [← e9] at hB12
     have l9 : v9.length = 16 := by rw [e9, foldl_length _ (round_length _), l0]
     refine W_exit ?_
     refine then_exit ?_
     clear hK51_ K51_
     refine then_exit ?_
     refine block_exit ?_
     refine then_n (hK47_ _ _ ?_)
     clear hK47_ K47_
     refine W_seq_k fun K65_ hK65_ => ?_
     refine W_seq_k fun K66_ hK66_ => ?_
     refine W_region [125] rfl (Ops_step (R_move rfl) rfl rfl ?_)
     refine Ops_nil ?_
     refine then_n (hK66_ _ _ ?_)
     clear hK66_ K66_
     refine W_block ?_
     refine W_loopB [4, 8, 12] [125] (fun m vs w' => ∃ i, i ≤ 8 ∧ m = 8 - i ∧ vs = [vi (i : Nat)] ∧ Blk w' b12 120 (v9.map w32) ∧ Blk w' b4 125 ((mixed (Bl.outw h v9) h i).map w32) ∧ Blk w' b8 125 zs8 ∧ Fr [] w w') (8) _ rfl (⟨0, by omega, rfl, rfl, hB12, hB4, hB8, hF⟩) fun B67 hB67_ => ?_
     simp only [e_, Nat.reduceAdd, Nat.reduceBEq] at hB67_
     subst hB67_
     clear hB12 hB4 hB8 hF hB9 hB15
     rintro m_ vs_ w0_ ⟨i, hi, rfl, rfl, hB12, hB4, hB8, hF⟩
     refine W_seq_k fun K68_ hK68_ => ?_
     refine W_region [126] rfl (Ops_step (R_lss rfl rfl) rfl rfl ?_)
     refine Ops_nil ?_
     refine then_n (hK68_ _ _ ?_)
     clear hK68_ K68_
     refine W_seq_k fun K69_ hK69_ => ?_
     refine W_if rfl (fun hc126 => ?_) (fun hc126 => ?_)
     ·
      refine W_skip ?_
      refine then_n (hK69_ _ _ ?_)
      clear hK69_ K69_
      refine W_seq_k fun K70_ hK70_ => ?_
      refine W_block ?_
      refine W_seq_k fun K71_ hK71_ => ?_
      refine W_region [127, 20] rfl (Ops_step (R_move rfl) rfl rfl (Ops_step (R_assign rfl) rfl rfl ?_))
      refine Ops_nil ?_
      refine then_n (hK71_ _ _ ?_)
      clear hK71_ K71_
      refine W_drawF [128, 129, 130, 131, 132, 133, 134, 135, 136, 137, 138, 139, 140, 141, none] [(0, true), (1, true), (2, true), (3, true), (4, true), (5, true), (6, true), (7, true), (8, true), (9, true), (10, true), (11, true), (12, true), (13, true), (14, false)] TFhd.hm rfl (by kernel_rfl) fun ops72_ w72_ hops72_ hF72_ => ?_
      replace hB12 := hB12.fr0 hF72_
      replace hB4 := hB4.fr0 hF72_
      replace hB8 := hB8.fr0 hF72_
      replace hF := hF.fr0 hF72_
      clear hF72_
      refine HSp (R_move rfl) rfl rfl (HSp (R_move rfl) rfl rfl (HSp (R_indexArr Tryd.underlying125 sz119 rfl rfl (by omega) (by omega)) rfl rfl ?_))
      refine HS_loadB ag119 rfl hB4 (getw (a := i) (by rw [mixed_length _ _ (by omega)]; omega)) rfl rfl ?_
      refine HSp (R_move rfl) rfl rfl (HSp (R_indexArr Tryd.underlying120 sz119 rfl rfl (by omega) (by omega)) rfl rfl ?_)
      refine HS_loadB ag119 rfl hB12 (getw (a := i) (by omega)) rfl rfl ?_
      refine HSp (R_xor rfl rfl (xor32 _ _)) rfl rfl (HSp (R_move rfl) rfl rfl ?_)
      refine HSp (R_add rfl rfl (wIc (n := i + 8) (by omega) (by omega))) rfl rfl ?_
      refine HSp (R_indexArr Tryd.underlying120 sz119 rfl rfl (by omega) (by omega)) rfl rfl ?_
      refine HS_loadB ag119 rfl hB12 (getw (a := i + 8) (by omega)) rfl rfl ?_
      refine HSp (R_xor rfl rfl (xor32 _ _)) rfl rfl (HSp (R_indexArr Tryd.underlying125 sz119 rfl rfl (by omega) (by omega)) rfl rfl ?_)
      refine HS_to0 [] _ rfl (by rw [hops72_]; kernel_rfl) (R_store sz119 rfl rfl hB4 (by rw [List.length_map, mixed_length _ _ (by omega)]; omega) rfl) rfl ?_
      clear hB4
      rintro _ w73_ ⟨hB4, hF73_⟩
      replace hB12 := hB12.fr hF73_ (by simp only [mc_]; omega)
      replace hB8 := hB8.fr hF73_ (by simp only [mc_]; omega)
      replace hF := hF.then hF73_ (by simp only [mc_]; intro i_ hi_ hj_; omega)
      clear hF73_
      replace hB4 := hB4.to (cs' := (mixed (Bl.outw h v9) h (i + 1)).map w32) (by rw [mixed_get _ _ _ (by omega), Nat.add_comm i 8, setw]; exact congrArg (List.map w32) (mixed_set (Bl.outw h v9) h (by omega)))
      refine ⟨trivial, ?_⟩
      refine HS_nil ?_
      clear hops72_
      refine block_n ?_
      refine then_n (hK70_ _ _ ?_)
      clear hK70_ K70_
      refine W_keepB [4, 8, 12, 125] fun B74 hB74_ => ?_
      simp only [e_, Nat.reduceAdd, Nat.reduceBEq] at hB74_
      subst hB74_
      refine W_region [142, 125] rfl ?_
      refine Ops_step (R_add rfl rfl (wIc (n := i + 1) (by omega) (by omega))) rfl rfl ?_
      refine Ops_step (R_move rfl) rfl rfl ?_
      refine Ops_nil ?_
      exact ⟨8 - (i + 1), _, by omega, rfl, ⟨i + 1, by omega, rfl, rfl, hB12, hB4, hB8, hF⟩, ⟨rfl, rfl, rfl, trivial⟩⟩
     ·
      have hi8 : i = 8 := by omega
      subst hi8
      refine W_exit ?_
      refine then_exit ?_
      clear hK69_ K69_
      refine then_exit ?_
      refine block_exit ?_
      refine then_n (hK65_ _ _ ?_)
      clear hK65_ K65_
      refine W_seq_k fun K75_ hK75_ => ?_
      refine W_region [143, none] rfl (Ops_step (R_loadW ag125 sz125 rfl hB4 (by rw [List.length_map, mixed_length _ _ (by omega), hh])) rfl rfl ?_)
      refine Ops_to0 (R_storeN sz125 (by simp [mixed_length, hh]) rfl rfl hB8 (by rw [lz8]; decide) allw) rfl ?_
      clear hB8
      rintro _ w76_ ⟨hB8, hF76_⟩
      replace hB12 := hB12.fr hF76_ (by simp only [mc_]; omega)
      replace hB4 := hB4.fr hF76_ (by simp only [mc_]; omega)
      replace hF := hF.then hF76_ (by simp only [mc_]; intro i_ hi_ hj_; omega)
      clear hF76_
      replace hB8 := hB8.to (cs' := (Bl.mix h bs n last).map w32) (by rw [Bl.mix_eq, ← e0, ← take10, ← e9, ← mixed_all (Bl.outw h v9) h hh]; exact over4 (n := 8) lz8 (by rw [List.length_map, mixed_length _ _ (by omega), hh]))
      refine Ops_nil ?_
      refine then_n (hK75_ _ _ ?_)
      clear hK75_ K75_
      refine W_ret ?_
      refine ⟨_, ⟨_, _, _, rfl, rfl, run_loadVarN ag125 sz125 hB8 (by rw [List.length_map, mix_len]; decide), rfl⟩, ?_⟩
      exact ⟨by simp [mix_len, List.take_of_length_le, tupled], hF⟩
   ·
    replace hB12 := hB12.to (cs' := (Bl.start h n last).map w32) (by rw [start_ref, hc77, e3, e2, e1]; rfl)
    refine W_skip ?_
    refine then_n (hK40_ _ _ ?_)
    clear hK40_ K40_
    refine W_seq_k fun K77_ hK77_ => ?_
    refine W_region [82, 83, 84, 85, 86, 87, 88, 89, 90, 15, none] rfl ?_
    refine named (Bl.start h n last) fun v0 e0 => ?_
    have l0 : v0.length = 16 := by rw [e0]; exact start_length hh _ _
    rw [← e0] at hB12
    refine Ops_step (R_build (pl := [(0, 1), (1, 1), (2, 1), (3, 1)]) (cs := (rows8.getD 0 []).map ci) zr142 pl142 rfl rfl (by kernel_rfl)) rfl rfl ?_
    refine Ops_step (R_build (pl := [(0, 1), (1, 1), (2, 1), (3, 1)]) (cs := (rows8.getD 1 []).map ci) zr142 pl142 rfl rfl (by kernel_rfl)) rfl rfl ?_
    refine Ops_step (R_build (pl := [(0, 1), (1, 1), (2, 1), (3, 1)]) (cs := (rows8.getD 2 []).map ci) zr142 pl142 rfl rfl (by kernel_rfl)) rfl rfl ?_
    refine Ops_step (R_build (pl := [(0, 1), (1, 1), (2, 1), (3, 1)]) (cs := (rows8.getD 3 []).map ci) zr142 pl142 rfl rfl (by kernel_rfl)) rfl rfl ?_
    refine Ops_step (R_build (pl := [(0, 1), (1, 1), (2, 1), (3, 1)]) (cs := (rows8.getD 4 []).map ci) zr142 pl142 rfl rfl (by kernel_rfl)) rfl rfl ?_
    refine Ops_step (R_build (pl := [(0, 1), (1, 1), (2, 1), (3, 1)]) (cs := (rows8.getD 5 []).map ci) zr142 pl142 rfl rfl (by kernel_rfl)) rfl rfl ?_
    refine Ops_step (R_build (pl := [(0, 1), (1, 1), (2, 1), (3, 1)]) (cs := (rows8.getD 6 []).map ci) zr142 pl142 rfl rfl (by kernel_rfl)) rfl rfl ?_
    refine Ops_step (R_build (pl := [(0, 1), (1, 1), (2, 1), (3, 1)]) (cs := (rows8.getD 7 []).map ci) zr142 pl142 rfl rfl (by kernel_rfl)) rfl rfl ?_
    refine Ops_step (R_build (pl := [(0, 4), (4, 4), (8, 4), (12, 4), (16, 4), (20, 4), (24, 4), (28, 4)]) (cs := rowCI) zr143 pl143 rfl rfl (by kernel_rfl)) rfl rfl ?_
    have hn15_hB12 := hB12.lt
    have hn15_hB13 := hB13.lt
    have hn15_hB9 := hB9.lt
    have hn15_hB4 := hB4.lt
    have hn15_hB8 := hB8.lt
    have hz15_hF := hF.size
    refine Ops_to (R_alloc zr143) rfl rfl ?_
    rintro _ w15_ ⟨b15, rfl, hb15, hB15, hF15_⟩
    have hl15 := hB15.lt
    replace hB12 := hB12.fr0 hF15_
    replace hB13 := hB13.fr0 hF15_
    replace hB9 := hB9.fr0 hF15_
    replace hB4 := hB4.fr0 hF15_
    replace hB8 := hB8.fr0 hF15_
    replace hF := hF.fr0 hF15_
    clear hF15_
    refine Ops_to0 (R_storeN sz143 (by kernel_rfl) rfl rfl hB15 (by simp) (by kernel_rfl)) rfl ?_
    clear hB15
    rintro _ w78_ ⟨hB15, hF78_⟩
    replace hB12 := hB12.fr hF78_ (by simp only [mc_]; omega)
    replace hB13 := hB13.fr hF78_ (by simp only [mc_]; omega)
    replace hB9 := hB9.fr hF78_ (by simp only [mc_]; omega)
    replace hB4 := hB4.fr hF78_ (by simp only [mc_]; omega)
    replace hB8 := hB8.fr hF78_ (by simp only [mc_]; omega)
    replace hF := hF.then hF78_ (by simp only [mc_]; intro i_ hi_ hj_; omega)
    clear hF78_
    replace hB15 := hB15.to (cs' := rowCI) (by kernel_rfl)
    refine Ops_nil ?_
    refine then_n (hK77_ _ _ ?_)
    clear hK77_ K77_
    refine W_keepB [4, 8, 9, 12, 15] fun B79 hB79_ => ?_
    simp only [e_, Nat.reduceAdd, Nat.reduceBEq] at hB79_
    subst hB79_
    refine W_seq_k fun K80_ hK80_ => ?_
    refine W_seq_k fun K81_ hK81_ => ?_
    refine W_region [91, 92] rfl ?_
    refine Ops_call (C_func bd107 rfl) rfl rfl ?_
    refine (rorders_any _).mono ?_
    rintro _ w91_ ⟨rfl, hF91_⟩
    replace hB12 := hB12.fr0 hF91_
    replace hB13 := hB13.fr0 hF91_
    replace hB9 := hB9.fr0 hF91_
    replace hB4 := hB4.fr0 hF91_
    replace hB8 := hB8.fr0 hF91_
    replace hF := hF.fr0 hF91_
    replace hB15 := hB15.fr0 hF91_
    clear hF91_
    refine ⟨_, rfl, ?_⟩
    refine Ops_step (R_move rfl) rfl rfl ?_
    refine Ops_nil ?_
    refine then_n (hK81_ _ _ ?_)
    clear hK81_ K81_
    refine W_block ?_
    refine W_loopB [4, 8, 9, 12, 15, 91] [92] (fun m vs w' => ∃ i, i ≤ 10 ∧ m = 10 - i ∧ vs = [vi (i : Nat)] ∧ Blk w' b12 120 (((Bl.orders.take i).foldl (Bl.round (Bl.words bs)) v0).map w32) ∧ Blk w' b15 143 rowCI ∧ Blk w' b9 120 ((Bl.words bs).map w32) ∧ Blk w' b4 125 (h.map w32) ∧ Blk w' b8 125 zs8 ∧ Fr [] w w') (10) _ rfl (⟨0, by omega, rfl, rfl, hB12, hB15, hB9, hB4, hB8, hF⟩) fun B82 hB82_ => ?_
    simp only [e_, Nat.reduceAdd, Nat.reduceBEq] at hB82_
    subst hB82_
    clear hB12 hB15 hB9 hB4 hB8 hF hB13
    rintro m_ vs_ w0_ ⟨i, hi, rfl, rfl, hB12, hB15, hB9, hB4, hB8, hF⟩
    refine W_seq_k fun K83_ hK83_ => ?_
    refine W_region [93] rfl (Ops_step (R_lss rfl rfl) rfl rfl ?_)
    refine Ops_nil ?_
    refine then_n (hK83_ _ _ ?_)
    clear hK83_ K83_
    refine W_seq_k fun K84_ hK84_ => ?_
    refine W_if rfl (fun hc93 => ?_) (fun hc93 => ?_)
    ·
     have hi10 : i < 10 := by omega
     refine named ((Bl.orders.take i).foldl (Bl.round (Bl.words bs)) v0) fun v5 e5 => ?_
     rw [← e5] at hB12
     have l5 : v5.length = 16 := by rw [e5, foldl_length _ (round_length _), l0]
     refine W_skip ?_
     refine then_n (hK84_ _ _ ?_)
     clear hK84_ K84_
     refine W_seq_k fun K85_ hK85_ => ?_
     refine W_block ?_
     refine W_seq_k fun K86_ hK86_ => ?_
     refine W_region [94, 17, none] rfl (Ops_step (R_indexN Tryd.underlying145 sz144 ag144 rfl rfl (by omega) (by omega)) rfl rfl ?_)
     have hn17_hB12 := hB12.lt
     have hn17_hB15 := hB15.lt
     have hn17_hB9 := hB9.lt
     have hn17_hB4 := hB4.lt
     have hn17_hB8 := hB8.lt
     have hz17_hF := hF.size
     refine Ops_to (R_alloc zr144) rfl rfl ?_
     rintro _ w17_ ⟨b17, rfl, hb17, hB17, hF17_⟩
     have hl17 := hB17.lt
     replace hB12 := hB12.fr0 hF17_
     replace hB15 := hB15.fr0 hF17_
     replace hB9 := hB9.fr0 hF17_
     replace hB4 := hB4.fr0 hF17_
     replace hB8 := hB8.fr0 hF17_
     replace hF := hF.fr0 hF17_
     clear hF17_
     refine Ops_to0 (R_storeN sz144 (ordI_size i hi10) rfl rfl hB17 (by simp) (by rw [ordI_row i hi10]; exact allci)) rfl ?_
     clear hB17
     rintro _ w87_ ⟨hB17, hF87_⟩
     replace hB12 := hB12.fr hF87_ (by simp only [mc_]; omega)
     replace hB15 := hB15.fr hF87_ (by simp only [mc_]; omega)
     replace hB9 := hB9.fr hF87_ (by simp only [mc_]; omega)
     replace hB4 := hB4.fr hF87_ (by simp only [mc_]; omega)
     replace hB8 := hB8.fr hF87_ (by simp only [mc_]; omega)
     replace hF := hF.then hF87_ (by simp only [mc_]; intro i_ hi_ hj_; omega)
     clear hF87_
     replace hB17 := hB17.to (cs' := (Bl.orders.getD i []).map ci) (by rw [ordI_row i hi10]; exact over16 (by simp) (by rw [List.length_map]; exact (ord_ok i hi10).1))
     refine named (Bl.orders.getD i []) fun o eo => ?_
     have ol := (ord_ok i hi10).1
     have oo := (ord_ok i hi10).2
     rw [← eo] at hB17 ol oo
     refine Ops_nil ?_
     refine then_n (hK86_ _ _ ?_)
     clear hK86_ K86_
     refine W_seq_k fun K88_ hK88_ => ?_
     refine W_region [95, 96] rfl (Ops_step (R_loadW ag143 sz143 rfl hB15 (by kernel_rfl)) rfl rfl (Ops_step (R_move rfl) rfl rfl ?_))
     refine Ops_nil ?_
     refine then_n (hK88_ _ _ ?_)
     clear hK88_ K88_
     refine W_block ?_
     refine W_loopB [4, 8, 9, 12, 15, 17, 91, 92, 95] [96] (fun m vs w' => ∃ j, j ≤ 8 ∧ m = 8 - j ∧ vs = [vi (j : Nat)] ∧ Blk w' b12 120 (((List.range j).foldl (Bl.step (Bl.words bs) o) v5).map w32) ∧ Blk w' b17 144 (o.map ci) ∧ Blk w' b15 143 rowCI ∧ Blk w' b9 120 ((Bl.words bs).map w32) ∧ Blk w' b4 125 (h.map w32) ∧ Blk w' b8 125 zs8 ∧ Fr [] w w') (8) _ rfl (⟨0, by omega, rfl, rfl, hB12, hB17, hB15, hB9, hB4, hB8, hF⟩) fun B89 hB89_ => ?_
     simp only [e_, Nat.reduceAdd, Nat.reduceBEq] at hB89_
     subst hB89_
     clear hB12 hB17 hB15 hB9 hB4 hB8 hF
     rintro m_ vs_ w0_ ⟨j, hj, rfl, rfl, hB12, hB17, hB15, hB9, hB4, hB8, hF⟩
     refine W_seq_k fun K90_ hK90_ => ?_
     refine W_region [97] rfl (Ops_step (R_lss rfl rfl) rfl rfl ?_)
     refine Ops_nil ?_
     refine then_n (hK90_ _ _ ?_)
     clear hK90_ K90_
     refine W_seq_k fun K91_ hK91_ => ?_
     refine W_if rfl (fun hc97 => ?_) (fun hc97 => ?_)
     ·
      have hj8 : j < 8 := by omega
      refine named ((List.range j).foldl (Bl.step (Bl.words bs) o) v5) fun v ev => ?_
      rw [← ev] at hB12
      have lv : v.length = 16 := by rw [ev, foldl_length _ (step_length _ _), l5]
      refine W_skip ?_
      refine then_n (hK91_ _ _ ?_)
      clear hK91_ K91_
      refine W_seq_k fun K92_ hK92_ => ?_
      refine W_block ?_
      refine W_seq_k fun K93_ hK93_ => ?_
      refine W_region [98, 99, 19, 18, none] rfl (Ops_step (R_move rfl) rfl rfl (Ops_step (R_indexN Tryd.underlying143 sz142 ag142 rfl rfl (by omega) (by omega)) rfl rfl ?_))
      have hn19_hB12 := hB12.lt
      have hn19_hB17 := hB17.lt
      have hn19_hB15 := hB15.lt
      have hn19_hB9 := hB9.lt
      have hn19_hB4 := hB4.lt
      have hn19_hB8 := hB8.lt
      have hz19_hF := hF.size
      refine Ops_to (R_alloc zr142) rfl rfl ?_
      rintro _ w19_ ⟨b19, rfl, hb19, hB19, hF19_⟩
      have hl19 := hB19.lt
      replace hB12 := hB12.fr0 hF19_
      replace hB17 := hB17.fr0 hF19_
      replace hB15 := hB15.fr0 hF19_
      replace hB9 := hB9.fr0 hF19_
      replace hB4 := hB4.fr0 hF19_
      replace hB8 := hB8.fr0 hF19_
      replace hF := hF.fr0 hF19_
      clear hF19_
      refine Ops_step (R_assign rfl) rfl rfl ?_
      refine Ops_to0 (R_storeN sz142 (rowI_size j hj8) rfl rfl hB19 (by simp) (by rw [rowI_row j hj8]; exact allci)) rfl ?_
      clear hB19
      rintro _ w94_ ⟨hB19, hF94_⟩
      replace hB12 := hB12.fr hF94_ (by simp only [mc_]; omega)
      replace hB17 := hB17.fr hF94_ (by simp only [mc_]; omega)
      replace hB15 := hB15.fr hF94_ (by simp only [mc_]; omega)
      replace hB9 := hB9.fr hF94_ (by simp only [mc_]; omega)
      replace hB4 := hB4.fr hF94_ (by simp only [mc_]; omega)
      replace hB8 := hB8.fr hF94_ (by simp only [mc_]; omega)
      replace hF := hF.then hF94_ (by simp only [mc_]; intro i_ hi_ hj_; omega)
      clear hF94_
      replace hB19 := hB19.to (cs' := (rows8.getD j []).map ci) (by rw [rowI_row j hj8]; exact over4 (n := 4) (by simp) (by rw [List.length_map]; exact row_len hj8))
      have rl := row_len hj8
      refine Ops_nil ?_
      refine then_n (hK93_ _ _ ?_)
      clear hK93_ K93_
      refine W_drawF [100, 101, 102, 103, 104, 105, 106, 107, 108, 109, 110, 111, 112, 113, 114, 115, 116, 117, 118, 119, 120, 121, 122, none] [(0, true), (1, true), (2, true), (3, true), (4, true), (5, true), (6, true), (7, true), (8, true), (9, true), (10, true), (11, true), (12, true), (13, true), (14, true), (15, true), (16, true), (17, true), (18, true), (19, true), (20, true), (21, true), (22, false), (23, false)] TFhd.hm rfl (by kernel_rfl) fun ops95_ w95_ hops95_ hF95_ => ?_
      replace hB12 := hB12.fr0 hF95_
      replace hB17 := hB17.fr0 hF95_
      replace hB15 := hB15.fr0 hF95_
      replace hB9 := hB9.fr0 hF95_
      replace hB4 := hB4.fr0 hF95_
      replace hB8 := hB8.fr0 hF95_
      replace hF := hF.fr0 hF95_
      replace hB19 := hB19.fr0 hF95_
      clear hF95_
      refine HS_loadW ag120 sz120 rfl hB12 (by rw [List.length_map, lv]) rfl rfl ?_
      refine HSp (R_indexArr Tryd.underlying142 sz3 rfl rfl (by omega) (by omega)) rfl rfl ?_
      refine HS_loadB ag3 rfl hB19 (getci (a := 0) (by omega)) rfl rfl ?_
      refine HSp (R_indexArr Tryd.underlying142 sz3 rfl rfl (by omega) (by omega)) rfl rfl ?_
      refine HS_loadB ag3 rfl hB19 (getci (a := 1) (by omega)) rfl rfl ?_
      refine HSp (R_indexArr Tryd.underlying142 sz3 rfl rfl (by omega) (by omega)) rfl rfl ?_
      refine HS_loadB ag3 rfl hB19 (getci (a := 2) (by omega)) rfl rfl ?_
      refine HSp (R_indexArr Tryd.underlying142 sz3 rfl rfl (by omega) (by omega)) rfl rfl ?_
      refine HS_loadB ag3 rfl hB19 (getci (a := 3) (by omega)) rfl rfl ?_
      refine HSp (R_move rfl) rfl rfl ?_
      refine HSp (R_mul rfl rfl (wIc (n := j * 2) (by omega) (by omega))) rfl rfl ?_
      refine HSp (R_indexArr Tryd.underlying144 sz3 rfl rfl (by omega) (by omega)) rfl rfl ?_
      refine HS_loadB ag3 rfl hB17 (getci (a := j * 2) (by omega)) rfl rfl ?_
      refine HSp (R_indexArr Tryd.underlying120 sz119 rfl rfl (by omega) (by have := oo (j * 2) (by omega); omega)) rfl rfl ?_
      refine HS_loadB ag119 rfl hB9 (getw (a := o.getD (j * 2) 0) (by have := oo (j * 2) (by omega); simpa [Bl.words] using this)) rfl rfl ?_
      refine HSp (R_move rfl) rfl rfl ?_
      refine HSp (R_mul rfl rfl (wIc (n := j * 2) (by omega) (by omega))) rfl rfl ?_
      refine HSp (R_add rfl rfl (wIc (n := j * 2 + 1) (by omega) (by omega))) rfl rfl ?_
      refine HSp (R_indexArr Tryd.underlying144 sz3 rfl rfl (by omega) (by omega)) rfl rfl ?_
      refine HS_loadB ag3 rfl hB17 (getci (a := j * 2 + 1) (by omega)) rfl rfl ?_
      refine HSp (R_indexArr Tryd.underlying120 sz119 rfl rfl (by omega) (by have := oo (j * 2 + 1) (by omega); omega)) rfl rfl ?_
      refine HS_loadB ag119 rfl hB9 (getw (a := o.getD (j * 2 + 1) 0) (by have := oo (j * 2 + 1) (by omega); simpa [Bl.words] using this)) rfl rfl ?_
      refine HS_call [] _ rfl (by rw [hops95_]; kernel_rfl) (C_func bd108 rfl) rfl rfl ?_
      refine (rstir_any v lv (rrow j 0) (rrow j 1) (rrow j 2) (rrow j 3) (rrow_lt hj8 (by decide)) (rrow_lt hj8 (by decide)) (rrow_lt hj8 (by decide)) (rrow_lt hj8 (by decide)) _ _ _).mono ?_
      rintro _ w122_ ⟨rfl, hF122_⟩
      replace hB12 := hB12.fr0 hF122_
      replace hB17 := hB17.fr0 hF122_
      replace hB15 := hB15.fr0 hF122_
      replace hB9 := hB9.fr0 hF122_
      replace hB4 := hB4.fr0 hF122_
      replace hB8 := hB8.fr0 hF122_
      replace hF := hF.fr0 hF122_
      replace hB19 := hB19.fr0 hF122_
      clear hF122_
      refine ⟨_, rfl, trivial, ?_⟩
      refine HS_to0 [] _ rfl (by rw [hops95_]; kernel_rfl) (R_storeN sz120 (by simp [Bl.stir_length, lv]) rfl rfl hB12 (by rw [List.length_map, lv]; decide) allw) rfl ?_
      clear hB12
      rintro _ w96_ ⟨hB12, hF96_⟩
      replace hB17 := hB17.fr hF96_ (by simp only [mc_]; omega)
      replace hB15 := hB15.fr hF96_ (by simp only [mc_]; omega)
      replace hB9 := hB9.fr hF96_ (by simp only [mc_]; omega)
      replace hB4 := hB4.fr hF96_ (by simp only [mc_]; omega)
      replace hB8 := hB8.fr hF96_ (by simp only [mc_]; omega)
      replace hF := hF.then hF96_ (by simp only [mc_]; intro i_ hi_ hj_; omega)
      replace hB19 := hB19.fr hF96_ (by simp only [mc_]; omega)
      clear hF96_
      replace hB12 := hB12.to (cs' := ((List.range (j + 1)).foldl (Bl.step (Bl.words bs) o) v5).map w32) (by rw [range_foldl, ← ev, ← row_step _ _ _ hj8, Nat.mul_comm 2 j]; exact over4 (n := 16) (by rw [List.length_map, lv]) (by rw [List.length_map, Bl.stir_length, lv]))
      refine ⟨trivial, ?_⟩
      refine HS_nil ?_
      clear hops95_
      refine block_n ?_
      refine then_n (hK92_ _ _ ?_)
      clear hK92_ K92_
      refine W_keepB [4, 8, 9, 12, 15, 17, 91, 92, 95, 96] fun B97 hB97_ => ?_
      simp only [e_, Nat.reduceAdd, Nat.reduceBEq] at hB97_
      subst hB97_
      refine W_region [123, 96] rfl ?_
      refine Ops_step (R_add rfl rfl (wIc (n := j + 1) (by omega) (by omega))) rfl rfl ?_
      refine Ops_step (R_move rfl) rfl rfl ?_
      refine Ops_nil ?_
      exact ⟨8 - (j + 1), _, by omega, rfl, ⟨j + 1, by omega, rfl, rfl, hB12, hB17, hB15, hB9, hB4, hB8, hF⟩, ⟨rfl, rfl, rfl, rfl, rfl, rfl, rfl, rfl, rfl, trivial⟩⟩
     ·
      have hj4 : j = 8 := by omega
      subst hj4
      replace hB12 := hB12.to (cs' := ((Bl.orders.take (i + 1)).foldl (Bl.round (Bl.words bs)) v0).map w32) (by rw [ord_take hi10, List.foldl_append, ← e5, ← eo, round_one8])
      refine W_exit ?_
      refine then_exit ?_
      clear hK91_ K91_
      refine then_exit ?_
      refine block_exit ?_
      refine block_n ?_
      refine then_n (hK85_ _ _ ?_)
      clear hK85_ K85_
      refine W_region [124, 92] rfl ?_
      refine Ops_step (R_add rfl rfl (wIc (n := i + 1) (by omega) (by omega))) rfl rfl ?_
      refine Ops_step (R_move rfl) rfl rfl ?_
      refine Ops_nil ?_
      exact ⟨10 - (i + 1), _, by omega, rfl, ⟨i + 1, by omega, rfl, rfl, hB12, hB15, hB9, hB4, hB8, hF⟩, ⟨rfl, rfl, rfl, rfl, rfl, rfl, trivial⟩⟩
    ·
     have hi10 : i = 10 := by omega
     subst hi10
     refine named ((Bl.orders.take 10).foldl (Bl.round (Bl.words bs)) v0) fun v9 e9 => ?_
     rw [← e9] at hB12
     have l9 : v9.length = 16 := by rw [e9, foldl_length _ (round_length _), l0]
     refine W_exit ?_
     refine then_exit ?_
     clear hK84_ K84_
     refine then_exit ?_
     refine block_exit ?_
     refine then_n (hK80_ _ _ ?_)
     clear hK80_ K80_
     refine W_seq_k fun K98_ hK98_ => ?_
     refine W_seq_k fun K99_ hK99_ => ?_
     refine W_region [125] rfl (Ops_step (R_move rfl) rfl rfl ?_)
     refine Ops_nil ?_
     refine then_n (hK99_ _ _ ?_)
     clear hK99_ K99_
     refine W_block ?_
     refine W_loopB [4, 8, 12] [125] (fun m vs w' => ∃ i, i ≤ 8 ∧ m = 8 - i ∧ vs = [vi (i : Nat)] ∧ Blk w' b12 120 (v9.map w32) ∧ Blk w' b4 125 ((mixed (Bl.outw h v9) h i).map w32) ∧ Blk w' b8 125 zs8 ∧ Fr [] w w') (8) _ rfl (⟨0, by omega, rfl, rfl, hB12, hB4, hB8, hF⟩) fun B100 hB100_ => ?_
     simp only [e_, Nat.reduceAdd, Nat.reduceBEq] at hB100_
     subst hB100_
     clear hB12 hB4 hB8 hF hB9 hB15
     rintro m_ vs_ w0_ ⟨i, hi, rfl, rfl, hB12, hB4, hB8, hF⟩
     refine W_seq_k fun K101_ hK101_ => ?_
     refine W_region [126] rfl (Ops_step (R_lss rfl rfl) rfl rfl ?_)
     refine Ops_nil ?_
     refine then_n (hK101_ _ _ ?_)
     clear hK101_ K101_
     refine W_seq_k fun K102_ hK102_ => ?_
     refine W_if rfl (fun hc126 => ?_) (fun hc126 => ?_)
     ·
      refine W_skip ?_
      refine then_n (hK102_ _ _ ?_)
      clear hK102_ K102_
      refine W_seq_k fun K103_ hK103_ => ?_
      refine W_block ?_
      refine W_seq_k fun K104_ hK104_ => ?_
      refine W_region [127, 20] rfl (Ops_step (R_move rfl) rfl rfl (Ops_step (R_assign rfl) rfl rfl ?_))
      refine Ops_nil ?_
      refine then_n (hK104_ _ _ ?_)
      clear hK104_ K104_
      refine W_drawF [128, 129, 130, 131, 132, 133, 134, 135, 136, 137, 138, 139, 140, 141, none] [(0, true), (1, true), (2, true), (3, true), (4, true), (5, true), (6, true), (7, true), (8, true), (9, true), (10, true), (11, true), (12, true), (13, true), (14, false)] TFhd.hm rfl (by kernel_rfl) fun ops105_ w105_ hops105_ hF105_ => ?_
      replace hB12 := hB12.fr0 hF105_
      replace hB4 := hB4.fr0 hF105_
      replace hB8 := hB8.fr0 hF105_
      replace hF := hF.fr0 hF105_
      clear hF105_
      refine HSp (R_move rfl) rfl rfl (HSp (R_move rfl) rfl rfl (HSp (R_indexArr Tryd.underlying125 sz119 rfl rfl (by omega) (by omega)) rfl rfl ?_))
      refine HS_loadB ag119 rfl hB4 (getw (a := i) (by rw [mixed_length _ _ (by omega)]; omega)) rfl rfl ?_
      refine HSp (R_move rfl) rfl rfl (HSp (R_indexArr Tryd.underlying120 sz119 rfl rfl (by omega) (by omega)) rfl rfl ?_)
      refine HS_loadB ag119 rfl hB12 (getw (a := i) (by omega)) rfl rfl ?_
      refine HSp (R_xor rfl rfl (xor32 _ _)) rfl rfl (HSp (R_move rfl) rfl rfl ?_)
      refine HSp (R_add rfl rfl (wIc (n := i + 8) (by omega) (by omega))) rfl rfl ?_
      refine HSp (R_indexArr Tryd.underlying120 sz119 rfl rfl (by omega) (by omega)) rfl rfl ?_
      refine HS_loadB ag119 rfl hB12 (getw (a := i + 8) (by omega)) rfl rfl ?_
      refine HSp (R_xor rfl rfl (xor32 _ _)) rfl rfl (HSp (R_indexArr Tryd.underlying125 sz119 rfl rfl (by omega) (by omega)) rfl rfl ?_)
      refine HS_to0 [] _ rfl (by rw [hops105_]; kernel_rfl) (R_store sz119 rfl rfl hB4 (by rw [List.length_map, mixed_length _ _ (by omega)]; omega) rfl) rfl ?_
      clear hB4
      rintro _ w106_ ⟨hB4, hF106_⟩
      replace hB12 := hB12.fr hF106_ (by simp only [mc_]; omega)
      replace hB8 := hB8.fr hF106_ (by simp only [mc_]; omega)
      replace hF := hF.then hF106_ (by simp only [mc_]; intro i_ hi_ hj_; omega)
      clear hF106_
      replace hB4 := hB4.to (cs' := (mixed (Bl.outw h v9) h (i + 1)).map w32) (by rw [mixed_get _ _ _ (by omega), Nat.add_comm i 8, setw]; exact congrArg (List.map w32) (mixed_set (Bl.outw h v9) h (by omega)))
      refine ⟨trivial, ?_⟩
      refine HS_nil ?_
      clear hops105_
      refine block_n ?_
      refine then_n (hK103_ _ _ ?_)
      clear hK103_ K103_
      refine W_keepB [4, 8, 12, 125] fun B107 hB107_ => ?_
      simp only [e_, Nat.reduceAdd, Nat.reduceBEq] at hB107_
      subst hB107_
      refine W_region [142, 125] rfl ?_
      refine Ops_step (R_add rfl rfl (wIc (n := i + 1) (by omega) (by omega))) rfl rfl ?_
      refine Ops_step (R_move rfl) rfl rfl ?_
      refine Ops_nil ?_
      exact ⟨8 - (i + 1), _, by omega, rfl, ⟨i + 1, by omega, rfl, rfl, hB12, hB4, hB8, hF⟩, ⟨rfl, rfl, rfl, trivial⟩⟩
     ·
      have hi8 : i = 8 := by omega
      subst hi8
      refine W_exit ?_
      refine then_exit ?_
      clear hK102_ K102_
      refine then_exit ?_
      refine block_exit ?_
      refine then_n (hK98_ _ _ ?_)
      clear hK98_ K98_
      refine W_seq_k fun K108_ hK108_ => ?_
      refine W_region [143, none] rfl (Ops_step (R_loadW ag125 sz125 rfl hB4 (by rw [List.length_map, mixed_length _ _ (by omega), hh])) rfl rfl ?_)
      refine Ops_to0 (R_storeN sz125 (by simp [mixed_length, hh]) rfl rfl hB8 (by rw [lz8]; decide) allw) rfl ?_
      clear hB8
      rintro _ w109_ ⟨hB8, hF109_⟩
      replace hB12 := hB12.fr hF109_ (by simp only [mc_]; omega)
      replace hB4 := hB4.fr hF109_ (by simp only [mc_]; omega)
      replace hF := hF.then hF109_ (by simp only [mc_]; intro i_ hi_ hj_; omega)
      clear hF109_
      replace hB8 := hB8.to (cs' := (Bl.mix h bs n last).map w32) (by rw [Bl.mix_eq, ← e0, ← take10, ← e9, ← mixed_all (Bl.outw h v9) h hh]; exact over4 (n := 8) lz8 (by rw [List.length_map, mixed_length _ _ (by omega), hh]))
      refine Ops_nil ?_
      refine then_n (hK108_ _ _ ?_)
      clear hK108_ K108_
      refine W_ret ?_
      refine ⟨_, ⟨_, _, _, rfl, rfl, run_loadVarN ag125 sz125 hB8 (by rw [List.length_map, mix_len]; decide), rfl⟩, ?_⟩
      exact ⟨by simp [mix_len, List.take_of_length_le, tupled], hF⟩

end Go.Proofs.YtbjmngacjdcddaaDoor

