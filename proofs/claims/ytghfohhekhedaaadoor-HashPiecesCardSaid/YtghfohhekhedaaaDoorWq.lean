/- What the walks of this seat show of Wq. -/
import Derived.Test.YtghfohhekhedaaaDoorBr
import Derived.Test.YtghfohhekhedaaaDoorWp
import Derived.Test.YtghfohhekhedaaaDoorProg
set_option linter.unusedVariables false
set_option linter.unusedSimpArgs false
namespace Go.Proofs.YtghfohhekhedaaaDoor
open Go Go.Sx

namespace TWq
theorem hm : Tryd.prog.follows .mixedOrders = true := by kernel_rfl
theorem ag34 : aggB Tryd.prog 34 = some false := by kernel_rfl
theorem ag35 : aggB Tryd.prog 35 = some true := by kernel_rfl
theorem ag36 : aggB Tryd.prog 36 = some true := by kernel_rfl
theorem ag63 : aggB Tryd.prog 63 = some true := by kernel_rfl
theorem bd40 : bodied Tryd.prog 40 = true := by kernel_rfl
theorem pl35 : partPl Tryd.prog 35 = some [(0, 1), (1, 1), (2, 1), (3, 1), (4, 1), (5, 1), (6, 1), (7, 1)] := by kernel_rfl
theorem sz34 : sz Tryd.prog 34 = some 1 := by kernel_rfl
theorem sz35 : sz Tryd.prog 35 = some 8 := by kernel_rfl
theorem sz36 : sz Tryd.prog 36 = some 8 := by kernel_rfl
theorem sz63 : sz Tryd.prog 63 = some 16 := by kernel_rfl
theorem zr35 : zr Tryd.prog 35 = some (List.replicate 8 (.int .u32 0)) := by kernel_rfl
theorem zr63 : zr Tryd.prog 63 = some (List.replicate 16 (.int .u32 0)) := by kernel_rfl
end TWq
set_option maxHeartbeats 4000000 in
theorem right_any (x : BitVec 32) (k : Nat) (hk : k ≤ 32) (w : World) : Calls Tryd.prog 40 #[w32 x, vi k] w fun e w2 => e = .returned (w32 (rotN x k)) ∧ w2 = w := by
  refine calls_W 18 Tryd.func40 rfl Tryd.ntmps40 rfl [.tmp 4] rfl ?_
  refine W_seq_k fun K1_ hK1_ => ?_
  refine W_region [some 4] rfl ?_
  refine Ops_step (R_assign rfl) rfl rfl ?_
  refine Ops_nil ?_
  refine then_n (hK1_ _ _ ?_)
  clear hK1_ K1_
  refine W_seq_k fun K2_ hK2_ => ?_
  refine W_seq_k fun K3_ hK3_ => ?_
  refine W_region [some 6, some 7] rfl ?_
  refine Ops_step (R_move rfl) rfl rfl ?_
  refine Ops_step (R_move rfl) rfl rfl ?_
  refine Ops_nil ?_
  refine then_n (hK3_ _ _ ?_)
  clear hK3_ K3_
  refine W_block ?_
  refine W_loopB [6] [0, 7] (fun m vs w' => ∃ i, i ≤ k ∧ m = k - i ∧ vs = [w32 (rotN x i), vi (i : Nat)] ∧ w' = w) (k) _ rfl (⟨0, by omega, rfl, rfl, rfl⟩) fun B4 hB4_ => ?_
  simp only [pickE, lookE, putE, zipE, args0, Nat.reduceAdd, Nat.zero_add, List.cons_append, List.nil_append, Nat.reduceBEq, cond_true, cond_false] at hB4_
  subst hB4_
  rintro m_ vs_ w0_ ⟨i, hi, rfl, rfl, rfl⟩
  refine W_seq_k fun K5_ hK5_ => ?_
  refine W_region [some 8] rfl ?_
  refine Ops_step (R_lss rfl rfl) rfl rfl ?_
  refine Ops_nil ?_
  refine then_n (hK5_ _ _ ?_)
  clear hK5_ K5_
  refine W_seq_k fun K6_ hK6_ => ?_
  refine W_if rfl (fun hc8 => ?_) (fun hc8 => ?_)
  · refine W_skip ?_
    refine then_n (hK6_ _ _ ?_)
    clear hK6_ K6_
    refine W_seq_k fun K7_ hK7_ => ?_
    refine W_block ?_
    refine W_seq_k fun K8_ hK8_ => ?_
    refine W_region [some 9, some 10, some 5] rfl ?_
    refine Ops_step (R_move rfl) rfl rfl ?_
    refine Ops_step (R_rem rfl rfl (by decide) (remc _ 2)) rfl rfl ?_
    refine Ops_step (R_assign rfl) rfl rfl ?_
    refine Ops_nil ?_
    refine then_n (hK8_ _ _ ?_)
    clear hK8_ K8_
    refine W_region [some 11, some 12, some 13, some 14, some 15, some 0] rfl ?_
    refine Ops_step (R_move rfl) rfl rfl ?_
    refine Ops_step (R_quo rfl rfl (by decide) (show _ = (((rotN x i).toNat / 2 : Nat) : Int) by rw [show ((rotN x i).toNat : Int).tdiv 2 = (((rotN x i).toNat / 2 : Nat) : Int) from rfl, wU32]; omega)) rfl rfl ?_
    refine Ops_step (R_move rfl) rfl rfl ?_
    refine Ops_step (R_mul rfl rfl (show _ = (((rotN x i).toNat % 2 * 2147483648 : Nat) : Int) by rw [wU32]; omega)) rfl rfl ?_
    refine Ops_step (R_add rfl rfl (show _ = ((rot1 (rotN x i)).toNat : Int) by rw [wU32, rot1_nat]; have := (rotN x i).isLt; omega)) rfl rfl ?_
    refine Ops_step (R_assign rfl) rfl rfl ?_
    refine Ops_nil ?_
    refine block_n ?_
    refine then_n (hK7_ _ _ ?_)
    clear hK7_ K7_
    refine W_keepB [0, 6, 7] fun B9 hB9_ => ?_
    simp only [pickE, lookE, putE, zipE, args0, Nat.reduceAdd, Nat.zero_add, List.cons_append, List.nil_append, Nat.reduceBEq, cond_true, cond_false] at hB9_
    subst hB9_
    refine W_region [some 16, some 7] rfl ?_
    refine Ops_step (R_add rfl rfl (wIc (n := i + 1) (by omega) (by omega))) rfl rfl ?_
    refine Ops_step (R_move rfl) rfl rfl ?_
    refine Ops_nil ?_
    exact ⟨k - (i + 1), _, by omega, rfl, ⟨i + 1, by omega, rfl, rfl, rfl⟩, ⟨rfl, trivial⟩⟩
  · have hik : i = k := by omega
    subst hik
    refine W_exit ?_
    refine then_exit ?_
    clear hK6_ K6_
    refine then_exit ?_
    refine block_exit ?_
    refine then_n (hK2_ _ _ ?_)
    clear hK2_ K2_
    refine W_seq_k fun K10_ hK10_ => ?_
    refine W_region [some 17, some 4] rfl ?_
    refine Ops_step (R_move rfl) rfl rfl ?_
    refine Ops_step (R_assign rfl) rfl rfl ?_
    refine Ops_nil ?_
    refine then_n (hK10_ _ _ ?_)
    clear hK10_ K10_
    refine W_ret ?_
    refine ⟨_, ⟨_, _, rfl, rfl, rfl⟩, ?_⟩
    exact ⟨rfl, rfl⟩
set_option maxHeartbeats 4000000 in
theorem rwords_any (w : World) : Calls Tryd.prog 32 #[] w fun e w2 => e = .returned (.agg (Bl.first.map w32).toArray) ∧ Fr [] w w2 := by
  have hF := Fr.refl [] w
  refine calls_W 2 Tryd.func32 rfl Tryd.ntmps32 rfl [.cell 0 35] rfl ?_
  refine W_seq_k fun K1_ hK1_ => ?_
  refine W_region [some 0] rfl ?_
  have hz0_hF := hF.size
  refine Ops_to (R_alloc TWq.zr35) rfl rfl ?_
  rintro _ w0_ ⟨b0, rfl, hb0, hB0, hF0_⟩
  have hl0 := hB0.lt
  replace hF := hF.fr0 hF0_
  clear hF0_
  refine Ops_nil ?_
  refine then_n (hK1_ _ _ ?_)
  clear hK1_ K1_
  refine W_seq_k fun K2_ hK2_ => ?_
  refine W_region [some 1, none] rfl ?_
  refine Ops_step (R_build (pl := [(0, 1), (1, 1), (2, 1), (3, 1), (4, 1), (5, 1), (6, 1), (7, 1)]) (cs := Bl.first.map w32) TWq.zr35 TWq.pl35 rfl rfl (by kernel_rfl)) rfl rfl ?_
  refine Ops_to0 (R_storeN TWq.sz35 rfl rfl rfl hB0 (by decide) allw) rfl ?_
  clear hB0
  rintro _ w3_ ⟨hB0, hF3_⟩
  replace hF := hF.then hF3_ (by simp only [List.mem_cons, List.not_mem_nil, or_false]; intro i_ hi_ hj_; omega)
  clear hF3_
  replace hB0 := hB0.to (cs' := Bl.first.map w32) (by kernel_rfl)
  refine Ops_nil ?_
  refine then_n (hK2_ _ _ ?_)
  clear hK2_ K2_
  refine W_ret ?_
  refine ⟨_, ⟨_, _, _, rfl, rfl, run_loadVarN TWq.ag35 TWq.sz35 hB0 (by decide), rfl⟩, ?_⟩
  exact ⟨rfl, hF⟩

theorem rr16 (x : BitVec 32) (w : World) : Calls Tryd.prog 40 #[w32 x, vi 16] w fun e w2 => e = .returned (w32 (Bl.ror x 16)) ∧ w2 = w := by rw [← rotN_ror x 16 (by decide)]; exact right_any x 16 (by decide) w
theorem rr12 (x : BitVec 32) (w : World) : Calls Tryd.prog 40 #[w32 x, vi 12] w fun e w2 => e = .returned (w32 (Bl.ror x 12)) ∧ w2 = w := by rw [← rotN_ror x 12 (by decide)]; exact right_any x 12 (by decide) w
theorem rr8 (x : BitVec 32) (w : World) : Calls Tryd.prog 40 #[w32 x, vi 8] w fun e w2 => e = .returned (w32 (Bl.ror x 8)) ∧ w2 = w := by rw [← rotN_ror x 8 (by decide)]; exact right_any x 8 (by decide) w
theorem rr7 (x : BitVec 32) (w : World) : Calls Tryd.prog 40 #[w32 x, vi 7] w fun e w2 => e = .returned (w32 (Bl.ror x 7)) ∧ w2 = w := by rw [← rotN_ror x 7 (by decide)]; exact right_any x 7 (by decide) w
set_option maxHeartbeats 4000000 in
theorem rstir_any (v0 : List (BitVec 32)) (hv : v0.length = 16) (a1 b1 c1 d1 : Nat) (ha : a1 < 16) (hb : b1 < 16) (hc : c1 < 16) (hd : d1 < 16) (x y : BitVec 32) (w : World) :
    Calls Tryd.prog 38 #[.agg (v0.map w32).toArray, vi a1, vi b1, vi c1, vi d1, w32 x, w32 y] w fun e w2 => e = .returned (.agg ((Bl.stir v0 a1 b1 c1 d1 x y).map w32).toArray) ∧ Fr [] w w2 := by
  have hF := Fr.refl [] w
  refine calls_W 96 Tryd.func38 rfl Tryd.ntmps38 rfl [.cell 14 63] rfl ?_
  refine W_seq_k fun K1_ hK1_ => ?_
  refine W_region [some 7, some 14] rfl ?_
  have hz7_hF := hF.size
  refine Ops_to (R_box rfl) rfl rfl ?_
  rintro _ w7_ ⟨b7, rfl, hb7, hB7, hF7_⟩
  have hl7 := hB7.lt
  replace hF := hF.fr0 hF7_
  clear hF7_
  replace hB7 : Blk _ b7 63 (v0.map w32) := hB7
  have hz14_hF := hF.size
  have hn14_hB7 := hB7.lt
  refine Ops_to (R_alloc TWq.zr63) rfl rfl ?_
  rintro _ w14_ ⟨b14, rfl, hb14, hB14, hF14_⟩
  have hl14 := hB14.lt
  replace hF := hF.fr0 hF14_
  replace hB7 := hB7.fr0 hF14_
  clear hF14_
  refine Ops_nil ?_
  refine then_n (hK1_ _ _ ?_)
  clear hK1_ K1_
  refine W_seq_k fun K2_ hK2_ => ?_
  refine W_drawF [some 15, some 16, some 17, some 18, some 19, some 20, some 21, some 22, some 23, some 24, some 25, none] [(0, true), (1, true), (2, true), (3, true), (4, true), (5, true), (6, true), (7, true), (8, true), (9, true), (10, true), (11, false)] TWq.hm rfl (by kernel_rfl) fun ops3_ w3_ hops3_ hF3_ => ?_
  replace hF := hF.fr0 hF3_
  replace hB7 := hB7.fr0 hF3_
  replace hB14 := hB14.fr0 hF3_
  clear hF3_
  refine HS_pure (fun w_ => R_move rfl) rfl rfl ?_
  refine HS_pure (fun w_ => R_move rfl) rfl rfl ?_
  refine HS_pure (fun w_ => R_indexArr Tryd.underlying63 TWq.sz34 rfl rfl (by omega) (by omega)) rfl rfl ?_
  refine HS_loadB TWq.ag34 rfl hB7 (getw (by omega)) rfl rfl ?_
  refine HS_pure (fun w_ => R_move rfl) rfl rfl ?_
  refine HS_pure (fun w_ => R_indexArr Tryd.underlying63 TWq.sz34 rfl rfl (by omega) (by omega)) rfl rfl ?_
  refine HS_loadB TWq.ag34 rfl hB7 (getw (by omega)) rfl rfl ?_
  refine HS_pure (fun w_ => R_add rfl rfl (add32 _ _)) rfl rfl ?_
  refine HS_pure (fun w_ => R_move rfl) rfl rfl ?_
  refine HS_pure (fun w_ => R_add rfl rfl (add32 _ _)) rfl rfl ?_
  refine HS_pure (fun w_ => R_indexArr Tryd.underlying63 TWq.sz34 rfl rfl (by omega) (by omega)) rfl rfl ?_
  refine HS_to0 [] _ rfl (by rw [hops3_]; kernel_rfl) (R_store TWq.sz34 rfl rfl hB7 (by simp only [List.length_map]; omega) rfl) rfl ?_
  clear hB7
  rintro _ w4_ ⟨hB7, hF4_⟩
  replace hF := hF.then hF4_ (by simp only [List.mem_cons, List.not_mem_nil, or_false]; intro i_ hi_ hj_; omega)
  replace hB14 := hB14.fr hF4_ (by simp only [List.mem_cons, List.not_mem_nil, or_false]; omega)
  clear hF4_
  rw [setw] at hB7
  refine named (Bl.addS v0 a1 b1 x) fun v1 e1 => ?_
  have l1 : v1.length = 16 := by rw [e1]; simp only [Bl.addS_length, Bl.addT_length, Bl.xorS_length]; omega
  replace hB7 := hB7.to (cs' := v1.map w32) (by rw [e1]; rw [Bl.addS, ← BitVec.add_assoc])
  refine ⟨trivial, ?_⟩
  refine HS_nil ?_
  clear hops3_
  refine then_n (hK2_ _ _ ?_)
  clear hK2_ K2_
  refine W_keepB [1, 2, 3, 4, 6, 7, 14] fun B5 hB5_ => ?_
  simp only [pickE, lookE, putE, zipE, args0, Nat.reduceAdd, Nat.zero_add, List.cons_append, List.nil_append, Nat.reduceBEq, cond_true, cond_false] at hB5_
  subst hB5_
  refine W_seq_k fun K6_ hK6_ => ?_
  refine W_drawF [some 26, some 27, some 28, some 29, some 30, some 31, some 32, some 33, some 34, some 35, none] [(0, true), (1, true), (2, true), (3, true), (4, true), (5, true), (6, true), (7, true), (8, false), (9, true), (10, false)] TWq.hm rfl (by kernel_rfl) fun ops7_ w7_ hops7_ hF7_ => ?_
  replace hF := hF.fr0 hF7_
  replace hB7 := hB7.fr0 hF7_
  replace hB14 := hB14.fr0 hF7_
  clear hF7_
  refine HS_pure (fun w_ => R_move rfl) rfl rfl ?_
  refine HS_pure (fun w_ => R_move rfl) rfl rfl ?_
  refine HS_pure (fun w_ => R_indexArr Tryd.underlying63 TWq.sz34 rfl rfl (by omega) (by omega)) rfl rfl ?_
  refine HS_loadB TWq.ag34 rfl hB7 (getw (by omega)) rfl rfl ?_
  refine HS_pure (fun w_ => R_move rfl) rfl rfl ?_
  refine HS_pure (fun w_ => R_indexArr Tryd.underlying63 TWq.sz34 rfl rfl (by omega) (by omega)) rfl rfl ?_
  refine HS_loadB TWq.ag34 rfl hB7 (getw (by omega)) rfl rfl ?_
  refine HS_pure (fun w_ => R_xor rfl rfl (xor32 _ _)) rfl rfl ?_
  refine HS_call [] _ rfl (by rw [hops7_]; kernel_rfl) (C_func TWq.bd40 rfl) rfl rfl ?_
  refine (rr16 _ _).mono ?_
  rintro _ _ ⟨rfl, rfl⟩
  refine ⟨_, rfl, trivial, ?_⟩
  refine HS_pure (fun w_ => R_indexArr Tryd.underlying63 TWq.sz34 rfl rfl (by omega) (by omega)) rfl rfl ?_
  refine HS_to0 [] _ rfl (by rw [hops7_]; kernel_rfl) (R_store TWq.sz34 rfl rfl hB7 (by simp only [List.length_map]; omega) rfl) rfl ?_
  clear hB7
  rintro _ w8_ ⟨hB7, hF8_⟩
  replace hF := hF.then hF8_ (by simp only [List.mem_cons, List.not_mem_nil, or_false]; intro i_ hi_ hj_; omega)
  replace hB14 := hB14.fr hF8_ (by simp only [List.mem_cons, List.not_mem_nil, or_false]; omega)
  clear hF8_
  rw [setw] at hB7
  refine named (Bl.xorS v1 d1 a1 16) fun v2 e2 => ?_
  have l2 : v2.length = 16 := by rw [e2]; simp only [Bl.addS_length, Bl.addT_length, Bl.xorS_length]; omega
  replace hB7 := hB7.to (cs' := v2.map w32) (by rw [e2]; rfl)
  refine ⟨trivial, ?_⟩
  refine HS_nil ?_
  clear hops7_
  refine then_n (hK6_ _ _ ?_)
  clear hK6_ K6_
  refine W_keepB [1, 2, 3, 4, 6, 7, 14] fun B9 hB9_ => ?_
  simp only [pickE, lookE, putE, zipE, args0, Nat.reduceAdd, Nat.zero_add, List.cons_append, List.nil_append, Nat.reduceBEq, cond_true, cond_false] at hB9_
  subst hB9_
  refine W_seq_k fun K10_ hK10_ => ?_
  refine W_drawF [some 36, some 37, some 38, some 39, some 40, some 41, some 42, some 43, some 44, none] [(0, true), (1, true), (2, true), (3, true), (4, true), (5, true), (6, true), (7, true), (8, true), (9, false)] TWq.hm rfl (by kernel_rfl) fun ops11_ w11_ hops11_ hF11_ => ?_
  replace hF := hF.fr0 hF11_
  replace hB7 := hB7.fr0 hF11_
  replace hB14 := hB14.fr0 hF11_
  clear hF11_
  refine HS_pure (fun w_ => R_move rfl) rfl rfl ?_
  refine HS_pure (fun w_ => R_move rfl) rfl rfl ?_
  refine HS_pure (fun w_ => R_indexArr Tryd.underlying63 TWq.sz34 rfl rfl (by omega) (by omega)) rfl rfl ?_
  refine HS_loadB TWq.ag34 rfl hB7 (getw (by omega)) rfl rfl ?_
  refine HS_pure (fun w_ => R_move rfl) rfl rfl ?_
  refine HS_pure (fun w_ => R_indexArr Tryd.underlying63 TWq.sz34 rfl rfl (by omega) (by omega)) rfl rfl ?_
  refine HS_loadB TWq.ag34 rfl hB7 (getw (by omega)) rfl rfl ?_
  refine HS_pure (fun w_ => R_add rfl rfl (add32 _ _)) rfl rfl ?_
  refine HS_pure (fun w_ => R_indexArr Tryd.underlying63 TWq.sz34 rfl rfl (by omega) (by omega)) rfl rfl ?_
  refine HS_to0 [] _ rfl (by rw [hops11_]; kernel_rfl) (R_store TWq.sz34 rfl rfl hB7 (by simp only [List.length_map]; omega) rfl) rfl ?_
  clear hB7
  rintro _ w12_ ⟨hB7, hF12_⟩
  replace hF := hF.then hF12_ (by simp only [List.mem_cons, List.not_mem_nil, or_false]; intro i_ hi_ hj_; omega)
  replace hB14 := hB14.fr hF12_ (by simp only [List.mem_cons, List.not_mem_nil, or_false]; omega)
  clear hF12_
  rw [setw] at hB7
  refine named (Bl.addT v2 c1 d1) fun v3 e3 => ?_
  have l3 : v3.length = 16 := by rw [e3]; simp only [Bl.addS_length, Bl.addT_length, Bl.xorS_length]; omega
  replace hB7 := hB7.to (cs' := v3.map w32) (by rw [e3]; rfl)
  refine ⟨trivial, ?_⟩
  refine HS_nil ?_
  clear hops11_
  refine then_n (hK10_ _ _ ?_)
  clear hK10_ K10_
  refine W_keepB [1, 2, 3, 4, 6, 7, 14] fun B13 hB13_ => ?_
  simp only [pickE, lookE, putE, zipE, args0, Nat.reduceAdd, Nat.zero_add, List.cons_append, List.nil_append, Nat.reduceBEq, cond_true, cond_false] at hB13_
  subst hB13_
  refine W_seq_k fun K14_ hK14_ => ?_
  refine W_drawF [some 45, some 46, some 47, some 48, some 49, some 50, some 51, some 52, some 53, some 54, none] [(0, true), (1, true), (2, true), (3, true), (4, true), (5, true), (6, true), (7, true), (8, false), (9, true), (10, false)] TWq.hm rfl (by kernel_rfl) fun ops15_ w15_ hops15_ hF15_ => ?_
  replace hF := hF.fr0 hF15_
  replace hB7 := hB7.fr0 hF15_
  replace hB14 := hB14.fr0 hF15_
  clear hF15_
  refine HS_pure (fun w_ => R_move rfl) rfl rfl ?_
  refine HS_pure (fun w_ => R_move rfl) rfl rfl ?_
  refine HS_pure (fun w_ => R_indexArr Tryd.underlying63 TWq.sz34 rfl rfl (by omega) (by omega)) rfl rfl ?_
  refine HS_loadB TWq.ag34 rfl hB7 (getw (by omega)) rfl rfl ?_
  refine HS_pure (fun w_ => R_move rfl) rfl rfl ?_
  refine HS_pure (fun w_ => R_indexArr Tryd.underlying63 TWq.sz34 rfl rfl (by omega) (by omega)) rfl rfl ?_
  refine HS_loadB TWq.ag34 rfl hB7 (getw (by omega)) rfl rfl ?_
  refine HS_pure (fun w_ => R_xor rfl rfl (xor32 _ _)) rfl rfl ?_
  refine HS_call [] _ rfl (by rw [hops15_]; kernel_rfl) (C_func TWq.bd40 rfl) rfl rfl ?_
  refine (rr12 _ _).mono ?_
  rintro _ _ ⟨rfl, rfl⟩
  refine ⟨_, rfl, trivial, ?_⟩
  refine HS_pure (fun w_ => R_indexArr Tryd.underlying63 TWq.sz34 rfl rfl (by omega) (by omega)) rfl rfl ?_
  refine HS_to0 [] _ rfl (by rw [hops15_]; kernel_rfl) (R_store TWq.sz34 rfl rfl hB7 (by simp only [List.length_map]; omega) rfl) rfl ?_
  clear hB7
  rintro _ w16_ ⟨hB7, hF16_⟩
  replace hF := hF.then hF16_ (by simp only [List.mem_cons, List.not_mem_nil, or_false]; intro i_ hi_ hj_; omega)
  replace hB14 := hB14.fr hF16_ (by simp only [List.mem_cons, List.not_mem_nil, or_false]; omega)
  clear hF16_
  rw [setw] at hB7
  refine named (Bl.xorS v3 b1 c1 12) fun v4 e4 => ?_
  have l4 : v4.length = 16 := by rw [e4]; simp only [Bl.addS_length, Bl.addT_length, Bl.xorS_length]; omega
  replace hB7 := hB7.to (cs' := v4.map w32) (by rw [e4]; rfl)
  refine ⟨trivial, ?_⟩
  refine HS_nil ?_
  clear hops15_
  refine then_n (hK14_ _ _ ?_)
  clear hK14_ K14_
  refine W_keepB [1, 2, 3, 4, 6, 7, 14] fun B17 hB17_ => ?_
  simp only [pickE, lookE, putE, zipE, args0, Nat.reduceAdd, Nat.zero_add, List.cons_append, List.nil_append, Nat.reduceBEq, cond_true, cond_false] at hB17_
  subst hB17_
  refine W_seq_k fun K18_ hK18_ => ?_
  refine W_drawF [some 55, some 56, some 57, some 58, some 59, some 60, some 61, some 62, some 63, some 64, some 65, none] [(0, true), (1, true), (2, true), (3, true), (4, true), (5, true), (6, true), (7, true), (8, true), (9, true), (10, true), (11, false)] TWq.hm rfl (by kernel_rfl) fun ops19_ w19_ hops19_ hF19_ => ?_
  replace hF := hF.fr0 hF19_
  replace hB7 := hB7.fr0 hF19_
  replace hB14 := hB14.fr0 hF19_
  clear hF19_
  refine HS_pure (fun w_ => R_move rfl) rfl rfl ?_
  refine HS_pure (fun w_ => R_move rfl) rfl rfl ?_
  refine HS_pure (fun w_ => R_indexArr Tryd.underlying63 TWq.sz34 rfl rfl (by omega) (by omega)) rfl rfl ?_
  refine HS_loadB TWq.ag34 rfl hB7 (getw (by omega)) rfl rfl ?_
  refine HS_pure (fun w_ => R_move rfl) rfl rfl ?_
  refine HS_pure (fun w_ => R_indexArr Tryd.underlying63 TWq.sz34 rfl rfl (by omega) (by omega)) rfl rfl ?_
  refine HS_loadB TWq.ag34 rfl hB7 (getw (by omega)) rfl rfl ?_
  refine HS_pure (fun w_ => R_add rfl rfl (add32 _ _)) rfl rfl ?_
  refine HS_pure (fun w_ => R_move rfl) rfl rfl ?_
  refine HS_pure (fun w_ => R_add rfl rfl (add32 _ _)) rfl rfl ?_
  refine HS_pure (fun w_ => R_indexArr Tryd.underlying63 TWq.sz34 rfl rfl (by omega) (by omega)) rfl rfl ?_
  refine HS_to0 [] _ rfl (by rw [hops19_]; kernel_rfl) (R_store TWq.sz34 rfl rfl hB7 (by simp only [List.length_map]; omega) rfl) rfl ?_
  clear hB7
  rintro _ w20_ ⟨hB7, hF20_⟩
  replace hF := hF.then hF20_ (by simp only [List.mem_cons, List.not_mem_nil, or_false]; intro i_ hi_ hj_; omega)
  replace hB14 := hB14.fr hF20_ (by simp only [List.mem_cons, List.not_mem_nil, or_false]; omega)
  clear hF20_
  rw [setw] at hB7
  refine named (Bl.addS v4 a1 b1 y) fun v5 e5 => ?_
  have l5 : v5.length = 16 := by rw [e5]; simp only [Bl.addS_length, Bl.addT_length, Bl.xorS_length]; omega
  replace hB7 := hB7.to (cs' := v5.map w32) (by rw [e5]; rw [Bl.addS, ← BitVec.add_assoc])
  refine ⟨trivial, ?_⟩
  refine HS_nil ?_
  clear hops19_
  refine then_n (hK18_ _ _ ?_)
  clear hK18_ K18_
  refine W_keepB [1, 2, 3, 4, 7, 14] fun B21 hB21_ => ?_
  simp only [pickE, lookE, putE, zipE, args0, Nat.reduceAdd, Nat.zero_add, List.cons_append, List.nil_append, Nat.reduceBEq, cond_true, cond_false] at hB21_
  subst hB21_
  refine W_seq_k fun K22_ hK22_ => ?_
  refine W_drawF [some 66, some 67, some 68, some 69, some 70, some 71, some 72, some 73, some 74, some 75, none] [(0, true), (1, true), (2, true), (3, true), (4, true), (5, true), (6, true), (7, true), (8, false), (9, true), (10, false)] TWq.hm rfl (by kernel_rfl) fun ops23_ w23_ hops23_ hF23_ => ?_
  replace hF := hF.fr0 hF23_
  replace hB7 := hB7.fr0 hF23_
  replace hB14 := hB14.fr0 hF23_
  clear hF23_
  refine HS_pure (fun w_ => R_move rfl) rfl rfl ?_
  refine HS_pure (fun w_ => R_move rfl) rfl rfl ?_
  refine HS_pure (fun w_ => R_indexArr Tryd.underlying63 TWq.sz34 rfl rfl (by omega) (by omega)) rfl rfl ?_
  refine HS_loadB TWq.ag34 rfl hB7 (getw (by omega)) rfl rfl ?_
  refine HS_pure (fun w_ => R_move rfl) rfl rfl ?_
  refine HS_pure (fun w_ => R_indexArr Tryd.underlying63 TWq.sz34 rfl rfl (by omega) (by omega)) rfl rfl ?_
  refine HS_loadB TWq.ag34 rfl hB7 (getw (by omega)) rfl rfl ?_
  refine HS_pure (fun w_ => R_xor rfl rfl (xor32 _ _)) rfl rfl ?_
  refine HS_call [] _ rfl (by rw [hops23_]; kernel_rfl) (C_func TWq.bd40 rfl) rfl rfl ?_
  refine (rr8 _ _).mono ?_
  rintro _ _ ⟨rfl, rfl⟩
  refine ⟨_, rfl, trivial, ?_⟩
  refine HS_pure (fun w_ => R_indexArr Tryd.underlying63 TWq.sz34 rfl rfl (by omega) (by omega)) rfl rfl ?_
  refine HS_to0 [] _ rfl (by rw [hops23_]; kernel_rfl) (R_store TWq.sz34 rfl rfl hB7 (by simp only [List.length_map]; omega) rfl) rfl ?_
  clear hB7
  rintro _ w24_ ⟨hB7, hF24_⟩
  replace hF := hF.then hF24_ (by simp only [List.mem_cons, List.not_mem_nil, or_false]; intro i_ hi_ hj_; omega)
  replace hB14 := hB14.fr hF24_ (by simp only [List.mem_cons, List.not_mem_nil, or_false]; omega)
  clear hF24_
  rw [setw] at hB7
  refine named (Bl.xorS v5 d1 a1 8) fun v6 e6 => ?_
  have l6 : v6.length = 16 := by rw [e6]; simp only [Bl.addS_length, Bl.addT_length, Bl.xorS_length]; omega
  replace hB7 := hB7.to (cs' := v6.map w32) (by rw [e6]; rfl)
  refine ⟨trivial, ?_⟩
  refine HS_nil ?_
  clear hops23_
  refine then_n (hK22_ _ _ ?_)
  clear hK22_ K22_
  refine W_keepB [2, 3, 4, 7, 14] fun B25 hB25_ => ?_
  simp only [pickE, lookE, putE, zipE, args0, Nat.reduceAdd, Nat.zero_add, List.cons_append, List.nil_append, Nat.reduceBEq, cond_true, cond_false] at hB25_
  subst hB25_
  refine W_seq_k fun K26_ hK26_ => ?_
  refine W_drawF [some 76, some 77, some 78, some 79, some 80, some 81, some 82, some 83, some 84, none] [(0, true), (1, true), (2, true), (3, true), (4, true), (5, true), (6, true), (7, true), (8, true), (9, false)] TWq.hm rfl (by kernel_rfl) fun ops27_ w27_ hops27_ hF27_ => ?_
  replace hF := hF.fr0 hF27_
  replace hB7 := hB7.fr0 hF27_
  replace hB14 := hB14.fr0 hF27_
  clear hF27_
  refine HS_pure (fun w_ => R_move rfl) rfl rfl ?_
  refine HS_pure (fun w_ => R_move rfl) rfl rfl ?_
  refine HS_pure (fun w_ => R_indexArr Tryd.underlying63 TWq.sz34 rfl rfl (by omega) (by omega)) rfl rfl ?_
  refine HS_loadB TWq.ag34 rfl hB7 (getw (by omega)) rfl rfl ?_
  refine HS_pure (fun w_ => R_move rfl) rfl rfl ?_
  refine HS_pure (fun w_ => R_indexArr Tryd.underlying63 TWq.sz34 rfl rfl (by omega) (by omega)) rfl rfl ?_
  refine HS_loadB TWq.ag34 rfl hB7 (getw (by omega)) rfl rfl ?_
  refine HS_pure (fun w_ => R_add rfl rfl (add32 _ _)) rfl rfl ?_
  refine HS_pure (fun w_ => R_indexArr Tryd.underlying63 TWq.sz34 rfl rfl (by omega) (by omega)) rfl rfl ?_
  refine HS_to0 [] _ rfl (by rw [hops27_]; kernel_rfl) (R_store TWq.sz34 rfl rfl hB7 (by simp only [List.length_map]; omega) rfl) rfl ?_
  clear hB7
  rintro _ w28_ ⟨hB7, hF28_⟩
  replace hF := hF.then hF28_ (by simp only [List.mem_cons, List.not_mem_nil, or_false]; intro i_ hi_ hj_; omega)
  replace hB14 := hB14.fr hF28_ (by simp only [List.mem_cons, List.not_mem_nil, or_false]; omega)
  clear hF28_
  rw [setw] at hB7
  refine named (Bl.addT v6 c1 d1) fun v7 e7 => ?_
  have l7 : v7.length = 16 := by rw [e7]; simp only [Bl.addS_length, Bl.addT_length, Bl.xorS_length]; omega
  replace hB7 := hB7.to (cs' := v7.map w32) (by rw [e7]; rfl)
  refine ⟨trivial, ?_⟩
  refine HS_nil ?_
  clear hops27_
  refine then_n (hK26_ _ _ ?_)
  clear hK26_ K26_
  refine W_keepB [2, 3, 7, 14] fun B29 hB29_ => ?_
  simp only [pickE, lookE, putE, zipE, args0, Nat.reduceAdd, Nat.zero_add, List.cons_append, List.nil_append, Nat.reduceBEq, cond_true, cond_false] at hB29_
  subst hB29_
  refine W_seq_k fun K30_ hK30_ => ?_
  refine W_drawF [some 85, some 86, some 87, some 88, some 89, some 90, some 91, some 92, some 93, some 94, none] [(0, true), (1, true), (2, true), (3, true), (4, true), (5, true), (6, true), (7, true), (8, false), (9, true), (10, false)] TWq.hm rfl (by kernel_rfl) fun ops31_ w31_ hops31_ hF31_ => ?_
  replace hF := hF.fr0 hF31_
  replace hB7 := hB7.fr0 hF31_
  replace hB14 := hB14.fr0 hF31_
  clear hF31_
  refine HS_pure (fun w_ => R_move rfl) rfl rfl ?_
  refine HS_pure (fun w_ => R_move rfl) rfl rfl ?_
  refine HS_pure (fun w_ => R_indexArr Tryd.underlying63 TWq.sz34 rfl rfl (by omega) (by omega)) rfl rfl ?_
  refine HS_loadB TWq.ag34 rfl hB7 (getw (by omega)) rfl rfl ?_
  refine HS_pure (fun w_ => R_move rfl) rfl rfl ?_
  refine HS_pure (fun w_ => R_indexArr Tryd.underlying63 TWq.sz34 rfl rfl (by omega) (by omega)) rfl rfl ?_
  refine HS_loadB TWq.ag34 rfl hB7 (getw (by omega)) rfl rfl ?_
  refine HS_pure (fun w_ => R_xor rfl rfl (xor32 _ _)) rfl rfl ?_
  refine HS_call [] _ rfl (by rw [hops31_]; kernel_rfl) (C_func TWq.bd40 rfl) rfl rfl ?_
  refine (rr7 _ _).mono ?_
  rintro _ _ ⟨rfl, rfl⟩
  refine ⟨_, rfl, trivial, ?_⟩
  refine HS_pure (fun w_ => R_indexArr Tryd.underlying63 TWq.sz34 rfl rfl (by omega) (by omega)) rfl rfl ?_
  refine HS_to0 [] _ rfl (by rw [hops31_]; kernel_rfl) (R_store TWq.sz34 rfl rfl hB7 (by simp only [List.length_map]; omega) rfl) rfl ?_
  clear hB7
  rintro _ w32_ ⟨hB7, hF32_⟩
  replace hF := hF.then hF32_ (by simp only [List.mem_cons, List.not_mem_nil, or_false]; intro i_ hi_ hj_; omega)
  replace hB14 := hB14.fr hF32_ (by simp only [List.mem_cons, List.not_mem_nil, or_false]; omega)
  clear hF32_
  rw [setw] at hB7
  refine named (Bl.xorS v7 b1 c1 7) fun v8 e8 => ?_
  have l8 : v8.length = 16 := by rw [e8]; simp only [Bl.addS_length, Bl.addT_length, Bl.xorS_length]; omega
  replace hB7 := hB7.to (cs' := v8.map w32) (by rw [e8]; rfl)
  refine ⟨trivial, ?_⟩
  refine HS_nil ?_
  clear hops31_
  refine then_n (hK30_ _ _ ?_)
  clear hK30_ K30_
  refine W_keepB [7, 14] fun B33 hB33_ => ?_
  simp only [pickE, lookE, putE, zipE, args0, Nat.reduceAdd, Nat.zero_add, List.cons_append, List.nil_append, Nat.reduceBEq, cond_true, cond_false] at hB33_
  subst hB33_
  refine W_seq_k fun K34_ hK34_ => ?_
  refine W_region [some 95, none] rfl ?_
  refine Ops_step (R_loadN TWq.ag63 TWq.sz63 rfl hB7 (by rw [List.length_map, l8]; decide)) rfl rfl ?_
  refine Ops_to0 (R_storeN TWq.sz63 (by simp [l8]) rfl rfl hB14 (by simp) (all_cut allw _ _)) rfl ?_
  clear hB14
  rintro _ w35_ ⟨hB14, hF35_⟩
  replace hF := hF.then hF35_ (by simp only [List.mem_cons, List.not_mem_nil, or_false]; intro i_ hi_ hj_; omega)
  replace hB7 := hB7.fr hF35_ (by simp only [List.mem_cons, List.not_mem_nil, or_false]; omega)
  clear hF35_
  replace hB14 := hB14.to (cs' := v8.map w32) (over_whole (by simp) (by rw [List.length_map, l8]))
  refine Ops_nil ?_
  refine then_n (hK34_ _ _ ?_)
  clear hK34_ K34_
  refine W_ret ?_
  refine ⟨_, ⟨_, _, _, rfl, rfl, run_loadVarN TWq.ag63 TWq.sz63 hB14 (by rw [List.length_map, l8]; decide), rfl⟩, ?_⟩
  exact ⟨by rw [Bl.stir, ← e1, ← e2, ← e3, ← e4, ← e5, ← e6, ← e7, ← e8]; simp [l8, List.take_of_length_le, tupled], hF⟩

end Go.Proofs.YtghfohhekhedaaaDoor
