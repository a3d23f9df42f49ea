/- What the walks of this seat show of Wa. -/
import Derived.Test.YtghfohhekhedaaaDoorBm
import Derived.Test.YtghfohhekhedaaaDoorProg
set_option linter.unusedVariables false
set_option linter.unusedSimpArgs false
namespace Go.Proofs.YtghfohhekhedaaaDoor
open Go Go.Sx

namespace TWa
theorem hm : Tryd.prog.follows .mixedOrders = true := by kernel_rfl
theorem ag34 : aggB Tryd.prog 34 = some false := by kernel_rfl
theorem ag36 : aggB Tryd.prog 36 = some true := by kernel_rfl
theorem bd39 : bodied Tryd.prog 39 = true := by kernel_rfl
theorem pl36 : partPl Tryd.prog 36 = some [(0, 1), (1, 1), (2, 1), (3, 1), (4, 1), (5, 1), (6, 1), (7, 1)] := by kernel_rfl
theorem sz34 : sz Tryd.prog 34 = some 1 := by kernel_rfl
theorem sz36 : sz Tryd.prog 36 = some 8 := by kernel_rfl
theorem zr36 : zr Tryd.prog 36 = some (List.replicate 8 (.int .u32 0)) := by kernel_rfl
end TWa
set_option maxHeartbeats 4000000 in
theorem rot_any (x : BitVec 32) (k : Int) (w : World) : Calls Tryd.prog 39 #[w32 x, vi k] w fun e w2 => e = .returned (w32 (rotl x (BitVec.ofInt 64 k &&& 31#64).toNat)) ∧ w = w2 := by
  have hs := and31 (BitVec.ofInt 64 k)
  have h32 : (32#64).toNat = 32 := rfl
  refine calls_W 17 Tryd.func39 rfl Tryd.ntmps39 rfl [.tmp 4] rfl ?_
  refine W_seq_k fun K1_ hK1_ => ?_
  refine W_region [some 4] rfl ?_
  refine Ops_step (R_assign rfl) rfl rfl ?_
  refine Ops_nil ?_
  refine then_n (hK1_ _ _ ?_)
  clear hK1_ K1_
  refine W_seq_k fun K2_ hK2_ => ?_
  refine W_region [some 6, some 7, some 8, some 5] rfl ?_
  refine Ops_step (R_move rfl) rfl rfl ?_
  refine Ops_step (R_conv Tryd.underlying3 Tryd.underlying51 rfl (cI_64 _)) rfl rfl ?_
  refine Ops_step (R_and rfl rfl (and64 _ (31#64))) rfl rfl ?_
  refine Ops_step (R_assign rfl) rfl rfl ?_
  refine Ops_nil ?_
  refine then_n (hK2_ _ _ ?_)
  clear hK2_ K2_
  refine W_seq_k fun K3_ hK3_ => ?_
  refine W_region [some 9, some 10, some 11, some 12, some 13, some 14, some 15, some 16, some 4] rfl ?_
  refine Ops_step (R_move rfl) rfl rfl ?_
  refine Ops_step (R_move rfl) rfl rfl ?_
  refine Ops_step (R_shl rfl rfl (by omega) (shl32 _ _ (by omega))) rfl rfl ?_
  refine Ops_step (R_move rfl) rfl rfl ?_
  refine Ops_step (R_move rfl) rfl rfl ?_
  refine Ops_step (R_sub rfl rfl (sub64n 32#64 _ (by omega))) rfl rfl ?_
  refine Ops_step (R_shr rfl rfl (by omega) (shr32 _ _ (by omega))) rfl rfl ?_
  refine Ops_step (R_or rfl rfl (or32 _ _)) rfl rfl ?_
  refine Ops_step (R_assign rfl) rfl rfl ?_
  refine Ops_nil ?_
  refine then_n (hK3_ _ _ ?_)
  clear hK3_ K3_
  refine W_keepB [4] fun B4 hB4_ => ?_
  simp only [pickE, lookE, putE, zipE, args0, Nat.reduceAdd, Nat.zero_add, List.cons_append, List.nil_append, Nat.reduceBEq, cond_true, cond_false] at hB4_
  subst hB4_
  refine W_ret ?_
  refine ⟨_, ⟨_, _, rfl, rfl, rfl⟩, ?_⟩
  exact ⟨rfl, rfl⟩

theorem ror16 (x : BitVec 32) (w : World) : Calls Tryd.prog 39 #[w32 x, vi (-16)] w fun e w2 => e = .returned (w32 (Bl.ror x 16)) ∧ w = w2 := rot_any x (-16) w
theorem ror12 (x : BitVec 32) (w : World) : Calls Tryd.prog 39 #[w32 x, vi (-12)] w fun e w2 => e = .returned (w32 (Bl.ror x 12)) ∧ w = w2 := rot_any x (-12) w
theorem ror8 (x : BitVec 32) (w : World) : Calls Tryd.prog 39 #[w32 x, vi (-8)] w fun e w2 => e = .returned (w32 (Bl.ror x 8)) ∧ w = w2 := rot_any x (-8) w
theorem ror7 (x : BitVec 32) (w : World) : Calls Tryd.prog 39 #[w32 x, vi (-7)] w fun e w2 => e = .returned (w32 (Bl.ror x 7)) ∧ w = w2 := rot_any x (-7) w
set_option maxHeartbeats 4000000 in
theorem stir_any (v0 : List (BitVec 32)) (hv : v0.length = 16) (b : Nat) (t : TypeId) (a1 b1 c1 d1 : Nat) (ha : a1 < 16) (hb : b1 < 16) (hc : c1 < 16) (hd : d1 < 16) (x y : BitVec 32) (w : World) (hG : Blk w b t (v0.map w32)) :
    Calls Tryd.prog 36 #[.pointer (some ⟨b, 0, none⟩), vi a1, vi b1, vi c1, vi d1, w32 x, w32 y] w fun e w2 => e = .returned (.tuple #[]) ∧ Blk w2 b t ((Bl.stir v0 a1 b1 c1 d1 x y).map w32) ∧ Fr [b] w w2 := by
  have hF := Fr.refl [b] w
  refine calls_W 134 Tryd.func36 rfl Tryd.ntmps36 rfl [] rfl ?_
  refine W_seq_k fun K1_ hK1_ => ?_
  refine W_drawF [some 14, some 15, some 16, some 17, some 18, some 19, some 20, some 21, some 22, some 23, some 24, some 25, some 26, some 27, some 28, none] [(0, true), (1, true), (2, true), (3, true), (4, true), (5, true), (6, true), (7, true), (8, true), (9, true), (10, true), (11, true), (12, true), (13, true), (14, true), (15, false)] TWa.hm rfl (by kernel_rfl) fun ops2_ w2_ hops2_ hF2_ => ?_
  replace hG := hG.fr0 hF2_
  replace hF := hF.fr0 hF2_
  clear hF2_
  refine HS_pure (fun w_ => R_move rfl) rfl rfl ?_
  refine HS_pure (fun w_ => R_move rfl) rfl rfl ?_
  refine HS_pure (fun w_ => R_nilCheck rfl) rfl rfl ?_
  refine HS_pure (fun w_ => R_indexArr Tryd.underlying64 TWa.sz34 rfl rfl (by omega) (by omega)) rfl rfl ?_
  refine HS_loadB TWa.ag34 rfl hG (getw (by omega)) rfl rfl ?_
  refine HS_pure (fun w_ => R_move rfl) rfl rfl ?_
  refine HS_pure (fun w_ => R_move rfl) rfl rfl ?_
  refine HS_pure (fun w_ => R_nilCheck rfl) rfl rfl ?_
  refine HS_pure (fun w_ => R_indexArr Tryd.underlying64 TWa.sz34 rfl rfl (by omega) (by omega)) rfl rfl ?_
  refine HS_loadB TWa.ag34 rfl hG (getw (by omega)) rfl rfl ?_
  refine HS_pure (fun w_ => R_move rfl) rfl rfl ?_
  refine HS_pure (fun w_ => R_add rfl rfl (add32 _ _)) rfl rfl ?_
  refine HS_pure (fun w_ => R_add rfl rfl (add32 _ _)) rfl rfl ?_
  refine HS_pure (fun w_ => R_nilCheck rfl) rfl rfl ?_
  refine HS_pure (fun w_ => R_indexArr Tryd.underlying64 TWa.sz34 rfl rfl (by omega) (by omega)) rfl rfl ?_
  refine HS_to0 [] _ rfl (by rw [hops2_]; kernel_rfl) (R_store TWa.sz34 rfl rfl hG (by simp only [List.length_map]; omega) rfl) rfl ?_
  clear hG
  rintro _ w3_ ⟨hG, hF3_⟩
  replace hF := hF.then hF3_ (by simp only [List.mem_cons, List.not_mem_nil, or_false]; intro i_ hi_ hj_; omega)
  clear hF3_
  rw [setw] at hG
  refine named (Bl.addS v0 a1 b1 x) fun v1 e1 => ?_
  have l1 : v1.length = 16 := by rw [e1]; simp only [Bl.addS_length, Bl.addT_length, Bl.xorS_length]; omega
  replace hG := hG.to (cs' := v1.map w32) (by rw [e1]; rfl)
  refine ⟨trivial, ?_⟩
  refine HS_nil ?_
  clear hops2_
  refine then_n (hK1_ _ _ ?_)
  clear hK1_ K1_
  refine W_keepB [0, 1, 2, 3, 4, 6] fun B4 hB4_ => ?_
  simp only [pickE, lookE, putE, zipE, args0, Nat.reduceAdd, Nat.zero_add, List.cons_append, List.nil_append, Nat.reduceBEq, cond_true, cond_false] at hB4_
  subst hB4_
  refine W_seq_k fun K5_ hK5_ => ?_
  refine W_drawF [some 29, some 30, some 31, some 32, some 33, some 34, some 35, some 36, some 37, some 38, some 39, some 40, some 41, some 42, some 43, some 44, none] [(0, true), (1, true), (2, true), (3, true), (4, true), (5, true), (6, true), (7, true), (8, true), (9, true), (10, true), (11, true), (12, true), (14, true), (13, false), (15, true), (16, false)] TWa.hm rfl (by kernel_rfl) fun ops6_ w6_ hops6_ hF6_ => ?_
  replace hG := hG.fr0 hF6_
  replace hF := hF.fr0 hF6_
  clear hF6_
  refine HS_pure (fun w_ => R_move rfl) rfl rfl ?_
  refine HS_pure (fun w_ => R_move rfl) rfl rfl ?_
  refine HS_pure (fun w_ => R_move rfl) rfl rfl ?_
  refine HS_pure (fun w_ => R_move rfl) rfl rfl ?_
  refine HS_pure (fun w_ => R_nilCheck rfl) rfl rfl ?_
  refine HS_pure (fun w_ => R_indexArr Tryd.underlying64 TWa.sz34 rfl rfl (by omega) (by omega)) rfl rfl ?_
  refine HS_loadB TWa.ag34 rfl hG (getw (by omega)) rfl rfl ?_
  refine HS_pure (fun w_ => R_move rfl) rfl rfl ?_
  refine HS_pure (fun w_ => R_move rfl) rfl rfl ?_
  refine HS_pure (fun w_ => R_nilCheck rfl) rfl rfl ?_
  refine HS_pure (fun w_ => R_indexArr Tryd.underlying64 TWa.sz34 rfl rfl (by omega) (by omega)) rfl rfl ?_
  refine HS_loadB TWa.ag34 rfl hG (getw (by omega)) rfl rfl ?_
  refine HS_pure (fun w_ => R_xor rfl rfl (xor32 _ _)) rfl rfl ?_
  refine HS_pure (fun w_ => R_nilCheck rfl) rfl rfl ?_
  refine HS_call [] _ rfl (by rw [hops6_]; kernel_rfl) (C_func TWa.bd39 rfl) rfl rfl ?_
  refine (ror16 _ _).mono ?_
  rintro _ _ ⟨rfl, rfl⟩
  refine ⟨_, rfl, trivial, ?_⟩
  refine HS_pure (fun w_ => R_indexArr Tryd.underlying64 TWa.sz34 rfl rfl (by omega) (by omega)) rfl rfl ?_
  refine HS_to0 [] _ rfl (by rw [hops6_]; kernel_rfl) (R_store TWa.sz34 rfl rfl hG (by simp only [List.length_map]; omega) rfl) rfl ?_
  clear hG
  rintro _ w7_ ⟨hG, hF7_⟩
  replace hF := hF.then hF7_ (by simp only [List.mem_cons, List.not_mem_nil, or_false]; intro i_ hi_ hj_; omega)
  clear hF7_
  rw [setw] at hG
  refine named (Bl.xorS v1 d1 a1 16) fun v2 e2 => ?_
  have l2 : v2.length = 16 := by rw [e2]; simp only [Bl.addS_length, Bl.addT_length, Bl.xorS_length]; omega
  replace hG := hG.to (cs' := v2.map w32) (by rw [e2]; rfl)
  refine ⟨trivial, ?_⟩
  refine HS_nil ?_
  clear hops6_
  refine then_n (hK5_ _ _ ?_)
  clear hK5_ K5_
  refine W_keepB [0, 1, 2, 3, 4, 6] fun B8 hB8_ => ?_
  simp only [pickE, lookE, putE, zipE, args0, Nat.reduceAdd, Nat.zero_add, List.cons_append, List.nil_append, Nat.reduceBEq, cond_true, cond_false] at hB8_
  subst hB8_
  refine W_seq_k fun K9_ hK9_ => ?_
  refine W_drawF [some 45, some 46, some 47, some 48, some 49, some 50, some 51, some 52, some 53, some 54, some 55, some 56, some 57, none] [(0, true), (1, true), (2, true), (3, true), (4, true), (5, true), (6, true), (7, true), (8, true), (9, true), (10, true), (11, true), (12, true), (13, false)] TWa.hm rfl (by kernel_rfl) fun ops10_ w10_ hops10_ hF10_ => ?_
  replace hG := hG.fr0 hF10_
  replace hF := hF.fr0 hF10_
  clear hF10_
  refine HS_pure (fun w_ => R_move rfl) rfl rfl ?_
  refine HS_pure (fun w_ => R_move rfl) rfl rfl ?_
  refine HS_pure (fun w_ => R_nilCheck rfl) rfl rfl ?_
  refine HS_pure (fun w_ => R_indexArr Tryd.underlying64 TWa.sz34 rfl rfl (by omega) (by omega)) rfl rfl ?_
  refine HS_loadB TWa.ag34 rfl hG (getw (by omega)) rfl rfl ?_
  refine HS_pure (fun w_ => R_move rfl) rfl rfl ?_
  refine HS_pure (fun w_ => R_move rfl) rfl rfl ?_
  refine HS_pure (fun w_ => R_nilCheck rfl) rfl rfl ?_
  refine HS_pure (fun w_ => R_indexArr Tryd.underlying64 TWa.sz34 rfl rfl (by omega) (by omega)) rfl rfl ?_
  refine HS_loadB TWa.ag34 rfl hG (getw (by omega)) rfl rfl ?_
  refine HS_pure (fun w_ => R_add rfl rfl (add32 _ _)) rfl rfl ?_
  refine HS_pure (fun w_ => R_nilCheck rfl) rfl rfl ?_
  refine HS_pure (fun w_ => R_indexArr Tryd.underlying64 TWa.sz34 rfl rfl (by omega) (by omega)) rfl rfl ?_
  refine HS_to0 [] _ rfl (by rw [hops10_]; kernel_rfl) (R_store TWa.sz34 rfl rfl hG (by simp only [List.length_map]; omega) rfl) rfl ?_
  clear hG
  rintro _ w11_ ⟨hG, hF11_⟩
  replace hF := hF.then hF11_ (by simp only [List.mem_cons, List.not_mem_nil, or_false]; intro i_ hi_ hj_; omega)
  clear hF11_
  rw [setw] at hG
  refine named (Bl.addT v2 c1 d1) fun v3 e3 => ?_
  have l3 : v3.length = 16 := by rw [e3]; simp only [Bl.addS_length, Bl.addT_length, Bl.xorS_length]; omega
  replace hG := hG.to (cs' := v3.map w32) (by rw [e3]; rfl)
  refine ⟨trivial, ?_⟩
  refine HS_nil ?_
  clear hops10_
  refine then_n (hK9_ _ _ ?_)
  clear hK9_ K9_
  refine W_keepB [0, 1, 2, 3, 4, 6] fun B12 hB12_ => ?_
  simp only [pickE, lookE, putE, zipE, args0, Nat.reduceAdd, Nat.zero_add, List.cons_append, List.nil_append, Nat.reduceBEq, cond_true, cond_false] at hB12_
  subst hB12_
  refine W_seq_k fun K13_ hK13_ => ?_
  refine W_drawF [some 58, some 59, some 60, some 61, some 62, some 63, some 64, some 65, some 66, some 67, some 68, some 69, some 70, some 71, some 72, some 73, none] [(0, true), (1, true), (2, true), (3, true), (4, true), (5, true), (6, true), (7, true), (8, true), (9, true), (10, true), (11, true), (12, true), (14, true), (13, false), (15, true), (16, false)] TWa.hm rfl (by kernel_rfl) fun ops14_ w14_ hops14_ hF14_ => ?_
  replace hG := hG.fr0 hF14_
  replace hF := hF.fr0 hF14_
  clear hF14_
  refine HS_pure (fun w_ => R_move rfl) rfl rfl ?_
  refine HS_pure (fun w_ => R_move rfl) rfl rfl ?_
  refine HS_pure (fun w_ => R_move rfl) rfl rfl ?_
  refine HS_pure (fun w_ => R_move rfl) rfl rfl ?_
  refine HS_pure (fun w_ => R_nilCheck rfl) rfl rfl ?_
  refine HS_pure (fun w_ => R_indexArr Tryd.underlying64 TWa.sz34 rfl rfl (by omega) (by omega)) rfl rfl ?_
  refine HS_loadB TWa.ag34 rfl hG (getw (by omega)) rfl rfl ?_
  refine HS_pure (fun w_ => R_move rfl) rfl rfl ?_
  refine HS_pure (fun w_ => R_move rfl) rfl rfl ?_
  refine HS_pure (fun w_ => R_nilCheck rfl) rfl rfl ?_
  refine HS_pure (fun w_ => R_indexArr Tryd.underlying64 TWa.sz34 rfl rfl (by omega) (by omega)) rfl rfl ?_
  refine HS_loadB TWa.ag34 rfl hG (getw (by omega)) rfl rfl ?_
  refine HS_pure (fun w_ => R_xor rfl rfl (xor32 _ _)) rfl rfl ?_
  refine HS_pure (fun w_ => R_nilCheck rfl) rfl rfl ?_
  refine HS_call [] _ rfl (by rw [hops14_]; kernel_rfl) (C_func TWa.bd39 rfl) rfl rfl ?_
  refine (ror12 _ _).mono ?_
  rintro _ _ ⟨rfl, rfl⟩
  refine ⟨_, rfl, trivial, ?_⟩
  refine HS_pure (fun w_ => R_indexArr Tryd.underlying64 TWa.sz34 rfl rfl (by omega) (by omega)) rfl rfl ?_
  refine HS_to0 [] _ rfl (by rw [hops14_]; kernel_rfl) (R_store TWa.sz34 rfl rfl hG (by simp only [List.length_map]; omega) rfl) rfl ?_
  clear hG
  rintro _ w15_ ⟨hG, hF15_⟩
  replace hF := hF.then hF15_ (by simp only [List.mem_cons, List.not_mem_nil, or_false]; intro i_ hi_ hj_; omega)
  clear hF15_
  rw [setw] at hG
  refine named (Bl.xorS v3 b1 c1 12) fun v4 e4 => ?_
  have l4 : v4.length = 16 := by rw [e4]; simp only [Bl.addS_length, Bl.addT_length, Bl.xorS_length]; omega
  replace hG := hG.to (cs' := v4.map w32) (by rw [e4]; rfl)
  refine ⟨trivial, ?_⟩
  refine HS_nil ?_
  clear hops14_
  refine then_n (hK13_ _ _ ?_)
  clear hK13_ K13_
  refine W_keepB [0, 1, 2, 3, 4, 6] fun B16 hB16_ => ?_
  simp only [pickE, lookE, putE, zipE, args0, Nat.reduceAdd, Nat.zero_add, List.cons_append, List.nil_append, Nat.reduceBEq, cond_true, cond_false] at hB16_
  subst hB16_
  refine W_seq_k fun K17_ hK17_ => ?_
  refine W_drawF [some 74, some 75, some 76, some 77, some 78, some 79, some 80, some 81, some 82, some 83, some 84, some 85, some 86, some 87, some 88, none] [(0, true), (1, true), (2, true), (3, true), (4, true), (5, true), (6, true), (7, true), (8, true), (9, true), (10, true), (11, true), (12, true), (13, true), (14, true), (15, false)] TWa.hm rfl (by kernel_rfl) fun ops18_ w18_ hops18_ hF18_ => ?_
  replace hG := hG.fr0 hF18_
  replace hF := hF.fr0 hF18_
  clear hF18_
  refine HS_pure (fun w_ => R_move rfl) rfl rfl ?_
  refine HS_pure (fun w_ => R_move rfl) rfl rfl ?_
  refine HS_pure (fun w_ => R_nilCheck rfl) rfl rfl ?_
  refine HS_pure (fun w_ => R_indexArr Tryd.underlying64 TWa.sz34 rfl rfl (by omega) (by omega)) rfl rfl ?_
  refine HS_loadB TWa.ag34 rfl hG (getw (by omega)) rfl rfl ?_
  refine HS_pure (fun w_ => R_move rfl) rfl rfl ?_
  refine HS_pure (fun w_ => R_move rfl) rfl rfl ?_
  refine HS_pure (fun w_ => R_nilCheck rfl) rfl rfl ?_
  refine HS_pure (fun w_ => R_indexArr Tryd.underlying64 TWa.sz34 rfl rfl (by omega) (by omega)) rfl rfl ?_
  refine HS_loadB TWa.ag34 rfl hG (getw (by omega)) rfl rfl ?_
  refine HS_pure (fun w_ => R_move rfl) rfl rfl ?_
  refine HS_pure (fun w_ => R_add rfl rfl (add32 _ _)) rfl rfl ?_
  refine HS_pure (fun w_ => R_add rfl rfl (add32 _ _)) rfl rfl ?_
  refine HS_pure (fun w_ => R_nilCheck rfl) rfl rfl ?_
  refine HS_pure (fun w_ => R_indexArr Tryd.underlying64 TWa.sz34 rfl rfl (by omega) (by omega)) rfl rfl ?_
  refine HS_to0 [] _ rfl (by rw [hops18_]; kernel_rfl) (R_store TWa.sz34 rfl rfl hG (by simp only [List.length_map]; omega) rfl) rfl ?_
  clear hG
  rintro _ w19_ ⟨hG, hF19_⟩
  replace hF := hF.then hF19_ (by simp only [List.mem_cons, List.not_mem_nil, or_false]; intro i_ hi_ hj_; omega)
  clear hF19_
  rw [setw] at hG
  refine named (Bl.addS v4 a1 b1 y) fun v5 e5 => ?_
  have l5 : v5.length = 16 := by rw [e5]; simp only [Bl.addS_length, Bl.addT_length, Bl.xorS_length]; omega
  replace hG := hG.to (cs' := v5.map w32) (by rw [e5]; rfl)
  refine ⟨trivial, ?_⟩
  refine HS_nil ?_
  clear hops18_
  refine then_n (hK17_ _ _ ?_)
  clear hK17_ K17_
  refine W_keepB [0, 1, 2, 3, 4] fun B20 hB20_ => ?_
  simp only [pickE, lookE, putE, zipE, args0, Nat.reduceAdd, Nat.zero_add, List.cons_append, List.nil_append, Nat.reduceBEq, cond_true, cond_false] at hB20_
  subst hB20_
  refine W_seq_k fun K21_ hK21_ => ?_
  refine W_drawF [some 89, some 90, some 91, some 92, some 93, some 94, some 95, some 96, some 97, some 98, some 99, some 100, some 101, some 102, some 103, some 104, none] [(0, true), (1, true), (2, true), (3, true), (4, true), (5, true), (6, true), (7, true), (8, true), (9, true), (10, true), (11, true), (12, true), (14, true), (13, false), (15, true), (16, false)] TWa.hm rfl (by kernel_rfl) fun ops22_ w22_ hops22_ hF22_ => ?_
  replace hG := hG.fr0 hF22_
  replace hF := hF.fr0 hF22_
  clear hF22_
  refine HS_pure (fun w_ => R_move rfl) rfl rfl ?_
  refine HS_pure (fun w_ => R_move rfl) rfl rfl ?_
  refine HS_pure (fun w_ => R_move rfl) rfl rfl ?_
  refine HS_pure (fun w_ => R_move rfl) rfl rfl ?_
  refine HS_pure (fun w_ => R_nilCheck rfl) rfl rfl ?_
  refine HS_pure (fun w_ => R_indexArr Tryd.underlying64 TWa.sz34 rfl rfl (by omega) (by omega)) rfl rfl ?_
  refine HS_loadB TWa.ag34 rfl hG (getw (by omega)) rfl rfl ?_
  refine HS_pure (fun w_ => R_move rfl) rfl rfl ?_
  refine HS_pure (fun w_ => R_move rfl) rfl rfl ?_
  refine HS_pure (fun w_ => R_nilCheck rfl) rfl rfl ?_
  refine HS_pure (fun w_ => R_indexArr Tryd.underlying64 TWa.sz34 rfl rfl (by omega) (by omega)) rfl rfl ?_
  refine HS_loadB TWa.ag34 rfl hG (getw (by omega)) rfl rfl ?_
  refine HS_pure (fun w_ => R_xor rfl rfl (xor32 _ _)) rfl rfl ?_
  refine HS_pure (fun w_ => R_nilCheck rfl) rfl rfl ?_
  refine HS_call [] _ rfl (by rw [hops22_]; kernel_rfl) (C_func TWa.bd39 rfl) rfl rfl ?_
  refine (ror8 _ _).mono ?_
  rintro _ _ ⟨rfl, rfl⟩
  refine ⟨_, rfl, trivial, ?_⟩
  refine HS_pure (fun w_ => R_indexArr Tryd.underlying64 TWa.sz34 rfl rfl (by omega) (by omega)) rfl rfl ?_
  refine HS_to0 [] _ rfl (by rw [hops22_]; kernel_rfl) (R_store TWa.sz34 rfl rfl hG (by simp only [List.length_map]; omega) rfl) rfl ?_
  clear hG
  rintro _ w23_ ⟨hG, hF23_⟩
  replace hF := hF.then hF23_ (by simp only [List.mem_cons, List.not_mem_nil, or_false]; intro i_ hi_ hj_; omega)
  clear hF23_
  rw [setw] at hG
  refine named (Bl.xorS v5 d1 a1 8) fun v6 e6 => ?_
  have l6 : v6.length = 16 := by rw [e6]; simp only [Bl.addS_length, Bl.addT_length, Bl.xorS_length]; omega
  replace hG := hG.to (cs' := v6.map w32) (by rw [e6]; rfl)
  refine ⟨trivial, ?_⟩
  refine HS_nil ?_
  clear hops22_
  refine then_n (hK21_ _ _ ?_)
  clear hK21_ K21_
  refine W_keepB [0, 2, 3, 4] fun B24 hB24_ => ?_
  simp only [pickE, lookE, putE, zipE, args0, Nat.reduceAdd, Nat.zero_add, List.cons_append, List.nil_append, Nat.reduceBEq, cond_true, cond_false] at hB24_
  subst hB24_
  refine W_seq_k fun K25_ hK25_ => ?_
  refine W_drawF [some 105, some 106, some 107, some 108, some 109, some 110, some 111, some 112, some 113, some 114, some 115, some 116, some 117, none] [(0, true), (1, true), (2, true), (3, true), (4, true), (5, true), (6, true), (7, true), (8, true), (9, true), (10, true), (11, true), (12, true), (13, false)] TWa.hm rfl (by kernel_rfl) fun ops26_ w26_ hops26_ hF26_ => ?_
  replace hG := hG.fr0 hF26_
  replace hF := hF.fr0 hF26_
  clear hF26_
  refine HS_pure (fun w_ => R_move rfl) rfl rfl ?_
  refine HS_pure (fun w_ => R_move rfl) rfl rfl ?_
  refine HS_pure (fun w_ => R_nilCheck rfl) rfl rfl ?_
  refine HS_pure (fun w_ => R_indexArr Tryd.underlying64 TWa.sz34 rfl rfl (by omega) (by omega)) rfl rfl ?_
  refine HS_loadB TWa.ag34 rfl hG (getw (by omega)) rfl rfl ?_
  refine HS_pure (fun w_ => R_move rfl) rfl rfl ?_
  refine HS_pure (fun w_ => R_move rfl) rfl rfl ?_
  refine HS_pure (fun w_ => R_nilCheck rfl) rfl rfl ?_
  refine HS_pure (fun w_ => R_indexArr Tryd.underlying64 TWa.sz34 rfl rfl (by omega) (by omega)) rfl rfl ?_
  refine HS_loadB TWa.ag34 rfl hG (getw (by omega)) rfl rfl ?_
  refine HS_pure (fun w_ => R_add rfl rfl (add32 _ _)) rfl rfl ?_
  refine HS_pure (fun w_ => R_nilCheck rfl) rfl rfl ?_
  refine HS_pure (fun w_ => R_indexArr Tryd.underlying64 TWa.sz34 rfl rfl (by omega) (by omega)) rfl rfl ?_
  refine HS_to0 [] _ rfl (by rw [hops26_]; kernel_rfl) (R_store TWa.sz34 rfl rfl hG (by simp only [List.length_map]; omega) rfl) rfl ?_
  clear hG
  rintro _ w27_ ⟨hG, hF27_⟩
  replace hF := hF.then hF27_ (by simp only [List.mem_cons, List.not_mem_nil, or_false]; intro i_ hi_ hj_; omega)
  clear hF27_
  rw [setw] at hG
  refine named (Bl.addT v6 c1 d1) fun v7 e7 => ?_
  have l7 : v7.length = 16 := by rw [e7]; simp only [Bl.addS_length, Bl.addT_length, Bl.xorS_length]; omega
  replace hG := hG.to (cs' := v7.map w32) (by rw [e7]; rfl)
  refine ⟨trivial, ?_⟩
  refine HS_nil ?_
  clear hops26_
  refine then_n (hK25_ _ _ ?_)
  clear hK25_ K25_
  refine W_keepB [0, 2, 3] fun B28 hB28_ => ?_
  simp only [pickE, lookE, putE, zipE, args0, Nat.reduceAdd, Nat.zero_add, List.cons_append, List.nil_append, Nat.reduceBEq, cond_true, cond_false] at hB28_
  subst hB28_
  refine W_drawF [some 118, some 119, some 120, some 121, some 122, some 123, some 124, some 125, some 126, some 127, some 128, some 129, some 130, some 131, some 132, some 133, none] [(0, true), (1, true), (2, true), (3, true), (4, true), (5, true), (6, true), (7, true), (8, true), (9, true), (10, true), (11, true), (12, true), (14, true), (13, false), (15, true), (16, false)] TWa.hm rfl (by kernel_rfl) fun ops29_ w29_ hops29_ hF29_ => ?_
  replace hG := hG.fr0 hF29_
  replace hF := hF.fr0 hF29_
  clear hF29_
  refine HS_pure (fun w_ => R_move rfl) rfl rfl ?_
  refine HS_pure (fun w_ => R_move rfl) rfl rfl ?_
  refine HS_pure (fun w_ => R_move rfl) rfl rfl ?_
  refine HS_pure (fun w_ => R_move rfl) rfl rfl ?_
  refine HS_pure (fun w_ => R_nilCheck rfl) rfl rfl ?_
  refine HS_pure (fun w_ => R_indexArr Tryd.underlying64 TWa.sz34 rfl rfl (by omega) (by omega)) rfl rfl ?_
  refine HS_loadB TWa.ag34 rfl hG (getw (by omega)) rfl rfl ?_
  refine HS_pure (fun w_ => R_move rfl) rfl rfl ?_
  refine HS_pure (fun w_ => R_move rfl) rfl rfl ?_
  refine HS_pure (fun w_ => R_nilCheck rfl) rfl rfl ?_
  refine HS_pure (fun w_ => R_indexArr Tryd.underlying64 TWa.sz34 rfl rfl (by omega) (by omega)) rfl rfl ?_
  refine HS_loadB TWa.ag34 rfl hG (getw (by omega)) rfl rfl ?_
  refine HS_pure (fun w_ => R_xor rfl rfl (xor32 _ _)) rfl rfl ?_
  refine HS_pure (fun w_ => R_nilCheck rfl) rfl rfl ?_
  refine HS_call [] _ rfl (by rw [hops29_]; kernel_rfl) (C_func TWa.bd39 rfl) rfl rfl ?_
  refine (ror7 _ _).mono ?_
  rintro _ _ ⟨rfl, rfl⟩
  refine ⟨_, rfl, trivial, ?_⟩
  refine HS_pure (fun w_ => R_indexArr Tryd.underlying64 TWa.sz34 rfl rfl (by omega) (by omega)) rfl rfl ?_
  refine HS_to0 [] _ rfl (by rw [hops29_]; kernel_rfl) (R_store TWa.sz34 rfl rfl hG (by simp only [List.length_map]; omega) rfl) rfl ?_
  clear hG
  rintro _ w30_ ⟨hG, hF30_⟩
  replace hF := hF.then hF30_ (by simp only [List.mem_cons, List.not_mem_nil, or_false]; intro i_ hi_ hj_; omega)
  clear hF30_
  rw [setw] at hG
  refine named (Bl.xorS v7 b1 c1 7) fun v8 e8 => ?_
  have l8 : v8.length = 16 := by rw [e8]; simp only [Bl.addS_length, Bl.addT_length, Bl.xorS_length]; omega
  replace hG := hG.to (cs' := v8.map w32) (by rw [e8]; rfl)
  refine ⟨trivial, ?_⟩
  refine HS_nil ?_
  clear hops29_
  refine ⟨_, rfl, ?_⟩
  exact ⟨rfl, by rw [Bl.stir, ← e1, ← e2, ← e3, ← e4, ← e5, ← e6, ← e7, ← e8]; exact hG, hF⟩
set_option maxHeartbeats 4000000 in
theorem first_any (w : World) : Calls Tryd.prog 35 #[] w fun e w2 => e = .returned (.agg (Bl.first.map w32).toArray) ∧ Fr [] w w2 := by
  have hF := Fr.refl [] w
  refine calls_W 2 Tryd.func35 rfl Tryd.ntmps35 rfl [.cell 0 36] rfl ?_
  refine W_seq_k fun K1_ hK1_ => ?_
  refine W_region [some 0] rfl ?_
  have hz0_hF := hF.size
  refine Ops_to (R_alloc TWa.zr36) rfl rfl ?_
  rintro _ w0_ ⟨b0, rfl, hb0, hB0, hF0_⟩
  have hl0 := hB0.lt
  replace hF := hF.fr0 hF0_
  clear hF0_
  refine Ops_nil ?_
  refine then_n (hK1_ _ _ ?_)
  clear hK1_ K1_
  refine W_seq_k fun K2_ hK2_ => ?_
  refine W_region [some 1, none] rfl ?_
  refine Ops_step (R_build (pl := [(0, 1), (1, 1), (2, 1), (3, 1), (4, 1), (5, 1), (6, 1), (7, 1)]) (cs := Bl.first.map w32) TWa.zr36 TWa.pl36 rfl rfl (by kernel_rfl)) rfl rfl ?_
  refine Ops_to0 (R_storeN TWa.sz36 rfl rfl rfl hB0 (by decide) rfl) rfl ?_
  clear hB0
  rintro _ w3_ ⟨hB0, hF3_⟩
  replace hF := hF.then hF3_ (by simp only [List.mem_cons, List.not_mem_nil, or_false]; intro i_ hi_ hj_; omega)
  clear hF3_
  refine Ops_nil ?_
  refine then_n (hK2_ _ _ ?_)
  clear hK2_ K2_
  refine W_ret ?_
  refine ⟨_, ⟨_, _, _, rfl, rfl, run_loadVarN TWa.ag36 TWa.sz36 hB0 (by decide), rfl⟩, ?_⟩
  exact ⟨rfl, hF⟩

end Go.Proofs.YtghfohhekhedaaaDoor
