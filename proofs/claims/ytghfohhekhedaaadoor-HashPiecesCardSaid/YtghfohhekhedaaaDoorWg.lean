/- What the walks of this seat show of Wg. -/
import Derived.Test.YtghfohhekhedaaaDoorWe
import Derived.Test.YtghfohhekhedaaaDoorWf
import Derived.Test.YtghfohhekhedaaaDoorProg
set_option linter.unusedVariables false
set_option linter.unusedSimpArgs false
namespace Go.Proofs.YtghfohhekhedaaaDoor
open Go Go.Sx

namespace TWg
theorem hm : Tryd.prog.follows .mixedOrders = true := by kernel_rfl
theorem ag22 : aggB Tryd.prog 22 = some false := by kernel_rfl
theorem ag30 : aggB Tryd.prog 30 = some true := by kernel_rfl
theorem ag36 : aggB Tryd.prog 36 = some true := by kernel_rfl
theorem ag5 : aggB Tryd.prog 5 = some false := by kernel_rfl
theorem bd14 : bodied Tryd.prog 14 = true := by kernel_rfl
theorem bd15 : bodied Tryd.prog 15 = true := by kernel_rfl
theorem bd16 : bodied Tryd.prog 16 = true := by kernel_rfl
theorem el22 : Elem Tryd.prog 22 5 1 1 := Elem.of (by kernel_rfl)
theorem sz22 : sz Tryd.prog 22 = some 1 := by kernel_rfl
theorem sz30 : sz Tryd.prog 30 = some 32 := by kernel_rfl
theorem sz36 : sz Tryd.prog 36 = some 8 := by kernel_rfl
theorem sz5 : sz Tryd.prog 5 = some 1 := by kernel_rfl
theorem zr30 : zr Tryd.prog 30 = some (List.replicate 32 (.int .u8 0)) := by kernel_rfl
end TWg
set_option maxHeartbeats 4000000 in
theorem of_any (LA : Option Addr) (L : List (List UInt8)) (lc : Nat) (w : World) (hL : RdLL w LA L) (hlen : ∀ bs ∈ L, bs.length ≤ 1099511627776) (hm : L.length ≤ 1099511627776) (hO : Rd w (some ⟨0, 0, none⟩) ordC) :
    Calls Tryd.prog 18 #[.slice LA L.length lc] w fun e w2 => e = .returned (.agg ((Bl.of L).map vb).toArray) ∧ Fr [] w w2 := by
  have hF := Fr.refl [] w
  have sO := hO.ltO
  refine calls_W 10 Tryd.func18 rfl Tryd.ntmps18 rfl [.cell 2 30] rfl ?_
  refine W_seq_k fun K1_ hK1_ => ?_
  refine W_region [some 2] rfl ?_
  have hz2_hF := hF.size
  refine Ops_to (R_alloc TWg.zr30) rfl rfl ?_
  rintro _ w2_ ⟨b2, rfl, hb2, hB2, hF2_⟩
  have hl2 := hB2.lt
  replace hF := hF.fr0 hF2_
  clear hF2_
  refine Ops_nil ?_
  refine then_n (hK1_ _ _ ?_)
  clear hK1_ K1_
  refine W_seq_k fun K2_ hK2_ => ?_
  refine W_region [some 4, some 3] rfl ?_
  have hz4_hF := hF.size
  have hn4_hB2 := hB2.lt
  refine Ops_call (C_func TWg.bd14 rfl) rfl rfl ?_
  refine (new_any _).mono ?_
  rintro _ w4_ ⟨d4, rfl, hD4, hF4_⟩
  replace hF := hF.fr0 hF4_
  replace hB2 := hB2.fr0 hF4_
  clear hF4_
  refine Exists.elim hD4.name fun B4 h_ => ?_
  clear hD4
  have hBe4 := h_.1
  have hD4 := h_.2
  clear h_
  have hge4 := hD4.ge
  refine ⟨_, rfl, ?_⟩
  refine Ops_step (R_assign rfl) rfl rfl ?_
  refine Ops_nil ?_
  refine then_n (hK2_ _ _ ?_)
  clear hK2_ K2_
  refine W_seq_k fun K3_ hK3_ => ?_
  refine W_region [some 5, some 6, some 7] rfl ?_
  refine Ops_step (R_move rfl) rfl rfl ?_
  refine Ops_step (R_move rfl) rfl rfl ?_
  have hz7 := hF.size
  have hzd := hD4.lt
  refine Ops_call (C_func TWg.bd15 rfl) rfl rfl ?_
  refine (add_any _ _ _ _ L _ _ hD4 (hL.old hF (by omega)) hlen hm (by omega) (hO.fr0 hF) (by omega)).mono ?_
  rintro _ w7_ ⟨rfl, hD4, hF7_⟩
  replace hF := hF.then hF7_ (by simp only [List.mem_singleton]; omega)
  replace hB2 := hB2.fr hF7_ (by simp only [List.mem_cons, List.not_mem_nil, or_false]; omega)
  clear hF7_
  refine ⟨_, rfl, ?_⟩
  refine Ops_nil ?_
  refine then_n (hK3_ _ _ ?_)
  clear hK3_ K3_
  refine W_seq_k fun K4_ hK4_ => ?_
  refine W_region [some 8, some 9, none] rfl ?_
  refine Ops_step (R_move rfl) rfl rfl ?_
  refine Ops_call (C_func TWg.bd16 rfl) rfl rfl ?_
  refine (sum_any _ _ _ _ hD4 (hO.fr0 hF)).mono ?_
  rintro _ w9_ ⟨rfl, hF9_⟩
  replace hF := hF.fr0 hF9_
  replace hB2 := hB2.fr0 hF9_
  replace hD4 := hD4.fr0 hF9_
  clear hF9_
  refine ⟨_, rfl, ?_⟩
  have hB2_ := hB2
  refine Ops_to0 (R_storeN TWg.sz30 (by simp [sum_len]) rfl rfl hB2 (by decide) allb) rfl ?_
  clear hB2
  rintro _ w5_ ⟨hB2, hF5_⟩
  replace hF := hF.then hF5_ (by simp only [List.mem_cons, List.not_mem_nil, or_false]; intro i_ hi_ hj_; omega)
  replace hD4 := hD4.fr hF5_ (oneDig (by omega) hB2_ (by decide))
  clear hF5_
  replace hB2 := hB2.to (cs' := (Bl.of L).map vb) (by rw [List.toList_toArray]; simp [over, sum_len, Bl.of])
  clear hB2_
  refine Ops_nil ?_
  refine then_n (hK4_ _ _ ?_)
  clear hK4_ K4_
  refine W_keepB [2] fun B6 hB6_ => ?_
  simp only [pickE, lookE, putE, zipE, args0, Nat.reduceAdd, Nat.zero_add, List.cons_append, List.nil_append, Nat.reduceBEq, cond_true, cond_false] at hB6_
  subst hB6_
  refine W_ret ?_
  refine ⟨_, ⟨_, _, _, rfl, rfl, run_loadVarN TWg.ag30 TWg.sz30 hB2 (by simp [Bl.of, sum_len]), rfl⟩, ?_⟩
  exact ⟨by simp [Bl.of, sum_len, List.take_of_length_le, tupled], hF⟩
set_option maxHeartbeats 4000000 in
theorem sclone_any (A : Option Addr) (n c : Nat) (bs : List UInt8) (w : World) (hn : n = bs.length) (hR : Rd w A (bs.map vb)) (hlen : bs.length ≤ 140737488351232) :
    Calls Tryd.prog 19 #[.slice A n c] w fun e w2 => ∃ A' c', e = .returned (.slice A' bs.length c') ∧ OwnB w2 w.heap.size 5 A' c' bs ∧ Fr [] w w2 := by
  subst hn
  have hF := Fr.refl [] w
  refine calls_W 8 Tryd.func19 rfl Tryd.ntmps19 rfl [.tmp 2] rfl ?_
  refine W_seq_k fun K1_ hK1_ => ?_
  refine W_region [some 2] rfl ?_
  refine Ops_step (R_assign rfl) rfl rfl ?_
  refine Ops_nil ?_
  refine then_n (hK1_ _ _ ?_)
  clear hK1_ K1_
  refine W_seq_k fun K2_ hK2_ => ?_
  refine W_seq_k fun K3_ hK3_ => ?_
  refine W_region [some 3, some 4] rfl ?_
  refine Ops_step (R_move rfl) rfl rfl ?_
  refine Ops_step (R_slNil Tryd.underlying22 rfl rfl) rfl rfl ?_
  refine Ops_nil ?_
  refine then_n (hK3_ _ _ ?_)
  clear hK3_ K3_
  refine W_cond rfl (fun hc4 => ?_) (fun hc4 => ?_)
  · have hbs : bs = [] := by
        cases bs with
        | nil => rfl
        | cons b l => have h_ := Rd.some hR (by simp); cases A <;> simp at h_ hc4
    subst hbs
    have hQ := OwnB.nil w w.heap.size 5
    refine W_seq_k fun K4_ hK4_ => ?_
    refine W_region [some 2] rfl ?_
    refine Ops_step (R_assign rfl) rfl rfl ?_
    refine Ops_nil ?_
    refine then_n (hK4_ _ _ ?_)
    clear hK4_ K4_
    refine W_ret ?_
    refine then_ret ?_
    clear hK2_ K2_
    refine ⟨_, ⟨_, _, rfl, rfl, rfl⟩, ?_⟩
    exact ⟨_, _, rfl, hQ, hF⟩
  · refine W_skip ?_
    refine then_n (hK2_ _ _ ?_)
    clear hK2_ K2_
    refine W_seq_k fun K5_ hK5_ => ?_
    refine W_region [some 5, some 6, some 7, some 2] rfl ?_
    have hz5_hF := hF.size
    refine Ops_to (R_buildSlice0 TWg.el22) rfl rfl ?_
    rintro _ w5_ ⟨b5, rfl, hb5, hB5, hF5_⟩
    have hl5 := hB5.lt
    have hQ5 := OwnB.empty (B := w.heap.size) (by omega) hB5
    clear hB5
    replace hF := hF.fr0 hF5_
    clear hF5_
    refine Ops_step (R_move rfl) rfl rfl ?_
    have hlt_ := hQ5.off
    refine Ops_to (R_appendB TWg.el22 Tryd.underlying22 rfl rfl rfl rfl hQ5 (hR.fr0 hF) (by simp; omega) hF.size (by decide)) rfl rfl ?_
    clear hQ5
    rintro _ w7_ ⟨A7, c7, rfl, hQ, hF7_⟩
    replace hF := hF.then hF7_ (fun i_ hi_ hj_ => absurd (hlt_ i_ hi_) (by omega))
    clear hF7_
    refine Ops_step (R_assign rfl) rfl rfl ?_
    refine Ops_nil ?_
    refine then_n (hK5_ _ _ ?_)
    clear hK5_ K5_
    refine W_keepB [2] fun B6 hB6_ => ?_
    simp only [pickE, lookE, putE, zipE, args0, Nat.reduceAdd, Nat.zero_add, List.cons_append, List.nil_append, Nat.reduceBEq, cond_true, cond_false] at hB6_
    subst hB6_
    refine W_ret ?_
    refine ⟨_, ⟨_, _, rfl, rfl, rfl⟩, ?_⟩
    exact ⟨_, _, rfl, hQ, hF⟩
set_option maxHeartbeats 4000000 in
theorem beq_any (A : Option Addr) (n c : Nat) (A2 : Option Addr) (n2 c2 : Nat) (xs ys : List UInt8) (w : World) (hn : n = xs.length) (hn2 : n2 = ys.length) (hR : Rd w A (xs.map vb)) (hR2 : Rd w A2 (ys.map vb)) :
    Calls Tryd.prog 21 #[.slice A n c, .slice A2 n2 c2] w fun e w2 => e = .returned (.bool (decide (xs = ys))) ∧ w2 = w := by
  subst hn hn2
  refine calls_W 10 Tryd.func21 rfl Tryd.ntmps21 rfl [.tmp 4] rfl ?_
  refine W_seq_k fun K1_ hK1_ => ?_
  refine W_region [some 4] rfl ?_
  refine Ops_step (R_assign rfl) rfl rfl ?_
  refine Ops_nil ?_
  refine then_n (hK1_ _ _ ?_)
  clear hK1_ K1_
  refine W_seq_k fun K2_ hK2_ => ?_
  refine W_region [some 5, some 6, some 7, some 8, some 9, some 4] rfl ?_
  refine Ops_step (R_move rfl) rfl rfl ?_
  refine Ops_step (R_bytesStr Tryd.underlying22 Tryd.underlying5 Tryd.underlying9 rfl rfl hR) rfl rfl ?_
  refine Ops_step (R_move rfl) rfl rfl ?_
  refine Ops_step (R_bytesStr Tryd.underlying22 Tryd.underlying5 Tryd.underlying9 rfl rfl hR2) rfl rfl ?_
  refine Ops_step (R_strEqB rfl rfl) rfl rfl ?_
  refine Ops_step (R_assign rfl) rfl rfl ?_
  refine Ops_nil ?_
  refine then_n (hK2_ _ _ ?_)
  clear hK2_ K2_
  refine W_keepB [4] fun B3 hB3_ => ?_
  simp only [pickE, lookE, putE, zipE, args0, Nat.reduceAdd, Nat.zero_add, List.cons_append, List.nil_append, Nat.reduceBEq, cond_true, cond_false] at hB3_
  subst hB3_
  refine W_ret ?_
  refine ⟨_, ⟨_, _, rfl, rfl, rfl⟩, ?_⟩
  exact ⟨rfl, rfl⟩
set_option maxHeartbeats 4000000 in
theorem equal_any (A : Option Addr) (n c : Nat) (A2 : Option Addr) (n2 c2 : Nat) (xs ys : List UInt8) (w : World) (hn : n = xs.length) (hn2 : n2 = ys.length) (hR : Rd w A (xs.map vb)) (hR2 : Rd w A2 (ys.map vb)) (hlen : xs.length ≤ 140737488351232) :
    Calls Tryd.prog 25 #[.slice A n c, .slice A2 n2 c2] w fun e w2 => e = .returned (.bool (decide (xs = ys))) ∧ Fr [] w w2 := by
  subst hn hn2
  have hF := Fr.refl [] w
  refine calls_W 31 Tryd.func25 rfl Tryd.ntmps25 rfl [.tmp 4] rfl ?_
  refine W_seq_k fun K1_ hK1_ => ?_
  refine W_region [some 4] rfl ?_
  refine Ops_step (R_assign rfl) rfl rfl ?_
  refine Ops_nil ?_
  refine then_n (hK1_ _ _ ?_)
  clear hK1_ K1_
  refine W_seq_k fun K2_ hK2_ => ?_
  refine W_seq_k fun K3_ hK3_ => ?_
  refine W_region [some 7, some 8, some 9, some 10, some 11] rfl ?_
  refine Ops_step (R_move rfl) rfl rfl ?_
  refine Ops_step (R_len Tryd.underlying22 rfl rfl) rfl rfl ?_
  refine Ops_step (R_move rfl) rfl rfl ?_
  refine Ops_step (R_len Tryd.underlying22 rfl rfl) rfl rfl ?_
  refine Ops_step (R_neq rfl rfl) rfl rfl ?_
  refine Ops_nil ?_
  refine then_n (hK3_ _ _ ?_)
  clear hK3_ K3_
  refine W_if rfl (fun hc11 => ?_) (fun hc11 => ?_)
  · have hfin : decide (xs = ys) = false := decide_eq_false fun h_ => hc11 (by rw [h_])
    refine W_seq_k fun K4_ hK4_ => ?_
    refine W_region [some 4] rfl ?_
    refine Ops_step (R_assign rfl) rfl rfl ?_
    refine Ops_nil ?_
    refine then_n (hK4_ _ _ ?_)
    clear hK4_ K4_
    refine W_keepB [4] fun B5 hB5_ => ?_
    simp only [pickE, lookE, putE, zipE, args0, Nat.reduceAdd, Nat.zero_add, List.cons_append, List.nil_append, Nat.reduceBEq, cond_true, cond_false] at hB5_
    subst hB5_
    refine W_ret ?_
    refine then_ret ?_
    clear hK2_ K2_
    refine ⟨_, ⟨_, _, rfl, rfl, rfl⟩, ?_⟩
    exact ⟨by rw [hfin]; rfl, hF⟩
  · have hll : xs.length = ys.length := by omega
    refine W_skip ?_
    refine then_n (hK2_ _ _ ?_)
    clear hK2_ K2_
    refine W_keepB [0, 1] fun B6 hB6_ => ?_
    simp only [pickE, lookE, putE, zipE, args0, Nat.reduceAdd, Nat.zero_add, List.cons_append, List.nil_append, Nat.reduceBEq, cond_true, cond_false] at hB6_
    subst hB6_
    refine W_seq_k fun K7_ hK7_ => ?_
    refine W_region [some 5] rfl ?_
    refine Ops_step (R_assign rfl) rfl rfl ?_
    refine Ops_nil ?_
    refine then_n (hK7_ _ _ ?_)
    clear hK7_ K7_
    refine W_seq_k fun K8_ hK8_ => ?_
    refine W_seq_k fun K9_ hK9_ => ?_
    refine W_region [some 12, some 13, some 14] rfl ?_
    refine Ops_step (R_move rfl) rfl rfl ?_
    refine Ops_step (R_len Tryd.underlying22 rfl rfl) rfl rfl ?_
    refine Ops_step (R_move rfl) rfl rfl ?_
    refine Ops_nil ?_
    refine then_n (hK9_ _ _ ?_)
    clear hK9_ K9_
    refine W_block ?_
    refine W_loopB [0, 1, 13] [5, 14] (fun m vs w' => ∃ i, i ≤ xs.length ∧ m = xs.length - i ∧ vs = [vb (eqAcc xs ys i), vi i] ∧ Fr [] w w') (xs.length) _ rfl (⟨0, by omega, rfl, rfl, hF⟩) fun B10 hB10_ => ?_
    simp only [pickE, lookE, putE, zipE, args0, Nat.reduceAdd, Nat.zero_add, List.cons_append, List.nil_append, Nat.reduceBEq, cond_true, cond_false] at hB10_
    subst hB10_
    clear hF
    rintro m_ vs_ w0_ ⟨i, hi, rfl, rfl, hF⟩
    refine W_seq_k fun K11_ hK11_ => ?_
    refine W_region [some 15] rfl ?_
    refine Ops_step (R_lss rfl rfl) rfl rfl ?_
    refine Ops_nil ?_
    refine then_n (hK11_ _ _ ?_)
    clear hK11_ K11_
    refine W_seq_k fun K12_ hK12_ => ?_
    refine W_if rfl (fun hc15 => ?_) (fun hc15 => ?_)
    · refine W_skip ?_
      refine then_n (hK12_ _ _ ?_)
      clear hK12_ K12_
      refine W_seq_k fun K13_ hK13_ => ?_
      refine W_block ?_
      refine W_seq_k fun K14_ hK14_ => ?_
      refine W_region [some 16, some 6] rfl ?_
      refine Ops_step (R_move rfl) rfl rfl ?_
      refine Ops_step (R_assign rfl) rfl rfl ?_
      refine Ops_nil ?_
      refine then_n (hK14_ _ _ ?_)
      clear hK14_ K14_
      refine W_drawF [some 17, some 18, some 19, some 20, some 21, some 22, some 23, some 24, some 25, some 26, some 27, some 5] [(0, true), (1, true), (2, true), (3, true), (4, true), (5, true), (6, true), (7, true), (8, true), (9, true), (10, true), (11, true)] TWg.hm rfl (by kernel_rfl) fun ops15_ w15_ hops15_ hF15_ => ?_
      replace hF := hF.fr0 hF15_
      clear hF15_
      refine HS_pure (fun w_ => R_move rfl) rfl rfl ?_
      refine HS_pure (fun w_ => R_move rfl) rfl rfl ?_
      refine HS_pure (fun w_ => R_move rfl) rfl rfl ?_
      refine HS_pure (fun w_ => R_indexSl Tryd.underlying22 TWg.sz5 rfl rfl (by omega) (by omega) (Rd.some hR (by omega))) rfl rfl ?_
      refine HS_load TWg.ag5 rfl ((hR.fr0 hF).atB (i := i) (by omega)) rfl rfl ?_
      refine HS_pure (fun w_ => R_move rfl) rfl rfl ?_
      refine HS_pure (fun w_ => R_move rfl) rfl rfl ?_
      refine HS_pure (fun w_ => R_indexSl Tryd.underlying22 TWg.sz5 rfl rfl (by omega) (by omega) (Rd.some hR2 (by omega))) rfl rfl ?_
      refine HS_load TWg.ag5 rfl ((hR2.fr0 hF).atB (i := i) (by omega)) rfl rfl ?_
      refine HS_pure (fun w_ => R_xor rfl rfl (xor8 _ _)) rfl rfl ?_
      refine HS_pure (fun w_ => R_or rfl rfl (or8 _ _)) rfl rfl ?_
      refine HS_pure (fun w_ => R_assign rfl) rfl rfl ?_
      refine HS_nil ?_
      clear hops15_
      refine block_n ?_
      refine then_n (hK13_ _ _ ?_)
      clear hK13_ K13_
      refine W_keepB [0, 1, 5, 13, 14] fun B16 hB16_ => ?_
      simp only [pickE, lookE, putE, zipE, args0, Nat.reduceAdd, Nat.zero_add, List.cons_append, List.nil_append, Nat.reduceBEq, cond_true, cond_false] at hB16_
      subst hB16_
      refine W_region [some 28, some 14] rfl ?_
      refine Ops_step (R_add rfl rfl (wIc (n := i + 1) (by omega) (by omega))) rfl rfl ?_
      refine Ops_step (R_move rfl) rfl rfl ?_
      refine Ops_nil ?_
      exact ⟨xs.length - (i + 1), _, by omega, rfl, ⟨i + 1, by omega, rfl, rfl, hF⟩, ⟨rfl, rfl, rfl, trivial⟩⟩
    · have hi2 : i = xs.length := by omega
      subst hi2
      have hfin := eqAcc_dec _ _ hll
      refine W_exit ?_
      refine then_exit ?_
      clear hK12_ K12_
      refine then_exit ?_
      refine block_exit ?_
      refine then_n (hK8_ _ _ ?_)
      clear hK8_ K8_
      refine W_seq_k fun K17_ hK17_ => ?_
      refine W_region [some 29, some 30, some 4] rfl ?_
      refine Ops_step (R_move rfl) rfl rfl ?_
      refine Ops_step (R_eql rfl rfl) rfl rfl ?_
      refine Ops_step (R_assign rfl) rfl rfl ?_
      refine Ops_nil ?_
      refine then_n (hK17_ _ _ ?_)
      clear hK17_ K17_
      refine W_keepB [4] fun B18 hB18_ => ?_
      simp only [pickE, lookE, putE, zipE, args0, Nat.reduceAdd, Nat.zero_add, List.cons_append, List.nil_append, Nat.reduceBEq, cond_true, cond_false] at hB18_
      subst hB18_
      refine W_ret ?_
      refine ⟨_, ⟨_, _, rfl, rfl, rfl⟩, ?_⟩
      exact ⟨by rw [hfin]; rfl, hF⟩
set_option maxHeartbeats 4000000 in
theorem long_any (LA : Option Addr) (L : List (List UInt8)) (lc : Nat) (w : World) (hL : RdLL w LA L) (hm : L.length ≤ 140737488355328) :
    Calls Tryd.prog 12 #[.slice LA L.length lc] w fun e w2 => ∃ r, e = .returned (.bool r) ∧ (r = false → L.length ≤ 4096 ∧ ∀ bs ∈ L, bs.length ≤ 4096) ∧ w2 = w := by
  refine calls_W 26 Tryd.func12 rfl Tryd.ntmps12 rfl [.tmp 2] rfl ?_
  refine W_seq_k fun K1_ hK1_ => ?_
  refine W_region [some 2] rfl ?_
  refine Ops_step (R_assign rfl) rfl rfl ?_
  refine Ops_nil ?_
  refine then_n (hK1_ _ _ ?_)
  clear hK1_ K1_
  refine W_seq_k fun K2_ hK2_ => ?_
  refine W_region [some 3] rfl ?_
  refine Ops_step (R_assign rfl) rfl rfl ?_
  refine Ops_nil ?_
  refine then_n (hK2_ _ _ ?_)
  clear hK2_ K2_
  refine W_seq_k fun K3_ hK3_ => ?_
  refine W_seq_k fun K4_ hK4_ => ?_
  refine W_region [some 4] rfl ?_
  refine Ops_step (R_assign rfl) rfl rfl ?_
  refine Ops_nil ?_
  refine then_n (hK4_ _ _ ?_)
  clear hK4_ K4_
  refine W_block ?_
  refine W_loopB [0] [3, 4] (fun m vs w' => ∃ n i, i ≤ L.length ∧ m = L.length - i ∧ vs = [vi (n : Nat), vi (i : Nat)] ∧ n ≤ 10000 ∧ (n ≤ 4096 → i ≤ n ∧ ∀ bs ∈ L.take i, bs.length ≤ 4096) ∧ w' = w) (L.length) _ rfl (⟨0, 0, by omega, rfl, rfl, by omega, fun _ => ⟨by omega, by simp⟩, rfl⟩) fun B5 hB5_ => ?_
  simp only [pickE, lookE, putE, zipE, args0, Nat.reduceAdd, Nat.zero_add, List.cons_append, List.nil_append, Nat.reduceBEq, cond_true, cond_false] at hB5_
  subst hB5_
  rintro m_ vs_ w0_ ⟨n, i, hi, rfl, rfl, hn1, hn, rfl⟩
  refine W_seq_k fun K6_ hK6_ => ?_
  refine W_seq_k fun K7_ hK7_ => ?_
  refine W_region [some 5, some 6, some 7, some 8, some 9, some 10, some 11, some 12] rfl ?_
  refine Ops_step (R_move rfl) rfl rfl ?_
  refine Ops_step (R_move rfl) rfl rfl ?_
  refine Ops_step (R_len Tryd.underlying53 rfl rfl) rfl rfl ?_
  refine Ops_step (R_lss rfl rfl) rfl rfl ?_
  refine Ops_step (R_move rfl) rfl rfl ?_
  refine Ops_split 9 rfl (fun hg9 => ?_) (fun hg9 => ?_)
  · refine Ops_step (R_move rfl) rfl rfl ?_
    refine Ops_step (R_leq rfl rfl) rfl rfl ?_
    refine Ops_step (R_pick_true rfl rfl) rfl rfl ?_
    refine Ops_nil ?_
    refine then_n (hK7_ _ _ ?_)
    clear hK7_ K7_
    refine W_if rfl (fun hc12 => ?_) (fun hc12 => ?_)
    · have hi1 : i < L.length := by omega
      have hx := hL i _ (List.getElem?_eq_getElem hi1)
      have hmem := List.getElem_mem hi1
      have htk := List.take_succ_eq_append_getElem hi1
      refine named L[i] fun bs ebs => ?_
      rw [← ebs] at hx hmem htk
      obtain ⟨hs1, Ai, ci, hs3, _⟩ := hx
      refine W_skip ?_
      refine then_n (hK6_ _ _ ?_)
      clear hK6_ K6_
      refine W_keepB [0, 3, 4, 10, 11] fun B8 hB8_ => ?_
      simp only [pickE, lookE, putE, zipE, args0, Nat.reduceAdd, Nat.zero_add, List.cons_append, List.nil_append, Nat.reduceBEq, cond_true, cond_false] at hB8_
      subst hB8_
      refine W_seq_k fun K9_ hK9_ => ?_
      refine W_block ?_
      refine W_region [some 15, some 16, some 17, some 18, some 19, some 20, some 21, some 22, some 23, some 3] rfl ?_
      refine Ops_step (R_move rfl) rfl rfl ?_
      refine Ops_step (R_move rfl) rfl rfl ?_
      refine Ops_step (R_move rfl) rfl rfl ?_
      refine Ops_step (R_indexSl Tryd.underlying53 TWg.sz22 rfl rfl (by omega) (by omega) hs1) rfl rfl ?_
      refine Ops_step (R_load TWg.ag22 rfl (by simpa using hs3)) rfl rfl ?_
      refine Ops_step (R_len Tryd.underlying22 rfl rfl) rfl rfl ?_
      refine Ops_step (R_min rfl rfl (show _ = ((min bs.length 4096 : Nat) : Int) by omega)) rfl rfl ?_
      refine Ops_step (R_add rfl rfl (wIc (n := 1 + (min bs.length 4096)) (by omega) (by omega))) rfl rfl ?_
      refine Ops_step (R_add rfl rfl (wIc (n := n + (1 + (min bs.length 4096))) (by omega) (by omega))) rfl rfl ?_
      refine Ops_step (R_assign rfl) rfl rfl ?_
      refine Ops_nil ?_
      refine block_n ?_
      refine then_n (hK9_ _ _ ?_)
      clear hK9_ K9_
      refine W_keepB [0, 3, 4, 10, 11] fun B10 hB10_ => ?_
      simp only [pickE, lookE, putE, zipE, args0, Nat.reduceAdd, Nat.zero_add, List.cons_append, List.nil_append, Nat.reduceBEq, cond_true, cond_false] at hB10_
      subst hB10_
      refine W_region [some 13, some 14, some 4] rfl ?_
      refine Ops_step (R_move rfl) rfl rfl ?_
      refine Ops_step (R_add rfl rfl (wIc (n := i + 1) (by omega) (by omega))) rfl rfl ?_
      refine Ops_step (R_assign rfl) rfl rfl ?_
      refine Ops_nil ?_
      exact ⟨L.length - (i + 1), _, by omega, rfl, ⟨n + (1 + min bs.length 4096), i + 1, by omega, rfl, rfl, by omega, fun h_ => ⟨by have := (hn (by omega)).1; omega, fun b_ hb_ => by rw [htk, List.mem_append] at hb_; rcases hb_ with hb_ | hb_; exact (hn (by omega)).2 b_ hb_; rw [List.mem_singleton] at hb_; subst hb_; omega⟩, rfl⟩, ⟨rfl, trivial⟩⟩
    · refine W_exit ?_
      refine then_exit ?_
      clear hK6_ K6_
      refine then_exit ?_
      refine block_exit ?_
      refine then_n (hK3_ _ _ ?_)
      clear hK3_ K3_
      refine W_keepB [3] fun B11 hB11_ => ?_
      simp only [pickE, lookE, putE, zipE, args0, Nat.reduceAdd, Nat.zero_add, List.cons_append, List.nil_append, Nat.reduceBEq, cond_true, cond_false] at hB11_
      subst hB11_
      refine W_seq_k fun K12_ hK12_ => ?_
      refine W_region [some 24, some 25, some 2] rfl ?_
      refine Ops_step (R_move rfl) rfl rfl ?_
      refine Ops_step (R_gtr rfl rfl) rfl rfl ?_
      refine Ops_step (R_assign rfl) rfl rfl ?_
      refine Ops_nil ?_
      refine then_n (hK12_ _ _ ?_)
      clear hK12_ K12_
      refine W_ret ?_
      refine ⟨_, ⟨_, _, rfl, rfl, rfl⟩, ?_⟩
      refine ⟨_, rfl, fun h_ => ?_, rfl⟩
      have h_ := of_decide_eq_false h_
      have hh := hn (by omega)
      have hi2 : i = L.length := by omega
      subst hi2
      rw [List.take_length] at hh
      exact ⟨by omega, hh.2⟩
  · refine Ops_pass rfl rfl ?_
    refine Ops_pass rfl rfl ?_
    refine Ops_step (R_pick_false rfl rfl) rfl rfl ?_
    refine Ops_nil ?_
    refine then_n (hK7_ _ _ ?_)
    clear hK7_ K7_
    refine W_cond_false rfl ?_
    refine W_exit ?_
    refine then_exit ?_
    clear hK6_ K6_
    refine then_exit ?_
    refine block_exit ?_
    refine then_n (hK3_ _ _ ?_)
    clear hK3_ K3_
    refine W_keepB [3] fun B13 hB13_ => ?_
    simp only [pickE, lookE, putE, zipE, args0, Nat.reduceAdd, Nat.zero_add, List.cons_append, List.nil_append, Nat.reduceBEq, cond_true, cond_false] at hB13_
    subst hB13_
    refine W_seq_k fun K14_ hK14_ => ?_
    refine W_region [some 24, some 25, some 2] rfl ?_
    refine Ops_step (R_move rfl) rfl rfl ?_
    refine Ops_step (R_gtr rfl rfl) rfl rfl ?_
    refine Ops_step (R_assign rfl) rfl rfl ?_
    refine Ops_nil ?_
    refine then_n (hK14_ _ _ ?_)
    clear hK14_ K14_
    refine W_ret ?_
    refine ⟨_, ⟨_, _, rfl, rfl, rfl⟩, ?_⟩
    refine ⟨_, rfl, fun h_ => ?_, rfl⟩
    have h_ := of_decide_eq_false h_
    have hh := hn (by omega)
    have hi2 : i = L.length := by omega
    subst hi2
    rw [List.take_length] at hh
    exact ⟨by omega, hh.2⟩

end Go.Proofs.YtghfohhekhedaaaDoor
