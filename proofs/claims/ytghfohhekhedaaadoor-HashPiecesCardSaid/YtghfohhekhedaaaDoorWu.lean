/- What the walks of this seat show of Wu. -/
import Derived.Test.YtghfohhekhedaaaDoorWt
import Derived.Test.YtghfohhekhedaaaDoorProg
set_option linter.unusedVariables false
set_option linter.unusedSimpArgs false
namespace Go.Proofs.YtghfohhekhedaaaDoor
open Go Go.Sx

namespace TWu
theorem hm : Tryd.prog.follows .mixedOrders = true := by kernel_rfl
theorem a8_30 : Arr8 Tryd.prog 30 32 := ⟨_, Tryd.underlying30, by kernel_rfl, by kernel_rfl, Tryd.underlying5, by kernel_rfl⟩
theorem ag30 : aggB Tryd.prog 30 = some true := by kernel_rfl
theorem ag35 : aggB Tryd.prog 35 = some true := by kernel_rfl
theorem ag36 : aggB Tryd.prog 36 = some true := by kernel_rfl
theorem bd12 : bodied Tryd.prog 12 = true := by kernel_rfl
theorem bd13 : bodied Tryd.prog 13 = true := by kernel_rfl
theorem bd18 : bodied Tryd.prog 18 = true := by kernel_rfl
theorem bd19 : bodied Tryd.prog 19 = true := by kernel_rfl
theorem bd20 : bodied Tryd.prog 20 = true := by kernel_rfl
theorem bd21 : bodied Tryd.prog 21 = true := by kernel_rfl
theorem el53 : Elem Tryd.prog 53 22 1 24 := Elem.of (by kernel_rfl)
theorem gg_30 : Tryd.prog.eqGuardType Tryd.prog.depth 30 = false := by kernel_rfl
theorem sz30 : sz Tryd.prog 30 = some 32 := by kernel_rfl
theorem sz35 : sz Tryd.prog 35 = some 8 := by kernel_rfl
theorem sz36 : sz Tryd.prog 36 = some 8 := by kernel_rfl
theorem sz5 : sz Tryd.prog 5 = some 1 := by kernel_rfl
theorem zr22 : zr Tryd.prog 22 = some ([.slice none 0 0]) := by kernel_rfl
theorem zr30 : zr Tryd.prog 30 = some (List.replicate 32 (.int .u8 0)) := by kernel_rfl
end TWu

theorem rdigest_n (K : Option Addr) (key : List UInt8) (n kc : Nat) (AB : Option Addr) (b : List UInt8) (m bc : Nat) (w : World) (hn : n = key.length) (hm : m = b.length) (hk : Rd w K (key.map vb)) (hkl : key.length ≤ 32) (hb : Rd w AB (b.map vb)) (hbl : b.length ≤ 1099511627776) :
    Calls Tryd.prog 20 #[.slice K n kc, .slice AB m bc] w fun e w2 => e = .returned (.agg ((Bl.sum (Bl.add (Bl.begin_ key) b)).map vb).toArray) ∧ Fr [] w w2 := by
  subst hn hm; exact rdigest_any K key kc AB b bc w hk hkl hb hbl
set_option maxHeartbeats 4000000 in
theorem law_digests (A0 : Option Addr) (c0 : Nat) (a : List UInt8) (w : World) (hR0 : Rd w A0 (a.map vb)) (hl0 : a.length ≤ 140737488351232) (hO : Rd w (some ⟨0, 0, none⟩) ordC) :
    Calls Tryd.prog 6 #[.slice A0 a.length c0] w fun e w2 => e = .returned (.bool true) ∧ Fr [] w w2 := by
  have hF := Fr.refl [] w
  have sO := hO.ltO
  refine calls_W 24 Tryd.func6 rfl Tryd.ntmps6 rfl [.tmp 2] rfl ?_
  refine W_seq_k fun K1_ hK1_ => ?_
  refine W_region [some 2] rfl ?_
  refine Ops_step (R_assign rfl) rfl rfl ?_
  refine Ops_nil ?_
  refine then_n (hK1_ _ _ ?_)
  clear hK1_ K1_
  refine W_seq_k fun K2_ hK2_ => ?_
  refine W_seq_k fun K3_ hK3_ => ?_
  refine W_region [some 4, some 5, some 6] rfl ?_
  refine Ops_step (R_move rfl) rfl rfl ?_
  have hz5_hF := hF.size
  refine Ops_to (R_buildSlice TWu.el53 TWu.zr22 (by decide) (by decide) rfl rfl) rfl rfl ?_
  rintro _ w5_ ⟨b5, rfl, hb5, hB5, hF5_⟩
  have hl5 := hB5.lt
  replace hF := hF.fr0 hF5_
  clear hF5_
  refine Ops_call (C_func TWu.bd12 rfl) rfl rfl ?_
  refine (long_any _ [a] _ _ (RdLL.lit hB5 [a] [(A0, c0)] rfl rfl (by simp only [List.zip_cons_cons, List.zip_nil_right, List.forall_mem_cons]; exact ⟨(hR0.fr0 hF), by simp⟩)) (by simp)).mono ?_
  rintro _ _ ⟨r6, rfl, hr6, rfl⟩
  refine ⟨_, rfl, ?_⟩
  refine Ops_nil ?_
  refine then_n (hK3_ _ _ ?_)
  clear hK3_ K3_
  refine W_cond rfl (fun hc6 => ?_) (fun hc6 => ?_)
  · refine W_seq_k fun K4_ hK4_ => ?_
    refine W_region [some 7, some 2] rfl ?_
    refine Ops_call (C_func TWu.bd13 rfl) rfl rfl ?_
    refine (awake_any _ (hO.fr0 hF)).mono ?_
    rintro _ w7_ ⟨rfl, hF7_⟩
    replace hF := hF.fr0 hF7_
    clear hF7_
    refine ⟨_, rfl, ?_⟩
    refine Ops_step (R_assign rfl) rfl rfl ?_
    refine Ops_nil ?_
    refine then_n (hK4_ _ _ ?_)
    clear hK4_ K4_
    refine W_ret ?_
    refine then_ret ?_
    clear hK2_ K2_
    refine ⟨_, ⟨_, _, rfl, rfl, rfl⟩, ?_⟩
    exact ⟨rfl, hF⟩
  · obtain ⟨_, hs_⟩ := hr6 hc6
    have hs0 : a.length ≤ 4096 := hs_ _ (by simp)
    refine W_skip ?_
    refine then_n (hK2_ _ _ ?_)
    clear hK2_ K2_
    refine W_seq_k fun K5_ hK5_ => ?_
    refine W_region [some 8, some 9, some 3] rfl ?_
    refine Ops_step (R_move rfl) rfl rfl ?_
    have hz9 := hF.size
    refine Ops_call (C_func TWu.bd19 rfl) rfl rfl ?_
    refine (sclone_any _ _ _ _ _ rfl (hR0.fr0 hF) (by omega)).mono ?_
    rintro _ w9_ ⟨A9, c9, rfl, hQ9, hF9_⟩
    replace hF := hF.fr0 hF9_
    clear hF9_
    replace hQ9 := hQ9.le hz9
    refine ⟨_, rfl, ?_⟩
    refine Ops_step (R_assign rfl) rfl rfl ?_
    refine Ops_nil ?_
    refine then_n (hK5_ _ _ ?_)
    clear hK5_ K5_
    refine W_keepB [0, 3] fun B6 hB6_ => ?_
    simp only [pickE, lookE, putE, zipE, args0, Nat.reduceAdd, Nat.zero_add, List.cons_append, List.nil_append, Nat.reduceBEq, cond_true, cond_false] at hB6_
    subst hB6_
    refine W_seq_k fun K7_ hK7_ => ?_
    refine W_region [some 10, some 11, some 12, some 13, some 14, some 15, some 16, some 17, some 18, some 19, some 20, some 21, some 22, some 23, some 2] rfl ?_
    refine Ops_step (R_move rfl) rfl rfl ?_
    have hz11_hF := hF.size
    have hn11_hQ9 := hQ9.lt
    refine Ops_to (R_buildSlice TWu.el53 TWu.zr22 (by decide) (by decide) rfl rfl) rfl rfl ?_
    rintro _ w11_ ⟨b11, rfl, hb11, hB11, hF11_⟩
    have hl11 := hB11.lt
    replace hF := hF.fr0 hF11_
    replace hQ9 := hQ9.fr0 hF11_
    clear hF11_
    refine Ops_call (C_func TWu.bd18 rfl) rfl rfl ?_
    refine (of_any _ [a] _ _ (RdLL.lit hB11 [a] [(A9, c9)] rfl rfl (by simp only [List.zip_cons_cons, List.zip_nil_right, List.forall_mem_cons]; exact ⟨hQ9.rd, by simp⟩)) (by simp only [List.forall_mem_cons]; refine ⟨by omega, by simp⟩) (by simp) (hO.fr0 hF)).mono ?_
    rintro _ w12_ ⟨rfl, hF12_⟩
    replace hF := hF.fr0 hF12_
    replace hQ9 := hQ9.fr0 hF12_
    replace hB11 := hB11.fr0 hF12_
    clear hF12_
    refine ⟨_, rfl, ?_⟩
    refine Ops_step (R_move rfl) rfl rfl ?_
    refine Ops_call (C_func TWu.bd20 rfl) rfl rfl ?_
    refine (rdigest_n _ [] _ _ _ _ _ _ _ (by rfl) rfl (Rd.nil _ _) (by simp) (hR0.fr0 hF) (by omega)).mono ?_
    rintro _ w14_ ⟨rfl, hF14_⟩
    replace hF := hF.fr0 hF14_
    replace hQ9 := hQ9.fr0 hF14_
    clear hF14_
    refine ⟨_, rfl, ?_⟩
    refine Ops_step (R_eqlArr8 TWu.a8_30 rfl rfl TWu.gg_30 (of_len _) (sum_len _)) rfl rfl ?_
    refine Ops_step (R_move rfl) rfl rfl ?_
    refine Ops_known (b := true) 16 rfl (decide_eq_true rfl) ?_
    refine Ops_step (R_move rfl) rfl rfl ?_
    refine Ops_step (R_move rfl) rfl rfl ?_
    refine Ops_call (C_func TWu.bd21 rfl) rfl rfl ?_
    refine (beq_any _ _ _ _ _ _ _ _ _ (by first | rfl | (rw [List.length_take]; omega)) (by first | rfl | (rw [List.length_take]; omega)) hQ9.rd (hR0.fr0 hF)).mono ?_
    rintro _ _ ⟨rfl, rfl⟩
    refine ⟨_, rfl, ?_⟩
    refine Ops_step (R_pick_true rfl rfl) rfl rfl ?_
    refine Ops_step (R_move rfl) rfl rfl ?_
    refine Ops_known (b := true) 21 rfl (decide_eq_true rfl) ?_
    refine Ops_call (C_func TWu.bd13 rfl) rfl rfl ?_
    refine (awake_any _ (hO.fr0 hF)).mono ?_
    rintro _ w22_ ⟨rfl, hF22_⟩
    replace hF := hF.fr0 hF22_
    replace hQ9 := hQ9.fr0 hF22_
    clear hF22_
    refine ⟨_, rfl, ?_⟩
    refine Ops_step (R_pick_true rfl rfl) rfl rfl ?_
    refine Ops_step (R_assign rfl) rfl rfl ?_
    refine Ops_nil ?_
    refine then_n (hK7_ _ _ ?_)
    clear hK7_ K7_
    refine W_keepB [2] fun B8 hB8_ => ?_
    simp only [pickE, lookE, putE, zipE, args0, Nat.reduceAdd, Nat.zero_add, List.cons_append, List.nil_append, Nat.reduceBEq, cond_true, cond_false] at hB8_
    subst hB8_
    refine W_ret ?_
    refine ⟨_, ⟨_, _, rfl, rfl, rfl⟩, ?_⟩
    exact ⟨rfl, hF⟩
set_option maxHeartbeats 4000000 in
theorem rkeyed_any (K : Option Addr) (key : List UInt8) (n kc : Nat) (AB : Option Addr) (b : List UInt8) (m bc : Nat) (w : World) (hn : n = key.length) (hm : m = b.length) (hk : Rd w K (key.map vb)) (hkl : key.length ≤ 1099511627776) (hb : Rd w AB (b.map vb)) (hbl : b.length ≤ 1099511627776) :
    Calls Tryd.prog 23 #[.slice K n kc, .slice AB m bc] w fun e w2 => e = .returned (.agg ((Bl.keyed key [b]).map vb).toArray) ∧ Fr [] w w2 := by
  subst hn hm
  have hF := Fr.refl [] w
  refine calls_W 20 Tryd.func23 rfl Tryd.ntmps23 rfl [.cell 4 30] rfl ?_
  refine W_seq_k fun K1_ hK1_ => ?_
  refine W_region [some 4] rfl ?_
  have hz4_hF := hF.size
  refine Ops_to (R_alloc TWu.zr30) rfl rfl ?_
  rintro _ w4_ ⟨b4, rfl, hb4, hB4, hF4_⟩
  have hl4 := hB4.lt
  replace hF := hF.fr0 hF4_
  clear hF4_
  refine Ops_nil ?_
  refine then_n (hK1_ _ _ ?_)
  clear hK1_ K1_
  refine W_seq_k fun K2_ hK2_ => ?_
  refine W_seq_k fun K3_ hK3_ => ?_
  refine W_region [some 6, some 7, some 8, some 9, some 10, some 11, some 12, some 13] rfl ?_
  refine Ops_step (R_move rfl) rfl rfl ?_
  refine Ops_step (R_len Tryd.underlying22 rfl rfl) rfl rfl ?_
  refine Ops_step (R_eql rfl rfl) rfl rfl ?_
  refine Ops_step (R_move rfl) rfl rfl ?_
  refine Ops_split 9 rfl (fun hg9 => ?_) (fun hg9 => ?_)
  · have hfin := keyed_out (L := [b]) (show key.length < 1 ∨ 32 < key.length by omega)
    refine Ops_pass rfl rfl ?_
    refine Ops_pass rfl rfl ?_
    refine Ops_pass rfl rfl ?_
    refine Ops_step (R_pick_true rfl rfl) rfl rfl ?_
    refine Ops_nil ?_
    refine then_n (hK3_ _ _ ?_)
    clear hK3_ K3_
    refine W_keepB [0, 1, 4, 13] fun B4 hB4_ => ?_
    simp only [pickE, lookE, putE, zipE, args0, Nat.reduceAdd, Nat.zero_add, List.cons_append, List.nil_append, Nat.reduceBEq, cond_true, cond_false] at hB4_
    subst hB4_
    refine W_cond_true rfl ?_
    refine W_seq_k fun K5_ hK5_ => ?_
    refine W_region [some 14, some 15, some 5, none] rfl ?_
    refine Ops_step (R_move rfl) rfl rfl ?_
    refine Ops_call (C_func TWu.bd20 rfl) rfl rfl ?_
    refine (rdigest_n _ [] _ _ _ _ _ _ _ (by rfl) rfl (Rd.nil _ _) (by simp) (hk.fr0 hF) (by omega)).mono ?_
    rintro _ w15_ ⟨rfl, hF15_⟩
    replace hF := hF.fr0 hF15_
    replace hB4 := hB4.fr0 hF15_
    clear hF15_
    refine ⟨_, rfl, ?_⟩
    have hz5_hF := hF.size
    have hn5_hB4 := hB4.lt
    refine Ops_to (R_alloc TWu.zr30) rfl rfl ?_
    rintro _ w5_ ⟨b5, rfl, hb5, hB5, hF5_⟩
    have hl5 := hB5.lt
    replace hF := hF.fr0 hF5_
    replace hB4 := hB4.fr0 hF5_
    clear hF5_
    refine Ops_to0 (R_storeN TWu.sz30 (by simp [sum_len]) rfl rfl hB5 (by simp) allb) rfl ?_
    clear hB5
    rintro _ w6_ ⟨hB5, hF6_⟩
    replace hF := hF.then hF6_ (by simp only [List.mem_cons, List.not_mem_nil, or_false]; intro i_ hi_ hj_; omega)
    replace hB4 := hB4.fr hF6_ (by simp only [List.mem_cons, List.not_mem_nil, or_false]; omega)
    clear hF6_
    replace hB5 := hB5.to (cs' := (Bl.of [key]).map vb) (by rw [List.toList_toArray]; exact over4 (n := 32) (by simp) (by rw [List.length_map]; exact sum_len _))
    refine Ops_nil ?_
    refine then_n (hK5_ _ _ ?_)
    clear hK5_ K5_
    refine W_region [some 16, some 0] rfl ?_
    refine Ops_step (R_sliceAll Tryd.underlying30 TWu.sz5 rfl) rfl rfl ?_
    refine Ops_step (R_assign rfl) rfl rfl ?_
    refine Ops_nil ?_
    refine then_n (hK2_ _ _ ?_)
    clear hK2_ K2_
    refine W_seq_k fun K7_ hK7_ => ?_
    refine W_region [some 17, some 18, some 19, none] rfl ?_
    refine Ops_step (R_move rfl) rfl rfl ?_
    refine Ops_step (R_move rfl) rfl rfl ?_
    refine Ops_call (C_func TWu.bd20 rfl) rfl rfl ?_
    refine (rdigest_n _ _ _ _ _ _ _ _ _ (by first | rfl | (rw [of_len])) rfl (Rd.ofBlk0 hB5) (by first | omega | (rw [of_len]; decide)) (hb.fr0 hF) (by omega)).mono ?_
    rintro _ w19_ ⟨rfl, hF19_⟩
    replace hF := hF.fr0 hF19_
    replace hB4 := hB4.fr0 hF19_
    replace hB5 := hB5.fr0 hF19_
    clear hF19_
    refine ⟨_, rfl, ?_⟩
    refine Ops_to0 (R_storeN TWu.sz30 (by simp [sum_len]) rfl rfl hB4 (by simp) allb) rfl ?_
    clear hB4
    rintro _ w8_ ⟨hB4, hF8_⟩
    replace hF := hF.then hF8_ (by simp only [List.mem_cons, List.not_mem_nil, or_false]; intro i_ hi_ hj_; omega)
    replace hB5 := hB5.fr hF8_ (by simp only [List.mem_singleton]; omega)
    clear hF8_
    replace hB4 := hB4.to (cs' := (Bl.keyed key [b]).map vb) (by rw [List.toList_toArray, hfin]; exact over4 (n := 32) (by simp) (by rw [List.length_map]; exact sum_len _))
    refine Ops_nil ?_
    refine then_n (hK7_ _ _ ?_)
    clear hK7_ K7_
    refine W_keepB [4] fun B9 hB9_ => ?_
    simp only [pickE, lookE, putE, zipE, args0, Nat.reduceAdd, Nat.zero_add, List.cons_append, List.nil_append, Nat.reduceBEq, cond_true, cond_false] at hB9_
    subst hB9_
    refine W_ret ?_
    refine ⟨_, ⟨_, _, _, rfl, rfl, run_loadVarN TWu.ag30 TWu.sz30 hB4 (by simp [keyed_len]), rfl⟩, ?_⟩
    exact ⟨by simp [keyed_len, List.take_of_length_le, tupled], hF⟩
  · refine Ops_step (R_move rfl) rfl rfl ?_
    refine Ops_step (R_len Tryd.underlying22 rfl rfl) rfl rfl ?_
    refine Ops_step (R_gtr rfl rfl) rfl rfl ?_
    refine Ops_step (R_pick_false rfl rfl) rfl rfl ?_
    refine Ops_nil ?_
    refine then_n (hK3_ _ _ ?_)
    clear hK3_ K3_
    refine W_keepB [0, 1, 4, 13] fun B10 hB10_ => ?_
    simp only [pickE, lookE, putE, zipE, args0, Nat.reduceAdd, Nat.zero_add, List.cons_append, List.nil_append, Nat.reduceBEq, cond_true, cond_false] at hB10_
    subst hB10_
    refine W_if rfl (fun hc13 => ?_) (fun hc13 => ?_)
    · have hfin := keyed_out (L := [b]) (show key.length < 1 ∨ 32 < key.length by omega)
      refine W_seq_k fun K11_ hK11_ => ?_
      refine W_region [some 14, some 15, some 5, none] rfl ?_
      refine Ops_step (R_move rfl) rfl rfl ?_
      refine Ops_call (C_func TWu.bd20 rfl) rfl rfl ?_
      refine (rdigest_n _ [] _ _ _ _ _ _ _ (by rfl) rfl (Rd.nil _ _) (by simp) (hk.fr0 hF) (by omega)).mono ?_
      rintro _ w15_ ⟨rfl, hF15_⟩
      replace hF := hF.fr0 hF15_
      replace hB4 := hB4.fr0 hF15_
      clear hF15_
      refine ⟨_, rfl, ?_⟩
      have hz5_hF := hF.size
      have hn5_hB4 := hB4.lt
      refine Ops_to (R_alloc TWu.zr30) rfl rfl ?_
      rintro _ w5_ ⟨b5, rfl, hb5, hB5, hF5_⟩
      have hl5 := hB5.lt
      replace hF := hF.fr0 hF5_
      replace hB4 := hB4.fr0 hF5_
      clear hF5_
      refine Ops_to0 (R_storeN TWu.sz30 (by simp [sum_len]) rfl rfl hB5 (by simp) allb) rfl ?_
      clear hB5
      rintro _ w12_ ⟨hB5, hF12_⟩
      replace hF := hF.then hF12_ (by simp only [List.mem_cons, List.not_mem_nil, or_false]; intro i_ hi_ hj_; omega)
      replace hB4 := hB4.fr hF12_ (by simp only [List.mem_cons, List.not_mem_nil, or_false]; omega)
      clear hF12_
      replace hB5 := hB5.to (cs' := (Bl.of [key]).map vb) (by rw [List.toList_toArray]; exact over4 (n := 32) (by simp) (by rw [List.length_map]; exact sum_len _))
      refine Ops_nil ?_
      refine then_n (hK11_ _ _ ?_)
      clear hK11_ K11_
      refine W_region [some 16, some 0] rfl ?_
      refine Ops_step (R_sliceAll Tryd.underlying30 TWu.sz5 rfl) rfl rfl ?_
      refine Ops_step (R_assign rfl) rfl rfl ?_
      refine Ops_nil ?_
      refine then_n (hK2_ _ _ ?_)
      clear hK2_ K2_
      refine W_seq_k fun K13_ hK13_ => ?_
      refine W_region [some 17, some 18, some 19, none] rfl ?_
      refine Ops_step (R_move rfl) rfl rfl ?_
      refine Ops_step (R_move rfl) rfl rfl ?_
      refine Ops_call (C_func TWu.bd20 rfl) rfl rfl ?_
      refine (rdigest_n _ _ _ _ _ _ _ _ _ (by first | rfl | (rw [of_len])) rfl (Rd.ofBlk0 hB5) (by first | omega | (rw [of_len]; decide)) (hb.fr0 hF) (by omega)).mono ?_
      rintro _ w19_ ⟨rfl, hF19_⟩
      replace hF := hF.fr0 hF19_
      replace hB4 := hB4.fr0 hF19_
      replace hB5 := hB5.fr0 hF19_
      clear hF19_
      refine ⟨_, rfl, ?_⟩
      refine Ops_to0 (R_storeN TWu.sz30 (by simp [sum_len]) rfl rfl hB4 (by simp) allb) rfl ?_
      clear hB4
      rintro _ w14_ ⟨hB4, hF14_⟩
      replace hF := hF.then hF14_ (by simp only [List.mem_cons, List.not_mem_nil, or_false]; intro i_ hi_ hj_; omega)
      replace hB5 := hB5.fr hF14_ (by simp only [List.mem_singleton]; omega)
      clear hF14_
      replace hB4 := hB4.to (cs' := (Bl.keyed key [b]).map vb) (by rw [List.toList_toArray, hfin]; exact over4 (n := 32) (by simp) (by rw [List.length_map]; exact sum_len _))
      refine Ops_nil ?_
      refine then_n (hK13_ _ _ ?_)
      clear hK13_ K13_
      refine W_keepB [4] fun B15 hB15_ => ?_
      simp only [pickE, lookE, putE, zipE, args0, Nat.reduceAdd, Nat.zero_add, List.cons_append, List.nil_append, Nat.reduceBEq, cond_true, cond_false] at hB15_
      subst hB15_
      refine W_ret ?_
      refine ⟨_, ⟨_, _, _, rfl, rfl, run_loadVarN TWu.ag30 TWu.sz30 hB4 (by simp [keyed_len]), rfl⟩, ?_⟩
      exact ⟨by simp [keyed_len, List.take_of_length_le, tupled], hF⟩
    · have hfin := keyed_in (L := [b]) (show ¬ (key.length < 1 ∨ 32 < key.length) by omega)
      refine W_skip ?_
      refine then_n (hK2_ _ _ ?_)
      clear hK2_ K2_
      refine W_seq_k fun K16_ hK16_ => ?_
      refine W_region [some 17, some 18, some 19, none] rfl ?_
      refine Ops_step (R_move rfl) rfl rfl ?_
      refine Ops_step (R_move rfl) rfl rfl ?_
      refine Ops_call (C_func TWu.bd20 rfl) rfl rfl ?_
      refine (rdigest_n _ _ _ _ _ _ _ _ _ (by first | rfl | (rw [of_len])) rfl (hk.fr0 hF) (by first | omega | (rw [of_len]; decide)) (hb.fr0 hF) (by omega)).mono ?_
      rintro _ w19_ ⟨rfl, hF19_⟩
      replace hF := hF.fr0 hF19_
      replace hB4 := hB4.fr0 hF19_
      clear hF19_
      refine ⟨_, rfl, ?_⟩
      refine Ops_to0 (R_storeN TWu.sz30 (by simp [sum_len]) rfl rfl hB4 (by simp) allb) rfl ?_
      clear hB4
      rintro _ w17_ ⟨hB4, hF17_⟩
      replace hF := hF.then hF17_ (by simp only [List.mem_cons, List.not_mem_nil, or_false]; intro i_ hi_ hj_; omega)
      clear hF17_
      replace hB4 := hB4.to (cs' := (Bl.keyed key [b]).map vb) (by rw [List.toList_toArray, hfin]; exact over4 (n := 32) (by simp) (by rw [List.length_map]; exact sum_len _))
      refine Ops_nil ?_
      refine then_n (hK16_ _ _ ?_)
      clear hK16_ K16_
      refine W_keepB [4] fun B18 hB18_ => ?_
      simp only [pickE, lookE, putE, zipE, args0, Nat.reduceAdd, Nat.zero_add, List.cons_append, List.nil_append, Nat.reduceBEq, cond_true, cond_false] at hB18_
      subst hB18_
      refine W_ret ?_
      refine ⟨_, ⟨_, _, _, rfl, rfl, run_loadVarN TWu.ag30 TWu.sz30 hB4 (by simp [keyed_len]), rfl⟩, ?_⟩
      exact ⟨by simp [keyed_len, List.take_of_length_le, tupled], hF⟩

end Go.Proofs.YtghfohhekhedaaaDoor
