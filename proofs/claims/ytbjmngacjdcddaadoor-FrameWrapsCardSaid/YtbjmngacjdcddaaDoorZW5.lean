/- What is shown of the program on the way to the law. -/
import Derived.Test.YtbjmngacjdcddaaDoorZW1
import Derived.Test.YtbjmngacjdcddaaDoorZW3
import Derived.Test.YtbjmngacjdcddaaDoorProg
set_option linter.unusedVariables false
set_option linter.unusedSimpArgs false
set_option maxHeartbeats 4000000
namespace Go.Proofs.YtbjmngacjdcddaaDoor
open Go Go.Sx

namespace TFhb
theorem hm : Tryd.prog.follows .mixedOrders = true := by kernel_rfl
theorem ag119 : aggB Tryd.prog 119 = some false := by kernel_rfl
theorem ag125 : aggB Tryd.prog 125 = some true := by kernel_rfl
theorem ag126 : aggB Tryd.prog 126 = some true := by kernel_rfl
theorem ag30 : aggB Tryd.prog 30 = some false := by kernel_rfl
theorem ag4 : aggB Tryd.prog 4 = some false := by kernel_rfl
theorem ag72 : aggB Tryd.prog 72 = some false := by kernel_rfl
theorem ag96 : aggB Tryd.prog 96 = some true := by kernel_rfl
theorem bd100 : bodied Tryd.prog 100 = true := by kernel_rfl
theorem bd101 : bodied Tryd.prog 101 = true := by kernel_rfl
theorem bd91 : bodied Tryd.prog 91 = true := by kernel_rfl
theorem bd92 : bodied Tryd.prog 92 = true := by kernel_rfl
theorem bd93 : bodied Tryd.prog 93 = true := by kernel_rfl
theorem bd99 : bodied Tryd.prog 99 = true := by kernel_rfl
theorem el30 : Elem Tryd.prog 30 5 1 1 := Elem.of (by kernel_rfl)
theorem fo129_0 : offB Tryd.prog 129 0 = some 0 := by kernel_rfl
theorem fo129_1 : offB Tryd.prog 129 1 = some 8 := by kernel_rfl
theorem fo129_2 : offB Tryd.prog 129 2 = some 9 := by kernel_rfl
theorem fo129_3 : offB Tryd.prog 129 3 = some 10 := by kernel_rfl
theorem pl129 : partPl Tryd.prog 129 = some [(0, 8), (8, 1), (9, 1), (10, 1)] := by kernel_rfl
theorem sz119 : sz Tryd.prog 119 = some 1 := by kernel_rfl
theorem sz125 : sz Tryd.prog 125 = some 8 := by kernel_rfl
theorem sz126 : sz Tryd.prog 126 = some 8 := by kernel_rfl
theorem sz30 : sz Tryd.prog 30 = some 1 := by kernel_rfl
theorem sz5 : sz Tryd.prog 5 = some 1 := by kernel_rfl
theorem sz72 : sz Tryd.prog 72 = some 1 := by kernel_rfl
theorem sz96 : sz Tryd.prog 96 = some 32 := by kernel_rfl
theorem zr126 : zr Tryd.prog 126 = some (List.replicate 8 (.int .u32 0)) := by kernel_rfl
theorem zr129 : zr Tryd.prog 129 = some (List.replicate 8 (.int .u32 0) ++ [.slice none 0 0] ++ [.int .u64 0] ++ [.bool false]) := by kernel_rfl
theorem zr5 : zr Tryd.prog 5 = some ([.int .u8 0]) := by kernel_rfl
theorem zr96 : zr Tryd.prog 96 = some (List.replicate 32 (.int .u8 0)) := by kernel_rfl
end TFhb
open TFhb
theorem begin_any (K : Option Addr) (key : List UInt8) (hl : key.length ≤ 32) (kc : Nat) (w : World) (hk : Rd w K (key.map vb)) :
  Calls Tryd.prog 91 #[.slice K key.length kc] w fun e w2 => ∃ d, e = .returned (.pointer (some ⟨d, 0, none⟩)) ∧ Dig w2 w.heap.size d (Bl.begin_ key) ∧ Fr [] w w2 := by
 have hF := Fr.refl [] w
 refine calls_W 36 Tryd.func91 rfl Tryd.ntmps91 rfl [.tmp 2] rfl ?_
 refine W_seq_k fun K1_ hK1_ => ?_
 refine W_region [2] rfl (Ops_step (R_assign rfl) rfl rfl ?_)
 refine Ops_nil ?_
 refine then_n (hK1_ _ _ ?_)
 clear hK1_ K1_
 refine W_seq_k fun K2_ hK2_ => ?_
 refine W_region [4, 5, 6, 3] rfl ?_
 refine Ops_call (C_func bd100 rfl) rfl rfl ?_
 refine (first_any _).mono ?_
 rintro _ w4_ ⟨rfl, hF4_⟩
 replace hF := hF.fr0 hF4_
 clear hF4_
 refine ⟨_, rfl, ?_⟩
 refine Ops_step (R_build (pl := [(0, 8), (10, 1)]) (cs := digC Bl.first none 0 0 0) zr129 pl129 rfl rfl (by kernel_rfl)) rfl rfl ?_
 have hz6_hF := hF.size
 refine Ops_to (R_box rfl) rfl rfl ?_
 rintro _ w6_ ⟨b6, rfl, hb6, hB6, hF6_⟩
 have hl6 := hB6.lt
 replace hF := hF.fr0 hF6_
 clear hF6_
 replace hB6 : Blk _ b6 129 (Bl.first.map w32 ++ [.slice none 0 0, w64 0#64, .bool true]) := hB6
 refine Ops_step (R_assign rfl) rfl rfl ?_
 refine Ops_nil ?_
 refine then_n (hK2_ _ _ ?_)
 clear hK2_ K2_
 refine W_seq_k fun K3_ hK3_ => ?_
 refine W_drawF [7, 8, 9, 10, 11, 12, 13, 14, 15, 16, 17, 18, 19, 20, 21, none] [(0, true), (1, true), (2, true), (3, true), (4, true), (5, true), (6, true), (7, true), (8, true), (9, true), (10, true), (11, true), (12, true), (13, true), (14, true), (15, false)] TFhb.hm rfl (by kernel_rfl) fun ops4_ w4_ hops4_ hF4_ => ?_
 replace hF := hF.fr0 hF4_
 replace hB6 := hB6.fr0 hF4_
 clear hF4_
 refine HSp (R_move rfl) rfl rfl (HSp (R_nilCheck rfl) rfl rfl (HSp (R_fieldAddr fo129_0 rfl) rfl rfl (HSp (R_indexArr Tryd.underlying126 sz119 rfl rfl (by omega) (by omega)) rfl rfl ?_)))
 refine HS_loadB ag119 rfl hB6 (getwt (a := 0) (by decide)) rfl rfl ?_
 refine HSp (R_move rfl) rfl rfl (HSp (R_len Tryd.underlying30 rfl rfl) rfl rfl (HSp (R_conv Tryd.underlying3 Tryd.underlying119 rfl (cI_32 _)) rfl rfl (HSp (R_shl rfl rfl (by decide) (shl32 _ 8 (by decide))) rfl rfl (HSp (R_xor rfl rfl (xor32 (16842752#32) _)) rfl rfl ?_))))
 refine HSp (R_xor rfl rfl (xor32 _ (32#32))) rfl rfl (HSp (R_xor rfl rfl (xor32 _ _)) rfl rfl (HSp (R_nilCheck rfl) rfl rfl (HSp (R_fieldAddr fo129_0 rfl) rfl rfl (HSp (R_indexArr Tryd.underlying126 sz119 rfl rfl (by omega) (by omega)) rfl rfl ?_))))
 refine HS_to0 [] _ rfl (by rw [hops4_]; kernel_rfl) (R_store sz119 rfl rfl hB6 (by decide) rfl) rfl ?_
 clear hB6
 rintro _ w5_ ⟨hB6, hF5_⟩
 replace hF := hF.then hF5_ (by simp only [mc_]; intro i_ hi_ hj_; omega)
 clear hF5_
 replace hB6 := hB6.to (cs' := digC (Bl.first0 key.length) none 0 0 0) (by rw [digC, first0_eq]; exact setwt _ _ 0 _ (by decide))
 refine ⟨trivial, ?_⟩
 refine HS_nil ?_
 clear hops4_
 refine then_n (hK3_ _ _ ?_)
 clear hK3_ K3_
 refine W_keepB [0, 3] fun B6 hB6_ => ?_
 simp only [e_, Nat.reduceAdd, Nat.reduceBEq] at hB6_
 subst hB6_
 refine W_seq_k fun K7_ hK7_ => ?_
 refine W_seq_k fun K8_ hK8_ => ?_
 refine W_region [22, 23, 24] rfl (Ops_step (R_move rfl) rfl rfl (Ops_step (R_len Tryd.underlying30 rfl rfl) rfl rfl (Ops_step (R_gtr rfl rfl) rfl rfl ?_)))
 refine Ops_nil ?_
 refine then_n (hK8_ _ _ ?_)
 clear hK8_ K8_
 refine W_if rfl (fun hc24 => ?_) (fun hc24 => ?_)
 ·
  refine W_region [25, 26, 27, 28, 29, 30, 31, 32, 33, 34, none] rfl (Ops_step (R_move rfl) rfl rfl ?_)
  have hz26 := hF.size
  have hz26_hF := hF.size
  have hn26_hB6 := hB6.lt
  refine Ops_to (R_buildSlice0 el30) rfl rfl ?_
  rintro _ w26_ ⟨b26, rfl, hb26, hB26, hF26_⟩
  replace hF := hF.fr0 hF26_
  replace hB6 := hB6.fr0 hF26_
  clear hF26_
  have hO := Own.empty (B := w.heap.size) (size := 1) (by omega) hB26
  clear hB26
  refine Ops_step (R_move rfl) rfl rfl ?_
  have hlt28 := hO.off
  have hno28 := hO.notin hB6 (by decide)
  refine Ops_to (R_append el30 rfl rfl hO (Src.ofRd Tryd.underlying30 (by decide) (hk.fr0 hF) (by simp) allb) (by omega) (by simp only [maxLen]; omega) hF.size) rfl rfl ?_
  clear hO
  rintro _ w28_ ⟨A28, c28, rfl, hO, hF28_⟩
  replace hF := hF.then hF28_ (fun i_ hi_ hj_ => absurd (hlt28 i_ hi_) (by omega))
  replace hB6 := hB6.fr hF28_ hno28
  clear hF28_
  refine Ops_step (R_move rfl) rfl rfl (Ops_step (R_len Tryd.underlying30 rfl rfl) rfl rfl ?_)
  refine Ops_step (R_sub rfl rfl (wIc (n := 64 - key.length) (by omega) (by omega))) rfl rfl ?_
  have hlt32 := hO.off
  have hno32 := hO.notin hB6 (by decide)
  refine Ops_to (R_appendZeros el30 zr5 (by decide) Tryd.underlying3 rfl rfl hO (by omega) (by simp only [maxLen]; omega) hF.size) rfl rfl ?_
  clear hO
  rintro _ w32_ ⟨A32, c32, rfl, hO, hF32_⟩
  replace hF := hF.then hF32_ (fun i_ hi_ hj_ => absurd (hlt32 i_ hi_) (by omega))
  replace hB6 := hB6.fr hF32_ hno32
  clear hF32_
  rw [List.nil_append, pad_eq] at hO
  have e64 : 0 + key.length + (64 - key.length) = 64 := by omega
  rw [e64] at hO ⊢
  have hno := hO.notin hB6 (by decide)
  refine Ops_step (R_nilCheck rfl) rfl rfl (Ops_step (R_fieldAddr fo129_1 rfl) rfl rfl ?_)
  refine Ops_to0 (R_store sz30 rfl rfl hB6 (by rw [digC_len (first0_len _)]; decide) rfl) rfl ?_
  clear hB6
  rintro _ w9_ ⟨hB6, hF9_⟩
  replace hF := hF.then hF9_ (by simp only [mc_]; intro i_ hi_ hj_; omega)
  replace hO := hO.fr hF9_ (fun i_ hi_ hj_ => hno (by rw [← List.mem_singleton.1 hj_]; exact hi_))
  clear hF9_
  have hkey : key ≠ [] := by intro h_; simp [h_] at hc24
  replace hB6 := hB6.to (digC_rest (first0_len _) _ _ _ _ _ _ _)
  have hD := dig_begin (B := w.heap.size) hkey hl hB6 (by omega) hO
  refine Ops_nil ?_
  refine then_n (hK7_ _ _ ?_)
  clear hK7_ K7_
  refine W_keepB [3] fun B10 hB10_ => ?_
  simp only [e_, Nat.reduceAdd, Nat.reduceBEq] at hB10_
  subst hB10_
  refine W_seq_k fun K11_ hK11_ => ?_
  refine W_region [35, 2] rfl (Ops_step (R_move rfl) rfl rfl (Ops_step (R_assign rfl) rfl rfl ?_))
  refine Ops_nil ?_
  refine then_n (hK11_ _ _ ?_)
  clear hK11_ K11_
  refine W_ret ?_
  refine ⟨_, ⟨_, _, rfl, rfl, rfl⟩, ?_⟩
  exact ⟨_, rfl, hD, hF⟩
 ·
  have hkey : key = [] := List.eq_nil_of_length_eq_zero (by omega)
  have hD := dig_begin0 (B := w.heap.size) (A := none) hkey hB6 (by omega)
  refine W_skip ?_
  refine then_n (hK7_ _ _ ?_)
  clear hK7_ K7_
  refine W_seq_k fun K12_ hK12_ => ?_
  refine W_region [35, 2] rfl (Ops_step (R_move rfl) rfl rfl (Ops_step (R_assign rfl) rfl rfl ?_))
  refine Ops_nil ?_
  refine then_n (hK12_ _ _ ?_)
  clear hK12_ K12_
  refine W_keepB [2] fun B13 hB13_ => ?_
  simp only [e_, Nat.reduceAdd, Nat.reduceBEq] at hB13_
  subst hB13_
  refine W_ret ?_
  refine ⟨_, ⟨_, _, rfl, rfl, rfl⟩, ?_⟩
  exact ⟨_, rfl, hD, hF⟩
theorem new_any (w : World) : Calls Tryd.prog 99 #[] w fun e w2 => ∃ d, e = .returned (.pointer (some ⟨d, 0, none⟩)) ∧ Dig w2 w.heap.size d (Bl.begin_ []) ∧ Fr [] w w2 := by
 have hF := Fr.refl [] w
 refine calls_W 2 Tryd.func99 rfl Tryd.ntmps99 rfl [.tmp 0] rfl ?_
 refine W_seq_k fun K1_ hK1_ => ?_
 refine W_region [0] rfl (Ops_step (R_assign rfl) rfl rfl ?_)
 refine Ops_nil ?_
 refine then_n (hK1_ _ _ ?_)
 clear hK1_ K1_
 refine W_seq_k fun K2_ hK2_ => ?_
 refine W_region [1, 0] rfl ?_
 refine Ops_call (C_func bd91 rfl) rfl rfl ?_
 refine (begin_any none [] (by decide) 0 _ (Rd.nil _ _)).mono ?_
 rintro _ w1_ ⟨d, rfl, hD, hF1_⟩
 replace hF := hF.fr0 hF1_
 clear hF1_
 refine ⟨_, rfl, ?_⟩
 refine Ops_step (R_assign rfl) rfl rfl ?_
 refine Ops_nil ?_
 refine then_n (hK2_ _ _ ?_)
 clear hK2_ K2_
 refine W_ret ?_
 refine ⟨_, ⟨_, _, rfl, rfl, rfl⟩, ?_⟩
 exact ⟨_, rfl, hD, hF⟩
theorem add_any (B d : Nat) (D : Bl.D) (LA : Option Addr) (L : List (List UInt8)) (lc : Nat) (w : World) (hD : Dig w B d D) (hL : RdL w d LA L) (hlen : ∀ bs ∈ L, bs.length ≤ 1099511627776) (hm : L.length ≤ 1099511627776) (hBw : B ≤ w.heap.size)
  (hO : Rd w (some ⟨2, 0, none⟩) ordC) (h0 : 2 < B) :
  Calls Tryd.prog 92 #[.pointer (some ⟨d, 0, none⟩), .slice LA L.length lc] w fun e w2 => e = .returned (.int .i64 0) ∧ Dig w2 B d (L.foldl Bl.add D) ∧ Fr [d] w w2 := by
 have hF := Fr.refl [d] w
 obtain ⟨A, c, hB, hh, hr, hd, hR, hc⟩ := hD
 refine calls_W 77 Tryd.func92 rfl Tryd.ntmps92 rfl [.tmp 4] rfl ?_
 refine W_seq_k fun K1_ hK1_ => ?_
 refine W_region [4] rfl (Ops_step (R_assign rfl) rfl rfl ?_)
 refine Ops_nil ?_
 refine then_n (hK1_ _ _ ?_)
 clear hK1_ K1_
 refine W_seq_k fun K2_ hK2_ => ?_
 refine W_seq_k fun K3_ hK3_ => ?_
 refine W_region [7, 8, 9, 10, 11, 12, 13, 14, 15] rfl (Ops_step (R_move rfl) rfl rfl (Ops_step (R_ptrNil Tryd.underlying109 rfl rfl) rfl rfl (Ops_step (R_move rfl) rfl rfl (Ops_step (R_move rfl) rfl rfl ?_))))
 refine Ops_step (R_nilCheck rfl) rfl rfl (Ops_step (R_fieldAddr fo129_3 rfl) rfl rfl (Ops_step (R_loadB ag4 rfl hB (digC_get10 hh _ _ _ _)) rfl rfl (Ops_step (R_not rfl) rfl rfl (Ops_step (R_pick_false rfl rfl) rfl rfl ?_))))
 refine Ops_nil ?_
 refine then_n (hK3_ _ _ ?_)
 clear hK3_ K3_
 refine W_keepB [0, 1, 15] fun B4 hB4_ => ?_
 simp only [e_, Nat.reduceAdd, Nat.reduceBEq] at hB4_
 subst hB4_
 refine W_cond_false rfl ?_
 refine W_skip ?_
 refine then_n (hK2_ _ _ ?_)
 clear hK2_ K2_
 refine W_seq_k fun K5_ hK5_ => ?_
 refine W_seq_k fun K6_ hK6_ => ?_
 refine W_region [16, 17, 18] rfl (Ops_step (R_move rfl) rfl rfl (Ops_step (R_len Tryd.underlying99 rfl rfl) rfl rfl (Ops_step (R_move rfl) rfl rfl ?_)))
 refine Ops_nil ?_
 refine then_n (hK6_ _ _ ?_)
 clear hK6_ K6_
 refine W_block ?_
 refine W_loopB [0, 16, 17] [18] (fun m vs w' => ∃ i, i ≤ L.length ∧ m = L.length - i ∧ vs = [vi i] ∧ Dig w' B d ((L.take i).foldl Bl.add D) ∧ Fr [d] w w') (L.length) _ rfl (⟨0, by omega, rfl, rfl, ⟨A, c, hB, hh, hr, hd, hR, hc⟩, hF⟩) fun B7 hB7_ => ?_
 simp only [e_, Nat.reduceAdd, Nat.reduceBEq] at hB7_
 subst hB7_
 clear hB hh hr hd hR hc hF
 rintro m_ vs_ w0_ ⟨i, hi, rfl, rfl, hDg, hF⟩
 refine W_seq_k fun K8_ hK8_ => ?_
 refine W_region [19] rfl (Ops_step (R_lss rfl rfl) rfl rfl ?_)
 refine Ops_nil ?_
 refine then_n (hK8_ _ _ ?_)
 clear hK8_ K8_
 refine W_seq_k fun K9_ hK9_ => ?_
 refine W_if rfl (fun hc19 => ?_) (fun hc19 => ?_)
 ·
  have hi1 : i < L.length := by omega
  have hx := (hL.fr hF) i _ (List.getElem?_eq_getElem hi1)
  refine named L[i] fun bs ebs => ?_
  rw [← ebs] at hx
  obtain ⟨hs1, hs2, Ai, ci, hs3, hs4⟩ := hx
  have hbl : bs.length ≤ 1099511627776 := hlen bs (by rw [ebs]; exact List.getElem_mem hi1)
  refine named ((L.take i).foldl Bl.add D) fun D1 eD1 => ?_
  rw [← eD1] at hDg
  obtain ⟨A, c, hB, hh, hr, hd, hR, hc⟩ := hDg
  refine W_skip ?_
  refine then_n (hK9_ _ _ ?_)
  clear hK9_ K9_
  refine W_seq_k fun K10_ hK10_ => ?_
  refine W_block ?_
  refine W_seq_k fun K11_ hK11_ => ?_
  refine W_region [20, 21, 6] rfl (Ops_step (R_indexSl Tryd.underlying99 sz30 rfl rfl (by omega) (by omega) hs1) rfl rfl (Ops_step (R_load ag30 rfl (by simpa using hs3)) rfl rfl (Ops_step (R_assign rfl) rfl rfl ?_)))
  refine Ops_nil ?_
  refine then_n (hK11_ _ _ ?_)
  clear hK11_ K11_
  refine W_seq_k fun K12_ hK12_ => ?_
  refine W_drawF [22, 23, 24, 25, 26, 27, 28, 29, 30, 31, 32, 33, 34, 35, 36, 37, 38, 39, 40, 41, none] [(0, true), (1, true), (2, true), (3, true), (4, true), (5, true), (6, true), (7, true), (8, true), (9, true), (10, true), (11, true), (12, true), (13, true), (14, true), (15, true), (16, true), (17, false), (18, true), (19, true), (20, false)] TFhb.hm rfl (by kernel_rfl) fun ops13_ w13_ hops13_ hF13_ => ?_
  replace hF := hF.fr0 hF13_
  replace hB := hB.fr0 hF13_
  replace hR := hR.fr0 hF13_
  replace hs4 := hs4.fr0 hF13_
  clear hF13_
  refine HSp (R_move rfl) rfl rfl (HSp (R_move rfl) rfl rfl (HSp (R_nilCheck rfl) rfl rfl (HSp (R_fieldAddr fo129_1 rfl) rfl rfl ?_)))
  refine HS_loadB ag30 rfl hB (digC_get8 hh _ _ _ _) rfl rfl ?_
  refine HSp (R_move rfl) rfl rfl (HSp (R_nilCheck rfl) rfl rfl (HSp (R_fieldAddr fo129_1 rfl) rfl rfl ?_))
  refine HS_loadB ag30 rfl hB (digC_get8 hh _ _ _ _) rfl rfl ?_
  refine HSp (R_len Tryd.underlying30 rfl rfl) rfl rfl (HSp (R_move rfl) rfl rfl (HSp (R_nilCheck rfl) rfl rfl (HSp (R_fieldAddr fo129_1 rfl) rfl rfl ?_)))
  refine HS_loadB ag30 rfl hB (digC_get8 hh _ _ _ _) rfl rfl ?_
  refine HSp (R_len Tryd.underlying30 rfl rfl) rfl rfl (HSp (R_sliceTo Tryd.underlying30 sz5 rfl ⟨_, _, rfl, rfl⟩ ⟨_, _, rfl, rfl⟩ (by decide) (by omega) (by omega)) rfl rfl (HSp (R_move rfl) rfl rfl ?_))
  refine HS_to [] _ rfl (by rw [hops13_]; kernel_rfl) (R_appendTight (B := B) el30 rfl rfl hR.rd (by simp) (Src.ofRd Tryd.underlying30 (by decide) hs4.rd (by simp) allb) (by omega) (by simp only [maxLen]; omega) (by have := hF.size; omega)) rfl rfl ?_
  rintro _ w39_ ⟨A39, c39, rfl, hR39, hF39_, hW39⟩
  replace hF := hF.fr0 hF39_
  replace hB := hB.fr0 hF39_
  replace hR := hR.fr0 hF39_
  replace hs4 := hs4.fr0 hF39_
  clear hF39_
  have hR2 := rest_app rfl hR hW39
  clear hR39 hW39 hR
  have hcap := hR2.2
  replace hR := hR2.1
  clear hR2
  refine ⟨trivial, ?_⟩
  refine HSp (R_nilCheck rfl) rfl rfl (HSp (R_fieldAddr fo129_1 rfl) rfl rfl ?_)
  have hT : ∃ cs, Blk _ d 129 cs := ⟨_, hB⟩
  refine HS_to0 [] _ rfl (by rw [hops13_]; kernel_rfl) (R_store sz30 rfl rfl hB (by rw [digC_len hh]; decide) rfl) rfl ?_
  clear hB
  rintro _ w14_ ⟨hB, hF14_⟩
  replace hF := hF.then hF14_ (by simp)
  replace hR := hR.fr hF14_ (one39 hT)
  replace hs4 := hs4.fr hF14_ trivial
  clear hF14_
  clear hT
  replace hB := hB.to (digC_rest hh _ _ _ _ _ _ _)
  refine ⟨trivial, ?_⟩
  refine HS_nil ?_
  clear hops13_
  refine then_n (hK12_ _ _ ?_)
  clear hK12_ K12_
  refine W_keepB [0, 16, 17, 18] fun B15 hB15_ => ?_
  simp only [e_, Nat.reduceAdd, Nat.reduceBEq] at hB15_
  subst hB15_
  refine W_block ?_
  refine W_loopB [0, 16, 17, 18] [] (fun m vs w' => ∃ D2, D2.rest.length = m ∧ vs = [] ∧ DigL w' B d D2 ∧ Bl.eat D2.rest.length D2 = Bl.add D1 bs ∧ Fr [d] w w') ((D1.rest ++ bs).length) _ rfl (⟨⟨D1.h, D1.rest ++ bs, D1.n⟩, rfl, rfl, ⟨A39, c39, hB.to (by rw [List.length_append]), hh, hd, hR, hcap⟩, rfl, hF⟩) fun B16 hB16_ => ?_
  simp only [e_, Nat.reduceAdd, Nat.reduceBEq] at hB16_
  subst hB16_
  clear hB hh hd hR hcap hF hr hc
  rintro m_ vs_ w0_ ⟨D2, rfl, rfl, ⟨A2, c2, hB, hh, hd, hR, hc⟩, hE, hF⟩
  refine W_seq_k fun K17_ hK17_ => ?_
  refine W_seq_k fun K18_ hK18_ => ?_
  refine W_region [42, 43, 44, 45, 46, 47] rfl (Ops_step (R_move rfl) rfl rfl (Ops_step (R_nilCheck rfl) rfl rfl (Ops_step (R_fieldAddr fo129_1 rfl) rfl rfl (Ops_step (R_loadB ag30 rfl hB (digC_get8 hh _ _ _ _)) rfl rfl ?_))))
  refine Ops_step (R_len Tryd.underlying30 rfl rfl) rfl rfl (Ops_step (R_gtr rfl rfl) rfl rfl ?_)
  refine Ops_nil ?_
  refine then_n (hK18_ _ _ ?_)
  clear hK18_ K18_
  refine W_if rfl (fun hc47 => ?_) (fun hc47 => ?_)
  ·
   refine W_skip ?_
   refine then_n (hK17_ _ _ ?_)
   clear hK17_ K17_
   refine W_keepB [0, 16, 17, 18] fun B19 hB19_ => ?_
   simp only [e_, Nat.reduceAdd, Nat.reduceBEq] at hB19_
   subst hB19_
   refine W_block ?_
   refine W_seq_k fun K20_ hK20_ => ?_
   refine W_region [48, 49, 50, 51, 52, 53, 54, none] rfl (Ops_step (R_move rfl) rfl rfl (Ops_step (R_nilCheck rfl) rfl rfl (Ops_step (R_fieldAddr fo129_2 rfl) rfl rfl (Ops_step (R_loadB ag72 rfl hB (digC_get9 hh _ _ _ _)) rfl rfl ?_))))
   refine Ops_step (R_add rfl rfl (add64 _ 64#64)) rfl rfl (Ops_step (R_nilCheck rfl) rfl rfl (Ops_step (R_fieldAddr fo129_2 rfl) rfl rfl ?_))
   have hT : ∃ cs, Blk _ d 129 cs := ⟨_, hB⟩
   refine Ops_to0 (R_store sz72 rfl rfl hB (by rw [digC_len hh]; decide) rfl) rfl ?_
   clear hB
   rintro _ w21_ ⟨hB, hF21_⟩
   replace hF := hF.then hF21_ (by simp)
   replace hR := hR.fr hF21_ (one39 hT)
   clear hF21_
   clear hT
   replace hB := hB.to (cs' := digC D2.h A2 D2.rest.length c2 (D2.n + 64)) (by have h_ := digC_n hh A2 D2.rest.length c2 D2.n (D2.n + 64); rw [BitVec.ofNat_add] at h_; exact h_)
   obtain ⟨g2, o2, cs2, rfl, hg2, hB2, hr2⟩ := rest_some hR (by omega)
   have hgd : d ≠ g2 := hB.ne hB2 (by decide)
   clear hB2
   refine Ops_nil ?_
   refine then_n (hK20_ _ _ ?_)
   clear hK20_ K20_
   refine W_keepB [0, 16, 17, 18] fun B22 hB22_ => ?_
   simp only [e_, Nat.reduceAdd, Nat.reduceBEq] at hB22_
   subst hB22_
   refine W_seq_k fun K23_ hK23_ => ?_
   refine W_drawF [55, 56, 57, 58, 59, 60, 61, 62, 63, 64, 65, 66, 67] [(0, true), (1, true), (2, true), (3, true), (4, true), (5, true), (6, true), (7, true), (8, true), (9, true), (10, true), (11, true), (12, false)] TFhb.hm rfl (by kernel_rfl) fun ops24_ w24_ hops24_ hF24_ => ?_
   replace hF := hF.fr0 hF24_
   replace hB := hB.fr0 hF24_
   replace hR := hR.fr0 hF24_
   clear hF24_
   refine HSp (R_move rfl) rfl rfl (HSp (R_nilCheck rfl) rfl rfl (HSp (R_fieldAddr fo129_0 rfl) rfl rfl (HSp (R_move rfl) rfl rfl (HSp (R_nilCheck rfl) rfl rfl ?_))))
   refine HSp (R_fieldAddr fo129_1 rfl) rfl rfl ?_
   refine HS_loadB ag30 rfl hB (digC_get8 hh _ _ _ _) rfl rfl ?_
   refine HSp (R_sliceTo (h := 64) Tryd.underlying30 sz5 rfl ⟨_, _, rfl, rfl⟩ rfl (by decide) (by omega) (by omega)) rfl rfl ?_
   refine HSp (R_move rfl) rfl rfl (HSp (R_nilCheck rfl) rfl rfl (HSp (R_fieldAddr fo129_2 rfl) rfl rfl ?_))
   refine HS_loadB ag72 rfl hB (digC_get9 hh _ _ _ _) rfl rfl ?_
   have hT : ∃ cs, Blk _ d 129 cs := ⟨_, hB⟩
   refine HS_call [] _ rfl (by rw [hops24_]; kernel_rfl) (C_func bd101 rfl) rfl rfl ?_
   refine (mix_any D2.h hh [.slice (some ⟨g2, o2, none⟩) D2.rest.length c2, w64 (BitVec.ofNat 64 (D2.n + 64)), .bool true] d _ ⟨g2, o2, none⟩ (D2.rest.take 64) (by simp; omega) _ (BitVec.ofNat 64 (D2.n + 64)) false _ hB (by rw [List.map_take]; exact hR.rd.take 64) (hO.fr hF (offlt (by show 2 ≠ d; omega))) (offlt (by show g2 ≠ d; omega)) (offlt (by show 2 ≠ d; omega))).mono ?_
   rintro _ w67_ ⟨rfl, hB, hF67_⟩
   replace hF := hF.then hF67_ (by simp)
   replace hR := hR.fr hF67_ (one39 hT)
   clear hF67_
   refine ⟨_, rfl, trivial, ?_⟩
   clear hT
   rw [mix_wrap] at hB
   replace hB := hB.to (cs' := digC (Bl.mix D2.h (D2.rest.take 64) (D2.n + 64) false) (some ⟨g2, o2, none⟩) D2.rest.length c2 (D2.n + 64)) rfl
   have hh2 := mix_len D2.h (D2.rest.take 64) (D2.n + 64) false
   refine HS_nil ?_
   clear hops24_
   refine then_n (hK23_ _ _ ?_)
   clear hK23_ K23_
   refine W_keepB [0, 16, 17, 18] fun B25 hB25_ => ?_
   simp only [e_, Nat.reduceAdd, Nat.reduceBEq] at hB25_
   subst hB25_
   refine W_region [68, 69, 70, 71, 72, 73, 74, 75, none] rfl (Ops_step (R_move rfl) rfl rfl (Ops_step (R_move rfl) rfl rfl (Ops_step (R_nilCheck rfl) rfl rfl (Ops_step (R_fieldAddr fo129_1 rfl) rfl rfl ?_))))
   refine Ops_step (R_loadB ag30 rfl hB (digC_get8 hh2 _ _ _ _)) rfl rfl ?_
   refine Ops_step (R_sliceFrom (l := 64) Tryd.underlying30 sz5 rfl ⟨_, _, rfl, rfl⟩ rfl rfl (by decide) (by omega) (by omega) (by omega) (by omega)) rfl rfl ?_
   refine Ops_step (R_nilCheck rfl) rfl rfl (Ops_step (R_fieldAddr fo129_1 rfl) rfl rfl ?_)
   have hT : ∃ cs, Blk _ d 129 cs := ⟨_, hB⟩
   refine Ops_to0 (R_store sz30 rfl rfl hB (by rw [digC_len hh2]; decide) rfl) rfl ?_
   clear hB
   rintro _ w26_ ⟨hB, hF26_⟩
   replace hF := hF.then hF26_ (by simp)
   replace hR := hR.fr hF26_ (one39 hT)
   clear hF26_
   clear hT
   replace hB := hB.to (digC_rest hh2 _ _ _ _ _ _ _)
   refine Ops_nil ?_
   refine block_n ?_
   exact ⟨(D2.rest.drop 64).length, _, by simp; omega, rfl, ⟨⟨Bl.mix D2.h (D2.rest.take 64) (D2.n + 64) false, D2.rest.drop 64, D2.n + 64⟩, rfl, rfl, ⟨_, _, hB.to (by rw [List.length_drop]), hh2, hd, rest_cut hR 64, by rw [List.length_drop]; omega⟩, by rw [← eat_step (by omega), hE], hF⟩, ⟨rfl, rfl, rfl, rfl, trivial⟩⟩
  ·
   have hDn := DigL.dig (D := D2) ⟨A2, c2, hB, hh, hd, hR, hc⟩ (by omega)
   have he2 : D2 = (L.take (i + 1)).foldl Bl.add D := by rw [take_fold hi1, ← ebs, ← eD1, ← hE, eat_done (by omega)]
   rw [he2] at hDn
   refine W_exit ?_
   refine then_exit ?_
   clear hK17_ K17_
   refine then_exit ?_
   refine block_exit ?_
   refine block_n ?_
   refine then_n (hK10_ _ _ ?_)
   clear hK10_ K10_
   refine W_keepB [0, 16, 17, 18] fun B27 hB27_ => ?_
   simp only [e_, Nat.reduceAdd, Nat.reduceBEq] at hB27_
   subst hB27_
   refine W_region [76, 18] rfl ?_
   refine Ops_step (R_add rfl rfl (wIc (n := i + 1) (by omega) (by omega))) rfl rfl ?_
   refine Ops_step (R_move rfl) rfl rfl ?_
   refine Ops_nil ?_
   exact ⟨L.length - (i + 1), _, by omega, rfl, ⟨i + 1, by omega, rfl, rfl, hDn, hF⟩, ⟨rfl, rfl, rfl, trivial⟩⟩
 ·
  have hi2 : i = L.length := by omega
  subst hi2
  rw [List.take_length] at hDg
  refine W_exit ?_
  refine then_exit ?_
  clear hK9_ K9_
  refine then_exit ?_
  refine block_exit ?_
  refine then_n (hK5_ _ _ ?_)
  clear hK5_ K5_
  refine W_seq_k fun K28_ hK28_ => ?_
  refine W_region [4] rfl (Ops_step (R_assign rfl) rfl rfl ?_)
  refine Ops_nil ?_
  refine then_n (hK28_ _ _ ?_)
  clear hK28_ K28_
  refine W_ret ?_
  refine ⟨_, ⟨_, _, rfl, rfl, rfl⟩, ?_⟩
  exact ⟨rfl, hDg, hF⟩
theorem sum_any (B d : Nat) (D : Bl.D) (w : World) (hD : Dig w B d D) (hO : Rd w (some ⟨2, 0, none⟩) ordC) :
  Calls Tryd.prog 93 #[.pointer (some ⟨d, 0, none⟩)] w fun e w2 => e = .returned (.agg ((Bl.sum D).map vb).toArray) ∧ Fr [] w w2 := by
 obtain ⟨A, c, hB, hh, hr, hd, hR, hc⟩ := hD
 have hF := Fr.refl [] w
 have sO : 2 < w.heap.size := hO.ltO
 refine calls_W 81 Tryd.func93 rfl Tryd.ntmps93 rfl [.cell 2 96] rfl ?_
 refine W_seq_k fun K1_ hK1_ => ?_
 refine W_region [2] rfl ?_
 have hz2_hF := hF.size
 refine Ops_to (R_alloc zr96) rfl rfl ?_
 rintro _ w2_ ⟨b2, rfl, hb2, hB2, hF2_⟩
 have hl2 := hB2.lt
 replace hF := hF.fr0 hF2_
 clear hF2_
 refine Ops_nil ?_
 refine then_n (hK1_ _ _ ?_)
 clear hK1_ K1_
 refine W_seq_k fun K2_ hK2_ => ?_
 refine W_region [3] rfl ?_
 have hz3_hF := hF.size
 have hn3_hB2 := hB2.lt
 refine Ops_to (R_alloc zr96) rfl rfl ?_
 rintro _ w3_ ⟨b3, rfl, hb3, hB3, hF3_⟩
 have hl3 := hB3.lt
 replace hF := hF.fr0 hF3_
 replace hB2 := hB2.fr0 hF3_
 clear hF3_
 refine Ops_nil ?_
 refine then_n (hK2_ _ _ ?_)
 clear hK2_ K2_
 refine W_seq_k fun K3_ hK3_ => ?_
 refine W_seq_k fun K4_ hK4_ => ?_
 refine W_region [8, 9, 10, 11, 12, 13, 14, 15, 16] rfl (Ops_step (R_move rfl) rfl rfl (Ops_step (R_ptrNil Tryd.underlying109 rfl rfl) rfl rfl (Ops_step (R_move rfl) rfl rfl (Ops_step (R_move rfl) rfl rfl ?_))))
 refine Ops_step (R_nilCheck rfl) rfl rfl (Ops_step (R_fieldAddr fo129_3 rfl) rfl rfl (Ops_step (R_loadB ag4 rfl (hB.fr0 hF) (digC_get10 hh _ _ _ _)) rfl rfl (Ops_step (R_not rfl) rfl rfl (Ops_step (R_pick_false rfl rfl) rfl rfl ?_))))
 refine Ops_nil ?_
 refine then_n (hK4_ _ _ ?_)
 clear hK4_ K4_
 refine W_keepB [0, 2, 3, 16] fun B5 hB5_ => ?_
 simp only [e_, Nat.reduceAdd, Nat.reduceBEq] at hB5_
 subst hB5_
 refine W_cond_false rfl ?_
 refine W_skip ?_
 refine then_n (hK3_ _ _ ?_)
 clear hK3_ K3_
 refine W_seq_k fun K6_ hK6_ => ?_
 refine W_region [18, 19, 20, 21, 4, none] rfl (Ops_step (R_move rfl) rfl rfl (Ops_step (R_nilCheck rfl) rfl rfl (Ops_step (R_fieldAddr fo129_0 rfl) rfl rfl (Ops_step (R_loadN ag126 sz126 rfl (hB.fr0 hF) (by rw [digC_len hh]; decide)) rfl rfl ?_))))
 have hz4_hF := hF.size
 have hn4_hB2 := hB2.lt
 have hn4_hB3 := hB3.lt
 refine Ops_to (R_alloc zr126) rfl rfl ?_
 rintro _ w4_ ⟨b4, rfl, hb4, hB4, hF4_⟩
 have hl4 := hB4.lt
 replace hF := hF.fr0 hF4_
 replace hB2 := hB2.fr0 hF4_
 replace hB3 := hB3.fr0 hF4_
 clear hF4_
 refine Ops_to0 (R_storeN sz126 (by simp [digC_len hh]) rfl rfl hB4 (by decide) (all_cut (digC_one _ _ _ _ _) _ _)) rfl ?_
 clear hB4
 rintro _ w7_ ⟨hB4, hF7_⟩
 replace hF := hF.then hF7_ (by simp only [mc_]; intro i_ hi_ hj_; omega)
 replace hB2 := hB2.fr hF7_ (by simp only [mc_]; omega)
 replace hB3 := hB3.fr hF7_ (by simp only [mc_]; omega)
 clear hF7_
 replace hB4 := hB4.to (fst_cells hh _ (by simp) _ _ _ _)
 refine Ops_nil ?_
 refine then_n (hK6_ _ _ ?_)
 clear hK6_ K6_
 refine W_seq_k fun K8_ hK8_ => ?_
 refine W_drawF [22, 23, 24, 25, 26, 27, 28, 29, 30, 31, 32, 33, 34, 5] [(1, true), (2, true), (3, true), (4, true), (6, true), (7, true), (8, true), (9, true), (10, true), (11, true), (0, false), (5, false), (12, false), (13, true)] TFhb.hm rfl (by kernel_rfl) fun ops9_ w9_ hops9_ hF9_ => ?_
 replace hF := hF.fr0 hF9_
 replace hB2 := hB2.fr0 hF9_
 replace hB3 := hB3.fr0 hF9_
 replace hB4 := hB4.fr0 hF9_
 clear hF9_
 refine HSp (R_move rfl) rfl rfl (HSp (R_nilCheck rfl) rfl rfl (HSp (R_fieldAddr fo129_1 rfl) rfl rfl ?_))
 refine HS_loadB ag30 rfl (hB.fr0 hF) (digC_get8 hh _ _ _ _) rfl rfl ?_
 refine HSp (R_move rfl) rfl rfl (HSp (R_nilCheck rfl) rfl rfl (HSp (R_fieldAddr fo129_1 rfl) rfl rfl ?_))
 refine HS_loadB ag30 rfl (hB.fr0 hF) (digC_get8 hh _ _ _ _) rfl rfl ?_
 refine HSp (R_len Tryd.underlying30 rfl rfl) rfl rfl ?_
 refine HSp (R_sub rfl rfl (wIc (n := 64 - D.rest.length) (by omega) (by omega))) rfl rfl ?_
 have hz22 := hF.size
 have hz22_hF := hF.size
 have hn22_hB2 := hB2.lt
 have hn22_hB3 := hB3.lt
 have hn22_hB4 := hB4.lt
 refine HS_to [9, 4] _ rfl (by rw [hops9_]; kernel_rfl) (R_buildSlice0 el30) rfl rfl ?_
 rintro _ w22_ ⟨b22, rfl, hb22, hB22, hF22_⟩
 replace hF := hF.fr0 hF22_
 replace hB2 := hB2.fr0 hF22_
 replace hB3 := hB3.fr0 hF22_
 replace hB4 := hB4.fr0 hF22_
 clear hF22_
 have hQ := Own.empty (B := w.heap.size) (size := 1) (by omega) hB22
 clear hB22
 refine ⟨⟨((hB.fr0 hF).at_ (digC_get8 hh _ _ _ _)), ((hB.fr0 hF).at_ (digC_get8 hh _ _ _ _)), trivial⟩, ?_⟩
 have hlt_ := hQ.off
 have hno4_ := hQ.notin hB4 (by decide)
 have hno3_ := hQ.notin hB3 (by decide)
 have hno2_ := hQ.notin hB2 (by decide)
 refine HS_to [9] _ rfl (by rw [hops9_]; kernel_rfl) (R_append el30 rfl rfl hQ (Src.ofRd Tryd.underlying30 (by decide) (hR.fr0 hF).rd (by simp) allb) (by omega) (by simp only [maxLen]; omega) hF.size) rfl rfl ?_
 clear hQ
 rintro _ w27_ ⟨A27, c27, rfl, hQ, hF27_⟩
 replace hF := hF.then hF27_ (fun i_ hi_ hj_ => absurd (hlt_ i_ hi_) (by omega))
 replace hB2 := hB2.fr hF27_ hno2_
 replace hB3 := hB3.fr hF27_ hno3_
 replace hB4 := hB4.fr hF27_ (hno4_)
 clear hF27_
 refine ⟨⟨((hB.fr0 hF).at_ (digC_get8 hh _ _ _ _)), trivial⟩, ?_⟩
 clear hlt_ hno4_ hno3_ hno2_
 have hlt_ := hQ.off
 have hno4_ := hQ.notin hB4 (by decide)
 have hno3_ := hQ.notin hB3 (by decide)
 have hno2_ := hQ.notin hB2 (by decide)
 refine HS_to [] _ rfl (by rw [hops9_]; kernel_rfl) (R_appendZeros el30 zr5 (by decide) Tryd.underlying3 rfl rfl hQ (by omega) (by simp only [maxLen]; omega) hF.size) rfl rfl ?_
 clear hQ
 rintro _ w34_ ⟨A34, c34, rfl, hQ, hF34_⟩
 replace hF := hF.then hF34_ (fun i_ hi_ hj_ => absurd (hlt_ i_ hi_) (by omega))
 replace hB2 := hB2.fr hF34_ hno2_
 replace hB3 := hB3.fr hF34_ hno3_
 replace hB4 := hB4.fr hF34_ (hno4_)
 clear hF34_
 rw [List.nil_append, pad_eq] at hQ
 have e64 : 0 + D.rest.length + (64 - D.rest.length) = 64 := by omega
 rw [e64] at hQ ⊢
 obtain ⟨g34, rfl, hg34⟩ := own_some hQ (by decide)
 have hno := hQ.notin hB4 (by decide)
 refine ⟨trivial, ?_⟩
 clear hlt_ hno4_ hno3_ hno2_
 refine HSp (R_assign rfl) rfl rfl ?_
 refine HS_nil ?_
 clear hops9_
 refine then_n (hK8_ _ _ ?_)
 clear hK8_ K8_
 refine W_keepB [0, 2, 3, 4, 5] fun B10 hB10_ => ?_
 simp only [e_, Nat.reduceAdd, Nat.reduceBEq] at hB10_
 subst hB10_
 refine W_seq_k fun K11_ hK11_ => ?_
 refine W_drawF [35, 36, 37, 38, 39, 40, 41, 42, 43, 44, 45, 46, 47] [(0, true), (1, true), (2, true), (3, true), (4, true), (5, true), (6, true), (7, true), (8, true), (9, true), (10, true), (11, true), (12, false)] TFhb.hm rfl (by kernel_rfl) fun ops12_ w12_ hops12_ hF12_ => ?_
 replace hF := hF.fr0 hF12_
 replace hB2 := hB2.fr0 hF12_
 replace hB3 := hB3.fr0 hF12_
 replace hB4 := hB4.fr0 hF12_
 replace hQ := hQ.fr0 hF12_
 clear hF12_
 refine HSp (R_move rfl) rfl rfl (HSp (R_move rfl) rfl rfl (HSp (R_nilCheck rfl) rfl rfl (HSp (R_fieldAddr fo129_2 rfl) rfl rfl ?_)))
 refine HS_loadB ag72 rfl (hB.fr0 hF) (digC_get9 hh _ _ _ _) rfl rfl ?_
 refine HSp (R_move rfl) rfl rfl (HSp (R_nilCheck rfl) rfl rfl (HSp (R_fieldAddr fo129_1 rfl) rfl rfl ?_))
 refine HS_loadB ag30 rfl (hB.fr0 hF) (digC_get8 hh _ _ _ _) rfl rfl ?_
 refine HSp (R_len Tryd.underlying30 rfl rfl) rfl rfl (HSp (R_conv Tryd.underlying3 Tryd.underlying72 rfl (cN_64 _)) rfl rfl (HSp (R_add rfl rfl (add64N _ _)) rfl rfl ?_))
 have hB4_ := hB4
 refine HS_call [] _ rfl (by rw [hops12_]; kernel_rfl) (C_func bd101 rfl) rfl rfl ?_
 refine (mix_any D.h hh [] b4 _ ⟨g34, 0, none⟩ (Bl.padded D.rest) (padded_len hr) _ (BitVec.ofNat 64 (D.n + D.rest.length)) true _ hB4 hQ.rd (hO.fr0 hF) (offlt (by intro h_; exact hno (by simp only [blkOf, List.mem_singleton]; exact h_.symm))) (offlt (by show 2 ≠ b4; omega))).mono ?_
 rintro _ w47_ ⟨rfl, hB4, hF47_⟩
 replace hF := hF.then hF47_ (by simp only [mc_]; intro i_ hi_ hj_; omega)
 replace hB2 := hB2.fr hF47_ (by simp only [List.mem_singleton]; exact hB2.ne hB4_ (by decide))
 replace hB3 := hB3.fr hF47_ (by simp only [List.mem_singleton]; exact hB3.ne hB4_ (by decide))
 clear hF47_
 refine ⟨_, rfl, trivial, ?_⟩
 clear hQ hB4_
 rw [mix_wrap] at hB4
 refine named (Bl.mix D.h (Bl.padded D.rest) (D.n + D.rest.length) true) fun HH eH => ?_
 have lH : HH.length = 8 := by rw [eH]; exact mix_len _ _ _ _
 replace hB4 := hB4.to (cs' := HH.map w32) (by rw [eH]; simp)
 refine HS_nil ?_
 clear hops12_
 refine then_n (hK11_ _ _ ?_)
 clear hK11_ K11_
 refine W_keepB [2, 3, 4] fun B13 hB13_ => ?_
 simp only [e_, Nat.reduceAdd, Nat.reduceBEq] at hB13_
 subst hB13_
 refine W_seq_k fun K14_ hK14_ => ?_
 refine W_seq_k fun K15_ hK15_ => ?_
 refine W_region [48, 49] rfl (Ops_step (R_loadN ag126 sz126 rfl hB4 (by rw [List.length_map, lH]; decide)) rfl rfl (Ops_step (R_move rfl) rfl rfl ?_))
 refine Ops_nil ?_
 refine then_n (hK15_ _ _ ?_)
 clear hK15_ K15_
 refine W_block ?_
 refine W_loopB [2, 3, 48] [49] (fun m vs w' => ∃ i, i ≤ 8 ∧ m = 8 - i ∧ vs = [vi i] ∧ Blk w' b3 96 ((outL HH i).map vb) ∧ (∃ zs, zs.length = 32 ∧ Blk w' b2 96 zs) ∧ Fr [] w w') (8) _ rfl (⟨0, by decide, rfl, rfl, hB3.to (by rw [rep_vb]; simp [outL, lH]), ⟨List.replicate 32 (.int .u8 0), by simp, hB2⟩, hF⟩) fun B16 hB16_ => ?_
 simp only [e_, Nat.reduceAdd, Nat.reduceBEq] at hB16_
 subst hB16_
 clear hB3 hB2 hB4 hF
 rintro m_ vs_ w0_ ⟨i, hi, rfl, rfl, hB3, ⟨zs2, lz2, hB2⟩, hF⟩
 refine W_seq_k fun K17_ hK17_ => ?_
 refine W_region [50] rfl (Ops_step (R_lss rfl rfl) rfl rfl ?_)
 refine Ops_nil ?_
 refine then_n (hK17_ _ _ ?_)
 clear hK17_ K17_
 refine W_seq_k fun K18_ hK18_ => ?_
 refine W_if rfl (fun hc50 => ?_) (fun hc50 => ?_)
 ·
  refine named (outL HH i) fun L0 eL0 => ?_
  rw [← eL0] at hB3
  have lL0 : L0.length = 32 := by rw [eL0, outL_len _ (by omega), lH]
  refine W_skip ?_
  refine then_n (hK18_ _ _ ?_)
  clear hK18_ K18_
  refine W_seq_k fun K19_ hK19_ => ?_
  refine W_block ?_
  refine W_seq_k fun K20_ hK20_ => ?_
  refine W_region [51, 52, 6, 7] rfl (Ops_step (R_move rfl) rfl rfl (Ops_step (R_index Tryd.underlying126 sz119 ag119 rfl rfl (by omega) (by omega) (getAgg lH (by omega))) rfl rfl (Ops_step (R_assign rfl) rfl rfl (Ops_step (R_assign rfl) rfl rfl ?_))))
  refine Ops_nil ?_
  refine then_n (hK20_ _ _ ?_)
  clear hK20_ K20_
  refine W_region [53, 54, 55, 56, 57, 58, 59, 60, 61, 62, 63, 64, 65, 66, 67, 68, 69, 70, 71, 72, 73, 74, 75, none, 76, none, 77, none, 78, none] rfl (Ops_step (R_move rfl) rfl rfl ?_)
  refine Ops_step (R_mul rfl rfl (wIc (n := 4 * i) (by omega) (by omega))) rfl rfl ?_
  refine Ops_step (R_move rfl) rfl rfl ?_
  refine Ops_step (R_mul rfl rfl (wIc (n := 4 * i) (by omega) (by omega))) rfl rfl ?_
  refine Ops_step (R_add rfl rfl (wIc (n := (4 * i) + 1) (by omega) (by omega))) rfl rfl ?_
  refine Ops_step (R_move rfl) rfl rfl ?_
  refine Ops_step (R_mul rfl rfl (wIc (n := 4 * i) (by omega) (by omega))) rfl rfl ?_
  refine Ops_step (R_add rfl rfl (wIc (n := (4 * i) + 2) (by omega) (by omega))) rfl rfl ?_
  refine Ops_step (R_move rfl) rfl rfl ?_
  refine Ops_step (R_mul rfl rfl (wIc (n := 4 * i) (by omega) (by omega))) rfl rfl ?_
  refine Ops_step (R_add rfl rfl (wIc (n := (4 * i) + 3) (by omega) (by omega))) rfl rfl ?_
  refine Ops_step (R_move rfl) rfl rfl (Ops_step (R_conv Tryd.underlying119 Tryd.underlying5 rfl (c32_8 _)) rfl rfl (Ops_step (R_move rfl) rfl rfl (Ops_step (R_shr rfl rfl (by decide) (shr32 _ 8 (by decide))) rfl rfl (Ops_step (R_conv Tryd.underlying119 Tryd.underlying5 rfl (c32_8 _)) rfl rfl ?_))))
  refine Ops_step (R_move rfl) rfl rfl (Ops_step (R_shr rfl rfl (by decide) (shr32 _ 16 (by decide))) rfl rfl (Ops_step (R_conv Tryd.underlying119 Tryd.underlying5 rfl (c32_8 _)) rfl rfl (Ops_step (R_move rfl) rfl rfl (Ops_step (R_shr rfl rfl (by decide) (shr32 _ 24 (by decide))) rfl rfl ?_))))
  refine Ops_step (R_conv Tryd.underlying119 Tryd.underlying5 rfl (c32_8 _)) rfl rfl (Ops_step (R_indexArr Tryd.underlying96 sz5 rfl rfl (by omega) (by omega)) rfl rfl ?_)
  refine Ops_to0 (R_store sz5 rfl rfl hB3 (by rw [List.length_map, lL0]; omega) rfl) rfl ?_
  clear hB3
  rintro _ w21_ ⟨hB3, hF21_⟩
  replace hB2 := hB2.fr hF21_ (by simp only [mc_]; omega)
  replace hF := hF.then hF21_ (by simp only [mc_]; intro i_ hi_ hj_; omega)
  clear hF21_
  refine named (L0.set (4 * i) (UInt8.ofBitVec ((HH.getD i 0).setWidth 8))) fun L1 eL1 => ?_
  replace hB3 := hB3.to (cs' := L1.map vb) (by rw [eL1]; exact setb _ (4 * i) _)
  have lL1 : L1.length = 32 := by rw [eL1, List.length_set, lL0]
  refine Ops_step (R_indexArr Tryd.underlying96 sz5 rfl rfl (by omega) (by omega)) rfl rfl ?_
  refine Ops_to0 (R_store sz5 rfl rfl hB3 (by rw [List.length_map, lL1]; omega) rfl) rfl ?_
  clear hB3
  rintro _ w22_ ⟨hB3, hF22_⟩
  replace hB2 := hB2.fr hF22_ (by simp only [mc_]; omega)
  replace hF := hF.then hF22_ (by simp only [mc_]; intro i_ hi_ hj_; omega)
  clear hF22_
  refine named (L1.set (4 * i + 1) (UInt8.ofBitVec ((HH.getD i 0 >>> 8).setWidth 8))) fun L2 eL2 => ?_
  replace hB3 := hB3.to (cs' := L2.map vb) (by rw [eL2]; exact setb _ (4 * i + 1) _)
  have lL2 : L2.length = 32 := by rw [eL2, List.length_set, lL1]
  refine Ops_step (R_indexArr Tryd.underlying96 sz5 rfl rfl (by omega) (by omega)) rfl rfl ?_
  refine Ops_to0 (R_store sz5 rfl rfl hB3 (by rw [List.length_map, lL2]; omega) rfl) rfl ?_
  clear hB3
  rintro _ w23_ ⟨hB3, hF23_⟩
  replace hB2 := hB2.fr hF23_ (by simp only [mc_]; omega)
  replace hF := hF.then hF23_ (by simp only [mc_]; intro i_ hi_ hj_; omega)
  clear hF23_
  refine named (L2.set (4 * i + 2) (UInt8.ofBitVec ((HH.getD i 0 >>> 16).setWidth 8))) fun L3 eL3 => ?_
  replace hB3 := hB3.to (cs' := L3.map vb) (by rw [eL3]; exact setb _ (4 * i + 2) _)
  have lL3 : L3.length = 32 := by rw [eL3, List.length_set, lL2]
  refine Ops_step (R_indexArr Tryd.underlying96 sz5 rfl rfl (by omega) (by omega)) rfl rfl ?_
  refine Ops_to0 (R_store sz5 rfl rfl hB3 (by rw [List.length_map, lL3]; omega) rfl) rfl ?_
  clear hB3
  rintro _ w24_ ⟨hB3, hF24_⟩
  replace hB2 := hB2.fr hF24_ (by simp only [mc_]; omega)
  replace hF := hF.then hF24_ (by simp only [mc_]; intro i_ hi_ hj_; omega)
  clear hF24_
  refine named (L3.set (4 * i + 3) (UInt8.ofBitVec ((HH.getD i 0 >>> 24).setWidth 8))) fun L4 eL4 => ?_
  replace hB3 := hB3.to (cs' := L4.map vb) (by rw [eL4]; exact setb _ (4 * i + 3) _)
  have lL4 : L4.length = 32 := by rw [eL4, List.length_set, lL3]
  refine Ops_nil ?_
  refine block_n ?_
  refine then_n (hK19_ _ _ ?_)
  clear hK19_ K19_
  refine W_keepB [2, 3, 48, 49] fun B25 hB25_ => ?_
  simp only [e_, Nat.reduceAdd, Nat.reduceBEq] at hB25_
  subst hB25_
  refine W_region [79, 49] rfl ?_
  refine Ops_step (R_add rfl rfl (wIc (n := i + 1) (by omega) (by omega))) rfl rfl ?_
  refine Ops_step (R_move rfl) rfl rfl ?_
  refine Ops_nil ?_
  exact ⟨8 - (i + 1), _, by omega, rfl, ⟨i + 1, by omega, rfl, rfl, hB3.to (by rw [eL4, eL3, eL2, eL1, eL0, outL_set _ (by omega)]), ⟨zs2, lz2, hB2⟩, hF⟩, ⟨rfl, rfl, rfl, trivial⟩⟩
 ·
  have hi8 : i = 8 := by omega
  subst hi8
  replace hB3 := hB3.to (cs' := (Bl.sum D).map vb) (by rw [Bl.sum, ← eH, ← outL_all, lH])
  refine W_exit ?_
  refine then_exit ?_
  clear hK18_ K18_
  refine then_exit ?_
  refine block_exit ?_
  refine then_n (hK14_ _ _ ?_)
  clear hK14_ K14_
  refine W_seq_k fun K26_ hK26_ => ?_
  refine W_region [80, none] rfl (Ops_step (R_loadN ag96 sz96 rfl hB3 (by rw [List.length_map, sum_len]; decide)) rfl rfl ?_)
  refine Ops_to0 (R_storeN sz96 (by simp [sum_len]) rfl rfl hB2 (by rw [lz2]; decide) (all_cut allb _ _)) rfl ?_
  clear hB2
  rintro _ w27_ ⟨hB2, hF27_⟩
  replace hB3 := hB3.fr hF27_ (by simp only [mc_]; omega)
  replace hF := hF.then hF27_ (by simp only [mc_]; intro i_ hi_ hj_; omega)
  clear hF27_
  replace hB2 := hB2.to (cs' := (Bl.sum D).map vb) (over_whole lz2 (by rw [List.length_map, sum_len]))
  refine Ops_nil ?_
  refine then_n (hK26_ _ _ ?_)
  clear hK26_ K26_
  refine W_ret ?_
  refine ⟨_, ⟨_, _, _, rfl, rfl, run_loadVarN ag96 sz96 hB2 (by simp [sum_len]), rfl⟩, ?_⟩
  exact ⟨by simp [sum_len, List.take_of_length_le, tupled], hF⟩
theorem of_any (LA : Option Addr) (L : List (List UInt8)) (lc : Nat) (w : World) (hL : RdLL w LA L) (hlen : ∀ bs ∈ L, bs.length ≤ 1099511627776) (hm : L.length ≤ 1099511627776) (hO : Rd w (some ⟨2, 0, none⟩) ordC) :
  Calls Tryd.prog 90 #[.slice LA L.length lc] w fun e w2 => e = .returned (.agg ((Bl.of L).map vb).toArray) ∧ Fr [] w w2 := by
 have hF := Fr.refl [] w
 have sO : 2 < w.heap.size := hO.ltO
 refine calls_W 10 Tryd.func90 rfl Tryd.ntmps90 rfl [.cell 2 96] rfl ?_
 refine W_seq_k fun K1_ hK1_ => ?_
 refine W_region [2] rfl ?_
 have hz2_hF := hF.size
 refine Ops_to (R_alloc zr96) rfl rfl ?_
 rintro _ w2_ ⟨b2, rfl, hb2, hB2, hF2_⟩
 have hl2 := hB2.lt
 replace hF := hF.fr0 hF2_
 clear hF2_
 refine Ops_nil ?_
 refine then_n (hK1_ _ _ ?_)
 clear hK1_ K1_
 refine W_seq_k fun K2_ hK2_ => ?_
 refine W_region [4, 3] rfl ?_
 have hz4_hF := hF.size
 have hn4_hB2 := hB2.lt
 refine Ops_call (C_func bd99 rfl) rfl rfl ?_
 refine (new_any _).mono ?_
 rintro _ w4_ ⟨d4, rfl, hD4, hF4_⟩
 replace hF := hF.fr0 hF4_
 replace hB2 := hB2.fr0 hF4_
 clear hF4_
 refine Exists.elim hD4.name fun B4 h_ => ?_
 clear hD4
 have hBe4 := h_.1
 have hD4 := h_.2
 clear h_
 have hge4 := hD4.ge
 refine ⟨_, rfl, ?_⟩
 refine Ops_step (R_assign rfl) rfl rfl ?_
 refine Ops_nil ?_
 refine then_n (hK2_ _ _ ?_)
 clear hK2_ K2_
 refine W_seq_k fun K3_ hK3_ => ?_
 refine W_region [5, 6, 7] rfl (Ops_step (R_move rfl) rfl rfl (Ops_step (R_move rfl) rfl rfl ?_))
 have hz7 := hF.size
 have hzd := hD4.lt
 refine Ops_call (C_func bd92 rfl) rfl rfl ?_
 refine (add_any _ _ _ _ L _ _ hD4 (hL.old hF (by omega)) hlen hm (by omega) (hO.fr0 hF) (by omega)).mono ?_
 rintro _ w7_ ⟨rfl, hD4, hF7_⟩
 replace hF := hF.then hF7_ (by simp only [List.mem_singleton]; omega)
 replace hB2 := hB2.fr hF7_ (by simp only [mc_]; omega)
 clear hF7_
 refine ⟨_, rfl, ?_⟩
 refine Ops_nil ?_
 refine then_n (hK3_ _ _ ?_)
 clear hK3_ K3_
 refine W_seq_k fun K4_ hK4_ => ?_
 refine W_region [8, 9, none] rfl (Ops_step (R_move rfl) rfl rfl ?_)
 refine Ops_call (C_func bd93 rfl) rfl rfl ?_
 refine (sum_any _ _ _ _ hD4 (hO.fr0 hF)).mono ?_
 rintro _ w9_ ⟨rfl, hF9_⟩
 replace hF := hF.fr0 hF9_
 replace hB2 := hB2.fr0 hF9_
 replace hD4 := hD4.fr0 hF9_
 clear hF9_
 refine ⟨_, rfl, ?_⟩
 have hB2_ := hB2
 refine Ops_to0 (R_storeN sz96 (by simp [sum_len]) rfl rfl hB2 (by decide) allb) rfl ?_
 clear hB2
 rintro _ w5_ ⟨hB2, hF5_⟩
 replace hF := hF.then hF5_ (by simp only [mc_]; intro i_ hi_ hj_; omega)
 replace hD4 := hD4.fr hF5_ (oneDig (by omega) hB2_ (by decide))
 clear hF5_
 replace hB2 := hB2.to (cs' := (Bl.of L).map vb) (by rw [List.toList_toArray]; simp [over, sum_len, Bl.of])
 clear hB2_
 refine Ops_nil ?_
 refine then_n (hK4_ _ _ ?_)
 clear hK4_ K4_
 refine W_keepB [2] fun B6 hB6_ => ?_
 simp only [e_, Nat.reduceAdd, Nat.reduceBEq] at hB6_
 subst hB6_
 refine W_ret ?_
 refine ⟨_, ⟨_, _, _, rfl, rfl, run_loadVarN ag96 sz96 hB2 (by simp [Bl.of, sum_len]), rfl⟩, ?_⟩
 exact ⟨by simp [Bl.of, sum_len, List.take_of_length_le, tupled], hF⟩

end Go.Proofs.YtbjmngacjdcddaaDoor

