/- What the walks of this seat show of Wp2. -/
import Derived.Test.YtghfohhekhedaaaDoorWz
import Derived.Test.YtghfohhekhedaaaDoorProg
set_option linter.unusedVariables false
set_option linter.unusedSimpArgs false
namespace Go.Proofs.YtghfohhekhedaaaDoor
open Go Go.Sx

namespace TWp2
theorem hm : Tryd.prog.follows .mixedOrders = true := by kernel_rfl
theorem a8_30 : Arr8 Tryd.prog 30 32 := ⟨_, Tryd.underlying30, by kernel_rfl, by kernel_rfl, Tryd.underlying5, by kernel_rfl⟩
theorem ag22 : aggB Tryd.prog 22 = some false := by kernel_rfl
theorem ag35 : aggB Tryd.prog 35 = some true := by kernel_rfl
theorem ag36 : aggB Tryd.prog 36 = some true := by kernel_rfl
theorem bd12 : bodied Tryd.prog 12 = true := by kernel_rfl
theorem bd13 : bodied Tryd.prog 13 = true := by kernel_rfl
theorem bd14 : bodied Tryd.prog 14 = true := by kernel_rfl
theorem bd15 : bodied Tryd.prog 15 = true := by kernel_rfl
theorem bd16 : bodied Tryd.prog 16 = true := by kernel_rfl
theorem bd18 : bodied Tryd.prog 18 = true := by kernel_rfl
theorem bd22 : bodied Tryd.prog 22 = true := by kernel_rfl
theorem bd29 : bodied Tryd.prog 29 = true := by kernel_rfl
theorem el53 : Elem Tryd.prog 53 22 1 24 := Elem.of (by kernel_rfl)
theorem gg_30 : Tryd.prog.eqGuardType Tryd.prog.depth 30 = false := by kernel_rfl
theorem sz22 : sz Tryd.prog 22 = some 1 := by kernel_rfl
theorem sz35 : sz Tryd.prog 35 = some 8 := by kernel_rfl
theorem sz36 : sz Tryd.prog 36 = some 8 := by kernel_rfl
theorem zr22 : zr Tryd.prog 22 = some ([.slice none 0 0]) := by kernel_rfl
end TWp2
set_option maxHeartbeats 4000000 in
theorem law_pieces (A0 : Option Addr) (c0 : Nat) (a : List UInt8) (A1 : Option Addr) (c1 : Nat) (b : List (List UInt8)) (w : World) (hR0 : Rd w A0 (a.map vb)) (hl0 : a.length ≤ 140737488351232) (hL : RdLL w A1 b) (hcnt : b.length * 24 ≤ 140737488351232) (hO : Rd w (some ⟨0, 0, none⟩) ordC) :
    Calls Tryd.prog 11 #[.slice A0 a.length c0, .slice A1 b.length c1] w fun e w2 => e = .returned (.bool true) ∧ Fr [] w w2 := by
  have hF := Fr.refl [] w
  have sO := hO.ltO
  refine calls_W 68 Tryd.func11 rfl Tryd.ntmps11 rfl [.tmp 4] rfl ?_
  refine W_seq_k fun K1_ hK1_ => ?_
  refine W_region [some 4] rfl ?_
  refine Ops_step (R_assign rfl) rfl rfl ?_
  refine Ops_nil ?_
  refine then_n (hK1_ _ _ ?_)
  clear hK1_ K1_
  refine W_seq_k fun K2_ hK2_ => ?_
  refine W_seq_k fun K3_ hK3_ => ?_
  refine W_region [some 10, some 11, some 12, some 13, some 14] rfl ?_
  refine Ops_step (R_move rfl) rfl rfl ?_
  have hz11_hF := hF.size
  refine Ops_to (R_buildSlice TWp2.el53 TWp2.zr22 (by decide) (by decide) rfl rfl) rfl rfl ?_
  rintro _ w11_ ⟨b11, rfl, hb11, hB11, hF11_⟩
  have hl11 := hB11.lt
  replace hF := hF.fr0 hF11_
  clear hF11_
  refine Ops_step (R_move rfl) rfl rfl ?_
  obtain ⟨ps, hpl, hcl, hpr⟩ := hL.cells
  have hsz := hF.size
  have hO11 := Own.lit1 (B := w.heap.size) (by omega) hB11
  refine Ops_to (R_append TWp2.el53 rfl rfl hO11 (Src.ofRd Tryd.underlying53 (by decide) (hcl.fr0 hF) (zip_one hpl) zip_all) (by omega) (by simp only [maxLen]; omega) hF.size) rfl rfl ?_
  clear hO11 hB11
  rintro _ w13_ ⟨A13, c13, rfl, hO13, hF13_⟩
  replace hF := hF.then hF13_ (by simp only [blkOf, List.mem_singleton]; omega)
  clear hF13_
  have hLL : RdLL _ A13 (a :: b) := RdLL.of (ps := (A0, c0) :: ps) (by simp [hpl]) hO13.rd (by simp only [List.zip_cons_cons, List.forall_mem_cons]; exact ⟨hR0.fr0 hF, fun p hp => (hpr p hp).fr0 hF⟩)
  clear hO13
  rw [show 1 + b.length = (a :: b).length by simp [Nat.add_comm]]
  refine Ops_call (C_func TWp2.bd12 rfl) rfl rfl ?_
  refine (long_any A13 (a :: b) _ _ hLL (by simp; omega)).mono ?_
  rintro _ _ ⟨r14, rfl, hr14, rfl⟩
  refine ⟨_, rfl, ?_⟩
  refine Ops_nil ?_
  refine then_n (hK3_ _ _ ?_)
  clear hK3_ K3_
  refine W_cond rfl (fun hc14 => ?_) (fun hc14 => ?_)
  · refine W_seq_k fun K4_ hK4_ => ?_
    refine W_region [some 15, some 4] rfl ?_
    refine Ops_call (C_func TWp2.bd13 rfl) rfl rfl ?_
    refine (awake_any _ (hO.fr0 hF)).mono ?_
    rintro _ w15_ ⟨rfl, hF15_⟩
    replace hF := hF.fr0 hF15_
    clear hF15_
    refine ⟨_, rfl, ?_⟩
    refine Ops_step (R_assign rfl) rfl rfl ?_
    refine Ops_nil ?_
    refine then_n (hK4_ _ _ ?_)
    clear hK4_ K4_
    refine W_keepB [4] fun B5 hB5_ => ?_
    simp only [pickE, lookE, putE, zipE, args0, Nat.reduceAdd, Nat.zero_add, List.cons_append, List.nil_append, Nat.reduceBEq, cond_true, cond_false] at hB5_
    subst hB5_
    refine W_ret ?_
    refine then_ret ?_
    clear hK2_ K2_
    refine ⟨_, ⟨_, _, rfl, rfl, rfl⟩, ?_⟩
    exact ⟨rfl, hF⟩
  · obtain ⟨hcn, hs_⟩ := hr14 hc14
    have hs0 : a.length ≤ 4096 := hs_ _ (by simp)
    have hb1 : b.length ≤ 4096 := by simp at hcn; omega
    have hbf := flat_le (L := b) (n := 4096) (fun bs hb_ => hs_ bs (by simp [hb_]))
    have hbf2 : b.length * 4096 ≤ 4096 * 4096 := Nat.mul_le_mul_right _ hb1
    refine W_skip ?_
    refine then_n (hK2_ _ _ ?_)
    clear hK2_ K2_
    refine W_keepB [0, 1] fun B6 hB6_ => ?_
    simp only [pickE, lookE, putE, zipE, args0, Nat.reduceAdd, Nat.zero_add, List.cons_append, List.nil_append, Nat.reduceBEq, cond_true, cond_false] at hB6_
    subst hB6_
    refine W_seq_k fun K7_ hK7_ => ?_
    refine W_region [some 16, some 17, some 5] rfl ?_
    refine Ops_step (R_move rfl) rfl rfl ?_
    have hz17 := hF.size
    refine Ops_call (C_func TWp2.bd29 rfl) rfl rfl ?_
    refine (concat_any A1 b c1 _ (hL.fr0 hF) (by omega) (by omega)).mono ?_
    rintro _ w17_ ⟨A17, c17, rfl, hQ17, hF17_⟩
    replace hF := hF.fr0 hF17_
    clear hF17_
    replace hQ17 := hQ17.le hz17
    refine ⟨_, rfl, ?_⟩
    refine Ops_step (R_assign rfl) rfl rfl ?_
    refine Ops_nil ?_
    refine then_n (hK7_ _ _ ?_)
    clear hK7_ K7_
    refine W_seq_k fun K8_ hK8_ => ?_
    refine W_region [some 18, some 19, some 6, some 7] rfl ?_
    have hlq := hQ17.lt
    have hz18_hF := hF.size
    have hn18_hQ17 := hQ17.lt
    refine Ops_call (C_func TWp2.bd14 rfl) rfl rfl ?_
    refine (new_any _).mono ?_
    rintro _ w18_ ⟨d18, rfl, hD18, hF18_⟩
    replace hF := hF.fr0 hF18_
    replace hQ17 := hQ17.fr0 hF18_
    clear hF18_
    refine Exists.elim hD18.name fun B18 h_ => ?_
    clear hD18
    have hBe18 := h_.1
    have hD18 := h_.2
    clear h_
    have hge18 := hD18.ge
    refine ⟨_, rfl, ?_⟩
    have hz19_hF := hF.size
    have hn19_hQ17 := hQ17.lt
    have hn19_hD18 := hD18.lt
    refine Ops_call (C_func TWp2.bd14 rfl) rfl rfl ?_
    refine (new_any _).mono ?_
    rintro _ w19_ ⟨d19, rfl, hD19, hF19_⟩
    replace hF := hF.fr0 hF19_
    replace hQ17 := hQ17.fr0 hF19_
    replace hD18 := hD18.fr0 hF19_
    clear hF19_
    refine Exists.elim hD19.name fun B19 h_ => ?_
    clear hD19
    have hBe19 := h_.1
    have hD19 := h_.2
    clear h_
    have hge19 := hD19.ge
    refine ⟨_, rfl, ?_⟩
    refine Ops_step (R_assign rfl) rfl rfl ?_
    refine Ops_step (R_assign rfl) rfl rfl ?_
    refine Ops_nil ?_
    refine then_n (hK8_ _ _ ?_)
    clear hK8_ K8_
    refine W_seq_k fun K9_ hK9_ => ?_
    refine W_seq_k fun K10_ hK10_ => ?_
    refine W_region [some 20, some 21, some 22] rfl ?_
    refine Ops_step (R_move rfl) rfl rfl ?_
    refine Ops_step (R_len Tryd.underlying53 rfl rfl) rfl rfl ?_
    refine Ops_step (R_move rfl) rfl rfl ?_
    refine Ops_nil ?_
    refine then_n (hK10_ _ _ ?_)
    clear hK10_ K10_
    refine W_block ?_
    refine W_loopB [0, 1, 5, 6, 7, 20, 21] [22] (fun m vs w' => ∃ i, i ≤ b.length ∧ m = b.length - i ∧ vs = [vi (i : Nat)] ∧ Dig w' B18 d18 ((b.take i).foldl Bl.add (Bl.begin_ [])) ∧ Dig w' B19 d19 (Bl.begin_ []) ∧ OwnB w' w.heap.size 5 A17 c17 b.flatten ∧ Fr [] w w') (b.length) _ rfl (⟨0, by omega, rfl, rfl, hD18, hD19, hQ17, hF⟩) fun B11 hB11_ => ?_
    simp only [pickE, lookE, putE, zipE, args0, Nat.reduceAdd, Nat.zero_add, List.cons_append, List.nil_append, Nat.reduceBEq, cond_true, cond_false] at hB11_
    subst hB11_
    clear hD18 hD19 hQ17 hF
    rintro m_ vs_ w0_ ⟨i, hi, rfl, rfl, hD18, hD19, hQ17, hF⟩
    refine W_seq_k fun K12_ hK12_ => ?_
    refine W_region [some 23] rfl ?_
    refine Ops_step (R_lss rfl rfl) rfl rfl ?_
    refine Ops_nil ?_
    refine then_n (hK12_ _ _ ?_)
    clear hK12_ K12_
    refine W_seq_k fun K13_ hK13_ => ?_
    refine W_if rfl (fun hc23 => ?_) (fun hc23 => ?_)
    · have hi1 : i < b.length := by omega
      have hx := (hL) i _ (List.getElem?_eq_getElem hi1)
      have htk := List.take_succ_eq_append_getElem hi1
      have hpl : b[i].length ≤ 4096 := hs_ _ (by simp)
      refine named b[i] fun p ep => ?_
      rw [← ep] at hx htk hpl
      obtain ⟨hs1, Ai, ci, hs3, hs4⟩ := hx
      replace hs3 := (Fr.cell hF hs3 (by simp))
      refine W_skip ?_
      refine then_n (hK13_ _ _ ?_)
      clear hK13_ K13_
      refine W_seq_k fun K14_ hK14_ => ?_
      refine W_block ?_
      refine W_seq_k fun K15_ hK15_ => ?_
      refine W_region [some 24, some 25, some 9] rfl ?_
      refine Ops_step (R_indexSl Tryd.underlying53 TWp2.sz22 rfl rfl (by omega) (by omega) hs1) rfl rfl ?_
      refine Ops_step (R_load TWp2.ag22 rfl (by simpa using hs3)) rfl rfl ?_
      refine Ops_step (R_assign rfl) rfl rfl ?_
      refine Ops_nil ?_
      refine then_n (hK15_ _ _ ?_)
      clear hK15_ K15_
      refine W_seq_k fun K16_ hK16_ => ?_
      refine W_region [some 26, some 27, some 28, some 29, some 30] rfl ?_
      refine Ops_step (R_move rfl) rfl rfl ?_
      refine Ops_step (R_move rfl) rfl rfl ?_
      have hz28_hF := hF.size
      have hn28_hD18 := hD18.lt
      have hn28_hD19 := hD19.lt
      have hn28_hQ17 := hQ17.lt
      refine Ops_to (R_buildSlice TWp2.el53 TWp2.zr22 (by decide) (by decide) rfl rfl) rfl rfl ?_
      rintro _ w28_ ⟨b28, rfl, hb28, hB28, hF28_⟩
      have hl28 := hB28.lt
      replace hF := hF.fr0 hF28_
      replace hD18 := hD18.fr0 hF28_
      replace hD19 := hD19.fr0 hF28_
      replace hQ17 := hQ17.fr0 hF28_
      clear hF28_
      have hs29_ := hF.size
      have hd29_ := hD18
      have hw29_ := hD18.lt
      refine Ops_call (C_func TWp2.bd15 rfl) rfl rfl ?_
      refine (add_any _ _ _ _ [p] _ _ hD18 (RdL.lit hB28 (by omega) [p] [(Ai, ci)] rfl rfl (by simp only [List.zip_cons_cons, List.zip_nil_right, List.forall_mem_cons]; exact ⟨(RdX.old hs4 hF (by omega)), by simp⟩)) (by simp only [List.forall_mem_cons]; refine ⟨by omega, by simp⟩) (by simp) (by omega) (hO.fr0 hF) (by omega)).mono ?_
      rintro _ w29_ ⟨rfl, hD18, hF29_⟩
      replace hF := hF.then hF29_ (by simp only [List.mem_singleton]; omega)
      replace hD19 := hD19.fr hF29_ (digDig (by omega) hd29_)
      replace hQ17 := hQ17.fr hF29_ (own_notin hlq (by simp only [List.mem_singleton]; omega))
      replace hB28 := hB28.fr hF29_ (by simp only [List.mem_cons, List.not_mem_nil, or_false]; omega)
      clear hF29_
      refine ⟨_, rfl, ?_⟩
      refine Ops_step (R_neq rfl rfl) rfl rfl ?_
      refine Ops_nil ?_
      refine then_n (hK16_ _ _ ?_)
      clear hK16_ K16_
      refine W_keepB [0, 1, 5, 6, 7, 20, 21, 22, 30] fun B17 hB17_ => ?_
      simp only [pickE, lookE, putE, zipE, args0, Nat.reduceAdd, Nat.zero_add, List.cons_append, List.nil_append, Nat.reduceBEq, cond_true, cond_false] at hB17_
      subst hB17_
      refine W_no rfl (by decide) ?_
      refine W_skip ?_
      refine block_n ?_
      refine then_n (hK14_ _ _ ?_)
      clear hK14_ K14_
      refine W_region [some 31, some 22] rfl ?_
      refine Ops_step (R_add rfl rfl (wIc (n := i + 1) (by omega) (by omega))) rfl rfl ?_
      refine Ops_step (R_move rfl) rfl rfl ?_
      refine Ops_nil ?_
      exact ⟨b.length - (i + 1), _, by omega, rfl, ⟨i + 1, by omega, rfl, rfl, by rw [htk, List.foldl_append]; exact hD18, hD19, hQ17, hF⟩, ⟨rfl, rfl, rfl, rfl, rfl, rfl, rfl, trivial⟩⟩
    · have hil : i = b.length := by omega
      subst hil
      rw [List.take_length] at hD18
      refine W_exit ?_
      refine then_exit ?_
      clear hK13_ K13_
      refine then_exit ?_
      refine block_exit ?_
      refine then_n (hK9_ _ _ ?_)
      clear hK9_ K9_
      refine W_seq_k fun K18_ hK18_ => ?_
      refine W_region [some 32, some 33, some 34] rfl ?_
      refine Ops_step (R_move rfl) rfl rfl ?_
      refine Ops_step (R_move rfl) rfl rfl ?_
      have hs34_ := hF.size
      have hd34_ := hD19
      have hw34_ := hD19.lt
      refine Ops_call (C_func TWp2.bd15 rfl) rfl rfl ?_
      refine (add_any _ _ _ _ b _ _ hD19 (hL.old hF (by omega)) (fun bs hb_ => by have := hs_ bs (by simp [hb_]); omega) (by omega) (by omega) (hO.fr0 hF) (by omega)).mono ?_
      rintro _ w34_ ⟨rfl, hD19, hF34_⟩
      replace hF := hF.then hF34_ (by simp only [List.mem_singleton]; omega)
      replace hD18 := hD18.fr hF34_ (digDig (by omega) hd34_)
      replace hQ17 := hQ17.fr hF34_ (own_notin hlq (by simp only [List.mem_singleton]; omega))
      clear hF34_
      refine ⟨_, rfl, ?_⟩
      refine Ops_nil ?_
      refine then_n (hK18_ _ _ ?_)
      clear hK18_ K18_
      refine W_keepB [0, 1, 5, 6, 7] fun B19 hB19_ => ?_
      simp only [pickE, lookE, putE, zipE, args0, Nat.reduceAdd, Nat.zero_add, List.cons_append, List.nil_append, Nat.reduceBEq, cond_true, cond_false] at hB19_
      subst hB19_
      refine W_seq_k fun K20_ hK20_ => ?_
      refine W_region [some 35, some 36, some 37, some 38, some 39, some 40, some 41, some 42, some 43, some 44, some 45, some 46, some 47, some 48, some 49, some 50, some 51, some 52, some 53, some 54, some 55, some 56, some 57, some 58, some 59, some 60, some 61, some 62, some 63, some 64, some 65, some 66, some 67, some 4] rfl ?_
      refine Ops_step (R_move rfl) rfl rfl ?_
      refine Ops_call (C_func TWp2.bd16 rfl) rfl rfl ?_
      refine (sum_any _ _ _ _ hD18 (hO.fr0 hF)).mono ?_
      rintro _ w36_ ⟨rfl, hF36_⟩
      replace hF := hF.fr0 hF36_
      replace hD18 := hD18.fr0 hF36_
      replace hD19 := hD19.fr0 hF36_
      replace hQ17 := hQ17.fr0 hF36_
      clear hF36_
      refine ⟨_, rfl, ?_⟩
      refine Ops_step (R_move rfl) rfl rfl ?_
      have hz38_hF := hF.size
      have hn38_hD18 := hD18.lt
      have hn38_hD19 := hD19.lt
      have hn38_hQ17 := hQ17.lt
      refine Ops_to (R_buildSlice TWp2.el53 TWp2.zr22 (by decide) (by decide) rfl rfl) rfl rfl ?_
      rintro _ w38_ ⟨b38, rfl, hb38, hB38, hF38_⟩
      have hl38 := hB38.lt
      replace hF := hF.fr0 hF38_
      replace hD18 := hD18.fr0 hF38_
      replace hD19 := hD19.fr0 hF38_
      replace hQ17 := hQ17.fr0 hF38_
      clear hF38_
      refine Ops_call (C_func TWp2.bd18 rfl) rfl rfl ?_
      refine (of_any _ [b.flatten] _ _ (RdLL.lit hB38 [b.flatten] [(A17, c17)] rfl rfl (by simp only [List.zip_cons_cons, List.zip_nil_right, List.forall_mem_cons]; exact ⟨hQ17.rd, by simp⟩)) (by simp only [List.forall_mem_cons]; refine ⟨by omega, by simp⟩) (by simp) (hO.fr0 hF)).mono ?_
      rintro _ w39_ ⟨rfl, hF39_⟩
      replace hF := hF.fr0 hF39_
      replace hD18 := hD18.fr0 hF39_
      replace hD19 := hD19.fr0 hF39_
      replace hQ17 := hQ17.fr0 hF39_
      replace hB38 := hB38.fr0 hF39_
      clear hF39_
      refine ⟨_, rfl, ?_⟩
      refine Ops_step (R_eqlArr8 TWp2.a8_30 rfl rfl TWp2.gg_30 (sum_len _) (of_len _)) rfl rfl ?_
      refine Ops_step (R_move rfl) rfl rfl ?_
      refine Ops_known (b := true) 41 rfl (decide_eq_true (of_flat b)) ?_
      refine Ops_step (R_move rfl) rfl rfl ?_
      refine Ops_call (C_func TWp2.bd16 rfl) rfl rfl ?_
      refine (sum_any _ _ _ _ hD19 (hO.fr0 hF)).mono ?_
      rintro _ w43_ ⟨rfl, hF43_⟩
      replace hF := hF.fr0 hF43_
      replace hD18 := hD18.fr0 hF43_
      replace hD19 := hD19.fr0 hF43_
      replace hQ17 := hQ17.fr0 hF43_
      clear hF43_
      refine ⟨_, rfl, ?_⟩
      refine Ops_step (R_move rfl) rfl rfl ?_
      refine Ops_call (C_func TWp2.bd16 rfl) rfl rfl ?_
      refine (sum_any _ _ _ _ hD18 (hO.fr0 hF)).mono ?_
      rintro _ w45_ ⟨rfl, hF45_⟩
      replace hF := hF.fr0 hF45_
      replace hD18 := hD18.fr0 hF45_
      replace hD19 := hD19.fr0 hF45_
      replace hQ17 := hQ17.fr0 hF45_
      clear hF45_
      refine ⟨_, rfl, ?_⟩
      refine Ops_step (R_eqlArr8 TWp2.a8_30 rfl rfl TWp2.gg_30 (sum_len _) (sum_len _)) rfl rfl ?_
      refine Ops_step (R_pick_true rfl rfl) rfl rfl ?_
      refine Ops_step (R_move rfl) rfl rfl ?_
      refine Ops_known (b := true) 48 rfl (decide_eq_true rfl) ?_
      refine Ops_step (R_move rfl) rfl rfl ?_
      refine Ops_call (C_func TWp2.bd18 rfl) rfl rfl ?_
      refine (of_any _ b _ _ (hL.fr0 hF) (by intro bs hb_; have := hs_ bs (by simp [hb_]); omega) (by omega) (hO.fr0 hF)).mono ?_
      rintro _ w50_ ⟨rfl, hF50_⟩
      replace hF := hF.fr0 hF50_
      replace hD18 := hD18.fr0 hF50_
      replace hD19 := hD19.fr0 hF50_
      replace hQ17 := hQ17.fr0 hF50_
      clear hF50_
      refine ⟨_, rfl, ?_⟩
      refine Ops_step (R_move rfl) rfl rfl ?_
      refine Ops_call (C_func TWp2.bd16 rfl) rfl rfl ?_
      refine (sum_any _ _ _ _ hD18 (hO.fr0 hF)).mono ?_
      rintro _ w52_ ⟨rfl, hF52_⟩
      replace hF := hF.fr0 hF52_
      replace hD18 := hD18.fr0 hF52_
      replace hD19 := hD19.fr0 hF52_
      replace hQ17 := hQ17.fr0 hF52_
      clear hF52_
      refine ⟨_, rfl, ?_⟩
      refine Ops_step (R_eqlArr8 TWp2.a8_30 rfl rfl TWp2.gg_30 (of_len _) (sum_len _)) rfl rfl ?_
      refine Ops_step (R_pick_true rfl rfl) rfl rfl ?_
      refine Ops_step (R_move rfl) rfl rfl ?_
      refine Ops_known (b := true) 55 rfl (decide_eq_true rfl) ?_
      refine Ops_step (R_move rfl) rfl rfl ?_
      refine Ops_step (R_move rfl) rfl rfl ?_
      refine Ops_call (C_func TWp2.bd22 rfl) rfl rfl ?_
      refine (keyed_any _ a _ _ _ b _ _ (by rfl) (hR0.fr0 hF) (by omega) (hL.fr0 hF) (by intro bs hb_; have := hs_ bs (by simp [hb_]); omega) (by omega) (hO.fr0 hF)).mono ?_
      rintro _ w58_ ⟨rfl, hF58_⟩
      replace hF := hF.fr0 hF58_
      replace hD18 := hD18.fr0 hF58_
      replace hD19 := hD19.fr0 hF58_
      replace hQ17 := hQ17.fr0 hF58_
      clear hF58_
      refine ⟨_, rfl, ?_⟩
      refine Ops_step (R_move rfl) rfl rfl ?_
      refine Ops_step (R_move rfl) rfl rfl ?_
      have hz61_hF := hF.size
      have hn61_hD18 := hD18.lt
      have hn61_hD19 := hD19.lt
      have hn61_hQ17 := hQ17.lt
      refine Ops_to (R_buildSlice TWp2.el53 TWp2.zr22 (by decide) (by decide) rfl rfl) rfl rfl ?_
      rintro _ w61_ ⟨b61, rfl, hb61, hB61, hF61_⟩
      have hl61 := hB61.lt
      replace hF := hF.fr0 hF61_
      replace hD18 := hD18.fr0 hF61_
      replace hD19 := hD19.fr0 hF61_
      replace hQ17 := hQ17.fr0 hF61_
      clear hF61_
      refine Ops_call (C_func TWp2.bd22 rfl) rfl rfl ?_
      refine (keyed_any _ a _ _ _ [b.flatten] _ _ (by rfl) (hR0.fr0 hF) (by omega) (RdLL.lit hB61 [b.flatten] [(A17, c17)] rfl rfl (by simp only [List.zip_cons_cons, List.zip_nil_right, List.forall_mem_cons]; exact ⟨hQ17.rd, by simp⟩)) (by intro bs hbs; rw [List.mem_singleton.1 hbs]; omega) (by simp) (hO.fr0 hF)).mono ?_
      rintro _ w62_ ⟨rfl, hF62_⟩
      replace hF := hF.fr0 hF62_
      replace hD18 := hD18.fr0 hF62_
      replace hD19 := hD19.fr0 hF62_
      replace hQ17 := hQ17.fr0 hF62_
      replace hB61 := hB61.fr0 hF62_
      clear hF62_
      refine ⟨_, rfl, ?_⟩
      refine Ops_step (R_eqlArr8 TWp2.a8_30 rfl rfl TWp2.gg_30 (keyed_len _ _) (keyed_len _ _)) rfl rfl ?_
      refine Ops_step (R_pick_true rfl rfl) rfl rfl ?_
      refine Ops_step (R_move rfl) rfl rfl ?_
      refine Ops_known (b := true) 65 rfl (decide_eq_true (keyed_flat a b)) ?_
      refine Ops_call (C_func TWp2.bd13 rfl) rfl rfl ?_
      refine (awake_any _ (hO.fr0 hF)).mono ?_
      rintro _ w66_ ⟨rfl, hF66_⟩
      replace hF := hF.fr0 hF66_
      replace hD18 := hD18.fr0 hF66_
      replace hD19 := hD19.fr0 hF66_
      replace hQ17 := hQ17.fr0 hF66_
      clear hF66_
      refine ⟨_, rfl, ?_⟩
      refine Ops_step (R_pick_true rfl rfl) rfl rfl ?_
      refine Ops_step (R_assign rfl) rfl rfl ?_
      refine Ops_nil ?_
      refine then_n (hK20_ _ _ ?_)
      clear hK20_ K20_
      refine W_keepB [4] fun B21 hB21_ => ?_
      simp only [pickE, lookE, putE, zipE, args0, Nat.reduceAdd, Nat.zero_add, List.cons_append, List.nil_append, Nat.reduceBEq, cond_true, cond_false] at hB21_
      subst hB21_
      refine W_ret ?_
      refine ⟨_, ⟨_, _, rfl, rfl, rfl⟩, ?_⟩
      exact ⟨rfl, hF⟩

end Go.Proofs.YtghfohhekhedaaaDoor
