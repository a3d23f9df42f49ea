/- What is shown of the program on the way to the law. -/
import Derived.Test.YtbjmngacjdcddaaDoorZW1
import Derived.Test.YtbjmngacjdcddaaDoorZW9
import Derived.Test.YtbjmngacjdcddaaDoorProg
set_option linter.unusedVariables false
set_option linter.unusedSimpArgs false
set_option maxHeartbeats 4000000
namespace Go.Proofs.YtbjmngacjdcddaaDoor
open Go Go.Sx

namespace TFhe
theorem hm : Tryd.prog.follows .mixedOrders = true := by kernel_rfl
theorem ag119 : aggB Tryd.prog 119 = some false := by kernel_rfl
theorem ag125 : aggB Tryd.prog 125 = some true := by kernel_rfl
theorem ag126 : aggB Tryd.prog 126 = some true := by kernel_rfl
theorem ag96 : aggB Tryd.prog 96 = some true := by kernel_rfl
theorem bd102 : bodied Tryd.prog 102 = true := by kernel_rfl
theorem bd103 : bodied Tryd.prog 103 = true := by kernel_rfl
theorem bd94 : bodied Tryd.prog 94 = true := by kernel_rfl
theorem el30 : Elem Tryd.prog 30 5 1 1 := Elem.of (by kernel_rfl)
theorem sz119 : sz Tryd.prog 119 = some 1 := by kernel_rfl
theorem sz125 : sz Tryd.prog 125 = some 8 := by kernel_rfl
theorem sz126 : sz Tryd.prog 126 = some 8 := by kernel_rfl
theorem sz5 : sz Tryd.prog 5 = some 1 := by kernel_rfl
theorem sz96 : sz Tryd.prog 96 = some 32 := by kernel_rfl
theorem zr125 : zr Tryd.prog 125 = some (List.replicate 8 (.int .u32 0)) := by kernel_rfl
theorem zr5 : zr Tryd.prog 5 = some ([.int .u8 0]) := by kernel_rfl
theorem zr96 : zr Tryd.prog 96 = some (List.replicate 32 (.int .u8 0)) := by kernel_rfl
end TFhe
open TFhe
theorem rdigest_any (K : Option Addr) (key : List UInt8) (kc : Nat) (AB : Option Addr) (b : List UInt8) (bc : Nat) (w : World) (hk : Rd w K (key.map vb)) (hkl : key.length ≤ 32) (hb : Rd w AB (b.map vb)) (hbl : b.length ≤ 1099511627776) :
  Calls Tryd.prog 94 #[.slice K key.length kc, .slice AB b.length bc] w fun e w2 => e = .returned (.agg ((Bl.sum (Bl.add (Bl.begin_ key) b)).map vb).toArray) ∧ Fr [] w w2 := by
 have hF := Fr.refl [] w
 refine calls_W 101 Tryd.func94 rfl Tryd.ntmps94 rfl [.cell 4 96] rfl ?_
 refine W_seq_k fun K1_ hK1_ => ?_
 refine W_region [4] rfl ?_
 have hz4_hF := hF.size
 refine Ops_to (R_alloc zr96) rfl rfl ?_
 rintro _ w4_ ⟨b4, rfl, hb4, hB4, hF4_⟩
 have hl4 := hB4.lt
 replace hF := hF.fr0 hF4_
 clear hF4_
 refine Ops_nil ?_
 refine then_n (hK1_ _ _ ?_)
 clear hK1_ K1_
 refine W_seq_k fun K2_ hK2_ => ?_
 refine W_region [14, 5, none] rfl ?_
 refine Ops_call (C_func bd102 rfl) rfl rfl ?_
 refine (rwords_any _).mono ?_
 rintro _ w14_ ⟨rfl, hF14_⟩
 replace hF := hF.fr0 hF14_
 replace hB4 := hB4.fr0 hF14_
 clear hF14_
 refine ⟨_, rfl, ?_⟩
 have hz5_hF := hF.size
 have hn5_hB4 := hB4.lt
 refine Ops_to (R_alloc zr125) rfl rfl ?_
 rintro _ w5_ ⟨b5, rfl, hb5, hB5, hF5_⟩
 have hl5 := hB5.lt
 replace hF := hF.fr0 hF5_
 replace hB4 := hB4.fr0 hF5_
 clear hF5_
 refine Ops_to0 (R_storeN sz125 rfl rfl rfl hB5 (by decide) allw) rfl ?_
 clear hB5
 rintro _ w3_ ⟨hB5, hF3_⟩
 replace hF := hF.then hF3_ (by simp only [mc_]; intro i_ hi_ hj_; omega)
 replace hB4 := hB4.fr hF3_ (by simp only [mc_]; omega)
 clear hF3_
 replace hB5 := hB5.to (cs' := Bl.first.map w32) (by kernel_rfl)
 refine Ops_nil ?_
 refine then_n (hK2_ _ _ ?_)
 clear hK2_ K2_
 refine W_seq_k fun K4_ hK4_ => ?_
 refine W_region [15, 16, 17, 18, 19, 20, 21, 22, 23, 24, none] rfl (Ops_step (R_indexArr Tryd.underlying125 sz119 rfl rfl (by omega) (by omega)) rfl rfl ?_)
 refine Ops_step (R_loadB ag119 rfl hB5 (getw (a := 0) (by decide))) rfl rfl ?_
 refine Ops_step (R_xor rfl rfl (xor32 _ (16842752#32))) rfl rfl (Ops_step (R_move rfl) rfl rfl (Ops_step (R_len Tryd.underlying30 rfl rfl) rfl rfl ?_))
 refine Ops_step (R_mul rfl rfl (wIc (n := 256 * key.length) (by omega) (by omega))) rfl rfl ?_
 refine Ops_step (R_conv Tryd.underlying3 Tryd.underlying119 rfl (cN_32 _)) rfl rfl (Ops_step (R_xor rfl rfl (xor32 _ _)) rfl rfl (Ops_step (R_xor rfl rfl (xor32 _ (32#32))) rfl rfl (Ops_step (R_indexArr Tryd.underlying125 sz119 rfl rfl (by omega) (by omega)) rfl rfl ?_)))
 refine Ops_to0 (R_store sz119 rfl rfl hB5 (by decide) rfl) rfl ?_
 clear hB5
 rintro _ w5_ ⟨hB5, hF5_⟩
 replace hF := hF.then hF5_ (by simp only [mc_]; intro i_ hi_ hj_; omega)
 replace hB4 := hB4.fr hF5_ (by simp only [mc_]; omega)
 clear hF5_
 replace hB5 := hB5.to (cs' := (Bl.first0 key.length).map w32) (by refine (setw Bl.first 0 _).trans ?_; rw [first0_ref])
 have hQ6 := OwnB.nilAt hF w.heap.size 5
 refine Ops_nil ?_
 refine then_n (hK4_ _ _ ?_)
 clear hK4_ K4_
 refine W_keepB [0, 1, 4, 5] fun B6 hB6_ => ?_
 simp only [e_, Nat.reduceAdd, Nat.reduceBEq] at hB6_
 subst hB6_
 refine W_seq_k fun K7_ hK7_ => ?_
 refine W_region [6] rfl (Ops_step (R_assign rfl) rfl rfl ?_)
 refine Ops_nil ?_
 refine then_n (hK7_ _ _ ?_)
 clear hK7_ K7_
 refine W_seq_k fun K8_ hK8_ => ?_
 refine W_seq_k fun K9_ hK9_ => ?_
 refine W_region [25, 26, 27] rfl (Ops_step (R_move rfl) rfl rfl (Ops_step (R_len Tryd.underlying30 rfl rfl) rfl rfl (Ops_step (R_gtr rfl rfl) rfl rfl ?_)))
 refine Ops_nil ?_
 refine then_n (hK9_ _ _ ?_)
 clear hK9_ K9_
 refine W_if rfl (fun hc27 => ?_) (fun hc27 => ?_)
 ·
  refine W_seq_k fun K10_ hK10_ => ?_
  refine W_region [28, 29, 30, 6] rfl (Ops_step (R_move rfl) rfl rfl (Ops_step (R_move rfl) rfl rfl ?_))
  have hof := hQ6.off
  have hzz := hF.size
  have hno_hB5 := hQ6.notin hB5 (by decide)
  have hno_hB4 := hQ6.notin hB4 (by decide)
  refine Ops_to (R_appendB el30 Tryd.underlying30 rfl rfl rfl (by rfl) hQ6 ((hk.fr0 hF)) (by simp; omega) (by omega) (by decide)) rfl rfl ?_
  clear hQ6
  rintro _ w30_ ⟨A30, c30, rfl, hQ6, hF30_⟩
  replace hF := hF.then hF30_ (fun i_ hi_ hj_ => absurd (hof i_ hi_) (by omega))
  replace hB4 := hB4.fr hF30_ hno_hB4
  replace hB5 := hB5.fr hF30_ hno_hB5
  clear hF30_
  clear hof hzz hno_hB5 hno_hB4
  refine Ops_step (R_assign rfl) rfl rfl ?_
  refine Ops_nil ?_
  refine then_n (hK10_ _ _ ?_)
  clear hK10_ K10_
  refine W_keepB [1, 4, 5, 6] fun B11 hB11_ => ?_
  simp only [e_, Nat.reduceAdd, Nat.reduceBEq] at hB11_
  subst hB11_
  refine W_block ?_
  refine W_loopB [1, 4, 5] [6] (fun m vs w' => ∃ j A6 c6, key.length + j ≤ 64 ∧ m = 64 - key.length - j ∧ vs = [.slice A6 (key ++ List.replicate j 0).length c6] ∧ OwnB w' w.heap.size 5 A6 c6 (key ++ List.replicate j 0) ∧ Blk w' b5 125 ((Bl.first0 key.length).map w32) ∧ (∃ zs, zs.length = 32 ∧ Blk w' b4 96 zs) ∧ Fr [] w w') (64 - key.length) _ rfl (⟨0, _, _, by omega, by omega, by rw [List.replicate_zero, List.append_nil], by rw [List.replicate_zero, List.append_nil]; exact hQ6, hB5, ⟨_, by simp, hB4⟩, hF⟩) fun B12 hB12_ => ?_
  simp only [e_, Nat.reduceAdd, Nat.reduceBEq] at hB12_
  subst hB12_
  clear hQ6 hB5 hB4 hF
  rintro m_ vs_ w0_ ⟨j, A6, c6, hj0, rfl, rfl, hQ6, hB5, ⟨zs4, lz4, hB4⟩, hF⟩
  refine W_seq_k fun K13_ hK13_ => ?_
  refine W_seq_k fun K14_ hK14_ => ?_
  refine W_region [31, 32, 33] rfl (Ops_step (R_move rfl) rfl rfl (Ops_step (R_len Tryd.underlying30 rfl rfl) rfl rfl (Ops_step (R_lss rfl rfl) rfl rfl ?_)))
  refine Ops_nil ?_
  refine then_n (hK14_ _ _ ?_)
  clear hK14_ K14_
  refine W_if rfl (fun hc33 => ?_) (fun hc33 => ?_)
  ·
   have hj1 : key.length + j < 64 := by rw [List.length_append, List.length_replicate] at hc33; omega
   refine W_skip ?_
   refine then_n (hK13_ _ _ ?_)
   clear hK13_ K13_
   refine W_block ?_
   refine W_region [34, 35, 36, 6] rfl (Ops_step (R_move rfl) rfl rfl ?_)
   have hn35_hQ6 := hQ6.lt
   have hn35_hB5 := hB5.lt
   have hn35_hB4 := hB4.lt
   have hz35_hF := hF.size
   refine Ops_to (R_buildSlice el30 zr5 (by decide) (by decide) rfl rfl) rfl rfl ?_
   rintro _ w35_ ⟨b35, rfl, hb35, hB35, hF35_⟩
   have hl35 := hB35.lt
   replace hQ6 := hQ6.fr0 hF35_
   replace hB5 := hB5.fr0 hF35_
   replace hB4 := hB4.fr0 hF35_
   replace hF := hF.fr0 hF35_
   clear hF35_
   have hof := hQ6.off
   have hzz := hF.size
   have hno_hB5 := hQ6.notin hB5 (by decide)
   have hno_hB4 := hQ6.notin hB4 (by decide)
   refine Ops_to (R_appendB el30 Tryd.underlying30 rfl rfl rfl rfl hQ6 (ys := [0]) (Rd.ofBlk0 hB35) (by simp; omega) (by omega) (by decide)) rfl rfl ?_
   clear hQ6 hB35
   rintro _ w36_ ⟨A36, c36, rfl, hQ6, hF36_⟩
   replace hB5 := hB5.fr hF36_ hno_hB5
   replace hB4 := hB4.fr hF36_ hno_hB4
   replace hF := hF.then hF36_ (fun i_ hi_ hj_ => absurd (hof i_ hi_) (by omega))
   clear hF36_
   clear hof hzz hno_hB5 hno_hB4
   refine Ops_step (R_assign rfl) rfl rfl ?_
   refine Ops_nil ?_
   refine block_n ?_
   exact ⟨64 - key.length - (j + 1), _, by omega, rfl, ⟨j + 1, _, _, by omega, rfl, by rw [← pad_step], by rw [← pad_step]; exact hQ6, hB5, ⟨zs4, lz4, hB4⟩, hF⟩, ⟨rfl, rfl, rfl, trivial⟩⟩
  ·
   have hj : key.length + j = 64 := by rw [List.length_append, List.length_replicate] at hc33; omega
   have hkz : key ≠ [] := fun h_ => by rw [h_] at hc27; simp at hc27
   rw [pad_end hj] at hQ6 ⊢
   have hall : Bl.padded key ++ b = allOf key b := by rw [allOf, Bl.begin_, if_neg hkz]
   have hlenA : (Bl.padded key ++ b).length = (allOf key b).length := by rw [hall]
   refine W_exit ?_
   refine then_exit ?_
   clear hK13_ K13_
   refine then_exit ?_
   refine block_exit ?_
   refine then_n (hK8_ _ _ ?_)
   clear hK8_ K8_
   refine W_seq_k fun K15_ hK15_ => ?_
   refine W_region [37, 38, 39, 6] rfl (Ops_step (R_move rfl) rfl rfl (Ops_step (R_move rfl) rfl rfl ?_))
   have hof := hQ6.off
   have hzz := hF.size
   have hno_hB5 := hQ6.notin hB5 (by decide)
   have hno_hB4 := hQ6.notin hB4 (by decide)
   refine Ops_to (R_appendB el30 Tryd.underlying30 rfl rfl rfl rfl hQ6 (hb.fr0 hF) (by have h_ := padded_len (key := key) (by omega); first | omega | (simp; omega)) (by omega) (by decide)) rfl rfl ?_
   clear hQ6
   rintro _ w39_ ⟨A39, c39, rfl, hQ6, hF39_⟩
   replace hB5 := hB5.fr hF39_ hno_hB5
   replace hB4 := hB4.fr hF39_ hno_hB4
   replace hF := hF.then hF39_ (fun i_ hi_ hj_ => absurd (hof i_ hi_) (by omega))
   clear hF39_
   clear hof hzz hno_hB5 hno_hB4
   refine Ops_step (R_assign rfl) rfl rfl ?_
   refine Ops_nil ?_
   refine then_n (hK15_ _ _ ?_)
   clear hK15_ K15_
   refine W_keepB [4, 5, 6] fun B16 hB16_ => ?_
   simp only [e_, Nat.reduceAdd, Nat.reduceBEq] at hB16_
   subst hB16_
   refine W_seq_k fun K17_ hK17_ => ?_
   refine W_region [7] rfl ?_
   rw [hlenA]
   replace hQ6 := hQ6.to hall
   refine named (allOf key b) fun all eall => ?_
   rw [← eall] at hQ6 ⊢
   have hal : all.length ≤ 1099511627776 + 64 := by rw [eall]; exact allOf_len hkl hbl
   refine Ops_step (R_assign rfl) rfl rfl ?_
   refine Ops_nil ?_
   refine then_n (hK17_ _ _ ?_)
   clear hK17_ K17_
   refine W_seq_k fun K18_ hK18_ => ?_
   refine W_seq_k fun K19_ hK19_ => ?_
   refine W_region [40, 41, 42, 43, 44] rfl (Ops_step (R_move rfl) rfl rfl (Ops_step (R_len Tryd.underlying30 rfl rfl) rfl rfl (Ops_step (R_quo rfl rfl (by omega) (quoc all.length 64 (by omega))) rfl rfl ?_)))
   refine Ops_step (R_add rfl rfl (wIc (n := (all.length / 64) + 1) (by omega) (by omega))) rfl rfl ?_
   refine Ops_step (R_move rfl) rfl rfl ?_
   refine Ops_nil ?_
   refine then_n (hK19_ _ _ ?_)
   clear hK19_ K19_
   refine W_block ?_
   refine W_loopB [4, 5, 6, 43] [7, 44] (fun m vs w' => ∃ i D, m = all.length / 64 + 1 - i ∧ vs = [vi (64 * i : Nat), vi (i : Nat)] ∧ (64 * i < all.length ∨ i = 0) ∧ Bl.D.n D = 64 * i ∧ D.rest = all.drop (64 * i) ∧ Bl.eat D.rest.length D = Bl.eat all.length ⟨Bl.first0 key.length, all, 0⟩ ∧ D.h.length = 8 ∧ Blk w' b5 125 (D.h.map w32) ∧ OwnB w' w.heap.size 5 A39 c39 all ∧ (∃ zs, zs.length = 32 ∧ Blk w' b4 96 zs) ∧ Fr [] w w') (all.length / 64 + 1) _ rfl (⟨0, ⟨Bl.first0 key.length, all, 0⟩, rfl, rfl, .inr rfl, rfl, rfl, rfl, first0_len _, hB5, hQ6, ⟨_, by first | exact lz4 | simp, hB4⟩, hF⟩) fun B20 hB20_ => ?_
   simp only [e_, Nat.reduceAdd, Nat.reduceBEq] at hB20_
   subst hB20_
   clear hB5 hQ6 hB4 hF
   rintro m_ vs_ w0_ ⟨i, D, rfl, rfl, hi0, hn0, hr, hE, lh, hB5, hQ6, ⟨zs4, lz4, hB4⟩, hF⟩
   refine named (Array.size w0_.heap) fun B9 eB9 => ?_
   have hlt6 := hQ6.lt
   have hF9 := Fr.refl [] w0_
   have hzw := hF.size
   refine W_seq_k fun K21_ hK21_ => ?_
   refine W_region [45] rfl (Ops_step (R_lss rfl rfl) rfl rfl ?_)
   refine Ops_nil ?_
   refine then_n (hK21_ _ _ ?_)
   clear hK21_ K21_
   refine W_seq_k fun K22_ hK22_ => ?_
   refine W_if rfl (fun hc45 => ?_) (fun hc45 => ?_)
   ·
    have hi1 : 64 * i < all.length ∨ i = 0 := by omega
    refine W_skip ?_
    refine then_n (hK22_ _ _ ?_)
    clear hK22_ K22_
    refine W_seq_k fun K23_ hK23_ => ?_
    refine W_block ?_
    refine W_seq_k fun K24_ hK24_ => ?_
    refine W_region [46, 47, 48, 49, 8] rfl (Ops_step (R_move rfl) rfl rfl (Ops_step (R_len Tryd.underlying30 rfl rfl) rfl rfl (Ops_step (R_move rfl) rfl rfl ?_)))
    refine Ops_step (R_sub rfl rfl (wIc (n := all.length - 64 * i) (by omega) (by omega))) rfl rfl ?_
    refine Ops_step (R_assign rfl) rfl rfl ?_
    refine Ops_nil ?_
    refine then_n (hK24_ _ _ ?_)
    clear hK24_ K24_
    refine W_seq_k fun K25_ hK25_ => ?_
    refine W_region [50, 51, 52, 53, 54, 55, 56, 57, 58, 9] rfl ?_
    have hn50_hQ6 := hQ6.lt
    have hn50_hB5 := hB5.lt
    have hn50_hB4 := hB4.lt
    have hz50_hF := hF.size
    have hz50_hF9 := hF9.size
    refine Ops_to (R_buildSlice0 el30) rfl rfl ?_
    rintro _ w50_ ⟨b50, rfl, hb50, hB50, hF50_⟩
    have hl50 := hB50.lt
    have hQ50 := OwnB.empty (B := B9) (by omega) hB50
    clear hB50
    replace hQ6 := hQ6.fr0 hF50_
    replace hB5 := hB5.fr0 hF50_
    replace hB4 := hB4.fr0 hF50_
    replace hF := hF.fr0 hF50_
    replace hF9 := hF9.fr0 hF50_
    clear hF50_
    refine Ops_step (R_move rfl) rfl rfl (Ops_step (R_move rfl) rfl rfl (Ops_step (R_move rfl) rfl rfl (Ops_step (R_move rfl) rfl rfl (Ops_step (R_min rfl rfl (show _ = ((min (all.length - 64 * i) 64 : Nat) : Int) by omega)) rfl rfl ?_))))
    refine Ops_step (R_add rfl rfl (wIc (n := (64 * i) + (min (all.length - 64 * i) 64)) (by omega) (by omega))) rfl rfl ?_
    refine Ops_step (R_slice (l := 64 * i) (h := 64 * i + min (all.length - 64 * i) 64) Tryd.underlying30 sz5 rfl ⟨_, _, rfl, rfl⟩ ⟨_, _, rfl, rfl⟩ rfl (by decide) (by omega) (by have := Own.cap hQ6; omega) (by omega)) rfl rfl ?_
    have hof := hQ50.off
    have hzz := hF.size
    have hno_hB5 := hQ50.notin hB5 (by decide)
    have hno_hB4 := hQ50.notin hB4 (by decide)
    have hz9 := hF9.size
    refine Ops_to (R_appendB el30 Tryd.underlying30 rfl rfl rfl (by rw [List.length_take, List.length_drop]; omega) hQ50 (Rd.cutB hQ6.rd c39 (64 * i) (min (all.length - 64 * i) 64) (Own.cap hQ6)) (by simp; omega) (by omega) (by decide)) rfl rfl ?_
    clear hQ50
    rintro _ w58_ ⟨A58, c58, rfl, hQ50, hF58_⟩
    replace hQ6 := hQ6.fr hF58_ (fun i_ hi_ hj_ => absurd (hlt6 i_ hi_) (by have h_ := hof i_ hj_; omega))
    replace hB5 := hB5.fr hF58_ hno_hB5
    replace hB4 := hB4.fr hF58_ hno_hB4
    replace hF := hF.then hF58_ (fun i_ hi_ hj_ => absurd (hof i_ hi_) (by omega))
    replace hF9 := hF9.then hF58_ (fun i_ hi_ hj_ => absurd (hof i_ hi_) (by omega))
    clear hF58_
    rw [List.nil_append] at hQ50 ⊢
    refine named ((all.drop (64 * i)).take (min (all.length - 64 * i) 64)) fun part epart => ?_
    rw [← epart] at hQ50 ⊢
    have lpart : part.length = min (all.length - 64 * i) 64 := by rw [epart, List.length_take, List.length_drop]; omega
    clear hof hzz hno_hB5 hno_hB4
    refine Ops_step (R_assign rfl) rfl rfl ?_
    refine Ops_nil ?_
    refine then_n (hK25_ _ _ ?_)
    clear hK25_ K25_
    refine W_keepB [4, 5, 6, 7, 8, 9, 43, 44] fun B26 hB26_ => ?_
    simp only [e_, Nat.reduceAdd, Nat.reduceBEq] at hB26_
    subst hB26_
    refine W_seq_k fun K27_ hK27_ => ?_
    refine W_block ?_
    refine W_loopB [4, 5, 6, 7, 8, 43, 44] [9] (fun m vs w' => ∃ j A9 c9, part.length + j ≤ 64 ∧ m = 64 - part.length - j ∧ vs = [.slice A9 (part ++ List.replicate j 0).length c9] ∧ OwnB w' B9 5 A9 c9 (part ++ List.replicate j 0) ∧ Blk w' b5 125 (D.h.map w32) ∧ OwnB w' w.heap.size 5 A39 c39 all ∧ Blk w' b4 96 zs4 ∧ Fr [] w0_ w' ∧ Fr [] w w') (64 - part.length) _ rfl (⟨0, _, _, by omega, by omega, by rw [List.replicate_zero, List.append_nil], by rw [List.replicate_zero, List.append_nil]; exact hQ50, hB5, hQ6, hB4, hF9, hF⟩) fun B28 hB28_ => ?_
    simp only [e_, Nat.reduceAdd, Nat.reduceBEq] at hB28_
    subst hB28_
    clear hQ50 hQ6 hB5 hB4 hF hF9
    rintro m_ vs_ w1_ ⟨j, A9, c9, hj0, rfl, rfl, hQ9, hB5, hQ6, hB4, hF9, hF⟩
    refine W_seq_k fun K29_ hK29_ => ?_
    refine W_seq_k fun K30_ hK30_ => ?_
    refine W_region [59, 60, 61] rfl (Ops_step (R_move rfl) rfl rfl (Ops_step (R_len Tryd.underlying30 rfl rfl) rfl rfl (Ops_step (R_lss rfl rfl) rfl rfl ?_)))
    refine Ops_nil ?_
    refine then_n (hK30_ _ _ ?_)
    clear hK30_ K30_
    refine W_if rfl (fun hc61 => ?_) (fun hc61 => ?_)
    ·
     have hj1 : part.length + j < 64 := by rw [List.length_append, List.length_replicate] at hc61; omega
     refine W_skip ?_
     refine then_n (hK29_ _ _ ?_)
     clear hK29_ K29_
     refine W_block ?_
     refine W_region [62, 63, 64, 9] rfl (Ops_step (R_move rfl) rfl rfl ?_)
     have hn63_hQ9 := hQ9.lt
     have hn63_hQ6 := hQ6.lt
     have hn63_hB5 := hB5.lt
     have hn63_hB4 := hB4.lt
     have hz63_hF9 := hF9.size
     have hz63_hF := hF.size
     refine Ops_to (R_buildSlice el30 zr5 (by decide) (by decide) rfl rfl) rfl rfl ?_
     rintro _ w63_ ⟨b63, rfl, hb63, hB63, hF63_⟩
     have hl63 := hB63.lt
     replace hQ9 := hQ9.fr0 hF63_
     replace hQ6 := hQ6.fr0 hF63_
     replace hB5 := hB5.fr0 hF63_
     replace hB4 := hB4.fr0 hF63_
     replace hF9 := hF9.fr0 hF63_
     replace hF := hF.fr0 hF63_
     clear hF63_
     have hof := hQ9.off
     have hzz := hF.size
     have hno_hB5 := hQ9.notin hB5 (by decide)
     have hno_hB4 := hQ9.notin hB4 (by decide)
     have hz9 := hF9.size
     refine Ops_to (R_appendB el30 Tryd.underlying30 rfl rfl rfl rfl hQ9 (ys := [0]) (Rd.ofBlk0 hB63) (by simp; omega) (by omega) (by decide)) rfl rfl ?_
     clear hQ9 hB63
     rintro _ w64_ ⟨A64, c64, rfl, hQ9, hF64_⟩
     replace hQ6 := hQ6.fr hF64_ (fun i_ hi_ hj_ => absurd (hlt6 i_ hi_) (by have h_ := hof i_ hj_; omega))
     replace hB5 := hB5.fr hF64_ hno_hB5
     replace hB4 := hB4.fr hF64_ hno_hB4
     replace hF9 := hF9.then hF64_ (fun i_ hi_ hj_ => absurd (hof i_ hi_) (by omega))
     replace hF := hF.then hF64_ (fun i_ hi_ hj_ => absurd (hof i_ hi_) (by omega))
     clear hF64_
     clear hof hzz hno_hB5 hno_hB4
     refine Ops_step (R_assign rfl) rfl rfl ?_
     refine Ops_nil ?_
     refine block_n ?_
     exact ⟨64 - part.length - (j + 1), _, by omega, rfl, ⟨j + 1, _, _, by omega, rfl, by rw [← pad_step], by rw [← pad_step]; exact hQ9, hB5, hQ6, hB4, hF9, hF⟩, ⟨rfl, rfl, rfl, rfl, rfl, rfl, rfl, trivial⟩⟩
    ·
     have hj : part.length + j = 64 := by rw [List.length_append, List.length_replicate] at hc61; omega
     rw [pad_end hj] at hQ9
     have hl64 : (part ++ List.replicate j 0).length = 64 := by rw [List.length_append, List.length_replicate]; exact hj
     rw [hl64]
     obtain ⟨g9, rfl, hg9⟩ := own_some hQ9 (by rw [padded_len (by omega)]; decide)
     refine W_exit ?_
     refine then_exit ?_
     clear hK29_ K29_
     refine then_exit ?_
     refine block_exit ?_
     refine then_n (hK27_ _ _ ?_)
     clear hK27_ K27_
     refine W_seq_k fun K31_ hK31_ => ?_
     refine W_seq_k fun K32_ hK32_ => ?_
     refine W_region [65, 66] rfl (Ops_step (R_move rfl) rfl rfl (Ops_step (R_leq rfl rfl) rfl rfl ?_))
     refine Ops_nil ?_
     refine then_n (hK32_ _ _ ?_)
     clear hK32_ K32_
     refine W_if rfl (fun hc66 => ?_) (fun hc66 => ?_)
     ·
      refine W_seq_k fun K33_ hK33_ => ?_
      refine W_region [67, 68, 69, 70, 71, none] rfl (Ops_step (R_loadW ag125 sz125 rfl hB5 (by rw [List.length_map, lh])) rfl rfl (Ops_step (R_move rfl) rfl rfl (Ops_step (R_move rfl) rfl rfl (Ops_step (R_len Tryd.underlying30 rfl rfl) rfl rfl ?_))))
      refine Ops_call (C_func bd103 rfl) rfl rfl ?_
      refine (rmix_any D.h lh _ _ (Bl.padded part) (padded_len (by omega)) all.length (by omega) true _ hQ9.rd).mono ?_
      rintro _ w71_ ⟨rfl, hF71_⟩
      replace hQ9 := hQ9.fr0 hF71_
      replace hQ6 := hQ6.fr0 hF71_
      replace hB5 := hB5.fr0 hF71_
      replace hB4 := hB4.fr0 hF71_
      replace hF9 := hF9.fr0 hF71_
      replace hF := hF.fr0 hF71_
      clear hF71_
      refine ⟨_, rfl, ?_⟩
      have hn5_6 := hQ6.notin hB5 (by decide)
      have hn5_9 := hQ9.notin hB5 (by decide)
      refine Ops_to0 (R_storeN sz125 (by simp [mix_len]) rfl rfl hB5 (by rw [List.length_map, lh]; decide) allw) rfl ?_
      clear hB5
      rintro _ w34_ ⟨hB5, hF34_⟩
      replace hQ9 := hQ9.fr hF34_ (fun i_ hi_ hj_ => hn5_9 (by rw [← List.mem_singleton.1 hj_]; exact hi_))
      replace hQ6 := hQ6.fr hF34_ (fun i_ hi_ hj_ => hn5_6 (by rw [← List.mem_singleton.1 hj_]; exact hi_))
      replace hB4 := hB4.fr hF34_ (by simp only [mc_]; omega)
      replace hF := hF.then hF34_ (by simp only [mc_]; intro i_ hi_ hj_; omega)
      clear hF34_
      refine named (Bl.mix D.h (Bl.padded part) all.length true) fun HH eH => ?_
      have lH : HH.length = 8 := by rw [eH]; exact mix_len _ _ _ _
      replace hB5 := hB5.to (cs' := HH.map w32) (by rw [eH]; exact over4 (n := 8) (by rw [List.length_map, lh]) (by rw [List.length_map, mix_len]))
      have hpart : part = D.rest := by rw [hr, epart]; exact List.take_of_length_le (by rw [List.length_drop]; omega)
      have hsum : Bl.sum (Bl.add (Bl.begin_ key) b) = Bl.bytesOf HH := by
        rw [add_begin, ← eall, ← hE, eat_done (by rw [← hpart, lpart]; omega), Bl.sum, eH, hpart, hn0]
        congr 2
        rw [← hpart, lpart]
        omega
      refine Ops_nil ?_
      refine then_n (hK33_ _ _ ?_)
      clear hK33_ K33_
      refine W_keepB [4, 5] fun B35 hB35_ => ?_
      simp only [e_, Nat.reduceAdd, Nat.reduceBEq] at hB35_
      subst hB35_
      refine W_exit ?_
      refine then_exit ?_
      clear hK31_ K31_
      refine block_other rfl ?_
      refine then_exit ?_
      clear hK23_ K23_
      refine then_exit ?_
      refine block_exit ?_
      refine then_n (hK18_ _ _ ?_)
      clear hK18_ K18_
      refine W_seq_k fun K36_ hK36_ => ?_
      refine W_region [10] rfl ?_
      have hn10_hQ9 := hQ9.lt
      have hn10_hQ6 := hQ6.lt
      have hn10_hB5 := hB5.lt
      have hn10_hB4 := hB4.lt
      have hz10_hF := hF.size
      refine Ops_to (R_alloc zr96) rfl rfl ?_
      rintro _ w10_ ⟨b10, rfl, hb10, hB10, hF10_⟩
      have hl10 := hB10.lt
      replace hQ9 := hQ9.fr0 hF10_
      replace hQ6 := hQ6.fr0 hF10_
      replace hB5 := hB5.fr0 hF10_
      replace hB4 := hB4.fr0 hF10_
      replace hF := hF.fr0 hF10_
      clear hF10_
      refine Ops_nil ?_
      refine then_n (hK36_ _ _ ?_)
      clear hK36_ K36_
      refine W_seq_k fun K37_ hK37_ => ?_
      refine W_seq_k fun K38_ hK38_ => ?_
      refine W_region [79] rfl (Ops_step (R_move rfl) rfl rfl ?_)
      refine Ops_nil ?_
      refine then_n (hK38_ _ _ ?_)
      clear hK38_ K38_
      refine W_block ?_
      refine W_loopB [4, 5, 10] [79] (fun m vs w' => ∃ i, i ≤ 8 ∧ m = 8 - i ∧ vs = [vi (i : Nat)] ∧ Blk w' b10 96 ((outL HH i).map vb) ∧ Blk w' b5 125 (HH.map w32) ∧ Blk w' b4 96 zs4 ∧ Fr [] w w') (8) _ rfl (⟨0, by omega, rfl, rfl, hB10.to (by rw [rep_vb]; simp [outL, lH]), hB5, hB4, hF⟩) fun B39 hB39_ => ?_
      simp only [e_, Nat.reduceAdd, Nat.reduceBEq] at hB39_
      subst hB39_
      clear hB10 hB5 hB4 hF
      rintro m_ vs_ w0_ ⟨i, hi, rfl, rfl, hB10, hB5, hB4, hF⟩
      refine W_seq_k fun K40_ hK40_ => ?_
      refine W_region [80] rfl (Ops_step (R_lss rfl rfl) rfl rfl ?_)
      refine Ops_nil ?_
      refine then_n (hK40_ _ _ ?_)
      clear hK40_ K40_
      refine W_seq_k fun K41_ hK41_ => ?_
      refine W_if rfl (fun hc80 => ?_) (fun hc80 => ?_)
      ·
       refine W_skip ?_
       refine then_n (hK41_ _ _ ?_)
       clear hK41_ K41_
       refine W_seq_k fun K42_ hK42_ => ?_
       refine W_block ?_
       refine W_seq_k fun K43_ hK43_ => ?_
       refine W_region [81, 11] rfl (Ops_step (R_move rfl) rfl rfl (Ops_step (R_assign rfl) rfl rfl ?_))
       refine Ops_nil ?_
       refine then_n (hK43_ _ _ ?_)
       clear hK43_ K43_
       refine W_seq_k fun K44_ hK44_ => ?_
       refine W_region [82, 83, 84, 12] rfl (Ops_step (R_move rfl) rfl rfl (Ops_step (R_indexArr Tryd.underlying125 sz119 rfl rfl (by omega) (by omega)) rfl rfl ?_))
       refine Ops_step (R_loadB ag119 rfl hB5 (getw (a := i) (by omega))) rfl rfl ?_
       refine Ops_step (R_assign rfl) rfl rfl ?_
       refine Ops_nil ?_
       refine then_n (hK44_ _ _ ?_)
       clear hK44_ K44_
       refine W_seq_k fun K45_ hK45_ => ?_
       refine W_region [85] rfl (Ops_step (R_move rfl) rfl rfl ?_)
       refine Ops_nil ?_
       refine then_n (hK45_ _ _ ?_)
       clear hK45_ K45_
       refine W_block ?_
       refine W_loopB [4, 5, 10, 11, 79] [12, 85] (fun m vs w' => ∃ k, k ≤ 4 ∧ m = 4 - k ∧ vs = [w32 (HH.getD i 0 >>> (8 * k)), vi (k : Nat)] ∧ Blk w' b10 96 ((outK HH i k).map vb) ∧ Blk w' b5 125 (HH.map w32) ∧ Blk w' b4 96 zs4 ∧ Fr [] w w') (4) _ rfl (⟨0, by omega, rfl, by rw [Nat.mul_zero, BitVec.ushiftRight_zero]; rfl, hB10, hB5, hB4, hF⟩) fun B46 hB46_ => ?_
       simp only [e_, Nat.reduceAdd, Nat.reduceBEq] at hB46_
       subst hB46_
       clear hB10 hB5 hB4 hF
       rintro m_ vs_ w0_ ⟨k, hk, rfl, rfl, hB10, hB5, hB4, hF⟩
       refine W_seq_k fun K47_ hK47_ => ?_
       refine W_region [86] rfl (Ops_step (R_lss rfl rfl) rfl rfl ?_)
       refine Ops_nil ?_
       refine then_n (hK47_ _ _ ?_)
       clear hK47_ K47_
       refine W_seq_k fun K48_ hK48_ => ?_
       refine W_if rfl (fun hc86 => ?_) (fun hc86 => ?_)
       ·
        refine W_skip ?_
        refine then_n (hK48_ _ _ ?_)
        clear hK48_ K48_
        refine W_seq_k fun K49_ hK49_ => ?_
        refine W_block ?_
        refine W_seq_k fun K50_ hK50_ => ?_
        refine W_region [87, 13] rfl (Ops_step (R_move rfl) rfl rfl (Ops_step (R_assign rfl) rfl rfl ?_))
        refine Ops_nil ?_
        refine then_n (hK50_ _ _ ?_)
        clear hK50_ K50_
        refine W_seq_k fun K51_ hK51_ => ?_
        refine W_region [88, 89, 90, 91, 92, 93, 94, 95, none] rfl (Ops_step (R_move rfl) rfl rfl ?_)
        refine Ops_step (R_mul rfl rfl (wIc (n := 4 * i) (by omega) (by omega))) rfl rfl ?_
        refine Ops_step (R_move rfl) rfl rfl ?_
        refine Ops_step (R_add rfl rfl (wIc (n := (4 * i) + k) (by omega) (by omega))) rfl rfl ?_
        refine Ops_step (R_move rfl) rfl rfl (Ops_step (R_rem rfl rfl (by decide) (remc _ 256)) rfl rfl (Ops_step (R_conv Tryd.underlying119 Tryd.underlying5 rfl (byte_rem _ _)) rfl rfl (Ops_step (R_indexArr Tryd.underlying96 sz5 rfl rfl (by omega) (by omega)) rfl rfl ?_)))
        refine Ops_to0 (R_store sz5 rfl rfl hB10 (by rw [List.length_map, outK_len HH (by omega)]; omega) rfl) rfl ?_
        clear hB10
        rintro _ w52_ ⟨hB10, hF52_⟩
        replace hB5 := hB5.fr hF52_ (by simp only [mc_]; omega)
        replace hB4 := hB4.fr hF52_ (by simp only [mc_]; omega)
        replace hF := hF.then hF52_ (by simp only [mc_]; intro i_ hi_ hj_; omega)
        clear hF52_
        replace hB10 := hB10.to (cs' := (outK HH i (k + 1)).map vb) (by rw [outK]; exact setb _ (4 * i + k) _)
        refine Ops_nil ?_
        refine then_n (hK51_ _ _ ?_)
        clear hK51_ K51_
        refine W_keepB [4, 5, 10, 11, 12, 79, 85] fun B53 hB53_ => ?_
        simp only [e_, Nat.reduceAdd, Nat.reduceBEq] at hB53_
        subst hB53_
        refine W_region [96, 97, 12] rfl (Ops_step (R_move rfl) rfl rfl (Ops_step (R_quo rfl rfl (by decide) (shr_quo _ _)) rfl rfl (Ops_step (R_assign rfl) rfl rfl ?_)))
        refine Ops_nil ?_
        refine block_n ?_
        refine then_n (hK49_ _ _ ?_)
        clear hK49_ K49_
        refine W_region [98, 85] rfl ?_
        refine Ops_step (R_add rfl rfl (wIc (n := k + 1) (by omega) (by omega))) rfl rfl ?_
        refine Ops_step (R_move rfl) rfl rfl ?_
        refine Ops_nil ?_
        exact ⟨4 - (k + 1), _, by omega, rfl, ⟨k + 1, by omega, rfl, rfl, hB10, hB5, hB4, hF⟩, ⟨rfl, rfl, rfl, rfl, rfl, trivial⟩⟩
       ·
        have hk4 : k = 4 := by omega
        subst hk4
        replace hB10 := hB10.to (cs' := (outL HH (i + 1)).map vb) (by rw [outK_four HH (by omega)])
        refine W_exit ?_
        refine then_exit ?_
        clear hK48_ K48_
        refine then_exit ?_
        refine block_exit ?_
        refine block_n ?_
        refine then_n (hK42_ _ _ ?_)
        clear hK42_ K42_
        refine W_region [99, 79] rfl ?_
        refine Ops_step (R_add rfl rfl (wIc (n := i + 1) (by omega) (by omega))) rfl rfl ?_
        refine Ops_step (R_move rfl) rfl rfl ?_
        refine Ops_nil ?_
        exact ⟨8 - (i + 1), _, by omega, rfl, ⟨i + 1, by omega, rfl, rfl, hB10, hB5, hB4, hF⟩, ⟨rfl, rfl, rfl, trivial⟩⟩
      ·
       have hi8 : i = 8 := by omega
       subst hi8
       refine W_exit ?_
       refine then_exit ?_
       clear hK41_ K41_
       refine then_exit ?_
       refine block_exit ?_
       refine then_n (hK37_ _ _ ?_)
       clear hK37_ K37_
       refine W_seq_k fun K54_ hK54_ => ?_
       refine W_region [100, none] rfl (Ops_step (R_loadW ag96 sz96 rfl hB10 (by rw [List.length_map, outL_len HH (by omega), lH])) rfl rfl ?_)
       refine Ops_to0 (R_storeN sz96 (by rw [List.size_toArray, List.length_map, outL_len HH (by omega), lH]) rfl rfl hB4 (by rw [lz4]; decide) allb) rfl ?_
       clear hB4
       rintro _ w55_ ⟨hB4, hF55_⟩
       replace hB10 := hB10.fr hF55_ (by simp only [mc_]; omega)
       replace hB5 := hB5.fr hF55_ (by simp only [mc_]; omega)
       replace hF := hF.then hF55_ (by simp only [mc_]; intro i_ hi_ hj_; omega)
       clear hF55_
       replace hB4 := hB4.to (cs' := (Bl.sum (Bl.add (Bl.begin_ key) b)).map vb) (by rw [hsum, ← outL_all, lH]; exact over4 (n := 32) lz4 (by rw [List.length_map, outL_len HH (by omega), lH]))
       refine Ops_nil ?_
       refine then_n (hK54_ _ _ ?_)
       clear hK54_ K54_
       refine W_ret ?_
       refine ⟨_, ⟨_, _, _, rfl, rfl, run_loadVarN ag96 sz96 hB4 (by rw [List.length_map, sum_len]; decide), rfl⟩, ?_⟩
       exact ⟨by simp [sum_len, List.take_of_length_le, tupled], hF⟩
     ·
      refine W_skip ?_
      refine then_n (hK31_ _ _ ?_)
      clear hK31_ K31_
      refine W_keepB [4, 5, 6, 7, 9, 43, 44] fun B56 hB56_ => ?_
      simp only [e_, Nat.reduceAdd, Nat.reduceBEq] at hB56_
      subst hB56_
      refine W_seq_k fun K57_ hK57_ => ?_
      refine W_region [72, 73, 7] rfl (Ops_step (R_move rfl) rfl rfl ?_)
      refine Ops_step (R_add rfl rfl (wIc (n := (64 * i) + 64) (by omega) (by omega))) rfl rfl ?_
      refine Ops_step (R_assign rfl) rfl rfl ?_
      refine Ops_nil ?_
      refine then_n (hK57_ _ _ ?_)
      clear hK57_ K57_
      refine W_region [74, 75, 76, 77, none] rfl (Ops_step (R_loadW ag125 sz125 rfl hB5 (by rw [List.length_map, lh])) rfl rfl (Ops_step (R_move rfl) rfl rfl (Ops_step (R_move rfl) rfl rfl ?_)))
      refine Ops_call (C_func bd103 rfl) rfl rfl ?_
      refine (rmix_any D.h lh _ _ (Bl.padded part) (padded_len (by omega)) (64 * i + 64) (by omega) false _ hQ9.rd).mono ?_
      rintro _ w77_ ⟨rfl, hF77_⟩
      replace hQ9 := hQ9.fr0 hF77_
      replace hQ6 := hQ6.fr0 hF77_
      replace hB5 := hB5.fr0 hF77_
      replace hB4 := hB4.fr0 hF77_
      replace hF9 := hF9.fr0 hF77_
      replace hF := hF.fr0 hF77_
      clear hF77_
      refine ⟨_, rfl, ?_⟩
      have hn5_6 := hQ6.notin hB5 (by decide)
      have hn5_9 := hQ9.notin hB5 (by decide)
      refine Ops_to0 (R_storeN sz125 (by simp [mix_len]) rfl rfl hB5 (by rw [List.length_map, lh]; decide) allw) rfl ?_
      clear hB5
      rintro _ w58_ ⟨hB5, hF58_⟩
      replace hQ9 := hQ9.fr hF58_ (fun i_ hi_ hj_ => hn5_9 (by rw [← List.mem_singleton.1 hj_]; exact hi_))
      replace hQ6 := hQ6.fr hF58_ (fun i_ hi_ hj_ => hn5_6 (by rw [← List.mem_singleton.1 hj_]; exact hi_))
      replace hB4 := hB4.fr hF58_ (by simp only [mc_]; omega)
      replace hF := hF.then hF58_ (by simp only [mc_]; intro i_ hi_ hj_; omega)
      clear hF58_
      have hp2 : Bl.padded part = D.rest.take 64 := by rw [hr, Bl.padded, lpart, show 64 - min (all.length - 64 * i) 64 = 0 by omega, List.replicate_zero, List.append_nil, epart, show min (all.length - 64 * i) 64 = 64 by omega]
      replace hB5 := hB5.to (cs' := (Bl.mix D.h (D.rest.take 64) (D.n + 64) false).map w32) (by rw [hp2, hn0]; exact over4 (n := 8) (by rw [List.length_map, lh]) (by rw [List.length_map, mix_len]))
      have hrl : D.rest.length = all.length - 64 * i := by rw [hr, List.length_drop]
      refine Ops_nil ?_
      refine block_n ?_
      refine then_n (hK23_ _ _ ?_)
      clear hK23_ K23_
      refine W_keepB [4, 5, 6, 7, 43, 44] fun B59 hB59_ => ?_
      simp only [e_, Nat.reduceAdd, Nat.reduceBEq] at hB59_
      subst hB59_
      refine W_region [78, 44] rfl ?_
      refine Ops_step (R_add rfl rfl (wIc (n := i + 1) (by omega) (by omega))) rfl rfl ?_
      refine Ops_step (R_move rfl) rfl rfl ?_
      refine Ops_nil ?_
      exact ⟨all.length / 64 + 1 - (i + 1), _, by omega, rfl, ⟨i + 1, ⟨Bl.mix D.h (D.rest.take 64) (D.n + 64) false, D.rest.drop 64, D.n + 64⟩, by omega, by rw [Nat.mul_add], .inl (by omega), by show D.n + 64 = _; omega, by show D.rest.drop 64 = _; rw [hr, List.drop_drop, Nat.mul_add], (by have h_ := eat_step (D := D) (by omega); rw [← hE, h_]), mix_len _ _ _ _, hB5, hQ6, ⟨zs4, lz4, hB4⟩, hF⟩, ⟨rfl, rfl, rfl, rfl, trivial⟩⟩
   ·
    exact absurd hc45 (by omega)
 ·
  have hkz : key = [] := List.eq_nil_of_length_eq_zero (by omega)
  have hall : [] ++ b = allOf key b := by rw [allOf, Bl.begin_, if_pos hkz]
  have hlenA : b.length = (allOf key b).length := by rw [← hall]; rfl
  refine W_skip ?_
  refine then_n (hK8_ _ _ ?_)
  clear hK8_ K8_
  refine W_seq_k fun K60_ hK60_ => ?_
  refine W_region [37, 38, 39, 6] rfl (Ops_step (R_move rfl) rfl rfl (Ops_step (R_move rfl) rfl rfl ?_))
  have hof := hQ6.off
  have hzz := hF.size
  have hno_hB5 := hQ6.notin hB5 (by decide)
  have hno_hB4 := hQ6.notin hB4 (by decide)
  refine Ops_to (R_appendB el30 Tryd.underlying30 rfl rfl rfl rfl hQ6 (hb.fr0 hF) (by have h_ := padded_len (key := key) (by omega); first | omega | (simp; omega)) (by omega) (by decide)) rfl rfl ?_
  clear hQ6
  rintro _ w39_ ⟨A39, c39, rfl, hQ6, hF39_⟩
  replace hF := hF.then hF39_ (fun i_ hi_ hj_ => absurd (hof i_ hi_) (by omega))
  replace hB4 := hB4.fr hF39_ hno_hB4
  replace hB5 := hB5.fr hF39_ hno_hB5
  clear hF39_
  clear hof hzz hno_hB5 hno_hB4
  refine Ops_step (R_assign rfl) rfl rfl ?_
  refine Ops_nil ?_
  refine then_n (hK60_ _ _ ?_)
  clear hK60_ K60_
  refine W_keepB [4, 5, 6] fun B61 hB61_ => ?_
  simp only [e_, Nat.reduceAdd, Nat.reduceBEq] at hB61_
  subst hB61_
  refine W_seq_k fun K62_ hK62_ => ?_
  refine W_region [7] rfl ?_
  rw [hlenA]
  replace hQ6 := hQ6.to hall
  refine named (allOf key b) fun all eall => ?_
  rw [← eall] at hQ6 ⊢
  have hal : all.length ≤ 1099511627776 + 64 := by rw [eall]; exact allOf_len hkl hbl
  refine Ops_step (R_assign rfl) rfl rfl ?_
  refine Ops_nil ?_
  refine then_n (hK62_ _ _ ?_)
  clear hK62_ K62_
  refine W_seq_k fun K63_ hK63_ => ?_
  refine W_seq_k fun K64_ hK64_ => ?_
  refine W_region [40, 41, 42, 43, 44] rfl (Ops_step (R_move rfl) rfl rfl (Ops_step (R_len Tryd.underlying30 rfl rfl) rfl rfl (Ops_step (R_quo rfl rfl (by omega) (quoc all.length 64 (by omega))) rfl rfl ?_)))
  refine Ops_step (R_add rfl rfl (wIc (n := (all.length / 64) + 1) (by omega) (by omega))) rfl rfl ?_
  refine Ops_step (R_move rfl) rfl rfl ?_
  refine Ops_nil ?_
  refine then_n (hK64_ _ _ ?_)
  clear hK64_ K64_
  refine W_block ?_
  refine W_loopB [4, 5, 6, 43] [7, 44] (fun m vs w' => ∃ i D, m = all.length / 64 + 1 - i ∧ vs = [vi (64 * i : Nat), vi (i : Nat)] ∧ (64 * i < all.length ∨ i = 0) ∧ Bl.D.n D = 64 * i ∧ D.rest = all.drop (64 * i) ∧ Bl.eat D.rest.length D = Bl.eat all.length ⟨Bl.first0 key.length, all, 0⟩ ∧ D.h.length = 8 ∧ Blk w' b5 125 (D.h.map w32) ∧ OwnB w' w.heap.size 5 A39 c39 all ∧ (∃ zs, zs.length = 32 ∧ Blk w' b4 96 zs) ∧ Fr [] w w') (all.length / 64 + 1) _ rfl (⟨0, ⟨Bl.first0 key.length, all, 0⟩, rfl, rfl, .inr rfl, rfl, rfl, rfl, first0_len _, hB5, hQ6, ⟨_, by first | exact lz4 | simp, hB4⟩, hF⟩) fun B65 hB65_ => ?_
  simp only [e_, Nat.reduceAdd, Nat.reduceBEq] at hB65_
  subst hB65_
  clear hB5 hQ6 hB4 hF
  rintro m_ vs_ w0_ ⟨i, D, rfl, rfl, hi0, hn0, hr, hE, lh, hB5, hQ6, ⟨zs4, lz4, hB4⟩, hF⟩
  refine named (Array.size w0_.heap) fun B9 eB9 => ?_
  have hlt6 := hQ6.lt
  have hF9 := Fr.refl [] w0_
  have hzw := hF.size
  refine W_seq_k fun K66_ hK66_ => ?_
  refine W_region [45] rfl (Ops_step (R_lss rfl rfl) rfl rfl ?_)
  refine Ops_nil ?_
  refine then_n (hK66_ _ _ ?_)
  clear hK66_ K66_
  refine W_seq_k fun K67_ hK67_ => ?_
  refine W_if rfl (fun hc45 => ?_) (fun hc45 => ?_)
  ·
   have hi1 : 64 * i < all.length ∨ i = 0 := by omega
   refine W_skip ?_
   refine then_n (hK67_ _ _ ?_)
   clear hK67_ K67_
   refine W_seq_k fun K68_ hK68_ => ?_
   refine W_block ?_
   refine W_seq_k fun K69_ hK69_ => ?_
   refine W_region [46, 47, 48, 49, 8] rfl (Ops_step (R_move rfl) rfl rfl (Ops_step (R_len Tryd.underlying30 rfl rfl) rfl rfl (Ops_step (R_move rfl) rfl rfl ?_)))
   refine Ops_step (R_sub rfl rfl (wIc (n := all.length - 64 * i) (by omega) (by omega))) rfl rfl ?_
   refine Ops_step (R_assign rfl) rfl rfl ?_
   refine Ops_nil ?_
   refine then_n (hK69_ _ _ ?_)
   clear hK69_ K69_
   refine W_seq_k fun K70_ hK70_ => ?_
   refine W_region [50, 51, 52, 53, 54, 55, 56, 57, 58, 9] rfl ?_
   have hn50_hQ6 := hQ6.lt
   have hn50_hB5 := hB5.lt
   have hn50_hB4 := hB4.lt
   have hz50_hF := hF.size
   have hz50_hF9 := hF9.size
   refine Ops_to (R_buildSlice0 el30) rfl rfl ?_
   rintro _ w50_ ⟨b50, rfl, hb50, hB50, hF50_⟩
   have hl50 := hB50.lt
   have hQ50 := OwnB.empty (B := B9) (by omega) hB50
   clear hB50
   replace hQ6 := hQ6.fr0 hF50_
   replace hB5 := hB5.fr0 hF50_
   replace hB4 := hB4.fr0 hF50_
   replace hF := hF.fr0 hF50_
   replace hF9 := hF9.fr0 hF50_
   clear hF50_
   refine Ops_step (R_move rfl) rfl rfl (Ops_step (R_move rfl) rfl rfl (Ops_step (R_move rfl) rfl rfl (Ops_step (R_move rfl) rfl rfl (Ops_step (R_min rfl rfl (show _ = ((min (all.length - 64 * i) 64 : Nat) : Int) by omega)) rfl rfl ?_))))
   refine Ops_step (R_add rfl rfl (wIc (n := (64 * i) + (min (all.length - 64 * i) 64)) (by omega) (by omega))) rfl rfl ?_
   refine Ops_step (R_slice (l := 64 * i) (h := 64 * i + min (all.length - 64 * i) 64) Tryd.underlying30 sz5 rfl ⟨_, _, rfl, rfl⟩ ⟨_, _, rfl, rfl⟩ rfl (by decide) (by omega) (by have := Own.cap hQ6; omega) (by omega)) rfl rfl ?_
   have hof := hQ50.off
   have hzz := hF.size
   have hno_hB5 := hQ50.notin hB5 (by decide)
   have hno_hB4 := hQ50.notin hB4 (by decide)
   have hz9 := hF9.size
   refine Ops_to (R_appendB el30 Tryd.underlying30 rfl rfl rfl (by rw [List.length_take, List.length_drop]; omega) hQ50 (Rd.cutB hQ6.rd c39 (64 * i) (min (all.length - 64 * i) 64) (Own.cap hQ6)) (by simp; omega) (by omega) (by decide)) rfl rfl ?_
   clear hQ50
   rintro _ w58_ ⟨A58, c58, rfl, hQ50, hF58_⟩
   replace hQ6 := hQ6.fr hF58_ (fun i_ hi_ hj_ => absurd (hlt6 i_ hi_) (by have h_ := hof i_ hj_; omega))
   replace hB5 := hB5.fr hF58_ hno_hB5
   replace hB4 := hB4.fr hF58_ hno_hB4
   replace hF := hF.then hF58_ (fun i_ hi_ hj_ => absurd (hof i_ hi_) (by omega))
   replace hF9 := hF9.then hF58_ (fun i_ hi_ hj_ => absurd (hof i_ hi_) (by omega))
   clear hF58_
   rw [List.nil_append] at hQ50 ⊢
   refine named ((all.drop (64 * i)).take (min (all.length - 64 * i) 64)) fun part epart => ?_
   rw [← epart] at hQ50 ⊢
   have lpart : part.length = min (all.length - 64 * i) 64 := by rw [epart, List.length_take, List.length_drop]; omega
   clear hof hzz hno_hB5 hno_hB4
   refine Ops_step (R_assign rfl) rfl rfl ?_
   refine Ops_nil ?_
   refine then_n (hK70_ _ _ ?_)
   clear hK70_ K70_
   refine W_keepB [4, 5, 6, 7, 8, 9, 43, 44] fun B71 hB71_ => ?_
   simp only [e_, Nat.reduceAdd, Nat.reduceBEq] at hB71_
   subst hB71_
   refine W_seq_k fun K72_ hK72_ => ?_
   refine W_block ?_
   refine W_loopB [4, 5, 6, 7, 8, 43, 44] [9] (fun m vs w' => ∃ j A9 c9, part.length + j ≤ 64 ∧ m = 64 - part.length - j ∧ vs = [.slice A9 (part ++ List.replicate j 0).length c9] ∧ OwnB w' B9 5 A9 c9 (part ++ List.replicate j 0) ∧ Blk w' b5 125 (D.h.map w32) ∧ OwnB w' w.heap.size 5 A39 c39 all ∧ Blk w' b4 96 zs4 ∧ Fr [] w0_ w' ∧ Fr [] w w') (64 - part.length) _ rfl (⟨0, _, _, by omega, by omega, by rw [List.replicate_zero, List.append_nil], by rw [List.replicate_zero, List.append_nil]; exact hQ50, hB5, hQ6, hB4, hF9, hF⟩) fun B73 hB73_ => ?_
   simp only [e_, Nat.reduceAdd, Nat.reduceBEq] at hB73_
   subst hB73_
   clear hQ50 hQ6 hB5 hB4 hF hF9
   rintro m_ vs_ w1_ ⟨j, A9, c9, hj0, rfl, rfl, hQ9, hB5, hQ6, hB4, hF9, hF⟩
   refine W_seq_k fun K74_ hK74_ => ?_
   refine W_seq_k fun K75_ hK75_ => ?_
   refine W_region [59, 60, 61] rfl (Ops_step (R_move rfl) rfl rfl (Ops_step (R_len Tryd.underlying30 rfl rfl) rfl rfl (Ops_step (R_lss rfl rfl) rfl rfl ?_)))
   refine Ops_nil ?_
   refine then_n (hK75_ _ _ ?_)
   clear hK75_ K75_
   refine W_if rfl (fun hc61 => ?_) (fun hc61 => ?_)
   ·
    have hj1 : part.length + j < 64 := by rw [List.length_append, List.length_replicate] at hc61; omega
    refine W_skip ?_
    refine then_n (hK74_ _ _ ?_)
    clear hK74_ K74_
    refine W_block ?_
    refine W_region [62, 63, 64, 9] rfl (Ops_step (R_move rfl) rfl rfl ?_)
    have hn63_hQ9 := hQ9.lt
    have hn63_hQ6 := hQ6.lt
    have hn63_hB5 := hB5.lt
    have hn63_hB4 := hB4.lt
    have hz63_hF9 := hF9.size
    have hz63_hF := hF.size
    refine Ops_to (R_buildSlice el30 zr5 (by decide) (by decide) rfl rfl) rfl rfl ?_
    rintro _ w63_ ⟨b63, rfl, hb63, hB63, hF63_⟩
    have hl63 := hB63.lt
    replace hQ9 := hQ9.fr0 hF63_
    replace hQ6 := hQ6.fr0 hF63_
    replace hB5 := hB5.fr0 hF63_
    replace hB4 := hB4.fr0 hF63_
    replace hF9 := hF9.fr0 hF63_
    replace hF := hF.fr0 hF63_
    clear hF63_
    have hof := hQ9.off
    have hzz := hF.size
    have hno_hB5 := hQ9.notin hB5 (by decide)
    have hno_hB4 := hQ9.notin hB4 (by decide)
    have hz9 := hF9.size
    refine Ops_to (R_appendB el30 Tryd.underlying30 rfl rfl rfl rfl hQ9 (ys := [0]) (Rd.ofBlk0 hB63) (by simp; omega) (by omega) (by decide)) rfl rfl ?_
    clear hQ9 hB63
    rintro _ w64_ ⟨A64, c64, rfl, hQ9, hF64_⟩
    replace hQ6 := hQ6.fr hF64_ (fun i_ hi_ hj_ => absurd (hlt6 i_ hi_) (by have h_ := hof i_ hj_; omega))
    replace hB5 := hB5.fr hF64_ hno_hB5
    replace hB4 := hB4.fr hF64_ hno_hB4
    replace hF9 := hF9.then hF64_ (fun i_ hi_ hj_ => absurd (hof i_ hi_) (by omega))
    replace hF := hF.then hF64_ (fun i_ hi_ hj_ => absurd (hof i_ hi_) (by omega))
    clear hF64_
    clear hof hzz hno_hB5 hno_hB4
    refine Ops_step (R_assign rfl) rfl rfl ?_
    refine Ops_nil ?_
    refine block_n ?_
    exact ⟨64 - part.length - (j + 1), _, by omega, rfl, ⟨j + 1, _, _, by omega, rfl, by rw [← pad_step], by rw [← pad_step]; exact hQ9, hB5, hQ6, hB4, hF9, hF⟩, ⟨rfl, rfl, rfl, rfl, rfl, rfl, rfl, trivial⟩⟩
   ·
    have hj : part.length + j = 64 := by rw [List.length_append, List.length_replicate] at hc61; omega
    rw [pad_end hj] at hQ9
    have hl64 : (part ++ List.replicate j 0).length = 64 := by rw [List.length_append, List.length_replicate]; exact hj
    rw [hl64]
    obtain ⟨g9, rfl, hg9⟩ := own_some hQ9 (by rw [padded_len (by omega)]; decide)
    refine W_exit ?_
    refine then_exit ?_
    clear hK74_ K74_
    refine then_exit ?_
    refine block_exit ?_
    refine then_n (hK72_ _ _ ?_)
    clear hK72_ K72_
    refine W_seq_k fun K76_ hK76_ => ?_
    refine W_seq_k fun K77_ hK77_ => ?_
    refine W_region [65, 66] rfl (Ops_step (R_move rfl) rfl rfl (Ops_step (R_leq rfl rfl) rfl rfl ?_))
    refine Ops_nil ?_
    refine then_n (hK77_ _ _ ?_)
    clear hK77_ K77_
    refine W_if rfl (fun hc66 => ?_) (fun hc66 => ?_)
    ·
     refine W_seq_k fun K78_ hK78_ => ?_
     refine W_region [67, 68, 69, 70, 71, none] rfl (Ops_step (R_loadW ag125 sz125 rfl hB5 (by rw [List.length_map, lh])) rfl rfl (Ops_step (R_move rfl) rfl rfl (Ops_step (R_move rfl) rfl rfl (Ops_step (R_len Tryd.underlying30 rfl rfl) rfl rfl ?_))))
     refine Ops_call (C_func bd103 rfl) rfl rfl ?_
     refine (rmix_any D.h lh _ _ (Bl.padded part) (padded_len (by omega)) all.length (by omega) true _ hQ9.rd).mono ?_
     rintro _ w71_ ⟨rfl, hF71_⟩
     replace hQ9 := hQ9.fr0 hF71_
     replace hQ6 := hQ6.fr0 hF71_
     replace hB5 := hB5.fr0 hF71_
     replace hB4 := hB4.fr0 hF71_
     replace hF9 := hF9.fr0 hF71_
     replace hF := hF.fr0 hF71_
     clear hF71_
     refine ⟨_, rfl, ?_⟩
     have hn5_6 := hQ6.notin hB5 (by decide)
     have hn5_9 := hQ9.notin hB5 (by decide)
     refine Ops_to0 (R_storeN sz125 (by simp [mix_len]) rfl rfl hB5 (by rw [List.length_map, lh]; decide) allw) rfl ?_
     clear hB5
     rintro _ w79_ ⟨hB5, hF79_⟩
     replace hQ9 := hQ9.fr hF79_ (fun i_ hi_ hj_ => hn5_9 (by rw [← List.mem_singleton.1 hj_]; exact hi_))
     replace hQ6 := hQ6.fr hF79_ (fun i_ hi_ hj_ => hn5_6 (by rw [← List.mem_singleton.1 hj_]; exact hi_))
     replace hB4 := hB4.fr hF79_ (by simp only [mc_]; omega)
     replace hF := hF.then hF79_ (by simp only [mc_]; intro i_ hi_ hj_; omega)
     clear hF79_
     refine named (Bl.mix D.h (Bl.padded part) all.length true) fun HH eH => ?_
     have lH : HH.length = 8 := by rw [eH]; exact mix_len _ _ _ _
     replace hB5 := hB5.to (cs' := HH.map w32) (by rw [eH]; exact over4 (n := 8) (by rw [List.length_map, lh]) (by rw [List.length_map, mix_len]))
     have hpart : part = D.rest := by rw [hr, epart]; exact List.take_of_length_le (by rw [List.length_drop]; omega)
     have hsum : Bl.sum (Bl.add (Bl.begin_ key) b) = Bl.bytesOf HH := by
       rw [add_begin, ← eall, ← hE, eat_done (by rw [← hpart, lpart]; omega), Bl.sum, eH, hpart, hn0]
       congr 2
       rw [← hpart, lpart]
       omega
     refine Ops_nil ?_
     refine then_n (hK78_ _ _ ?_)
     clear hK78_ K78_
     refine W_keepB [4, 5] fun B80 hB80_ => ?_
     simp only [e_, Nat.reduceAdd, Nat.reduceBEq] at hB80_
     subst hB80_
     refine W_exit ?_
     refine then_exit ?_
     clear hK76_ K76_
     refine block_other rfl ?_
     refine then_exit ?_
     clear hK68_ K68_
     refine then_exit ?_
     refine block_exit ?_
     refine then_n (hK63_ _ _ ?_)
     clear hK63_ K63_
     refine W_seq_k fun K81_ hK81_ => ?_
     refine W_region [10] rfl ?_
     have hn10_hQ9 := hQ9.lt
     have hn10_hQ6 := hQ6.lt
     have hn10_hB5 := hB5.lt
     have hn10_hB4 := hB4.lt
     have hz10_hF := hF.size
     refine Ops_to (R_alloc zr96) rfl rfl ?_
     rintro _ w10_ ⟨b10, rfl, hb10, hB10, hF10_⟩
     have hl10 := hB10.lt
     replace hQ9 := hQ9.fr0 hF10_
     replace hQ6 := hQ6.fr0 hF10_
     replace hB5 := hB5.fr0 hF10_
     replace hB4 := hB4.fr0 hF10_
     replace hF := hF.fr0 hF10_
     clear hF10_
     refine Ops_nil ?_
     refine then_n (hK81_ _ _ ?_)
     clear hK81_ K81_
     refine W_seq_k fun K82_ hK82_ => ?_
     refine W_seq_k fun K83_ hK83_ => ?_
     refine W_region [79] rfl (Ops_step (R_move rfl) rfl rfl ?_)
     refine Ops_nil ?_
     refine then_n (hK83_ _ _ ?_)
     clear hK83_ K83_
     refine W_block ?_
     refine W_loopB [4, 5, 10] [79] (fun m vs w' => ∃ i, i ≤ 8 ∧ m = 8 - i ∧ vs = [vi (i : Nat)] ∧ Blk w' b10 96 ((outL HH i).map vb) ∧ Blk w' b5 125 (HH.map w32) ∧ Blk w' b4 96 zs4 ∧ Fr [] w w') (8) _ rfl (⟨0, by omega, rfl, rfl, hB10.to (by rw [rep_vb]; simp [outL, lH]), hB5, hB4, hF⟩) fun B84 hB84_ => ?_
     simp only [e_, Nat.reduceAdd, Nat.reduceBEq] at hB84_
     subst hB84_
     clear hB10 hB5 hB4 hF
     rintro m_ vs_ w0_ ⟨i, hi, rfl, rfl, hB10, hB5, hB4, hF⟩
     refine W_seq_k fun K85_ hK85_ => ?_
     refine W_region [80] rfl (Ops_step (R_lss rfl rfl) rfl rfl ?_)
     refine Ops_nil ?_
     refine then_n (hK85_ _ _ ?_)
     clear hK85_ K85_
     refine W_seq_k fun K86_ hK86_ => ?_
     refine W_if rfl (fun hc80 => ?_) (fun hc80 => ?_)
     ·
      refine W_skip ?_
      refine then_n (hK86_ _ _ ?_)
      clear hK86_ K86_
      refine W_seq_k fun K87_ hK87_ => ?_
      refine W_block ?_
      refine W_seq_k fun K88_ hK88_ => ?_
      refine W_region [81, 11] rfl (Ops_step (R_move rfl) rfl rfl (Ops_step (R_assign rfl) rfl rfl ?_))
      refine Ops_nil ?_
      refine then_n (hK88_ _ _ ?_)
      clear hK88_ K88_
      refine W_seq_k fun K89_ hK89_ => ?_
      refine W_region [82, 83, 84, 12] rfl (Ops_step (R_move rfl) rfl rfl (Ops_step (R_indexArr Tryd.underlying125 sz119 rfl rfl (by omega) (by omega)) rfl rfl ?_))
      refine Ops_step (R_loadB ag119 rfl hB5 (getw (a := i) (by omega))) rfl rfl ?_
      refine Ops_step (R_assign rfl) rfl rfl ?_
      refine Ops_nil ?_
      refine then_n (hK89_ _ _ ?_)
      clear hK89_ K89_
      refine W_seq_k fun K90_ hK90_ => ?_
      refine W_region [85] rfl (Ops_step (R_move rfl) rfl rfl ?_)
      refine Ops_nil ?_
      refine then_n (hK90_ _ _ ?_)
      clear hK90_ K90_
      refine W_block ?_
      refine W_loopB [4, 5, 10, 11, 79] [12, 85] (fun m vs w' => ∃ k, k ≤ 4 ∧ m = 4 - k ∧ vs = [w32 (HH.getD i 0 >>> (8 * k)), vi (k : Nat)] ∧ Blk w' b10 96 ((outK HH i k).map vb) ∧ Blk w' b5 125 (HH.map w32) ∧ Blk w' b4 96 zs4 ∧ Fr [] w w') (4) _ rfl (⟨0, by omega, rfl, by rw [Nat.mul_zero, BitVec.ushiftRight_zero]; rfl, hB10, hB5, hB4, hF⟩) fun B91 hB91_ => ?_
      simp only [e_, Nat.reduceAdd, Nat.reduceBEq] at hB91_
      subst hB91_
      clear hB10 hB5 hB4 hF
      rintro m_ vs_ w0_ ⟨k, hk, rfl, rfl, hB10, hB5, hB4, hF⟩
      refine W_seq_k fun K92_ hK92_ => ?_
      refine W_region [86] rfl (Ops_step (R_lss rfl rfl) rfl rfl ?_)
      refine Ops_nil ?_
      refine then_n (hK92_ _ _ ?_)
      clear hK92_ K92_
      refine W_seq_k fun K93_ hK93_ => ?_
      refine W_if rfl (fun hc86 => ?_) (fun hc86 => ?_)
      ·
       refine W_skip ?_
       refine then_n (hK93_ _ _ ?_)
       clear hK93_ K93_
       refine W_seq_k fun K94_ hK94_ => ?_
       refine W_block ?_
       refine W_seq_k fun K95_ hK95_ => ?_
       refine W_region [87, 13] rfl (Ops_step (R_move rfl) rfl rfl (Ops_step (R_assign rfl) rfl rfl ?_))
       refine Ops_nil ?_
       refine then_n (hK95_ _ _ ?_)
       clear hK95_ K95_
       refine W_seq_k fun K96_ hK96_ => ?_
       refine W_region [88, 89, 90, 91, 92, 93, 94, 95, none] rfl (Ops_step (R_move rfl) rfl rfl ?_)
       refine Ops_step (R_mul rfl rfl (wIc (n := 4 * i) (by omega) (by omega))) rfl rfl ?_
       refine Ops_step (R_move rfl) rfl rfl ?_
       refine Ops_step (R_add rfl rfl (wIc (n := (4 * i) + k) (by omega) (by omega))) rfl rfl ?_
       refine Ops_step (R_move rfl) rfl rfl (Ops_step (R_rem rfl rfl (by decide) (remc _ 256)) rfl rfl (Ops_step (R_conv Tryd.underlying119 Tryd.underlying5 rfl (byte_rem _ _)) rfl rfl (Ops_step (R_indexArr Tryd.underlying96 sz5 rfl rfl (by omega) (by omega)) rfl rfl ?_)))
       refine Ops_to0 (R_store sz5 rfl rfl hB10 (by rw [List.length_map, outK_len HH (by omega)]; omega) rfl) rfl ?_
       clear hB10
       rintro _ w97_ ⟨hB10, hF97_⟩
       replace hB5 := hB5.fr hF97_ (by simp only [mc_]; omega)
       replace hB4 := hB4.fr hF97_ (by simp only [mc_]; omega)
       replace hF := hF.then hF97_ (by simp only [mc_]; intro i_ hi_ hj_; omega)
       clear hF97_
       replace hB10 := hB10.to (cs' := (outK HH i (k + 1)).map vb) (by rw [outK]; exact setb _ (4 * i + k) _)
       refine Ops_nil ?_
       refine then_n (hK96_ _ _ ?_)
       clear hK96_ K96_
       refine W_keepB [4, 5, 10, 11, 12, 79, 85] fun B98 hB98_ => ?_
       simp only [e_, Nat.reduceAdd, Nat.reduceBEq] at hB98_
       subst hB98_
       refine W_region [96, 97, 12] rfl (Ops_step (R_move rfl) rfl rfl (Ops_step (R_quo rfl rfl (by decide) (shr_quo _ _)) rfl rfl (Ops_step (R_assign rfl) rfl rfl ?_)))
       refine Ops_nil ?_
       refine block_n ?_
       refine then_n (hK94_ _ _ ?_)
       clear hK94_ K94_
       refine W_region [98, 85] rfl ?_
       refine Ops_step (R_add rfl rfl (wIc (n := k + 1) (by omega) (by omega))) rfl rfl ?_
       refine Ops_step (R_move rfl) rfl rfl ?_
       refine Ops_nil ?_
       exact ⟨4 - (k + 1), _, by omega, rfl, ⟨k + 1, by omega, rfl, rfl, hB10, hB5, hB4, hF⟩, ⟨rfl, rfl, rfl, rfl, rfl, trivial⟩⟩
      ·
       have hk4 : k = 4 := by omega
       subst hk4
       replace hB10 := hB10.to (cs' := (outL HH (i + 1)).map vb) (by rw [outK_four HH (by omega)])
       refine W_exit ?_
       refine then_exit ?_
       clear hK93_ K93_
       refine then_exit ?_
       refine block_exit ?_
       refine block_n ?_
       refine then_n (hK87_ _ _ ?_)
       clear hK87_ K87_
       refine W_region [99, 79] rfl ?_
       refine Ops_step (R_add rfl rfl (wIc (n := i + 1) (by omega) (by omega))) rfl rfl ?_
       refine Ops_step (R_move rfl) rfl rfl ?_
       refine Ops_nil ?_
       exact ⟨8 - (i + 1), _, by omega, rfl, ⟨i + 1, by omega, rfl, rfl, hB10, hB5, hB4, hF⟩, ⟨rfl, rfl, rfl, trivial⟩⟩
     ·
      have hi8 : i = 8 := by omega
      subst hi8
      refine W_exit ?_
      refine then_exit ?_
      clear hK86_ K86_
      refine then_exit ?_
      refine block_exit ?_
      refine then_n (hK82_ _ _ ?_)
      clear hK82_ K82_
      refine W_seq_k fun K99_ hK99_ => ?_
      refine W_region [100, none] rfl (Ops_step (R_loadW ag96 sz96 rfl hB10 (by rw [List.length_map, outL_len HH (by omega), lH])) rfl rfl ?_)
      refine Ops_to0 (R_storeN sz96 (by rw [List.size_toArray, List.length_map, outL_len HH (by omega), lH]) rfl rfl hB4 (by rw [lz4]; decide) allb) rfl ?_
      clear hB4
      rintro _ w100_ ⟨hB4, hF100_⟩
      replace hB10 := hB10.fr hF100_ (by simp only [mc_]; omega)
      replace hB5 := hB5.fr hF100_ (by simp only [mc_]; omega)
      replace hF := hF.then hF100_ (by simp only [mc_]; intro i_ hi_ hj_; omega)
      clear hF100_
      replace hB4 := hB4.to (cs' := (Bl.sum (Bl.add (Bl.begin_ key) b)).map vb) (by rw [hsum, ← outL_all, lH]; exact over4 (n := 32) lz4 (by rw [List.length_map, outL_len HH (by omega), lH]))
      refine Ops_nil ?_
      refine then_n (hK99_ _ _ ?_)
      clear hK99_ K99_
      refine W_ret ?_
      refine ⟨_, ⟨_, _, _, rfl, rfl, run_loadVarN ag96 sz96 hB4 (by rw [List.length_map, sum_len]; decide), rfl⟩, ?_⟩
      exact ⟨by simp [sum_len, List.take_of_length_le, tupled], hF⟩
    ·
     refine W_skip ?_
     refine then_n (hK76_ _ _ ?_)
     clear hK76_ K76_
     refine W_keepB [4, 5, 6, 7, 9, 43, 44] fun B101 hB101_ => ?_
     simp only [e_, Nat.reduceAdd, Nat.reduceBEq] at hB101_
     subst hB101_
     refine W_seq_k fun K102_ hK102_ => ?_
     refine W_region [72, 73, 7] rfl (Ops_step (R_move rfl) rfl rfl ?_)
     refine Ops_step (R_add rfl rfl (wIc (n := (64 * i) + 64) (by omega) (by omega))) rfl rfl ?_
     refine Ops_step (R_assign rfl) rfl rfl ?_
     refine Ops_nil ?_
     refine then_n (hK102_ _ _ ?_)
     clear hK102_ K102_
     refine W_region [74, 75, 76, 77, none] rfl (Ops_step (R_loadW ag125 sz125 rfl hB5 (by rw [List.length_map, lh])) rfl rfl (Ops_step (R_move rfl) rfl rfl (Ops_step (R_move rfl) rfl rfl ?_)))
     refine Ops_call (C_func bd103 rfl) rfl rfl ?_
     refine (rmix_any D.h lh _ _ (Bl.padded part) (padded_len (by omega)) (64 * i + 64) (by omega) false _ hQ9.rd).mono ?_
     rintro _ w77_ ⟨rfl, hF77_⟩
     replace hQ9 := hQ9.fr0 hF77_
     replace hQ6 := hQ6.fr0 hF77_
     replace hB5 := hB5.fr0 hF77_
     replace hB4 := hB4.fr0 hF77_
     replace hF9 := hF9.fr0 hF77_
     replace hF := hF.fr0 hF77_
     clear hF77_
     refine ⟨_, rfl, ?_⟩
     have hn5_6 := hQ6.notin hB5 (by decide)
     have hn5_9 := hQ9.notin hB5 (by decide)
     refine Ops_to0 (R_storeN sz125 (by simp [mix_len]) rfl rfl hB5 (by rw [List.length_map, lh]; decide) allw) rfl ?_
     clear hB5
     rintro _ w103_ ⟨hB5, hF103_⟩
     replace hQ9 := hQ9.fr hF103_ (fun i_ hi_ hj_ => hn5_9 (by rw [← List.mem_singleton.1 hj_]; exact hi_))
     replace hQ6 := hQ6.fr hF103_ (fun i_ hi_ hj_ => hn5_6 (by rw [← List.mem_singleton.1 hj_]; exact hi_))
     replace hB4 := hB4.fr hF103_ (by simp only [mc_]; omega)
     replace hF := hF.then hF103_ (by simp only [mc_]; intro i_ hi_ hj_; omega)
     clear hF103_
     have hp2 : Bl.padded part = D.rest.take 64 := by rw [hr, Bl.padded, lpart, show 64 - min (all.length - 64 * i) 64 = 0 by omega, List.replicate_zero, List.append_nil, epart, show min (all.length - 64 * i) 64 = 64 by omega]
     replace hB5 := hB5.to (cs' := (Bl.mix D.h (D.rest.take 64) (D.n + 64) false).map w32) (by rw [hp2, hn0]; exact over4 (n := 8) (by rw [List.length_map, lh]) (by rw [List.length_map, mix_len]))
     have hrl : D.rest.length = all.length - 64 * i := by rw [hr, List.length_drop]
     refine Ops_nil ?_
     refine block_n ?_
     refine then_n (hK68_ _ _ ?_)
     clear hK68_ K68_
     refine W_keepB [4, 5, 6, 7, 43, 44] fun B104 hB104_ => ?_
     simp only [e_, Nat.reduceAdd, Nat.reduceBEq] at hB104_
     subst hB104_
     refine W_region [78, 44] rfl ?_
     refine Ops_step (R_add rfl rfl (wIc (n := i + 1) (by omega) (by omega))) rfl rfl ?_
     refine Ops_step (R_move rfl) rfl rfl ?_
     refine Ops_nil ?_
     exact ⟨all.length / 64 + 1 - (i + 1), _, by omega, rfl, ⟨i + 1, ⟨Bl.mix D.h (D.rest.take 64) (D.n + 64) false, D.rest.drop 64, D.n + 64⟩, by omega, by rw [Nat.mul_add], .inl (by omega), by show D.n + 64 = _; omega, by show D.rest.drop 64 = _; rw [hr, List.drop_drop, Nat.mul_add], (by have h_ := eat_step (D := D) (by omega); rw [← hE, h_]), mix_len _ _ _ _, hB5, hQ6, ⟨zs4, lz4, hB4⟩, hF⟩, ⟨rfl, rfl, rfl, rfl, trivial⟩⟩
  ·
   exact absurd hc45 (by omega)

theorem rdigest_n (K : Option Addr) (key : List UInt8) (n kc : Nat) (AB : Option Addr) (b : List UInt8) (m bc : Nat) (w : World) (hn : n = key.length) (hm : m = b.length) (hk : Rd w K (key.map vb)) (hkl : key.length ≤ 32) (hb : Rd w AB (b.map vb)) (hbl : b.length ≤ 1099511627776) :
  Calls Tryd.prog 94 #[.slice K n kc, .slice AB m bc] w fun e w2 => e = .returned (.agg ((Bl.sum (Bl.add (Bl.begin_ key) b)).map vb).toArray) ∧ Fr [] w w2 := by
 subst hn hm; exact rdigest_any K key kc AB b bc w hk hkl hb hbl
theorem rkeyed_any (K : Option Addr) (key : List UInt8) (n kc : Nat) (AB : Option Addr) (b : List UInt8) (m bc : Nat) (w : World) (hn : n = key.length) (hm : m = b.length) (hk : Rd w K (key.map vb)) (hkl : key.length ≤ 1099511627776) (hb : Rd w AB (b.map vb)) (hbl : b.length ≤ 1099511627776) :
  Calls Tryd.prog 79 #[.slice K n kc, .slice AB m bc] w fun e w2 => e = .returned (.agg ((Bl.keyed key [b]).map vb).toArray) ∧ Fr [] w w2 := by
 subst hn hm
 have hF := Fr.refl [] w
 refine calls_W 20 Tryd.func79 rfl Tryd.ntmps79 rfl [.cell 4 96] rfl ?_
 refine W_seq_k fun K1_ hK1_ => ?_
 refine W_region [4] rfl ?_
 have hz4_hF := hF.size
 refine Ops_to (R_alloc zr96) rfl rfl ?_
 rintro _ w4_ ⟨b4, rfl, hb4, hB4, hF4_⟩
 have hl4 := hB4.lt
 replace hF := hF.fr0 hF4_
 clear hF4_
 refine Ops_nil ?_
 refine then_n (hK1_ _ _ ?_)
 clear hK1_ K1_
 refine W_seq_k fun K2_ hK2_ => ?_
 refine W_seq_k fun K3_ hK3_ => ?_
 refine W_region [6, 7, 8, 9, 10, 11, 12, 13] rfl (Ops_step (R_move rfl) rfl rfl (Ops_step (R_len Tryd.underlying30 rfl rfl) rfl rfl (Ops_step (R_eql rfl rfl) rfl rfl (Ops_step (R_move rfl) rfl rfl ?_))))
 refine Ops_split 9 rfl (fun hg9 => ?_) (fun hg9 => ?_)
 ·
  have hfin := keyed_out (L := [b]) (show key.length < 1 ∨ 32 < key.length by omega)
  refine Ops_pass rfl rfl (Ops_pass rfl rfl (Ops_pass rfl rfl (Ops_step (R_pick_true rfl rfl) rfl rfl ?_)))
  refine Ops_nil ?_
  refine then_n (hK3_ _ _ ?_)
  clear hK3_ K3_
  refine W_keepB [0, 1, 4, 13] fun B4 hB4_ => ?_
  simp only [e_, Nat.reduceAdd, Nat.reduceBEq] at hB4_
  subst hB4_
  refine W_cond_true rfl ?_
  refine W_seq_k fun K5_ hK5_ => ?_
  refine W_region [14, 15, 5, none] rfl (Ops_step (R_move rfl) rfl rfl ?_)
  refine Ops_call (C_func bd94 rfl) rfl rfl ?_
  refine (rdigest_n _ [] _ _ _ _ _ _ _ (by rfl) rfl (Rd.nil _ _) (by simp) (hk.fr0 hF) (by omega)).mono ?_
  rintro _ w15_ ⟨rfl, hF15_⟩
  replace hF := hF.fr0 hF15_
  replace hB4 := hB4.fr0 hF15_
  clear hF15_
  refine ⟨_, rfl, ?_⟩
  have hz5_hF := hF.size
  have hn5_hB4 := hB4.lt
  refine Ops_to (R_alloc zr96) rfl rfl ?_
  rintro _ w5_ ⟨b5, rfl, hb5, hB5, hF5_⟩
  have hl5 := hB5.lt
  replace hF := hF.fr0 hF5_
  replace hB4 := hB4.fr0 hF5_
  clear hF5_
  refine Ops_to0 (R_storeN sz96 (by simp [sum_len]) rfl rfl hB5 (by simp) allb) rfl ?_
  clear hB5
  rintro _ w6_ ⟨hB5, hF6_⟩
  replace hF := hF.then hF6_ (by simp only [mc_]; intro i_ hi_ hj_; omega)
  replace hB4 := hB4.fr hF6_ (by simp only [mc_]; omega)
  clear hF6_
  replace hB5 := hB5.to (cs' := (Bl.of [key]).map vb) (by rw [List.toList_toArray]; exact over4 (n := 32) (by simp) (by rw [List.length_map]; exact sum_len _))
  refine Ops_nil ?_
  refine then_n (hK5_ _ _ ?_)
  clear hK5_ K5_
  refine W_region [16, 0] rfl (Ops_step (R_sliceAll Tryd.underlying96 sz5 rfl) rfl rfl (Ops_step (R_assign rfl) rfl rfl ?_))
  refine Ops_nil ?_
  refine then_n (hK2_ _ _ ?_)
  clear hK2_ K2_
  refine W_seq_k fun K7_ hK7_ => ?_
  refine W_region [17, 18, 19, none] rfl (Ops_step (R_move rfl) rfl rfl (Ops_step (R_move rfl) rfl rfl ?_))
  refine Ops_call (C_func bd94 rfl) rfl rfl ?_
  refine (rdigest_n _ _ _ _ _ _ _ _ _ (by first | rfl | (rw [of_len])) rfl (Rd.ofBlk0 hB5) (by first | omega | (rw [of_len]; decide)) (hb.fr0 hF) (by omega)).mono ?_
  rintro _ w19_ ⟨rfl, hF19_⟩
  replace hF := hF.fr0 hF19_
  replace hB4 := hB4.fr0 hF19_
  replace hB5 := hB5.fr0 hF19_
  clear hF19_
  refine ⟨_, rfl, ?_⟩
  refine Ops_to0 (R_storeN sz96 (by simp [sum_len]) rfl rfl hB4 (by simp) allb) rfl ?_
  clear hB4
  rintro _ w8_ ⟨hB4, hF8_⟩
  replace hF := hF.then hF8_ (by simp only [mc_]; intro i_ hi_ hj_; omega)
  replace hB5 := hB5.fr hF8_ (by simp only [List.mem_singleton]; omega)
  clear hF8_
  replace hB4 := hB4.to (cs' := (Bl.keyed key [b]).map vb) (by rw [List.toList_toArray, hfin]; exact over4 (n := 32) (by simp) (by rw [List.length_map]; exact sum_len _))
  refine Ops_nil ?_
  refine then_n (hK7_ _ _ ?_)
  clear hK7_ K7_
  refine W_keepB [4] fun B9 hB9_ => ?_
  simp only [e_, Nat.reduceAdd, Nat.reduceBEq] at hB9_
  subst hB9_
  refine W_ret ?_
  refine ⟨_, ⟨_, _, _, rfl, rfl, run_loadVarN ag96 sz96 hB4 (by simp [keyed_len]), rfl⟩, ?_⟩
  exact ⟨by simp [keyed_len, List.take_of_length_le, tupled], hF⟩
 ·
  refine Ops_step (R_move rfl) rfl rfl (Ops_step (R_len Tryd.underlying30 rfl rfl) rfl rfl (Ops_step (R_gtr rfl rfl) rfl rfl (Ops_step (R_pick_false rfl rfl) rfl rfl ?_)))
  refine Ops_nil ?_
  refine then_n (hK3_ _ _ ?_)
  clear hK3_ K3_
  refine W_keepB [0, 1, 4, 13] fun B10 hB10_ => ?_
  simp only [e_, Nat.reduceAdd, Nat.reduceBEq] at hB10_
  subst hB10_
  refine W_if rfl (fun hc13 => ?_) (fun hc13 => ?_)
  ·
   have hfin := keyed_out (L := [b]) (show key.length < 1 ∨ 32 < key.length by omega)
   refine W_seq_k fun K11_ hK11_ => ?_
   refine W_region [14, 15, 5, none] rfl (Ops_step (R_move rfl) rfl rfl ?_)
   refine Ops_call (C_func bd94 rfl) rfl rfl ?_
   refine (rdigest_n _ [] _ _ _ _ _ _ _ (by rfl) rfl (Rd.nil _ _) (by simp) (hk.fr0 hF) (by omega)).mono ?_
   rintro _ w15_ ⟨rfl, hF15_⟩
   replace hF := hF.fr0 hF15_
   replace hB4 := hB4.fr0 hF15_
   clear hF15_
   refine ⟨_, rfl, ?_⟩
   have hz5_hF := hF.size
   have hn5_hB4 := hB4.lt
   refine Ops_to (R_alloc zr96) rfl rfl ?_
   rintro _ w5_ ⟨b5, rfl, hb5, hB5, hF5_⟩
   have hl5 := hB5.lt
   replace hF := hF.fr0 hF5_
   replace hB4 := hB4.fr0 hF5_
   clear hF5_
   refine Ops_to0 (R_storeN sz96 (by simp [sum_len]) rfl rfl hB5 (by simp) allb) rfl ?_
   clear hB5
   rintro _ w12_ ⟨hB5, hF12_⟩
   replace hF := hF.then hF12_ (by simp only [mc_]; intro i_ hi_ hj_; omega)
   replace hB4 := hB4.fr hF12_ (by simp only [mc_]; omega)
   clear hF12_
   replace hB5 := hB5.to (cs' := (Bl.of [key]).map vb) (by rw [List.toList_toArray]; exact over4 (n := 32) (by simp) (by rw [List.length_map]; exact sum_len _))
   refine Ops_nil ?_
   refine then_n (hK11_ _ _ ?_)
   clear hK11_ K11_
   refine W_region [16, 0] rfl (Ops_step (R_sliceAll Tryd.underlying96 sz5 rfl) rfl rfl (Ops_step (R_assign rfl) rfl rfl ?_))
   refine Ops_nil ?_
   refine then_n (hK2_ _ _ ?_)
   clear hK2_ K2_
   refine W_seq_k fun K13_ hK13_ => ?_
   refine W_region [17, 18, 19, none] rfl (Ops_step (R_move rfl) rfl rfl (Ops_step (R_move rfl) rfl rfl ?_))
   refine Ops_call (C_func bd94 rfl) rfl rfl ?_
   refine (rdigest_n _ _ _ _ _ _ _ _ _ (by first | rfl | (rw [of_len])) rfl (Rd.ofBlk0 hB5) (by first | omega | (rw [of_len]; decide)) (hb.fr0 hF) (by omega)).mono ?_
   rintro _ w19_ ⟨rfl, hF19_⟩
   replace hF := hF.fr0 hF19_
   replace hB4 := hB4.fr0 hF19_
   replace hB5 := hB5.fr0 hF19_
   clear hF19_
   refine ⟨_, rfl, ?_⟩
   refine Ops_to0 (R_storeN sz96 (by simp [sum_len]) rfl rfl hB4 (by simp) allb) rfl ?_
   clear hB4
   rintro _ w14_ ⟨hB4, hF14_⟩
   replace hF := hF.then hF14_ (by simp only [mc_]; intro i_ hi_ hj_; omega)
   replace hB5 := hB5.fr hF14_ (by simp only [List.mem_singleton]; omega)
   clear hF14_
   replace hB4 := hB4.to (cs' := (Bl.keyed key [b]).map vb) (by rw [List.toList_toArray, hfin]; exact over4 (n := 32) (by simp) (by rw [List.length_map]; exact sum_len _))
   refine Ops_nil ?_
   refine then_n (hK13_ _ _ ?_)
   clear hK13_ K13_
   refine W_keepB [4] fun B15 hB15_ => ?_
   simp only [e_, Nat.reduceAdd, Nat.reduceBEq] at hB15_
   subst hB15_
   refine W_ret ?_
   refine ⟨_, ⟨_, _, _, rfl, rfl, run_loadVarN ag96 sz96 hB4 (by simp [keyed_len]), rfl⟩, ?_⟩
   exact ⟨by simp [keyed_len, List.take_of_length_le, tupled], hF⟩
  ·
   have hfin := keyed_in (L := [b]) (show ¬ (key.length < 1 ∨ 32 < key.length) by omega)
   refine W_skip ?_
   refine then_n (hK2_ _ _ ?_)
   clear hK2_ K2_
   refine W_seq_k fun K16_ hK16_ => ?_
   refine W_region [17, 18, 19, none] rfl (Ops_step (R_move rfl) rfl rfl (Ops_step (R_move rfl) rfl rfl ?_))
   refine Ops_call (C_func bd94 rfl) rfl rfl ?_
   refine (rdigest_n _ _ _ _ _ _ _ _ _ (by first | rfl | (rw [of_len])) rfl (hk.fr0 hF) (by first | omega | (rw [of_len]; decide)) (hb.fr0 hF) (by omega)).mono ?_
   rintro _ w19_ ⟨rfl, hF19_⟩
   replace hF := hF.fr0 hF19_
   replace hB4 := hB4.fr0 hF19_
   clear hF19_
   refine ⟨_, rfl, ?_⟩
   refine Ops_to0 (R_storeN sz96 (by simp [sum_len]) rfl rfl hB4 (by simp) allb) rfl ?_
   clear hB4
   rintro _ w17_ ⟨hB4, hF17_⟩
   replace hF := hF.then hF17_ (by simp only [mc_]; intro i_ hi_ hj_; omega)
   clear hF17_
   replace hB4 := hB4.to (cs' := (Bl.keyed key [b]).map vb) (by rw [List.toList_toArray, hfin]; exact over4 (n := 32) (by simp) (by rw [List.length_map]; exact sum_len _))
   refine Ops_nil ?_
   refine then_n (hK16_ _ _ ?_)
   clear hK16_ K16_
   refine W_keepB [4] fun B18 hB18_ => ?_
   simp only [e_, Nat.reduceAdd, Nat.reduceBEq] at hB18_
   subst hB18_
   refine W_ret ?_
   refine ⟨_, ⟨_, _, _, rfl, rfl, run_loadVarN ag96 sz96 hB4 (by simp [keyed_len]), rfl⟩, ?_⟩
   exact ⟨by simp [keyed_len, List.take_of_length_le, tupled], hF⟩

end Go.Proofs.YtbjmngacjdcddaaDoor

