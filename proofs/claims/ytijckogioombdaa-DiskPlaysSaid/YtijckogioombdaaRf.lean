/- What the walks of this seat show of Rf. -/
import Derived.Test.YtijckogioombdaaRe
import Derived.Test.YtijckogioombdaaProg
set_option linter.unusedVariables false
set_option linter.unusedSimpArgs false
namespace Go.Proofs.Ytijckogioombdaa
open Go Go.Sx
namespace TRf
theorem hm : Try.prog.follows .mixedOrders = true := by kernel_rfl
theorem ag24 : aggB Try.prog 24 = some false := by kernel_rfl
theorem ag3 : aggB Try.prog 3 = some false := by kernel_rfl
theorem ag38 : aggB Try.prog 38 = some true := by kernel_rfl
theorem ag5 : aggB Try.prog 5 = some false := by kernel_rfl
theorem bd10 : bodied Try.prog 10 = true := by kernel_rfl
theorem bd11 : bodied Try.prog 11 = true := by kernel_rfl
theorem bd17 : bodied Try.prog 17 = true := by kernel_rfl
theorem bd18 : bodied Try.prog 18 = true := by kernel_rfl
theorem bd19 : bodied Try.prog 19 = true := by kernel_rfl
theorem bd21 : bodied Try.prog 21 = true := by kernel_rfl
theorem bd22 : bodied Try.prog 22 = true := by kernel_rfl
theorem bd23 : bodied Try.prog 23 = true := by kernel_rfl
theorem bd24 : bodied Try.prog 24 = true := by kernel_rfl
theorem bd25 : bodied Try.prog 25 = true := by kernel_rfl
theorem bd26 : bodied Try.prog 26 = true := by kernel_rfl
theorem bd27 : bodied Try.prog 27 = true := by kernel_rfl
theorem bd28 : bodied Try.prog 28 = true := by kernel_rfl
theorem bd29 : bodied Try.prog 29 = true := by kernel_rfl
theorem bd30 : bodied Try.prog 30 = true := by kernel_rfl
theorem bd31 : bodied Try.prog 31 = true := by kernel_rfl
theorem fo38_0 : offB Try.prog 38 0 = some 0 := by kernel_rfl
theorem fo38_1 : offB Try.prog 38 1 = some 1 := by kernel_rfl
theorem fo38_2 : offB Try.prog 38 2 = some 2 := by kernel_rfl
theorem fo38_3 : offB Try.prog 38 3 = some 3 := by kernel_rfl
theorem fo58_2 : offB Try.prog 58 2 = some 4 := by kernel_rfl
theorem sz24 : sz Try.prog 24 = some 1 := by kernel_rfl
theorem sz38 : sz Try.prog 38 = some 4 := by kernel_rfl
theorem sz4 : sz Try.prog 4 = some 1 := by kernel_rfl
theorem sz5 : sz Try.prog 5 = some 1 := by kernel_rfl
theorem zr38 : zr Try.prog 38 = some ([.int .i64 0] ++ [.int .i64 0] ++ [.int .i64 0] ++ [.slice none 0 0]) := by kernel_rfl
end TRf
set_option maxHeartbeats 4000000 in
theorem law_plays_ok (r : Nat) (h1 : 1 ≤ r) (h2 : r ≤ 16777216) (LA : Option Addr) (lc : Nat) (L : List Do) (w : World) (hL : RdDo w LA L) (hm : L.length * 48 ≤ 140737488351232) : Calls Try.prog 7 #[vi r, .slice LA L.length lc] w fun e w2 => e = .returned (.bool true) ∧ Fr [] w w2 := by
  have hF := Fr.refl [] w
  refine calls_W 160 Try.func7 rfl Try.ntmps7 rfl [.tmp 4] rfl ?_
  refine W_seq_k fun K1_ hK1_ => ?_
  refine W_region [some 4] rfl ?_
  refine Ops_step (R_assign rfl) rfl rfl ?_
  refine Ops_nil ?_
  refine then_n (hK1_ _ _ ?_)
  clear hK1_ K1_
  refine W_seq_k fun K2_ hK2_ => ?_
  refine W_region [some 20, some 21, some 19, some 22, some 23, some 5, some 6] rfl ?_
  refine Ops_step (R_move rfl) rfl rfl ?_
  have hs21_ := hF.size
  refine Ops_call (C_func TRf.bd21 rfl) rfl rfl ?_
  refine (new_any r h1 h2 _).mono ?_
  rintro _ w21_ ⟨d21, rfl, hge21, hD, hF21_⟩
  replace hF := hF.fr0 hF21_
  clear hF21_
  
  refine ⟨_, rfl, ?_⟩
  refine Ops_step (R_move rfl) rfl rfl ?_
  refine Ops_step (R_extract rfl rfl) rfl rfl ?_
  refine Ops_step (R_extract rfl rfl) rfl rfl ?_
  refine Ops_step (R_assign rfl) rfl rfl ?_
  refine Ops_step (R_assign rfl) rfl rfl ?_
  refine Ops_nil ?_
  refine then_n (hK2_ _ _ ?_)
  clear hK2_ K2_
  refine W_keepB [0, 1, 5, 6] fun B3 hB3_ => ?_
  simp only [pickE, lookE, putE, zipE, args0, Nat.reduceAdd, Nat.zero_add, List.cons_append, List.nil_append, Nat.reduceBEq, cond_true, cond_false] at hB3_
  subst hB3_
  refine W_seq_k fun K4_ hK4_ => ?_
  refine W_region [some 25, some 26, some 24, some 27, some 28, some 7, some 8] rfl ?_
  refine Ops_step (R_move rfl) rfl rfl ?_
  have hs26_ := hF.size
  have hn26_hD := hD.lt
  refine Ops_call (C_func TRf.bd23 rfl) rfl rfl ?_
  refine (rnew_any r h1 h2 _).mono ?_
  rintro _ w26_ ⟨d26, rfl, hge26, hR, hF26_⟩
  replace hF := hF.fr0 hF26_
  replace hD := hD.fr0 hF26_
  clear hF26_
  
  refine ⟨_, rfl, ?_⟩
  refine Ops_step (R_move rfl) rfl rfl ?_
  refine Ops_step (R_extract rfl rfl) rfl rfl ?_
  refine Ops_step (R_extract rfl rfl) rfl rfl ?_
  refine Ops_step (R_assign rfl) rfl rfl ?_
  refine Ops_step (R_assign rfl) rfl rfl ?_
  refine Ops_nil ?_
  refine then_n (hK4_ _ _ ?_)
  clear hK4_ K4_
  refine W_keepB [1, 5, 6, 7, 8] fun B5 hB5_ => ?_
  simp only [pickE, lookE, putE, zipE, args0, Nat.reduceAdd, Nat.zero_add, List.cons_append, List.nil_append, Nat.reduceBEq, cond_true, cond_false] at hB5_
  subst hB5_
  refine W_seq_k fun K6_ hK6_ => ?_
  refine W_seq_k fun K7_ hK7_ => ?_
  refine W_region [some 29, some 30, some 31, some 32, some 33, some 34, some 35, some 36, some 37, some 38] rfl ?_
  refine Ops_step (R_move rfl) rfl rfl ?_
  refine Ops_step (R_move rfl) rfl rfl ?_
  refine Ops_step (R_neq rfl rfl) rfl rfl ?_
  refine Ops_step (R_move rfl) rfl rfl ?_
  refine Ops_known (b := false) 32 rfl (by decide) ?_
  refine Ops_step (R_move rfl) rfl rfl ?_
  refine Ops_step (R_ptrNil Try.underlying28 rfl rfl) rfl rfl ?_
  refine Ops_step (R_move rfl) rfl rfl ?_
  refine Ops_step (R_ptrNil Try.underlying53 rfl rfl) rfl rfl ?_
  refine Ops_step (R_boolNe Try.underlying4 rfl rfl) rfl rfl ?_
  refine Ops_step (R_pick_false rfl rfl) rfl rfl ?_
  refine Ops_nil ?_
  refine then_n (hK7_ _ _ ?_)
  clear hK7_ K7_
  refine W_keepB [1, 5, 7, 38] fun B8 hB8_ => ?_
  simp only [pickE, lookE, putE, zipE, args0, Nat.reduceAdd, Nat.zero_add, List.cons_append, List.nil_append, Nat.reduceBEq, cond_true, cond_false] at hB8_
  subst hB8_
  refine W_cond_false rfl ?_
  refine W_skip ?_
  refine then_n (hK6_ _ _ ?_)
  clear hK6_ K6_
  refine W_seq_k fun K9_ hK9_ => ?_
  refine W_seq_k fun K10_ hK10_ => ?_
  refine W_region [some 39, some 40, some 41, some 42, some 43, some 44, some 45] rfl ?_
  refine Ops_step (R_move rfl) rfl rfl ?_
  refine Ops_step (R_ptrNil Try.underlying53 rfl rfl) rfl rfl ?_
  refine Ops_step (R_move rfl) rfl rfl ?_
  refine Ops_step (R_move rfl) rfl rfl ?_
  refine Ops_call (C_func TRf.bd10 rfl) rfl rfl ?_
  refine (short_any _ _ _ _ (hL.fr0 hF) (by omega)).mono ?_
  rintro _ wq43_ ⟨r43, rfl, hr43, hq43_⟩
  replace hq43_ := hq43_.symm
  subst hq43_
  refine ⟨_, rfl, ?_⟩
  refine Ops_step (R_not rfl) rfl rfl ?_
  refine Ops_step (R_pick_false rfl rfl) rfl rfl ?_
  refine Ops_nil ?_
  refine then_n (hK10_ _ _ ?_)
  clear hK10_ K10_
  refine W_keepB [1, 5, 7, 45] fun B11 hB11_ => ?_
  simp only [pickE, lookE, putE, zipE, args0, Nat.reduceAdd, Nat.zero_add, List.cons_append, List.nil_append, Nat.reduceBEq, cond_true, cond_false] at hB11_
  subst hB11_
  refine W_cond rfl (fun hc45 => ?_) (fun hc45 => ?_)
  · refine W_seq_k fun K12_ hK12_ => ?_
    refine W_region [some 46, some 4] rfl ?_
    refine Ops_call (C_func TRf.bd11 rfl) rfl rfl ?_
    refine (awake_any _).mono ?_
    rintro _ w46_ ⟨rfl, hF46_⟩
    replace hF := hF.fr0 hF46_
    replace hD := hD.fr0 hF46_
    replace hR := hR.fr0 hF46_
    clear hF46_
    refine ⟨_, rfl, ?_⟩
    refine Ops_step (R_assign rfl) rfl rfl ?_
    refine Ops_nil ?_
    refine then_n (hK12_ _ _ ?_)
    clear hK12_ K12_
    refine W_ret ?_
    refine then_ret ?_
    clear hK9_ K9_
    refine ⟨_, ⟨_, _, rfl, rfl, rfl⟩, ?_⟩
    exact ⟨rfl, hF⟩
  · have hsh := hr43 (by simpa using hc45)
    refine W_skip ?_
    refine then_n (hK9_ _ _ ?_)
    clear hK9_ K9_
    refine W_seq_k fun K13_ hK13_ => ?_
    refine W_seq_k fun K14_ hK14_ => ?_
    refine W_region [some 47, some 48, some 49] rfl ?_
    refine Ops_step (R_move rfl) rfl rfl ?_
    refine Ops_step (R_len Try.underlying22 rfl rfl) rfl rfl ?_
    refine Ops_step (R_move rfl) rfl rfl ?_
    refine Ops_nil ?_
    refine then_n (hK14_ _ _ ?_)
    clear hK14_ K14_
    refine W_block ?_
    refine W_loopB [5, 7, 47, 48] [49] (fun m vs w' => ∃ i D R, i ≤ L.length ∧ m = L.length - i ∧ vs = [vi (i : Nat)] ∧ Step D R ∧ Dsk w' (fun _ => True) d21 D ∧ Rsk w' (fun _ => True) d26 R ∧ Fr [] w w') (L.length) _ rfl (⟨0, _, _, by omega, rfl, rfl, Step.new r, hD, hR, hF⟩) fun B15 hB15_ => ?_
    simp only [pickE, lookE, putE, zipE, args0, Nat.reduceAdd, Nat.zero_add, List.cons_append, List.nil_append, Nat.reduceBEq, cond_true, cond_false] at hB15_
    subst hB15_
    have hne1 : d21 < d26 := by omega
    clear hD hR hF
    rintro m_ vs_ w0_ ⟨i, D, R, hi, rfl, rfl, hstp, hD, hR, hF⟩
    refine W_seq_k fun K16_ hK16_ => ?_
    refine W_region [some 50] rfl ?_
    refine Ops_step (R_lss rfl rfl) rfl rfl ?_
    refine Ops_nil ?_
    refine then_n (hK16_ _ _ ?_)
    clear hK16_ K16_
    refine W_seq_k fun K17_ hK17_ => ?_
    refine W_if rfl (fun hc50 => ?_) (fun hc50 => ?_)
    · have hi1 : i < L.length := by omega
      have hx := hL i _ (List.getElem?_eq_getElem hi1)
      refine named L[i] fun k ek => ?_
      rw [← ek] at hx
      obtain ⟨hs1, Ai, ci, hcs, hdo⟩ := hx
      have hkl : k.b.length ≤ 16384 := by have h_ := mem_bytes (List.getElem_mem hi1); rw [← ek] at h_; omega
      refine W_skip ?_
      refine then_n (hK17_ _ _ ?_)
      clear hK17_ K17_
      refine W_seq_k fun K18_ hK18_ => ?_
      refine W_block ?_
      refine W_seq_k fun K19_ hK19_ => ?_
      refine W_region [some 51, some 52, some 10, none] rfl ?_
      refine Ops_step (R_indexSl Try.underlying22 TRf.sz38 rfl rfl (by omega) (by omega) hs1) rfl rfl ?_
      refine Ops_step (R_loadCs (cs := doC k Ai ci) TRf.ag38 (by exact TRf.sz38) rfl (fun r v hr => Fr.cell hF (hcs r v hr) (by simp))) rfl rfl ?_
      have hz10_hF := hF.size
      have hn10_hD := hD.lt
      have hn10_hR := hR.lt
      refine Ops_to (R_alloc TRf.zr38) rfl rfl ?_
      rintro _ w10_ ⟨b10, rfl, hb10, hB10, hF10_⟩
      have hl10 := hB10.lt
      replace hF := hF.fr0 hF10_
      replace hD := hD.fr0 hF10_
      replace hR := hR.fr0 hF10_
      clear hF10_
      have hb10_ := hB10
      refine Ops_to0 (R_storeN TRf.sz38 rfl rfl rfl hB10 (by decide) rfl) rfl ?_
      clear hB10
      rintro _ w20_ ⟨hB10, hF20_⟩
      replace hF := hF.then hF20_ (by simp only [List.mem_cons, List.not_mem_nil, or_false]; intro i_ hi_ hj_; omega)
      replace hD := hD.fr hF20_ (skOne (by omega) hb10_ (by decide))
      replace hR := hR.fr hF20_ (skOne (by omega) hb10_ (by decide))
      clear hF20_
      replace hB10 : Blk _ b10 38 (doC k Ai ci) := hB10.to (over4_ rfl)
      refine Ops_nil ?_
      refine then_n (hK19_ _ _ ?_)
      clear hK19_ K19_
      refine W_seq_k fun K21_ hK21_ => ?_
      refine W_region [some 53, some 11, none] rfl ?_
      refine Ops_step (R_loadW TRf.ag38 TRf.sz38 rfl hB10 rfl) rfl rfl ?_
      have hz11_hF := hF.size
      have hn11_hD := hD.lt
      have hn11_hR := hR.lt
      have hn11_hB10 := hB10.lt
      refine Ops_to (R_alloc TRf.zr38) rfl rfl ?_
      rintro _ w11_ ⟨b11, rfl, hb11, hB11, hF11_⟩
      have hl11 := hB11.lt
      replace hF := hF.fr0 hF11_
      replace hD := hD.fr0 hF11_
      replace hR := hR.fr0 hF11_
      replace hB10 := hB10.fr0 hF11_
      clear hF11_
      have hb11_ := hB11
      refine Ops_to0 (R_storeN TRf.sz38 rfl rfl rfl hB11 (by decide) rfl) rfl ?_
      clear hB11
      rintro _ w22_ ⟨hB11, hF22_⟩
      replace hF := hF.then hF22_ (by simp only [List.mem_cons, List.not_mem_nil, or_false]; intro i_ hi_ hj_; omega)
      replace hD := hD.fr hF22_ (skOne (by omega) hb11_ (by decide))
      replace hR := hR.fr hF22_ (skOne (by omega) hb11_ (by decide))
      replace hB10 := hB10.fr hF22_ (by simp only [List.mem_cons, List.not_mem_nil, or_false]; omega)
      clear hF22_
      replace hB11 : Blk _ b11 38 (doC k Ai ci) := hB11.to (over4_ rfl)
      refine Ops_nil ?_
      refine then_n (hK21_ _ _ ?_)
      clear hK21_ K21_
      refine W_seq_k fun K23_ hK23_ => ?_
      refine W_region [some 54, some 55, some 56, some 57, none] rfl ?_
      refine Ops_step (R_fieldAddr TRf.fo38_3 rfl) rfl rfl ?_
      refine Ops_step (R_loadB TRf.ag24 rfl hB10 rfl) rfl rfl ?_
      have hs56_ := hF.size
      replace hD := hD.old
      replace hR := hR.old
      have hd21lt := hD.lt
      have hd26lt := hR.lt
      refine Ops_call (C_func TRf.bd24 rfl) rfl rfl ?_
      refine (sclone_any _ _ _ _ _ rfl (hdo.2.2.1.fr0 hF) (by omega)).mono ?_
      rintro _ w56_ ⟨A56, c56, rfl, hQ, hF56_⟩
      replace hF := hF.fr0 hF56_
      replace hD := hD.fr0 hF56_
      replace hR := hR.fr0 hF56_
      replace hB10 := hB10.fr0 hF56_
      replace hB11 := hB11.fr0 hF56_
      clear hF56_
      have hoq := hQ.off
      have hnD : d21 ∉ blkOf A56 := fun h_ => absurd (hoq _ h_) (by omega)
      have hnR : d26 ∉ blkOf A56 := fun h_ => absurd (hoq _ h_) (by omega)
      replace hD := hD.le (B' := fun i => i ∉ blkOf A56) fun i _ h_ hm => absurd (hoq i hm) (Nat.not_le.2 h_)
      replace hR := hR.le (B' := fun i => i ∉ blkOf A56) fun i _ h_ hm => absurd (hoq i hm) (Nat.not_le.2 h_)
      replace hQ := hQ.le hs56_
      clear hoq
      refine ⟨_, rfl, ?_⟩
      refine Ops_step (R_fieldAddr TRf.fo38_3 rfl) rfl rfl ?_
      have hb11_ := hB11
      have hnq := hQ.notin hB11 (by decide)
      refine Ops_to0 (R_store TRf.sz24 rfl rfl hB11 (by show (0 + 3 : Nat) < 4; decide) rfl) rfl ?_
      clear hB11
      rintro _ w24_ ⟨hB11, hF24_⟩
      replace hF := hF.then hF24_ (by simp only [List.mem_singleton]; omega)
      replace hD := hD.fr hF24_ (skOne (by omega) hb11_ (by decide))
      replace hR := hR.fr hF24_ (skOne (by omega) hb11_ (by decide))
      replace hB10 := hB10.fr hF24_ (by simp only [List.mem_singleton]; omega)
      replace hQ := hQ.fr hF24_ (fun i_ hi_ hj_ => hnq (by rw [← List.mem_singleton.1 hj_]; exact hi_))
      clear hF24_
      replace hB11 : Blk _ b11 38 (doC k A56 c56) := hB11
      clear hb11_ hnq
      refine Ops_nil ?_
      refine then_n (hK23_ _ _ ?_)
      clear hK23_ K23_
      refine W_keepB [5, 7, 10, 11, 47, 48, 49] fun B25 hB25_ => ?_
      simp only [pickE, lookE, putE, zipE, args0, Nat.reduceAdd, Nat.zero_add, List.cons_append, List.nil_append, Nat.reduceBEq, cond_true, cond_false] at hB25_
      subst hB25_
      refine W_seq_k fun K26_ hK26_ => ?_
      refine W_region [some 58, some 59, some 60, some 6] rfl ?_
      refine Ops_step (R_move rfl) rfl rfl ?_
      refine Ops_step (R_loadW TRf.ag38 TRf.sz38 rfl hB11 rfl) rfl rfl ?_
      have hs60_ := hF.size
      have hd60_ := hD
      have hst := hstp.does hD.ok k
      refine Ops_call (C_func TRf.bd18 rfl) rfl rfl ?_
      refine (does_any _ _ _ k A56 c56 _ hD (RdY.own hQ hnD) (own_cap hQ) (by omega) hdo.2.2.2 (fun i_ hi_ hm_ => absurd (hQ.lt i_ hm_) (by omega))).mono ?_
      rintro _ w60_ ⟨rfl, hD, hF60_⟩
      replace hF := hF.then hF60_ (by simp only [List.mem_singleton]; omega)
      replace hR := hR.fr hF60_ (skDsk (by omega) hd60_)
      replace hB10 := hB10.fr hF60_ (by simp only [List.mem_singleton]; omega)
      replace hB11 := hB11.fr hF60_ (by simp only [List.mem_singleton]; omega)
      replace hQ := hQ.fr hF60_ (fun i_ hi_ hj_ => hnD (by rw [← List.mem_singleton.1 hj_]; exact hi_))
      clear hF60_
      refine named (D.does k) fun X eX => ?_
      rw [← eX] at hD hst ⊢
      clear hd60_
      refine ⟨_, rfl, ?_⟩
      refine Ops_step (R_assign rfl) rfl rfl ?_
      refine Ops_nil ?_
      refine then_n (hK26_ _ _ ?_)
      clear hK26_ K26_
      refine W_seq_k fun K27_ hK27_ => ?_
      refine W_seq_k fun K28_ hK28_ => ?_
      refine W_region [some 61, some 62, some 63, some 64] rfl ?_
      refine Ops_step (R_fieldAddr TRf.fo38_3 rfl) rfl rfl ?_
      refine Ops_step (R_loadB TRf.ag24 rfl hB11 rfl) rfl rfl ?_
      refine Ops_step (R_len Try.underlying24 rfl rfl) rfl rfl ?_
      refine Ops_step (R_move rfl) rfl rfl ?_
      refine Ops_nil ?_
      refine then_n (hK28_ _ _ ?_)
      clear hK28_ K28_
      refine W_block ?_
      refine W_loopB [5, 6, 7, 10, 11, 47, 48, 49, 63] [64] (fun m vs w' => ∃ j xs, j ≤ k.b.length ∧ m = k.b.length - j ∧ vs = [vi (j : Nat)] ∧ xs.length = k.b.length ∧ OwnB w' w.heap.size 5 A56 c56 xs ∧ Blk w' b10 38 (doC k Ai ci) ∧ Blk w' b11 38 (doC k A56 c56) ∧ Dsk w' (fun i => i ∉ blkOf A56) d21 X.2 ∧ Rsk w' (fun i => i ∉ blkOf A56) d26 R ∧ Fr [] w w') (k.b.length) _ rfl (⟨0, k.b, by omega, rfl, rfl, rfl, hQ, hB10, hB11, hD, hR, hF⟩) fun B29 hB29_ => ?_
      simp only [pickE, lookE, putE, zipE, args0, Nat.reduceAdd, Nat.zero_add, List.cons_append, List.nil_append, Nat.reduceBEq, cond_true, cond_false] at hB29_
      subst hB29_
      clear hQ hB10 hB11 hD hR hF
      rintro m_ vs_ w0_ ⟨j, xs, hj, rfl, rfl, hxl, hQ, hB10, hB11, hD, hR, hF⟩
      refine W_seq_k fun K30_ hK30_ => ?_
      refine W_region [some 65] rfl ?_
      refine Ops_step (R_lss rfl rfl) rfl rfl ?_
      refine Ops_nil ?_
      refine then_n (hK30_ _ _ ?_)
      clear hK30_ K30_
      refine W_seq_k fun K31_ hK31_ => ?_
      refine W_if rfl (fun hc65 => ?_) (fun hc65 => ?_)
      · refine W_skip ?_
        refine then_n (hK31_ _ _ ?_)
        clear hK31_ K31_
        refine W_seq_k fun K32_ hK32_ => ?_
        refine W_block ?_
        refine W_seq_k fun K33_ hK33_ => ?_
        refine W_region [some 66, some 12] rfl ?_
        refine Ops_step (R_move rfl) rfl rfl ?_
        refine Ops_step (R_assign rfl) rfl rfl ?_
        refine Ops_nil ?_
        refine then_n (hK33_ _ _ ?_)
        clear hK33_ K33_
        refine W_region [some 67, some 68, some 69, some 70, some 71, some 72, some 73, none] rfl ?_
        refine Ops_step (R_fieldAddr TRf.fo38_3 rfl) rfl rfl ?_
        refine Ops_step (R_loadB TRf.ag24 rfl hB11 rfl) rfl rfl ?_
        refine Ops_step (R_move rfl) rfl rfl ?_
        refine Ops_step (R_indexSl Try.underlying24 TRf.sz5 rfl rfl (by omega) (by omega) (Rd.some (Own.rd hQ) (by omega))) rfl rfl ?_
        refine Ops_step (R_load TRf.ag5 rfl (Rd.atB (Own.rd hQ) (by omega))) rfl rfl ?_
        refine Ops_step (R_xor rfl rfl (xor8 _ (255 : UInt8))) rfl rfl ?_
        refine Ops_step (R_indexSl Try.underlying24 TRf.sz5 rfl rfl (by omega) (by omega) (Rd.some (Own.rd hQ) (by omega))) rfl rfl ?_
        have hof := hQ.off
        have hnb10 := hQ.notin hB10 (by decide)
        have hnb11 := hQ.notin hB11 (by decide)
        refine Ops_to0 (R_storeOwnB TRf.sz5 rfl rfl hQ (by omega)) rfl ?_
        clear hQ
        rintro _ wst_ ⟨hQ, hFst_⟩
        replace hF := hF.then hFst_ (fun i_ hi_ hj_ => absurd (hof i_ hi_) (by omega))
        replace hD := hD.fr hFst_ (skAvoid hnD)
        replace hR := hR.fr hFst_ (skAvoid hnR)
        replace hB10 := hB10.fr hFst_ hnb10
        replace hB11 := hB11.fr hFst_ hnb11
        clear hFst_
        refine Ops_nil ?_
        refine block_n ?_
        refine then_n (hK32_ _ _ ?_)
        clear hK32_ K32_
        refine W_keepB [5, 6, 7, 10, 11, 47, 48, 49, 63, 64] fun B35 hB35_ => ?_
        simp only [pickE, lookE, putE, zipE, args0, Nat.reduceAdd, Nat.zero_add, List.cons_append, List.nil_append, Nat.reduceBEq, cond_true, cond_false] at hB35_
        subst hB35_
        refine W_region [some 74, some 64] rfl ?_
        refine Ops_step (R_add rfl rfl (wIc (n := j + 1) (by omega) (by omega))) rfl rfl ?_
        refine Ops_step (R_move rfl) rfl rfl ?_
        refine Ops_nil ?_
        exact ⟨k.b.length - (j + 1), _, by omega, rfl, ⟨j + 1, _, by omega, rfl, rfl, by simp [hxl], hQ, hB10, hB11, hD, hR, hF⟩, ⟨rfl, rfl, rfl, rfl, rfl, rfl, rfl, rfl, rfl, trivial⟩⟩
      · refine W_exit ?_
        refine then_exit ?_
        clear hK31_ K31_
        refine then_exit ?_
        refine block_exit ?_
        refine then_n (hK27_ _ _ ?_)
        clear hK27_ K27_
        refine W_seq_k fun K36_ hK36_ => ?_
        refine W_seq_k fun K37_ hK37_ => ?_
        refine W_region [some 75, some 76, some 77, some 78, some 79] rfl ?_
        replace hD := hD.any
        replace hR := hR.any
        clear hQ hB11
        refine Ops_step (R_fieldAddr TRf.fo38_0 rfl) rfl rfl ?_
        refine Ops_step (R_loadB TRf.ag3 rfl hB10 rfl) rfl rfl ?_
        refine Ops_step (R_conv Try.underlying3 Try.underlying27 rfl (cI_64 _)) rfl rfl ?_
        refine Ops_step (R_rem rfl rfl (by decide) (remc _ 9)) rfl rfl ?_
        refine Ops_step (R_conv Try.underlying27 Try.underlying3 rfl (wI (by omega) (by omega))) rfl rfl ?_
        rw [show (((BitVec.ofInt 64 k.op).toNat % 9 : Nat) : Int) = ((opOf k.op : Nat) : Int) from rfl]
        refine Ops_nil ?_
        refine then_n (hK37_ _ _ ?_)
        clear hK37_ K37_
        refine W_keepB [5, 6, 7, 10, 47, 48, 49, 79] fun B38 hB38_ => ?_
        simp only [pickE, lookE, putE, zipE, args0, Nat.reduceAdd, Nat.zero_add, List.cons_append, List.nil_append, Nat.reduceBEq, cond_true, cond_false] at hB38_
        subst hB38_
        refine W_block ?_
        refine W_seq_k fun K39_ hK39_ => ?_
        refine W_region [some 87, some 86] rfl ?_
        refine Ops_step (R_eql rfl rfl) rfl rfl ?_
        refine Ops_step (R_assign rfl) rfl rfl ?_
        refine Ops_nil ?_
        refine then_n (hK39_ _ _ ?_)
        clear hK39_ K39_
        refine W_if rfl (fun hc86 => ?_) (fun hc86 => ?_)
        · refine W_region [some 88, some 89, some 90, some 91, some 8] rfl ?_
          refine Ops_step (R_move rfl) rfl rfl ?_
          refine Ops_step (R_fieldAddr TRf.fo38_1 rfl) rfl rfl ?_
          refine Ops_step (R_loadB TRf.ag3 rfl hB10 rfl) rfl rfl ?_
          have hs91_ := hF.size
          have hd91_ := hR
          refine Ops_call (C_func TRf.bd25 rfl) rfl rfl ?_
          refine (rwipe_any _ _ _ k.file _ hR).mono ?_
          rintro _ w91_ ⟨rfl, hR, hF91_⟩
          replace hF := hF.then hF91_ (by simp only [List.mem_singleton]; omega)
          replace hD := hD.fr hF91_ (skRsk (by omega) hd91_)
          replace hB10 := hB10.fr hF91_ (by simp only [List.mem_singleton]; omega)
          clear hF91_
          clear hd91_
          have hre : R.does k = R.wipe k.file := by unfold Rk.does; rw [if_pos (by omega)]
          rw [← hre] at hR ⊢
          refine named (R.does k) fun Y eY => ?_
          rw [← eY] at hR hst ⊢
          clear eY hre
          refine ⟨_, rfl, ?_⟩
          refine Ops_step (R_assign rfl) rfl rfl ?_
          refine Ops_nil ?_
          refine block_n ?_
          refine then_n (hK36_ _ _ ?_)
          clear hK36_ K36_
          refine W_keepB [5, 6, 7, 8, 47, 48, 49] fun B40 hB40_ => ?_
          simp only [pickE, lookE, putE, zipE, args0, Nat.reduceAdd, Nat.zero_add, List.cons_append, List.nil_append, Nat.reduceBEq, cond_true, cond_false] at hB40_
          subst hB40_
          refine W_seq_k fun K41_ hK41_ => ?_
          refine W_seq_k fun K42_ hK42_ => ?_
          refine W_region [some 111, some 112, some 113, some 114, some 115, some 116, some 117, some 118, some 119, some 120] rfl ?_
          refine Ops_step (R_move rfl) rfl rfl ?_
          refine Ops_step (R_move rfl) rfl rfl ?_
          refine Ops_step (R_neq rfl rfl) rfl rfl ?_
          refine Ops_step (R_move rfl) rfl rfl ?_
          refine Ops_known (b := false) 114 rfl (decide_eq_false (fun h_ => h_ (by have h2_ := hst.1; omega))) ?_
          refine Ops_step (R_move rfl) rfl rfl ?_
          refine Ops_call (C_func TRf.bd19 rfl) rfl rfl ?_
          refine (used_any _ _ _ _ hD).mono ?_
          rintro _ wq116_ ⟨rfl, hq116_⟩
          replace hq116_ := hq116_.symm
          subst hq116_
          refine ⟨_, rfl, ?_⟩
          refine Ops_step (R_move rfl) rfl rfl ?_
          have hs118_ := hF.size
          refine Ops_call (C_func TRf.bd30 rfl) rfl rfl ?_
          refine (rused_any _ _ _ _ hR).mono ?_
          rintro _ w118_ ⟨rfl, hF118_⟩
          replace hF := hF.fr0 hF118_
          replace hD := hD.fr0 hF118_
          replace hR := hR.fr0 hF118_
          replace hB10 := hB10.fr0 hF118_
          clear hF118_
          
          refine ⟨_, rfl, ?_⟩
          refine Ops_step (R_neq rfl rfl) rfl rfl ?_
          refine Ops_step (R_pick_false rfl rfl) rfl rfl ?_
          refine Ops_nil ?_
          refine then_n (hK42_ _ _ ?_)
          clear hK42_ K42_
          refine W_keepB [5, 7, 47, 48, 49, 115, 116, 117, 118, 119, 120] fun B43 hB43_ => ?_
          simp only [pickE, lookE, putE, zipE, args0, Nat.reduceAdd, Nat.zero_add, List.cons_append, List.nil_append, Nat.reduceBEq, cond_true, cond_false] at hB43_
          subst hB43_
          refine W_no rfl (by have h_ := hst.2.used hD.ok.three; omega) ?_
          refine W_skip ?_
          refine then_n (hK41_ _ _ ?_)
          clear hK41_ K41_
          refine W_seq_k fun K44_ hK44_ => ?_
          refine W_region [some 13] rfl ?_
          refine Ops_step (R_assign rfl) rfl rfl ?_
          refine Ops_nil ?_
          refine then_n (hK44_ _ _ ?_)
          clear hK44_ K44_
          refine W_block ?_
          refine W_loopB [5, 7, 47, 48, 49, 115, 116, 117, 118, 119] [13] (fun m vs w' => ∃ z : Int, -1 ≤ z ∧ z ≤ 4 ∧ m = (4 - z).toNat ∧ vs = [vi z] ∧ Dsk w' (fun _ => True) d21 X.2 ∧ Rsk w' (fun _ => True) d26 Y.2 ∧ Fr [] w w') (5) _ rfl (⟨-1, by omega, by omega, rfl, rfl, hD, hR, hF⟩) fun B45 hB45_ => ?_
          simp only [pickE, lookE, putE, zipE, args0, Nat.reduceAdd, Nat.zero_add, List.cons_append, List.nil_append, Nat.reduceBEq, cond_true, cond_false] at hB45_
          subst hB45_
          clear hD hR hF hB10
          rintro m_ vs_ w0_ ⟨z, hz1, hz2, rfl, rfl, hD, hR, hF⟩
          refine W_seq_k fun K46_ hK46_ => ?_
          refine W_seq_k fun K47_ hK47_ => ?_
          refine W_region [some 121, some 122] rfl ?_
          refine Ops_step (R_move rfl) rfl rfl ?_
          refine Ops_step (R_leq rfl rfl) rfl rfl ?_
          refine Ops_nil ?_
          refine then_n (hK47_ _ _ ?_)
          clear hK47_ K47_
          refine W_if rfl (fun hc122 => ?_) (fun hc122 => ?_)
          · refine W_skip ?_
            refine then_n (hK46_ _ _ ?_)
            clear hK46_ K46_
            refine W_seq_k fun K48_ hK48_ => ?_
            refine W_block ?_
            refine W_seq_k fun K49_ hK49_ => ?_
            refine W_region [some 126, some 127, some 128, some 125, some 129, some 130, some 14, some 15] rfl ?_
            refine Ops_step (R_move rfl) rfl rfl ?_
            refine Ops_step (R_move rfl) rfl rfl ?_
            have hs128_ := hF.size
            replace hD := hD.old
            replace hR := hR.old
            have hd21lt := hD.lt
            have hd26lt := hR.lt
            refine Ops_call (C_func TRf.bd17 rfl) rfl rfl ?_
            refine (read_any _ _ _ z _ hD).mono ?_
            rintro _ w128_ ⟨A128, c128, rfl, hQ, hF128_⟩
            replace hF := hF.fr0 hF128_
            replace hD := hD.fr0 hF128_
            replace hR := hR.fr0 hF128_
            clear hF128_
            have hoq := hQ.off
            have hnD : d21 ∉ blkOf A128 := fun h_ => absurd (hoq _ h_) (by omega)
            have hnR : d26 ∉ blkOf A128 := fun h_ => absurd (hoq _ h_) (by omega)
            replace hD := hD.le (B' := fun i => i ∉ blkOf A128) fun i _ h_ hm => absurd (hoq i hm) (Nat.not_le.2 h_)
            replace hR := hR.le (B' := fun i => i ∉ blkOf A128) fun i _ h_ hm => absurd (hoq i hm) (Nat.not_le.2 h_)
            replace hQ := hQ.le hs128_
            clear hoq
            have hshl := shown_le hD.ok z
            refine ⟨_, rfl, ?_⟩
            refine Ops_step (R_move rfl) rfl rfl ?_
            refine Ops_step (R_extract rfl rfl) rfl rfl ?_
            refine Ops_step (R_extract rfl rfl) rfl rfl ?_
            refine Ops_step (R_assign rfl) rfl rfl ?_
            refine Ops_step (R_assign rfl) rfl rfl ?_
            refine Ops_nil ?_
            refine then_n (hK49_ _ _ ?_)
            clear hK49_ K49_
            refine W_keepB [5, 7, 13, 14, 15, 47, 48, 49, 115, 116, 117, 118, 119] fun B50 hB50_ => ?_
            simp only [pickE, lookE, putE, zipE, args0, Nat.reduceAdd, Nat.zero_add, List.cons_append, List.nil_append, Nat.reduceBEq, cond_true, cond_false] at hB50_
            subst hB50_
            refine W_seq_k fun K51_ hK51_ => ?_
            refine W_region [some 132, some 133, some 134, some 131, some 135, some 136, some 16, some 17] rfl ?_
            refine Ops_step (R_move rfl) rfl rfl ?_
            refine Ops_step (R_move rfl) rfl rfl ?_
            refine Ops_call (C_func TRf.bd31 rfl) rfl rfl ?_
            refine (rread_any _ _ _ z _ hR).mono ?_
            rintro _ wq134_ ⟨A134, c134, rfl, hRd, hq134_⟩
            replace hq134_ := hq134_.symm
            subst hq134_
            refine ⟨_, rfl, ?_⟩
            refine Ops_step (R_move rfl) rfl rfl ?_
            refine Ops_step (R_extract rfl rfl) rfl rfl ?_
            refine Ops_step (R_extract rfl rfl) rfl rfl ?_
            refine Ops_step (R_assign rfl) rfl rfl ?_
            refine Ops_step (R_assign rfl) rfl rfl ?_
            refine Ops_nil ?_
            refine then_n (hK51_ _ _ ?_)
            clear hK51_ K51_
            refine W_keepB [5, 7, 13, 14, 15, 16, 17, 47, 48, 49, 115, 116, 117, 118, 119] fun B52 hB52_ => ?_
            simp only [pickE, lookE, putE, zipE, args0, Nat.reduceAdd, Nat.zero_add, List.cons_append, List.nil_append, Nat.reduceBEq, cond_true, cond_false] at hB52_
            subst hB52_
            refine W_seq_k fun K53_ hK53_ => ?_
            refine W_seq_k fun K54_ hK54_ => ?_
            refine W_region [some 137, some 138, some 139, some 140, some 141, some 142, some 143, some 144, some 145] rfl ?_
            refine Ops_step (R_move rfl) rfl rfl ?_
            refine Ops_step (R_move rfl) rfl rfl ?_
            refine Ops_step (R_neq rfl rfl) rfl rfl ?_
            refine Ops_step (R_move rfl) rfl rfl ?_
            refine Ops_known (b := false) 140 rfl (decide_eq_false (fun h_ => h_ (hst.2.able z).symm)) ?_
            refine Ops_step (R_move rfl) rfl rfl ?_
            refine Ops_step (R_move rfl) rfl rfl ?_
            refine Ops_call (C_func TRf.bd22 rfl) rfl rfl ?_
            refine (beq_any _ _ _ _ _ _ _ _ _ rfl rfl (Own.rd hQ) hRd).mono ?_
            rintro _ wq143_ ⟨rfl, hq143_⟩
            replace hq143_ := hq143_.symm
            subst hq143_
            refine ⟨_, rfl, ?_⟩
            refine Ops_step (R_not' rfl) rfl rfl ?_
            refine Ops_step (R_pick_false rfl rfl) rfl rfl ?_
            refine Ops_nil ?_
            refine then_n (hK54_ _ _ ?_)
            clear hK54_ K54_
            refine W_keepB [5, 7, 13, 14, 47, 48, 49, 115, 116, 117, 118, 119, 141, 142, 143, 144, 145] fun B55 hB55_ => ?_
            simp only [pickE, lookE, putE, zipE, args0, Nat.reduceAdd, Nat.zero_add, List.cons_append, List.nil_append, Nat.reduceBEq, cond_true, cond_false] at hB55_
            subst hB55_
            refine W_no rfl (by rw [hst.2.shown z]; simp) ?_
            refine W_skip ?_
            refine then_n (hK53_ _ _ ?_)
            clear hK53_ K53_
            refine W_seq_k fun K56_ hK56_ => ?_
            refine W_region [some 146, some 147, some 148] rfl ?_
            refine Ops_step (R_move rfl) rfl rfl ?_
            refine Ops_step (R_len Try.underlying24 rfl rfl) rfl rfl ?_
            refine Ops_step (R_move rfl) rfl rfl ?_
            refine Ops_nil ?_
            refine then_n (hK56_ _ _ ?_)
            clear hK56_ K56_
            refine W_block ?_
            refine W_loopB [5, 7, 13, 14, 47, 48, 49, 115, 116, 117, 118, 119, 141, 142, 143, 144, 147] [148] (fun m vs w' => ∃ j xs, j ≤ (X.2.shown z).length ∧ m = (X.2.shown z).length - j ∧ vs = [vi (j : Nat)] ∧ xs.length = (X.2.shown z).length ∧ OwnB w' w.heap.size 5 A128 c128 xs ∧ Dsk w' (fun i => i ∉ blkOf A128) d21 X.2 ∧ Rsk w' (fun i => i ∉ blkOf A128) d26 Y.2 ∧ Fr [] w w') ((X.2.shown z).length) _ rfl (⟨0, X.2.shown z, by omega, rfl, rfl, rfl, hQ, hD, hR, hF⟩) fun B57 hB57_ => ?_
            simp only [pickE, lookE, putE, zipE, args0, Nat.reduceAdd, Nat.zero_add, List.cons_append, List.nil_append, Nat.reduceBEq, cond_true, cond_false] at hB57_
            subst hB57_
            clear hQ hD hR hF
            rintro m_ vs_ w0_ ⟨j, xs, hj, rfl, rfl, hxl, hQ, hD, hR, hF⟩
            refine W_seq_k fun K58_ hK58_ => ?_
            refine W_region [some 149] rfl ?_
            refine Ops_step (R_lss rfl rfl) rfl rfl ?_
            refine Ops_nil ?_
            refine then_n (hK58_ _ _ ?_)
            clear hK58_ K58_
            refine W_seq_k fun K59_ hK59_ => ?_
            refine W_if rfl (fun hc149 => ?_) (fun hc149 => ?_)
            · refine W_skip ?_
              refine then_n (hK59_ _ _ ?_)
              clear hK59_ K59_
              refine W_seq_k fun K60_ hK60_ => ?_
              refine W_block ?_
              refine W_seq_k fun K61_ hK61_ => ?_
              refine W_region [some 150, some 18] rfl ?_
              refine Ops_step (R_move rfl) rfl rfl ?_
              refine Ops_step (R_assign rfl) rfl rfl ?_
              refine Ops_nil ?_
              refine then_n (hK61_ _ _ ?_)
              clear hK61_ K61_
              refine W_region [some 151, some 152, some 153, some 154, some 155, some 156, none] rfl ?_
              refine Ops_step (R_move rfl) rfl rfl ?_
              refine Ops_step (R_move rfl) rfl rfl ?_
              refine Ops_step (R_indexSl Try.underlying24 TRf.sz5 rfl rfl (by omega) (by omega) (Rd.some (Own.rd hQ) (by omega))) rfl rfl ?_
              refine Ops_step (R_load TRf.ag5 rfl (Rd.atB (Own.rd hQ) (by omega))) rfl rfl ?_
              refine Ops_step (R_xor rfl rfl (xor8 _ (255 : UInt8))) rfl rfl ?_
              refine Ops_step (R_indexSl Try.underlying24 TRf.sz5 rfl rfl (by omega) (by omega) (Rd.some (Own.rd hQ) (by omega))) rfl rfl ?_
              have hof := hQ.off
              refine Ops_to0 (R_storeOwnB TRf.sz5 rfl rfl hQ (by omega)) rfl ?_
              clear hQ
              rintro _ wst_ ⟨hQ, hFst_⟩
              replace hF := hF.then hFst_ (fun i_ hi_ hj_ => absurd (hof i_ hi_) (by omega))
              replace hD := hD.fr hFst_ (skAvoid hnD)
              replace hR := hR.fr hFst_ (skAvoid hnR)
              clear hFst_
              refine Ops_nil ?_
              refine block_n ?_
              refine then_n (hK60_ _ _ ?_)
              clear hK60_ K60_
              refine W_keepB [5, 7, 13, 14, 47, 48, 49, 115, 116, 117, 118, 119, 141, 142, 143, 144, 147, 148] fun B63 hB63_ => ?_
              simp only [pickE, lookE, putE, zipE, args0, Nat.reduceAdd, Nat.zero_add, List.cons_append, List.nil_append, Nat.reduceBEq, cond_true, cond_false] at hB63_
              subst hB63_
              refine W_region [some 157, some 148] rfl ?_
              refine Ops_step (R_add rfl rfl (wIc (n := j + 1) (by omega) (by omega))) rfl rfl ?_
              refine Ops_step (R_move rfl) rfl rfl ?_
              refine Ops_nil ?_
              exact ⟨(X.2.shown z).length - (j + 1), _, by omega, rfl, ⟨j + 1, _, by omega, rfl, rfl, by simp [hxl], hQ, hD, hR, hF⟩, ⟨rfl, rfl, rfl, rfl, rfl, rfl, rfl, rfl, rfl, rfl, rfl, rfl, rfl, rfl, rfl, rfl, rfl, trivial⟩⟩
            · refine W_exit ?_
              refine then_exit ?_
              clear hK59_ K59_
              refine then_exit ?_
              refine block_exit ?_
              refine block_n ?_
              refine then_n (hK48_ _ _ ?_)
              clear hK48_ K48_
              refine W_region [some 123, some 124, some 13] rfl ?_
              replace hD := hD.any
              replace hR := hR.any
              clear hQ
              refine Ops_step (R_move rfl) rfl rfl ?_
              refine Ops_step (R_add rfl rfl (wI (by omega) (by omega))) rfl rfl ?_
              refine Ops_step (R_assign rfl) rfl rfl ?_
              refine Ops_nil ?_
              exact ⟨(4 - (z + 1)).toNat, _, by omega, rfl, ⟨z + 1, by omega, by omega, rfl, rfl, hD, hR, hF⟩, ⟨rfl, rfl, rfl, rfl, rfl, rfl, rfl, rfl, rfl, rfl, trivial⟩⟩
          · refine W_exit ?_
            refine then_exit ?_
            clear hK46_ K46_
            refine then_exit ?_
            refine block_exit ?_
            refine block_n ?_
            refine then_n (hK18_ _ _ ?_)
            clear hK18_ K18_
            refine W_region [some 158, some 49] rfl ?_
            refine Ops_step (R_add rfl rfl (wIc (n := i + 1) (by omega) (by omega))) rfl rfl ?_
            refine Ops_step (R_move rfl) rfl rfl ?_
            refine Ops_nil ?_
            exact ⟨L.length - (i + 1), _, by omega, rfl, ⟨i + 1, X.2, Y.2, by omega, rfl, rfl, hst.2, hD, hR, hF⟩, ⟨rfl, rfl, rfl, rfl, trivial⟩⟩
        · refine W_seq_k fun K64_ hK64_ => ?_
          refine W_region [some 93, some 92] rfl ?_
          refine Ops_step (R_eql rfl rfl) rfl rfl ?_
          refine Ops_step (R_assign rfl) rfl rfl ?_
          refine Ops_nil ?_
          refine then_n (hK64_ _ _ ?_)
          clear hK64_ K64_
          refine W_if rfl (fun hc92 => ?_) (fun hc92 => ?_)
          · refine W_region [some 94, some 95, some 8] rfl ?_
            refine Ops_step (R_move rfl) rfl rfl ?_
            have hs95_ := hF.size
            have hd95_ := hR
            refine Ops_call (C_func TRf.bd26 rfl) rfl rfl ?_
            refine (rcrash_any _ _ _ _ hR).mono ?_
            rintro _ w95_ ⟨rfl, hR, hF95_⟩
            replace hF := hF.then hF95_ (by simp only [List.mem_singleton]; omega)
            replace hD := hD.fr hF95_ (skRsk (by omega) hd95_)
            replace hB10 := hB10.fr hF95_ (by simp only [List.mem_singleton]; omega)
            clear hF95_
            clear hd95_
            have hre : R.does k = R.crash := by unfold Rk.does; rw [if_neg (by omega)]; rw [if_pos (by omega)]
            rw [← hre] at hR ⊢
            refine named (R.does k) fun Y eY => ?_
            rw [← eY] at hR hst ⊢
            clear eY hre
            refine ⟨_, rfl, ?_⟩
            refine Ops_step (R_assign rfl) rfl rfl ?_
            refine Ops_nil ?_
            refine block_n ?_
            refine then_n (hK36_ _ _ ?_)
            clear hK36_ K36_
            refine W_keepB [5, 6, 7, 8, 47, 48, 49] fun B65 hB65_ => ?_
            simp only [pickE, lookE, putE, zipE, args0, Nat.reduceAdd, Nat.zero_add, List.cons_append, List.nil_append, Nat.reduceBEq, cond_true, cond_false] at hB65_
            subst hB65_
            refine W_seq_k fun K66_ hK66_ => ?_
            refine W_seq_k fun K67_ hK67_ => ?_
            refine W_region [some 111, some 112, some 113, some 114, some 115, some 116, some 117, some 118, some 119, some 120] rfl ?_
            refine Ops_step (R_move rfl) rfl rfl ?_
            refine Ops_step (R_move rfl) rfl rfl ?_
            refine Ops_step (R_neq rfl rfl) rfl rfl ?_
            refine Ops_step (R_move rfl) rfl rfl ?_
            refine Ops_known (b := false) 114 rfl (decide_eq_false (fun h_ => h_ (by have h2_ := hst.1; omega))) ?_
            refine Ops_step (R_move rfl) rfl rfl ?_
            refine Ops_call (C_func TRf.bd19 rfl) rfl rfl ?_
            refine (used_any _ _ _ _ hD).mono ?_
            rintro _ wq116_ ⟨rfl, hq116_⟩
            replace hq116_ := hq116_.symm
            subst hq116_
            refine ⟨_, rfl, ?_⟩
            refine Ops_step (R_move rfl) rfl rfl ?_
            have hs118_ := hF.size
            refine Ops_call (C_func TRf.bd30 rfl) rfl rfl ?_
            refine (rused_any _ _ _ _ hR).mono ?_
            rintro _ w118_ ⟨rfl, hF118_⟩
            replace hF := hF.fr0 hF118_
            replace hD := hD.fr0 hF118_
            replace hR := hR.fr0 hF118_
            replace hB10 := hB10.fr0 hF118_
            clear hF118_
            
            refine ⟨_, rfl, ?_⟩
            refine Ops_step (R_neq rfl rfl) rfl rfl ?_
            refine Ops_step (R_pick_false rfl rfl) rfl rfl ?_
            refine Ops_nil ?_
            refine then_n (hK67_ _ _ ?_)
            clear hK67_ K67_
            refine W_keepB [5, 7, 47, 48, 49, 115, 116, 117, 118, 119, 120] fun B68 hB68_ => ?_
            simp only [pickE, lookE, putE, zipE, args0, Nat.reduceAdd, Nat.zero_add, List.cons_append, List.nil_append, Nat.reduceBEq, cond_true, cond_false] at hB68_
            subst hB68_
            refine W_no rfl (by have h_ := hst.2.used hD.ok.three; omega) ?_
            refine W_skip ?_
            refine then_n (hK66_ _ _ ?_)
            clear hK66_ K66_
            refine W_seq_k fun K69_ hK69_ => ?_
            refine W_region [some 13] rfl ?_
            refine Ops_step (R_assign rfl) rfl rfl ?_
            refine Ops_nil ?_
            refine then_n (hK69_ _ _ ?_)
            clear hK69_ K69_
            refine W_block ?_
            refine W_loopB [5, 7, 47, 48, 49, 115, 116, 117, 118, 119] [13] (fun m vs w' => ∃ z : Int, -1 ≤ z ∧ z ≤ 4 ∧ m = (4 - z).toNat ∧ vs = [vi z] ∧ Dsk w' (fun _ => True) d21 X.2 ∧ Rsk w' (fun _ => True) d26 Y.2 ∧ Fr [] w w') (5) _ rfl (⟨-1, by omega, by omega, rfl, rfl, hD, hR, hF⟩) fun B70 hB70_ => ?_
            simp only [pickE, lookE, putE, zipE, args0, Nat.reduceAdd, Nat.zero_add, List.cons_append, List.nil_append, Nat.reduceBEq, cond_true, cond_false] at hB70_
            subst hB70_
            clear hD hR hF hB10
            rintro m_ vs_ w0_ ⟨z, hz1, hz2, rfl, rfl, hD, hR, hF⟩
            refine W_seq_k fun K71_ hK71_ => ?_
            refine W_seq_k fun K72_ hK72_ => ?_
            refine W_region [some 121, some 122] rfl ?_
            refine Ops_step (R_move rfl) rfl rfl ?_
            refine Ops_step (R_leq rfl rfl) rfl rfl ?_
            refine Ops_nil ?_
            refine then_n (hK72_ _ _ ?_)
            clear hK72_ K72_
            refine W_if rfl (fun hc122 => ?_) (fun hc122 => ?_)
            · refine W_skip ?_
              refine then_n (hK71_ _ _ ?_)
              clear hK71_ K71_
              refine W_seq_k fun K73_ hK73_ => ?_
              refine W_block ?_
              refine W_seq_k fun K74_ hK74_ => ?_
              refine W_region [some 126, some 127, some 128, some 125, some 129, some 130, some 14, some 15] rfl ?_
              refine Ops_step (R_move rfl) rfl rfl ?_
              refine Ops_step (R_move rfl) rfl rfl ?_
              have hs128_ := hF.size
              replace hD := hD.old
              replace hR := hR.old
              have hd21lt := hD.lt
              have hd26lt := hR.lt
              refine Ops_call (C_func TRf.bd17 rfl) rfl rfl ?_
              refine (read_any _ _ _ z _ hD).mono ?_
              rintro _ w128_ ⟨A128, c128, rfl, hQ, hF128_⟩
              replace hF := hF.fr0 hF128_
              replace hD := hD.fr0 hF128_
              replace hR := hR.fr0 hF128_
              clear hF128_
              have hoq := hQ.off
              have hnD : d21 ∉ blkOf A128 := fun h_ => absurd (hoq _ h_) (by omega)
              have hnR : d26 ∉ blkOf A128 := fun h_ => absurd (hoq _ h_) (by omega)
              replace hD := hD.le (B' := fun i => i ∉ blkOf A128) fun i _ h_ hm => absurd (hoq i hm) (Nat.not_le.2 h_)
              replace hR := hR.le (B' := fun i => i ∉ blkOf A128) fun i _ h_ hm => absurd (hoq i hm) (Nat.not_le.2 h_)
              replace hQ := hQ.le hs128_
              clear hoq
              have hshl := shown_le hD.ok z
              refine ⟨_, rfl, ?_⟩
              refine Ops_step (R_move rfl) rfl rfl ?_
              refine Ops_step (R_extract rfl rfl) rfl rfl ?_
              refine Ops_step (R_extract rfl rfl) rfl rfl ?_
              refine Ops_step (R_assign rfl) rfl rfl ?_
              refine Ops_step (R_assign rfl) rfl rfl ?_
              refine Ops_nil ?_
              refine then_n (hK74_ _ _ ?_)
              clear hK74_ K74_
              refine W_keepB [5, 7, 13, 14, 15, 47, 48, 49, 115, 116, 117, 118, 119] fun B75 hB75_ => ?_
              simp only [pickE, lookE, putE, zipE, args0, Nat.reduceAdd, Nat.zero_add, List.cons_append, List.nil_append, Nat.reduceBEq, cond_true, cond_false] at hB75_
              subst hB75_
              refine W_seq_k fun K76_ hK76_ => ?_
              refine W_region [some 132, some 133, some 134, some 131, some 135, some 136, some 16, some 17] rfl ?_
              refine Ops_step (R_move rfl) rfl rfl ?_
              refine Ops_step (R_move rfl) rfl rfl ?_
              refine Ops_call (C_func TRf.bd31 rfl) rfl rfl ?_
              refine (rread_any _ _ _ z _ hR).mono ?_
              rintro _ wq134_ ⟨A134, c134, rfl, hRd, hq134_⟩
              replace hq134_ := hq134_.symm
              subst hq134_
              refine ⟨_, rfl, ?_⟩
              refine Ops_step (R_move rfl) rfl rfl ?_
              refine Ops_step (R_extract rfl rfl) rfl rfl ?_
              refine Ops_step (R_extract rfl rfl) rfl rfl ?_
              refine Ops_step (R_assign rfl) rfl rfl ?_
              refine Ops_step (R_assign rfl) rfl rfl ?_
              refine Ops_nil ?_
              refine then_n (hK76_ _ _ ?_)
              clear hK76_ K76_
              refine W_keepB [5, 7, 13, 14, 15, 16, 17, 47, 48, 49, 115, 116, 117, 118, 119] fun B77 hB77_ => ?_
              simp only [pickE, lookE, putE, zipE, args0, Nat.reduceAdd, Nat.zero_add, List.cons_append, List.nil_append, Nat.reduceBEq, cond_true, cond_false] at hB77_
              subst hB77_
              refine W_seq_k fun K78_ hK78_ => ?_
              refine W_seq_k fun K79_ hK79_ => ?_
              refine W_region [some 137, some 138, some 139, some 140, some 141, some 142, some 143, some 144, some 145] rfl ?_
              refine Ops_step (R_move rfl) rfl rfl ?_
              refine Ops_step (R_move rfl) rfl rfl ?_
              refine Ops_step (R_neq rfl rfl) rfl rfl ?_
              refine Ops_step (R_move rfl) rfl rfl ?_
              refine Ops_known (b := false) 140 rfl (decide_eq_false (fun h_ => h_ (hst.2.able z).symm)) ?_
              refine Ops_step (R_move rfl) rfl rfl ?_
              refine Ops_step (R_move rfl) rfl rfl ?_
              refine Ops_call (C_func TRf.bd22 rfl) rfl rfl ?_
              refine (beq_any _ _ _ _ _ _ _ _ _ rfl rfl (Own.rd hQ) hRd).mono ?_
              rintro _ wq143_ ⟨rfl, hq143_⟩
              replace hq143_ := hq143_.symm
              subst hq143_
              refine ⟨_, rfl, ?_⟩
              refine Ops_step (R_not' rfl) rfl rfl ?_
              refine Ops_step (R_pick_false rfl rfl) rfl rfl ?_
              refine Ops_nil ?_
              refine then_n (hK79_ _ _ ?_)
              clear hK79_ K79_
              refine W_keepB [5, 7, 13, 14, 47, 48, 49, 115, 116, 117, 118, 119, 141, 142, 143, 144, 145] fun B80 hB80_ => ?_
              simp only [pickE, lookE, putE, zipE, args0, Nat.reduceAdd, Nat.zero_add, List.cons_append, List.nil_append, Nat.reduceBEq, cond_true, cond_false] at hB80_
              subst hB80_
              refine W_no rfl (by rw [hst.2.shown z]; simp) ?_
              refine W_skip ?_
              refine then_n (hK78_ _ _ ?_)
              clear hK78_ K78_
              refine W_seq_k fun K81_ hK81_ => ?_
              refine W_region [some 146, some 147, some 148] rfl ?_
              refine Ops_step (R_move rfl) rfl rfl ?_
              refine Ops_step (R_len Try.underlying24 rfl rfl) rfl rfl ?_
              refine Ops_step (R_move rfl) rfl rfl ?_
              refine Ops_nil ?_
              refine then_n (hK81_ _ _ ?_)
              clear hK81_ K81_
              refine W_block ?_
              refine W_loopB [5, 7, 13, 14, 47, 48, 49, 115, 116, 117, 118, 119, 141, 142, 143, 144, 147] [148] (fun m vs w' => ∃ j xs, j ≤ (X.2.shown z).length ∧ m = (X.2.shown z).length - j ∧ vs = [vi (j : Nat)] ∧ xs.length = (X.2.shown z).length ∧ OwnB w' w.heap.size 5 A128 c128 xs ∧ Dsk w' (fun i => i ∉ blkOf A128) d21 X.2 ∧ Rsk w' (fun i => i ∉ blkOf A128) d26 Y.2 ∧ Fr [] w w') ((X.2.shown z).length) _ rfl (⟨0, X.2.shown z, by omega, rfl, rfl, rfl, hQ, hD, hR, hF⟩) fun B82 hB82_ => ?_
              simp only [pickE, lookE, putE, zipE, args0, Nat.reduceAdd, Nat.zero_add, List.cons_append, List.nil_append, Nat.reduceBEq, cond_true, cond_false] at hB82_
              subst hB82_
              clear hQ hD hR hF
              rintro m_ vs_ w0_ ⟨j, xs, hj, rfl, rfl, hxl, hQ, hD, hR, hF⟩
              refine W_seq_k fun K83_ hK83_ => ?_
              refine W_region [some 149] rfl ?_
              refine Ops_step (R_lss rfl rfl) rfl rfl ?_
              refine Ops_nil ?_
              refine then_n (hK83_ _ _ ?_)
              clear hK83_ K83_
              refine W_seq_k fun K84_ hK84_ => ?_
              refine W_if rfl (fun hc149 => ?_) (fun hc149 => ?_)
              · refine W_skip ?_
                refine then_n (hK84_ _ _ ?_)
                clear hK84_ K84_
                refine W_seq_k fun K85_ hK85_ => ?_
                refine W_block ?_
                refine W_seq_k fun K86_ hK86_ => ?_
                refine W_region [some 150, some 18] rfl ?_
                refine Ops_step (R_move rfl) rfl rfl ?_
                refine Ops_step (R_assign rfl) rfl rfl ?_
                refine Ops_nil ?_
                refine then_n (hK86_ _ _ ?_)
                clear hK86_ K86_
                refine W_region [some 151, some 152, some 153, some 154, some 155, some 156, none] rfl ?_
                refine Ops_step (R_move rfl) rfl rfl ?_
                refine Ops_step (R_move rfl) rfl rfl ?_
                refine Ops_step (R_indexSl Try.underlying24 TRf.sz5 rfl rfl (by omega) (by omega) (Rd.some (Own.rd hQ) (by omega))) rfl rfl ?_
                refine Ops_step (R_load TRf.ag5 rfl (Rd.atB (Own.rd hQ) (by omega))) rfl rfl ?_
                refine Ops_step (R_xor rfl rfl (xor8 _ (255 : UInt8))) rfl rfl ?_
                refine Ops_step (R_indexSl Try.underlying24 TRf.sz5 rfl rfl (by omega) (by omega) (Rd.some (Own.rd hQ) (by omega))) rfl rfl ?_
                have hof := hQ.off
                refine Ops_to0 (R_storeOwnB TRf.sz5 rfl rfl hQ (by omega)) rfl ?_
                clear hQ
                rintro _ wst_ ⟨hQ, hFst_⟩
                replace hF := hF.then hFst_ (fun i_ hi_ hj_ => absurd (hof i_ hi_) (by omega))
                replace hD := hD.fr hFst_ (skAvoid hnD)
                replace hR := hR.fr hFst_ (skAvoid hnR)
                clear hFst_
                refine Ops_nil ?_
                refine block_n ?_
                refine then_n (hK85_ _ _ ?_)
                clear hK85_ K85_
                refine W_keepB [5, 7, 13, 14, 47, 48, 49, 115, 116, 117, 118, 119, 141, 142, 143, 144, 147, 148] fun B88 hB88_ => ?_
                simp only [pickE, lookE, putE, zipE, args0, Nat.reduceAdd, Nat.zero_add, List.cons_append, List.nil_append, Nat.reduceBEq, cond_true, cond_false] at hB88_
                subst hB88_
                refine W_region [some 157, some 148] rfl ?_
                refine Ops_step (R_add rfl rfl (wIc (n := j + 1) (by omega) (by omega))) rfl rfl ?_
                refine Ops_step (R_move rfl) rfl rfl ?_
                refine Ops_nil ?_
                exact ⟨(X.2.shown z).length - (j + 1), _, by omega, rfl, ⟨j + 1, _, by omega, rfl, rfl, by simp [hxl], hQ, hD, hR, hF⟩, ⟨rfl, rfl, rfl, rfl, rfl, rfl, rfl, rfl, rfl, rfl, rfl, rfl, rfl, rfl, rfl, rfl, rfl, trivial⟩⟩
              · refine W_exit ?_
                refine then_exit ?_
                clear hK84_ K84_
                refine then_exit ?_
                refine block_exit ?_
                refine block_n ?_
                refine then_n (hK73_ _ _ ?_)
                clear hK73_ K73_
                refine W_region [some 123, some 124, some 13] rfl ?_
                replace hD := hD.any
                replace hR := hR.any
                clear hQ
                refine Ops_step (R_move rfl) rfl rfl ?_
                refine Ops_step (R_add rfl rfl (wI (by omega) (by omega))) rfl rfl ?_
                refine Ops_step (R_assign rfl) rfl rfl ?_
                refine Ops_nil ?_
                exact ⟨(4 - (z + 1)).toNat, _, by omega, rfl, ⟨z + 1, by omega, by omega, rfl, rfl, hD, hR, hF⟩, ⟨rfl, rfl, rfl, rfl, rfl, rfl, rfl, rfl, rfl, rfl, trivial⟩⟩
            · refine W_exit ?_
              refine then_exit ?_
              clear hK71_ K71_
              refine then_exit ?_
              refine block_exit ?_
              refine block_n ?_
              refine then_n (hK18_ _ _ ?_)
              clear hK18_ K18_
              refine W_region [some 158, some 49] rfl ?_
              refine Ops_step (R_add rfl rfl (wIc (n := i + 1) (by omega) (by omega))) rfl rfl ?_
              refine Ops_step (R_move rfl) rfl rfl ?_
              refine Ops_nil ?_
              exact ⟨L.length - (i + 1), _, by omega, rfl, ⟨i + 1, X.2, Y.2, by omega, rfl, rfl, hst.2, hD, hR, hF⟩, ⟨rfl, rfl, rfl, rfl, trivial⟩⟩
          · refine W_seq_k fun K89_ hK89_ => ?_
            refine W_region [some 97, some 96] rfl ?_
            refine Ops_step (R_eql rfl rfl) rfl rfl ?_
            refine Ops_step (R_assign rfl) rfl rfl ?_
            refine Ops_nil ?_
            refine then_n (hK89_ _ _ ?_)
            clear hK89_ K89_
            refine W_if rfl (fun hc96 => ?_) (fun hc96 => ?_)
            · refine W_seq_k fun K90_ hK90_ => ?_
              refine W_region [some 98, some 99, some 100, none] rfl ?_
              refine Exists.elim hR fun ps hRx => ?_
              have hB := hRx.1
              have hp := hRx.2.1
              have hfil := hRx.2.2.1
              have hT := hRx.2.2.2.1
              have hus := hRx.2.2.2.2.1
              have hrm := hRx.2.2.2.2.2.1
              have hlf := hRx.2.2.2.2.2.2
              clear hRx
              refine Ops_step (R_move rfl) rfl rfl ?_
              refine Ops_step (R_nilCheck rfl) rfl rfl ?_
              refine Ops_step (R_fieldAddr TRf.fo58_2 rfl) rfl rfl ?_
              clear hR
              have hT58 : ∃ cs, Blk _ d26 58 cs := ⟨_, hB⟩
              have hb58_ := hB
              refine Ops_to0 (R_store TRf.sz4 rfl rfl hB (by rw [rkC_len hp hT]; decide) rfl) rfl ?_
              clear hB
              rintro _ w91_ ⟨hB, hF91_⟩
              replace hF := hF.then hF91_ (by simp only [List.mem_singleton]; omega)
              replace hD := hD.fr hF91_ (skOne (by omega) hb58_ (by decide))
              replace hB10 := hB10.fr hF91_ (by simp only [List.mem_singleton]; omega)
              replace hfil := hfil.fr hF91_ (one58 hT58)
              clear hF91_
              clear hT58 hb58_
              replace hB := hB.to (rkC_s4 hp hT false)
              skip
              have hre : R.does k = (0, { R with off := false }) := by unfold Rk.does; rw [if_neg (by omega)]; rw [if_neg (by omega)]; rw [if_pos (by omega)]
              have hR := rsk_start (B := fun _ => True) (R' := (R.does k).2) hB hp hfil hT hus hrm hlf (by rw [hre])
              have hY0 : (0 : Int) = (R.does k).1 := by rw [hre]
              refine named (R.does k) fun Y eY => ?_
              rw [← eY] at hR hst hY0
              clear eY hre hB hfil
              refine Ops_nil ?_
              refine then_n (hK90_ _ _ ?_)
              clear hK90_ K90_
              refine W_keepB [5, 6, 7, 47, 48, 49] fun B92 hB92_ => ?_
              simp only [pickE, lookE, putE, zipE, args0, Nat.reduceAdd, Nat.zero_add, List.cons_append, List.nil_append, Nat.reduceBEq, cond_true, cond_false] at hB92_
              subst hB92_
              refine W_region [some 8] rfl ?_
              refine Ops_step (R_assign rfl) rfl rfl ?_
              refine Ops_nil ?_
              refine block_n ?_
              refine then_n (hK36_ _ _ ?_)
              clear hK36_ K36_
              refine W_seq_k fun K93_ hK93_ => ?_
              refine W_seq_k fun K94_ hK94_ => ?_
              refine W_region [some 111, some 112, some 113, some 114, some 115, some 116, some 117, some 118, some 119, some 120] rfl ?_
              refine Ops_step (R_move rfl) rfl rfl ?_
              refine Ops_step (R_move rfl) rfl rfl ?_
              refine Ops_step (R_neq rfl rfl) rfl rfl ?_
              refine Ops_step (R_move rfl) rfl rfl ?_
              refine Ops_known (b := false) 114 rfl (decide_eq_false (fun h_ => h_ (by have h2_ := hst.1; omega))) ?_
              refine Ops_step (R_move rfl) rfl rfl ?_
              refine Ops_call (C_func TRf.bd19 rfl) rfl rfl ?_
              refine (used_any _ _ _ _ hD).mono ?_
              rintro _ wq116_ ⟨rfl, hq116_⟩
              replace hq116_ := hq116_.symm
              subst hq116_
              refine ⟨_, rfl, ?_⟩
              refine Ops_step (R_move rfl) rfl rfl ?_
              have hs118_ := hF.size
              refine Ops_call (C_func TRf.bd30 rfl) rfl rfl ?_
              refine (rused_any _ _ _ _ hR).mono ?_
              rintro _ w118_ ⟨rfl, hF118_⟩
              replace hF := hF.fr0 hF118_
              replace hD := hD.fr0 hF118_
              replace hB10 := hB10.fr0 hF118_
              replace hR := hR.fr0 hF118_
              clear hF118_
              
              refine ⟨_, rfl, ?_⟩
              refine Ops_step (R_neq rfl rfl) rfl rfl ?_
              refine Ops_step (R_pick_false rfl rfl) rfl rfl ?_
              refine Ops_nil ?_
              refine then_n (hK94_ _ _ ?_)
              clear hK94_ K94_
              refine W_keepB [5, 7, 47, 48, 49, 115, 116, 117, 118, 119, 120] fun B95 hB95_ => ?_
              simp only [pickE, lookE, putE, zipE, args0, Nat.reduceAdd, Nat.zero_add, List.cons_append, List.nil_append, Nat.reduceBEq, cond_true, cond_false] at hB95_
              subst hB95_
              refine W_no rfl (by have h_ := hst.2.used hD.ok.three; omega) ?_
              refine W_skip ?_
              refine then_n (hK93_ _ _ ?_)
              clear hK93_ K93_
              refine W_seq_k fun K96_ hK96_ => ?_
              refine W_region [some 13] rfl ?_
              refine Ops_step (R_assign rfl) rfl rfl ?_
              refine Ops_nil ?_
              refine then_n (hK96_ _ _ ?_)
              clear hK96_ K96_
              refine W_block ?_
              refine W_loopB [5, 7, 47, 48, 49, 115, 116, 117, 118, 119] [13] (fun m vs w' => ∃ z : Int, -1 ≤ z ∧ z ≤ 4 ∧ m = (4 - z).toNat ∧ vs = [vi z] ∧ Dsk w' (fun _ => True) d21 X.2 ∧ Rsk w' (fun _ => True) d26 Y.2 ∧ Fr [] w w') (5) _ rfl (⟨-1, by omega, by omega, rfl, rfl, hD, hR, hF⟩) fun B97 hB97_ => ?_
              simp only [pickE, lookE, putE, zipE, args0, Nat.reduceAdd, Nat.zero_add, List.cons_append, List.nil_append, Nat.reduceBEq, cond_true, cond_false] at hB97_
              subst hB97_
              clear hD hR hF hB10
              rintro m_ vs_ w0_ ⟨z, hz1, hz2, rfl, rfl, hD, hR, hF⟩
              refine W_seq_k fun K98_ hK98_ => ?_
              refine W_seq_k fun K99_ hK99_ => ?_
              refine W_region [some 121, some 122] rfl ?_
              refine Ops_step (R_move rfl) rfl rfl ?_
              refine Ops_step (R_leq rfl rfl) rfl rfl ?_
              refine Ops_nil ?_
              refine then_n (hK99_ _ _ ?_)
              clear hK99_ K99_
              refine W_if rfl (fun hc122 => ?_) (fun hc122 => ?_)
              · refine W_skip ?_
                refine then_n (hK98_ _ _ ?_)
                clear hK98_ K98_
                refine W_seq_k fun K100_ hK100_ => ?_
                refine W_block ?_
                refine W_seq_k fun K101_ hK101_ => ?_
                refine W_region [some 126, some 127, some 128, some 125, some 129, some 130, some 14, some 15] rfl ?_
                refine Ops_step (R_move rfl) rfl rfl ?_
                refine Ops_step (R_move rfl) rfl rfl ?_
                have hs128_ := hF.size
                replace hD := hD.old
                replace hR := hR.old
                have hd21lt := hD.lt
                have hd26lt := hR.lt
                refine Ops_call (C_func TRf.bd17 rfl) rfl rfl ?_
                refine (read_any _ _ _ z _ hD).mono ?_
                rintro _ w128_ ⟨A128, c128, rfl, hQ, hF128_⟩
                replace hF := hF.fr0 hF128_
                replace hD := hD.fr0 hF128_
                replace hR := hR.fr0 hF128_
                clear hF128_
                have hoq := hQ.off
                have hnD : d21 ∉ blkOf A128 := fun h_ => absurd (hoq _ h_) (by omega)
                have hnR : d26 ∉ blkOf A128 := fun h_ => absurd (hoq _ h_) (by omega)
                replace hD := hD.le (B' := fun i => i ∉ blkOf A128) fun i _ h_ hm => absurd (hoq i hm) (Nat.not_le.2 h_)
                replace hR := hR.le (B' := fun i => i ∉ blkOf A128) fun i _ h_ hm => absurd (hoq i hm) (Nat.not_le.2 h_)
                replace hQ := hQ.le hs128_
                clear hoq
                have hshl := shown_le hD.ok z
                refine ⟨_, rfl, ?_⟩
                refine Ops_step (R_move rfl) rfl rfl ?_
                refine Ops_step (R_extract rfl rfl) rfl rfl ?_
                refine Ops_step (R_extract rfl rfl) rfl rfl ?_
                refine Ops_step (R_assign rfl) rfl rfl ?_
                refine Ops_step (R_assign rfl) rfl rfl ?_
                refine Ops_nil ?_
                refine then_n (hK101_ _ _ ?_)
                clear hK101_ K101_
                refine W_keepB [5, 7, 13, 14, 15, 47, 48, 49, 115, 116, 117, 118, 119] fun B102 hB102_ => ?_
                simp only [pickE, lookE, putE, zipE, args0, Nat.reduceAdd, Nat.zero_add, List.cons_append, List.nil_append, Nat.reduceBEq, cond_true, cond_false] at hB102_
                subst hB102_
                refine W_seq_k fun K103_ hK103_ => ?_
                refine W_region [some 132, some 133, some 134, some 131, some 135, some 136, some 16, some 17] rfl ?_
                refine Ops_step (R_move rfl) rfl rfl ?_
                refine Ops_step (R_move rfl) rfl rfl ?_
                refine Ops_call (C_func TRf.bd31 rfl) rfl rfl ?_
                refine (rread_any _ _ _ z _ hR).mono ?_
                rintro _ wq134_ ⟨A134, c134, rfl, hRd, hq134_⟩
                replace hq134_ := hq134_.symm
                subst hq134_
                refine ⟨_, rfl, ?_⟩
                refine Ops_step (R_move rfl) rfl rfl ?_
                refine Ops_step (R_extract rfl rfl) rfl rfl ?_
                refine Ops_step (R_extract rfl rfl) rfl rfl ?_
                refine Ops_step (R_assign rfl) rfl rfl ?_
                refine Ops_step (R_assign rfl) rfl rfl ?_
                refine Ops_nil ?_
                refine then_n (hK103_ _ _ ?_)
                clear hK103_ K103_
                refine W_keepB [5, 7, 13, 14, 15, 16, 17, 47, 48, 49, 115, 116, 117, 118, 119] fun B104 hB104_ => ?_
                simp only [pickE, lookE, putE, zipE, args0, Nat.reduceAdd, Nat.zero_add, List.cons_append, List.nil_append, Nat.reduceBEq, cond_true, cond_false] at hB104_
                subst hB104_
                refine W_seq_k fun K105_ hK105_ => ?_
                refine W_seq_k fun K106_ hK106_ => ?_
                refine W_region [some 137, some 138, some 139, some 140, some 141, some 142, some 143, some 144, some 145] rfl ?_
                refine Ops_step (R_move rfl) rfl rfl ?_
                refine Ops_step (R_move rfl) rfl rfl ?_
                refine Ops_step (R_neq rfl rfl) rfl rfl ?_
                refine Ops_step (R_move rfl) rfl rfl ?_
                refine Ops_known (b := false) 140 rfl (decide_eq_false (fun h_ => h_ (hst.2.able z).symm)) ?_
                refine Ops_step (R_move rfl) rfl rfl ?_
                refine Ops_step (R_move rfl) rfl rfl ?_
                refine Ops_call (C_func TRf.bd22 rfl) rfl rfl ?_
                refine (beq_any _ _ _ _ _ _ _ _ _ rfl rfl (Own.rd hQ) hRd).mono ?_
                rintro _ wq143_ ⟨rfl, hq143_⟩
                replace hq143_ := hq143_.symm
                subst hq143_
                refine ⟨_, rfl, ?_⟩
                refine Ops_step (R_not' rfl) rfl rfl ?_
                refine Ops_step (R_pick_false rfl rfl) rfl rfl ?_
                refine Ops_nil ?_
                refine then_n (hK106_ _ _ ?_)
                clear hK106_ K106_
                refine W_keepB [5, 7, 13, 14, 47, 48, 49, 115, 116, 117, 118, 119, 141, 142, 143, 144, 145] fun B107 hB107_ => ?_
                simp only [pickE, lookE, putE, zipE, args0, Nat.reduceAdd, Nat.zero_add, List.cons_append, List.nil_append, Nat.reduceBEq, cond_true, cond_false] at hB107_
                subst hB107_
                refine W_no rfl (by rw [hst.2.shown z]; simp) ?_
                refine W_skip ?_
                refine then_n (hK105_ _ _ ?_)
                clear hK105_ K105_
                refine W_seq_k fun K108_ hK108_ => ?_
                refine W_region [some 146, some 147, some 148] rfl ?_
                refine Ops_step (R_move rfl) rfl rfl ?_
                refine Ops_step (R_len Try.underlying24 rfl rfl) rfl rfl ?_
                refine Ops_step (R_move rfl) rfl rfl ?_
                refine Ops_nil ?_
                refine then_n (hK108_ _ _ ?_)
                clear hK108_ K108_
                refine W_block ?_
                refine W_loopB [5, 7, 13, 14, 47, 48, 49, 115, 116, 117, 118, 119, 141, 142, 143, 144, 147] [148] (fun m vs w' => ∃ j xs, j ≤ (X.2.shown z).length ∧ m = (X.2.shown z).length - j ∧ vs = [vi (j : Nat)] ∧ xs.length = (X.2.shown z).length ∧ OwnB w' w.heap.size 5 A128 c128 xs ∧ Dsk w' (fun i => i ∉ blkOf A128) d21 X.2 ∧ Rsk w' (fun i => i ∉ blkOf A128) d26 Y.2 ∧ Fr [] w w') ((X.2.shown z).length) _ rfl (⟨0, X.2.shown z, by omega, rfl, rfl, rfl, hQ, hD, hR, hF⟩) fun B109 hB109_ => ?_
                simp only [pickE, lookE, putE, zipE, args0, Nat.reduceAdd, Nat.zero_add, List.cons_append, List.nil_append, Nat.reduceBEq, cond_true, cond_false] at hB109_
                subst hB109_
                clear hQ hD hR hF
                rintro m_ vs_ w0_ ⟨j, xs, hj, rfl, rfl, hxl, hQ, hD, hR, hF⟩
                refine W_seq_k fun K110_ hK110_ => ?_
                refine W_region [some 149] rfl ?_
                refine Ops_step (R_lss rfl rfl) rfl rfl ?_
                refine Ops_nil ?_
                refine then_n (hK110_ _ _ ?_)
                clear hK110_ K110_
                refine W_seq_k fun K111_ hK111_ => ?_
                refine W_if rfl (fun hc149 => ?_) (fun hc149 => ?_)
                · refine W_skip ?_
                  refine then_n (hK111_ _ _ ?_)
                  clear hK111_ K111_
                  refine W_seq_k fun K112_ hK112_ => ?_
                  refine W_block ?_
                  refine W_seq_k fun K113_ hK113_ => ?_
                  refine W_region [some 150, some 18] rfl ?_
                  refine Ops_step (R_move rfl) rfl rfl ?_
                  refine Ops_step (R_assign rfl) rfl rfl ?_
                  refine Ops_nil ?_
                  refine then_n (hK113_ _ _ ?_)
                  clear hK113_ K113_
                  refine W_region [some 151, some 152, some 153, some 154, some 155, some 156, none] rfl ?_
                  refine Ops_step (R_move rfl) rfl rfl ?_
                  refine Ops_step (R_move rfl) rfl rfl ?_
                  refine Ops_step (R_indexSl Try.underlying24 TRf.sz5 rfl rfl (by omega) (by omega) (Rd.some (Own.rd hQ) (by omega))) rfl rfl ?_
                  refine Ops_step (R_load TRf.ag5 rfl (Rd.atB (Own.rd hQ) (by omega))) rfl rfl ?_
                  refine Ops_step (R_xor rfl rfl (xor8 _ (255 : UInt8))) rfl rfl ?_
                  refine Ops_step (R_indexSl Try.underlying24 TRf.sz5 rfl rfl (by omega) (by omega) (Rd.some (Own.rd hQ) (by omega))) rfl rfl ?_
                  have hof := hQ.off
                  refine Ops_to0 (R_storeOwnB TRf.sz5 rfl rfl hQ (by omega)) rfl ?_
                  clear hQ
                  rintro _ wst_ ⟨hQ, hFst_⟩
                  replace hF := hF.then hFst_ (fun i_ hi_ hj_ => absurd (hof i_ hi_) (by omega))
                  replace hD := hD.fr hFst_ (skAvoid hnD)
                  replace hR := hR.fr hFst_ (skAvoid hnR)
                  clear hFst_
                  refine Ops_nil ?_
                  refine block_n ?_
                  refine then_n (hK112_ _ _ ?_)
                  clear hK112_ K112_
                  refine W_keepB [5, 7, 13, 14, 47, 48, 49, 115, 116, 117, 118, 119, 141, 142, 143, 144, 147, 148] fun B115 hB115_ => ?_
                  simp only [pickE, lookE, putE, zipE, args0, Nat.reduceAdd, Nat.zero_add, List.cons_append, List.nil_append, Nat.reduceBEq, cond_true, cond_false] at hB115_
                  subst hB115_
                  refine W_region [some 157, some 148] rfl ?_
                  refine Ops_step (R_add rfl rfl (wIc (n := j + 1) (by omega) (by omega))) rfl rfl ?_
                  refine Ops_step (R_move rfl) rfl rfl ?_
                  refine Ops_nil ?_
                  exact ⟨(X.2.shown z).length - (j + 1), _, by omega, rfl, ⟨j + 1, _, by omega, rfl, rfl, by simp [hxl], hQ, hD, hR, hF⟩, ⟨rfl, rfl, rfl, rfl, rfl, rfl, rfl, rfl, rfl, rfl, rfl, rfl, rfl, rfl, rfl, rfl, rfl, trivial⟩⟩
                · refine W_exit ?_
                  refine then_exit ?_
                  clear hK111_ K111_
                  refine then_exit ?_
                  refine block_exit ?_
                  refine block_n ?_
                  refine then_n (hK100_ _ _ ?_)
                  clear hK100_ K100_
                  refine W_region [some 123, some 124, some 13] rfl ?_
                  replace hD := hD.any
                  replace hR := hR.any
                  clear hQ
                  refine Ops_step (R_move rfl) rfl rfl ?_
                  refine Ops_step (R_add rfl rfl (wI (by omega) (by omega))) rfl rfl ?_
                  refine Ops_step (R_assign rfl) rfl rfl ?_
                  refine Ops_nil ?_
                  exact ⟨(4 - (z + 1)).toNat, _, by omega, rfl, ⟨z + 1, by omega, by omega, rfl, rfl, hD, hR, hF⟩, ⟨rfl, rfl, rfl, rfl, rfl, rfl, rfl, rfl, rfl, rfl, trivial⟩⟩
              · refine W_exit ?_
                refine then_exit ?_
                clear hK98_ K98_
                refine then_exit ?_
                refine block_exit ?_
                refine block_n ?_
                refine then_n (hK18_ _ _ ?_)
                clear hK18_ K18_
                refine W_region [some 158, some 49] rfl ?_
                refine Ops_step (R_add rfl rfl (wIc (n := i + 1) (by omega) (by omega))) rfl rfl ?_
                refine Ops_step (R_move rfl) rfl rfl ?_
                refine Ops_nil ?_
                exact ⟨L.length - (i + 1), _, by omega, rfl, ⟨i + 1, X.2, Y.2, by omega, rfl, rfl, hst.2, hD, hR, hF⟩, ⟨rfl, rfl, rfl, rfl, trivial⟩⟩
            · refine W_seq_k fun K116_ hK116_ => ?_
              refine W_region [some 102, some 101] rfl ?_
              refine Ops_step (R_eql rfl rfl) rfl rfl ?_
              refine Ops_step (R_assign rfl) rfl rfl ?_
              refine Ops_nil ?_
              refine then_n (hK116_ _ _ ?_)
              clear hK116_ K116_
              refine W_keepB [5, 6, 7, 10, 47, 48, 49, 79, 101] fun B117 hB117_ => ?_
              simp only [pickE, lookE, putE, zipE, args0, Nat.reduceAdd, Nat.zero_add, List.cons_append, List.nil_append, Nat.reduceBEq, cond_true, cond_false] at hB117_
              subst hB117_
              refine W_if rfl (fun hc101 => ?_) (fun hc101 => ?_)
              · refine W_region [some 103, some 104, some 105, some 106, some 8] rfl ?_
                refine Ops_step (R_move rfl) rfl rfl ?_
                refine Ops_step (R_fieldAddr TRf.fo38_2 rfl) rfl rfl ?_
                refine Ops_step (R_loadB TRf.ag3 rfl hB10 rfl) rfl rfl ?_
                have hs106_ := hF.size
                have hd106_ := hR
                refine Ops_call (C_func TRf.bd27 rfl) rfl rfl ?_
                refine (rarm_any _ _ _ k.n hdo.2.2.2 _ hR).mono ?_
                rintro _ w106_ ⟨rfl, hR, hF106_⟩
                replace hF := hF.then hF106_ (by simp only [List.mem_singleton]; omega)
                replace hD := hD.fr hF106_ (skRsk (by omega) hd106_)
                replace hB10 := hB10.fr hF106_ (by simp only [List.mem_singleton]; omega)
                clear hF106_
                clear hd106_
                have hre : R.does k = R.arm k.n := by unfold Rk.does; rw [if_neg (by omega)]; rw [if_neg (by omega)]; rw [if_neg (by omega)]; rw [if_pos (by omega)]
                rw [← hre] at hR ⊢
                refine named (R.does k) fun Y eY => ?_
                rw [← eY] at hR hst ⊢
                clear eY hre
                refine ⟨_, rfl, ?_⟩
                refine Ops_step (R_assign rfl) rfl rfl ?_
                refine Ops_nil ?_
                refine block_n ?_
                refine then_n (hK36_ _ _ ?_)
                clear hK36_ K36_
                refine W_keepB [5, 6, 7, 8, 47, 48, 49] fun B118 hB118_ => ?_
                simp only [pickE, lookE, putE, zipE, args0, Nat.reduceAdd, Nat.zero_add, List.cons_append, List.nil_append, Nat.reduceBEq, cond_true, cond_false] at hB118_
                subst hB118_
                refine W_seq_k fun K119_ hK119_ => ?_
                refine W_seq_k fun K120_ hK120_ => ?_
                refine W_region [some 111, some 112, some 113, some 114, some 115, some 116, some 117, some 118, some 119, some 120] rfl ?_
                refine Ops_step (R_move rfl) rfl rfl ?_
                refine Ops_step (R_move rfl) rfl rfl ?_
                refine Ops_step (R_neq rfl rfl) rfl rfl ?_
                refine Ops_step (R_move rfl) rfl rfl ?_
                refine Ops_known (b := false) 114 rfl (decide_eq_false (fun h_ => h_ (by have h2_ := hst.1; omega))) ?_
                refine Ops_step (R_move rfl) rfl rfl ?_
                refine Ops_call (C_func TRf.bd19 rfl) rfl rfl ?_
                refine (used_any _ _ _ _ hD).mono ?_
                rintro _ wq116_ ⟨rfl, hq116_⟩
                replace hq116_ := hq116_.symm
                subst hq116_
                refine ⟨_, rfl, ?_⟩
                refine Ops_step (R_move rfl) rfl rfl ?_
                have hs118_ := hF.size
                refine Ops_call (C_func TRf.bd30 rfl) rfl rfl ?_
                refine (rused_any _ _ _ _ hR).mono ?_
                rintro _ w118_ ⟨rfl, hF118_⟩
                replace hF := hF.fr0 hF118_
                replace hD := hD.fr0 hF118_
                replace hR := hR.fr0 hF118_
                replace hB10 := hB10.fr0 hF118_
                clear hF118_
                
                refine ⟨_, rfl, ?_⟩
                refine Ops_step (R_neq rfl rfl) rfl rfl ?_
                refine Ops_step (R_pick_false rfl rfl) rfl rfl ?_
                refine Ops_nil ?_
                refine then_n (hK120_ _ _ ?_)
                clear hK120_ K120_
                refine W_keepB [5, 7, 47, 48, 49, 115, 116, 117, 118, 119, 120] fun B121 hB121_ => ?_
                simp only [pickE, lookE, putE, zipE, args0, Nat.reduceAdd, Nat.zero_add, List.cons_append, List.nil_append, Nat.reduceBEq, cond_true, cond_false] at hB121_
                subst hB121_
                refine W_no rfl (by have h_ := hst.2.used hD.ok.three; omega) ?_
                refine W_skip ?_
                refine then_n (hK119_ _ _ ?_)
                clear hK119_ K119_
                refine W_seq_k fun K122_ hK122_ => ?_
                refine W_region [some 13] rfl ?_
                refine Ops_step (R_assign rfl) rfl rfl ?_
                refine Ops_nil ?_
                refine then_n (hK122_ _ _ ?_)
                clear hK122_ K122_
                refine W_block ?_
                refine W_loopB [5, 7, 47, 48, 49, 115, 116, 117, 118, 119] [13] (fun m vs w' => ∃ z : Int, -1 ≤ z ∧ z ≤ 4 ∧ m = (4 - z).toNat ∧ vs = [vi z] ∧ Dsk w' (fun _ => True) d21 X.2 ∧ Rsk w' (fun _ => True) d26 Y.2 ∧ Fr [] w w') (5) _ rfl (⟨-1, by omega, by omega, rfl, rfl, hD, hR, hF⟩) fun B123 hB123_ => ?_
                simp only [pickE, lookE, putE, zipE, args0, Nat.reduceAdd, Nat.zero_add, List.cons_append, List.nil_append, Nat.reduceBEq, cond_true, cond_false] at hB123_
                subst hB123_
                clear hD hR hF hB10
                rintro m_ vs_ w0_ ⟨z, hz1, hz2, rfl, rfl, hD, hR, hF⟩
                refine W_seq_k fun K124_ hK124_ => ?_
                refine W_seq_k fun K125_ hK125_ => ?_
                refine W_region [some 121, some 122] rfl ?_
                refine Ops_step (R_move rfl) rfl rfl ?_
                refine Ops_step (R_leq rfl rfl) rfl rfl ?_
                refine Ops_nil ?_
                refine then_n (hK125_ _ _ ?_)
                clear hK125_ K125_
                refine W_if rfl (fun hc122 => ?_) (fun hc122 => ?_)
                · refine W_skip ?_
                  refine then_n (hK124_ _ _ ?_)
                  clear hK124_ K124_
                  refine W_seq_k fun K126_ hK126_ => ?_
                  refine W_block ?_
                  refine W_seq_k fun K127_ hK127_ => ?_
                  refine W_region [some 126, some 127, some 128, some 125, some 129, some 130, some 14, some 15] rfl ?_
                  refine Ops_step (R_move rfl) rfl rfl ?_
                  refine Ops_step (R_move rfl) rfl rfl ?_
                  have hs128_ := hF.size
                  replace hD := hD.old
                  replace hR := hR.old
                  have hd21lt := hD.lt
                  have hd26lt := hR.lt
                  refine Ops_call (C_func TRf.bd17 rfl) rfl rfl ?_
                  refine (read_any _ _ _ z _ hD).mono ?_
                  rintro _ w128_ ⟨A128, c128, rfl, hQ, hF128_⟩
                  replace hF := hF.fr0 hF128_
                  replace hD := hD.fr0 hF128_
                  replace hR := hR.fr0 hF128_
                  clear hF128_
                  have hoq := hQ.off
                  have hnD : d21 ∉ blkOf A128 := fun h_ => absurd (hoq _ h_) (by omega)
                  have hnR : d26 ∉ blkOf A128 := fun h_ => absurd (hoq _ h_) (by omega)
                  replace hD := hD.le (B' := fun i => i ∉ blkOf A128) fun i _ h_ hm => absurd (hoq i hm) (Nat.not_le.2 h_)
                  replace hR := hR.le (B' := fun i => i ∉ blkOf A128) fun i _ h_ hm => absurd (hoq i hm) (Nat.not_le.2 h_)
                  replace hQ := hQ.le hs128_
                  clear hoq
                  have hshl := shown_le hD.ok z
                  refine ⟨_, rfl, ?_⟩
                  refine Ops_step (R_move rfl) rfl rfl ?_
                  refine Ops_step (R_extract rfl rfl) rfl rfl ?_
                  refine Ops_step (R_extract rfl rfl) rfl rfl ?_
                  refine Ops_step (R_assign rfl) rfl rfl ?_
                  refine Ops_step (R_assign rfl) rfl rfl ?_
                  refine Ops_nil ?_
                  refine then_n (hK127_ _ _ ?_)
                  clear hK127_ K127_
                  refine W_keepB [5, 7, 13, 14, 15, 47, 48, 49, 115, 116, 117, 118, 119] fun B128 hB128_ => ?_
                  simp only [pickE, lookE, putE, zipE, args0, Nat.reduceAdd, Nat.zero_add, List.cons_append, List.nil_append, Nat.reduceBEq, cond_true, cond_false] at hB128_
                  subst hB128_
                  refine W_seq_k fun K129_ hK129_ => ?_
                  refine W_region [some 132, some 133, some 134, some 131, some 135, some 136, some 16, some 17] rfl ?_
                  refine Ops_step (R_move rfl) rfl rfl ?_
                  refine Ops_step (R_move rfl) rfl rfl ?_
                  refine Ops_call (C_func TRf.bd31 rfl) rfl rfl ?_
                  refine (rread_any _ _ _ z _ hR).mono ?_
                  rintro _ wq134_ ⟨A134, c134, rfl, hRd, hq134_⟩
                  replace hq134_ := hq134_.symm
                  subst hq134_
                  refine ⟨_, rfl, ?_⟩
                  refine Ops_step (R_move rfl) rfl rfl ?_
                  refine Ops_step (R_extract rfl rfl) rfl rfl ?_
                  refine Ops_step (R_extract rfl rfl) rfl rfl ?_
                  refine Ops_step (R_assign rfl) rfl rfl ?_
                  refine Ops_step (R_assign rfl) rfl rfl ?_
                  refine Ops_nil ?_
                  refine then_n (hK129_ _ _ ?_)
                  clear hK129_ K129_
                  refine W_keepB [5, 7, 13, 14, 15, 16, 17, 47, 48, 49, 115, 116, 117, 118, 119] fun B130 hB130_ => ?_
                  simp only [pickE, lookE, putE, zipE, args0, Nat.reduceAdd, Nat.zero_add, List.cons_append, List.nil_append, Nat.reduceBEq, cond_true, cond_false] at hB130_
                  subst hB130_
                  refine W_seq_k fun K131_ hK131_ => ?_
                  refine W_seq_k fun K132_ hK132_ => ?_
                  refine W_region [some 137, some 138, some 139, some 140, some 141, some 142, some 143, some 144, some 145] rfl ?_
                  refine Ops_step (R_move rfl) rfl rfl ?_
                  refine Ops_step (R_move rfl) rfl rfl ?_
                  refine Ops_step (R_neq rfl rfl) rfl rfl ?_
                  refine Ops_step (R_move rfl) rfl rfl ?_
                  refine Ops_known (b := false) 140 rfl (decide_eq_false (fun h_ => h_ (hst.2.able z).symm)) ?_
                  refine Ops_step (R_move rfl) rfl rfl ?_
                  refine Ops_step (R_move rfl) rfl rfl ?_
                  refine Ops_call (C_func TRf.bd22 rfl) rfl rfl ?_
                  refine (beq_any _ _ _ _ _ _ _ _ _ rfl rfl (Own.rd hQ) hRd).mono ?_
                  rintro _ wq143_ ⟨rfl, hq143_⟩
                  replace hq143_ := hq143_.symm
                  subst hq143_
                  refine ⟨_, rfl, ?_⟩
                  refine Ops_step (R_not' rfl) rfl rfl ?_
                  refine Ops_step (R_pick_false rfl rfl) rfl rfl ?_
                  refine Ops_nil ?_
                  refine then_n (hK132_ _ _ ?_)
                  clear hK132_ K132_
                  refine W_keepB [5, 7, 13, 14, 47, 48, 49, 115, 116, 117, 118, 119, 141, 142, 143, 144, 145] fun B133 hB133_ => ?_
                  simp only [pickE, lookE, putE, zipE, args0, Nat.reduceAdd, Nat.zero_add, List.cons_append, List.nil_append, Nat.reduceBEq, cond_true, cond_false] at hB133_
                  subst hB133_
                  refine W_no rfl (by rw [hst.2.shown z]; simp) ?_
                  refine W_skip ?_
                  refine then_n (hK131_ _ _ ?_)
                  clear hK131_ K131_
                  refine W_seq_k fun K134_ hK134_ => ?_
                  refine W_region [some 146, some 147, some 148] rfl ?_
                  refine Ops_step (R_move rfl) rfl rfl ?_
                  refine Ops_step (R_len Try.underlying24 rfl rfl) rfl rfl ?_
                  refine Ops_step (R_move rfl) rfl rfl ?_
                  refine Ops_nil ?_
                  refine then_n (hK134_ _ _ ?_)
                  clear hK134_ K134_
                  refine W_block ?_
                  refine W_loopB [5, 7, 13, 14, 47, 48, 49, 115, 116, 117, 118, 119, 141, 142, 143, 144, 147] [148] (fun m vs w' => ∃ j xs, j ≤ (X.2.shown z).length ∧ m = (X.2.shown z).length - j ∧ vs = [vi (j : Nat)] ∧ xs.length = (X.2.shown z).length ∧ OwnB w' w.heap.size 5 A128 c128 xs ∧ Dsk w' (fun i => i ∉ blkOf A128) d21 X.2 ∧ Rsk w' (fun i => i ∉ blkOf A128) d26 Y.2 ∧ Fr [] w w') ((X.2.shown z).length) _ rfl (⟨0, X.2.shown z, by omega, rfl, rfl, rfl, hQ, hD, hR, hF⟩) fun B135 hB135_ => ?_
                  simp only [pickE, lookE, putE, zipE, args0, Nat.reduceAdd, Nat.zero_add, List.cons_append, List.nil_append, Nat.reduceBEq, cond_true, cond_false] at hB135_
                  subst hB135_
                  clear hQ hD hR hF
                  rintro m_ vs_ w0_ ⟨j, xs, hj, rfl, rfl, hxl, hQ, hD, hR, hF⟩
                  refine W_seq_k fun K136_ hK136_ => ?_
                  refine W_region [some 149] rfl ?_
                  refine Ops_step (R_lss rfl rfl) rfl rfl ?_
                  refine Ops_nil ?_
                  refine then_n (hK136_ _ _ ?_)
                  clear hK136_ K136_
                  refine W_seq_k fun K137_ hK137_ => ?_
                  refine W_if rfl (fun hc149 => ?_) (fun hc149 => ?_)
                  · refine W_skip ?_
                    refine then_n (hK137_ _ _ ?_)
                    clear hK137_ K137_
                    refine W_seq_k fun K138_ hK138_ => ?_
                    refine W_block ?_
                    refine W_seq_k fun K139_ hK139_ => ?_
                    refine W_region [some 150, some 18] rfl ?_
                    refine Ops_step (R_move rfl) rfl rfl ?_
                    refine Ops_step (R_assign rfl) rfl rfl ?_
                    refine Ops_nil ?_
                    refine then_n (hK139_ _ _ ?_)
                    clear hK139_ K139_
                    refine W_region [some 151, some 152, some 153, some 154, some 155, some 156, none] rfl ?_
                    refine Ops_step (R_move rfl) rfl rfl ?_
                    refine Ops_step (R_move rfl) rfl rfl ?_
                    refine Ops_step (R_indexSl Try.underlying24 TRf.sz5 rfl rfl (by omega) (by omega) (Rd.some (Own.rd hQ) (by omega))) rfl rfl ?_
                    refine Ops_step (R_load TRf.ag5 rfl (Rd.atB (Own.rd hQ) (by omega))) rfl rfl ?_
                    refine Ops_step (R_xor rfl rfl (xor8 _ (255 : UInt8))) rfl rfl ?_
                    refine Ops_step (R_indexSl Try.underlying24 TRf.sz5 rfl rfl (by omega) (by omega) (Rd.some (Own.rd hQ) (by omega))) rfl rfl ?_
                    have hof := hQ.off
                    refine Ops_to0 (R_storeOwnB TRf.sz5 rfl rfl hQ (by omega)) rfl ?_
                    clear hQ
                    rintro _ wst_ ⟨hQ, hFst_⟩
                    replace hF := hF.then hFst_ (fun i_ hi_ hj_ => absurd (hof i_ hi_) (by omega))
                    replace hD := hD.fr hFst_ (skAvoid hnD)
                    replace hR := hR.fr hFst_ (skAvoid hnR)
                    clear hFst_
                    refine Ops_nil ?_
                    refine block_n ?_
                    refine then_n (hK138_ _ _ ?_)
                    clear hK138_ K138_
                    refine W_keepB [5, 7, 13, 14, 47, 48, 49, 115, 116, 117, 118, 119, 141, 142, 143, 144, 147, 148] fun B141 hB141_ => ?_
                    simp only [pickE, lookE, putE, zipE, args0, Nat.reduceAdd, Nat.zero_add, List.cons_append, List.nil_append, Nat.reduceBEq, cond_true, cond_false] at hB141_
                    subst hB141_
                    refine W_region [some 157, some 148] rfl ?_
                    refine Ops_step (R_add rfl rfl (wIc (n := j + 1) (by omega) (by omega))) rfl rfl ?_
                    refine Ops_step (R_move rfl) rfl rfl ?_
                    refine Ops_nil ?_
                    exact ⟨(X.2.shown z).length - (j + 1), _, by omega, rfl, ⟨j + 1, _, by omega, rfl, rfl, by simp [hxl], hQ, hD, hR, hF⟩, ⟨rfl, rfl, rfl, rfl, rfl, rfl, rfl, rfl, rfl, rfl, rfl, rfl, rfl, rfl, rfl, rfl, rfl, trivial⟩⟩
                  · refine W_exit ?_
                    refine then_exit ?_
                    clear hK137_ K137_
                    refine then_exit ?_
                    refine block_exit ?_
                    refine block_n ?_
                    refine then_n (hK126_ _ _ ?_)
                    clear hK126_ K126_
                    refine W_region [some 123, some 124, some 13] rfl ?_
                    replace hD := hD.any
                    replace hR := hR.any
                    clear hQ
                    refine Ops_step (R_move rfl) rfl rfl ?_
                    refine Ops_step (R_add rfl rfl (wI (by omega) (by omega))) rfl rfl ?_
                    refine Ops_step (R_assign rfl) rfl rfl ?_
                    refine Ops_nil ?_
                    exact ⟨(4 - (z + 1)).toNat, _, by omega, rfl, ⟨z + 1, by omega, by omega, rfl, rfl, hD, hR, hF⟩, ⟨rfl, rfl, rfl, rfl, rfl, rfl, rfl, rfl, rfl, rfl, trivial⟩⟩
                · refine W_exit ?_
                  refine then_exit ?_
                  clear hK124_ K124_
                  refine then_exit ?_
                  refine block_exit ?_
                  refine block_n ?_
                  refine then_n (hK18_ _ _ ?_)
                  clear hK18_ K18_
                  refine W_region [some 158, some 49] rfl ?_
                  refine Ops_step (R_add rfl rfl (wIc (n := i + 1) (by omega) (by omega))) rfl rfl ?_
                  refine Ops_step (R_move rfl) rfl rfl ?_
                  refine Ops_nil ?_
                  exact ⟨L.length - (i + 1), _, by omega, rfl, ⟨i + 1, X.2, Y.2, by omega, rfl, rfl, hst.2, hD, hR, hF⟩, ⟨rfl, rfl, rfl, rfl, trivial⟩⟩
              · refine W_seq_k fun K142_ hK142_ => ?_
                refine W_region [some 108, some 107] rfl ?_
                refine Ops_step (R_eql rfl rfl) rfl rfl ?_
                refine Ops_step (R_assign rfl) rfl rfl ?_
                refine Ops_nil ?_
                refine then_n (hK142_ _ _ ?_)
                clear hK142_ K142_
                refine W_if rfl (fun hc107 => ?_) (fun hc107 => ?_)
                · refine W_region [some 109, some 110, some 8] rfl ?_
                  refine Ops_step (R_move rfl) rfl rfl ?_
                  have hs110_ := hF.size
                  have hd110_ := hR
                  refine Ops_call (C_func TRf.bd28 rfl) rfl rfl ?_
                  refine (rdisarm_any _ _ _ _ hR).mono ?_
                  rintro _ w110_ ⟨rfl, hR, hF110_⟩
                  replace hF := hF.then hF110_ (by simp only [List.mem_singleton]; omega)
                  replace hD := hD.fr hF110_ (skRsk (by omega) hd110_)
                  replace hB10 := hB10.fr hF110_ (by simp only [List.mem_singleton]; omega)
                  clear hF110_
                  clear hd110_
                  have hre : R.does k = R.disarm := by unfold Rk.does; rw [if_neg (by omega)]; rw [if_neg (by omega)]; rw [if_neg (by omega)]; rw [if_neg (by omega)]; rw [if_pos (by omega)]
                  rw [← hre] at hR ⊢
                  refine named (R.does k) fun Y eY => ?_
                  rw [← eY] at hR hst ⊢
                  clear eY hre
                  refine ⟨_, rfl, ?_⟩
                  refine Ops_step (R_assign rfl) rfl rfl ?_
                  refine Ops_nil ?_
                  refine block_n ?_
                  refine then_n (hK36_ _ _ ?_)
                  clear hK36_ K36_
                  refine W_keepB [5, 6, 7, 8, 47, 48, 49] fun B143 hB143_ => ?_
                  simp only [pickE, lookE, putE, zipE, args0, Nat.reduceAdd, Nat.zero_add, List.cons_append, List.nil_append, Nat.reduceBEq, cond_true, cond_false] at hB143_
                  subst hB143_
                  refine W_seq_k fun K144_ hK144_ => ?_
                  refine W_seq_k fun K145_ hK145_ => ?_
                  refine W_region [some 111, some 112, some 113, some 114, some 115, some 116, some 117, some 118, some 119, some 120] rfl ?_
                  refine Ops_step (R_move rfl) rfl rfl ?_
                  refine Ops_step (R_move rfl) rfl rfl ?_
                  refine Ops_step (R_neq rfl rfl) rfl rfl ?_
                  refine Ops_step (R_move rfl) rfl rfl ?_
                  refine Ops_known (b := false) 114 rfl (decide_eq_false (fun h_ => h_ (by have h2_ := hst.1; omega))) ?_
                  refine Ops_step (R_move rfl) rfl rfl ?_
                  refine Ops_call (C_func TRf.bd19 rfl) rfl rfl ?_
                  refine (used_any _ _ _ _ hD).mono ?_
                  rintro _ wq116_ ⟨rfl, hq116_⟩
                  replace hq116_ := hq116_.symm
                  subst hq116_
                  refine ⟨_, rfl, ?_⟩
                  refine Ops_step (R_move rfl) rfl rfl ?_
                  have hs118_ := hF.size
                  refine Ops_call (C_func TRf.bd30 rfl) rfl rfl ?_
                  refine (rused_any _ _ _ _ hR).mono ?_
                  rintro _ w118_ ⟨rfl, hF118_⟩
                  replace hF := hF.fr0 hF118_
                  replace hD := hD.fr0 hF118_
                  replace hR := hR.fr0 hF118_
                  replace hB10 := hB10.fr0 hF118_
                  clear hF118_
                  
                  refine ⟨_, rfl, ?_⟩
                  refine Ops_step (R_neq rfl rfl) rfl rfl ?_
                  refine Ops_step (R_pick_false rfl rfl) rfl rfl ?_
                  refine Ops_nil ?_
                  refine then_n (hK145_ _ _ ?_)
                  clear hK145_ K145_
                  refine W_keepB [5, 7, 47, 48, 49, 115, 116, 117, 118, 119, 120] fun B146 hB146_ => ?_
                  simp only [pickE, lookE, putE, zipE, args0, Nat.reduceAdd, Nat.zero_add, List.cons_append, List.nil_append, Nat.reduceBEq, cond_true, cond_false] at hB146_
                  subst hB146_
                  refine W_no rfl (by have h_ := hst.2.used hD.ok.three; omega) ?_
                  refine W_skip ?_
                  refine then_n (hK144_ _ _ ?_)
                  clear hK144_ K144_
                  refine W_seq_k fun K147_ hK147_ => ?_
                  refine W_region [some 13] rfl ?_
                  refine Ops_step (R_assign rfl) rfl rfl ?_
                  refine Ops_nil ?_
                  refine then_n (hK147_ _ _ ?_)
                  clear hK147_ K147_
                  refine W_block ?_
                  refine W_loopB [5, 7, 47, 48, 49, 115, 116, 117, 118, 119] [13] (fun m vs w' => ∃ z : Int, -1 ≤ z ∧ z ≤ 4 ∧ m = (4 - z).toNat ∧ vs = [vi z] ∧ Dsk w' (fun _ => True) d21 X.2 ∧ Rsk w' (fun _ => True) d26 Y.2 ∧ Fr [] w w') (5) _ rfl (⟨-1, by omega, by omega, rfl, rfl, hD, hR, hF⟩) fun B148 hB148_ => ?_
                  simp only [pickE, lookE, putE, zipE, args0, Nat.reduceAdd, Nat.zero_add, List.cons_append, List.nil_append, Nat.reduceBEq, cond_true, cond_false] at hB148_
                  subst hB148_
                  clear hD hR hF hB10
                  rintro m_ vs_ w0_ ⟨z, hz1, hz2, rfl, rfl, hD, hR, hF⟩
                  refine W_seq_k fun K149_ hK149_ => ?_
                  refine W_seq_k fun K150_ hK150_ => ?_
                  refine W_region [some 121, some 122] rfl ?_
                  refine Ops_step (R_move rfl) rfl rfl ?_
                  refine Ops_step (R_leq rfl rfl) rfl rfl ?_
                  refine Ops_nil ?_
                  refine then_n (hK150_ _ _ ?_)
                  clear hK150_ K150_
                  refine W_if rfl (fun hc122 => ?_) (fun hc122 => ?_)
                  · refine W_skip ?_
                    refine then_n (hK149_ _ _ ?_)
                    clear hK149_ K149_
                    refine W_seq_k fun K151_ hK151_ => ?_
                    refine W_block ?_
                    refine W_seq_k fun K152_ hK152_ => ?_
                    refine W_region [some 126, some 127, some 128, some 125, some 129, some 130, some 14, some 15] rfl ?_
                    refine Ops_step (R_move rfl) rfl rfl ?_
                    refine Ops_step (R_move rfl) rfl rfl ?_
                    have hs128_ := hF.size
                    replace hD := hD.old
                    replace hR := hR.old
                    have hd21lt := hD.lt
                    have hd26lt := hR.lt
                    refine Ops_call (C_func TRf.bd17 rfl) rfl rfl ?_
                    refine (read_any _ _ _ z _ hD).mono ?_
                    rintro _ w128_ ⟨A128, c128, rfl, hQ, hF128_⟩
                    replace hF := hF.fr0 hF128_
                    replace hD := hD.fr0 hF128_
                    replace hR := hR.fr0 hF128_
                    clear hF128_
                    have hoq := hQ.off
                    have hnD : d21 ∉ blkOf A128 := fun h_ => absurd (hoq _ h_) (by omega)
                    have hnR : d26 ∉ blkOf A128 := fun h_ => absurd (hoq _ h_) (by omega)
                    replace hD := hD.le (B' := fun i => i ∉ blkOf A128) fun i _ h_ hm => absurd (hoq i hm) (Nat.not_le.2 h_)
                    replace hR := hR.le (B' := fun i => i ∉ blkOf A128) fun i _ h_ hm => absurd (hoq i hm) (Nat.not_le.2 h_)
                    replace hQ := hQ.le hs128_
                    clear hoq
                    have hshl := shown_le hD.ok z
                    refine ⟨_, rfl, ?_⟩
                    refine Ops_step (R_move rfl) rfl rfl ?_
                    refine Ops_step (R_extract rfl rfl) rfl rfl ?_
                    refine Ops_step (R_extract rfl rfl) rfl rfl ?_
                    refine Ops_step (R_assign rfl) rfl rfl ?_
                    refine Ops_step (R_assign rfl) rfl rfl ?_
                    refine Ops_nil ?_
                    refine then_n (hK152_ _ _ ?_)
                    clear hK152_ K152_
                    refine W_keepB [5, 7, 13, 14, 15, 47, 48, 49, 115, 116, 117, 118, 119] fun B153 hB153_ => ?_
                    simp only [pickE, lookE, putE, zipE, args0, Nat.reduceAdd, Nat.zero_add, List.cons_append, List.nil_append, Nat.reduceBEq, cond_true, cond_false] at hB153_
                    subst hB153_
                    refine W_seq_k fun K154_ hK154_ => ?_
                    refine W_region [some 132, some 133, some 134, some 131, some 135, some 136, some 16, some 17] rfl ?_
                    refine Ops_step (R_move rfl) rfl rfl ?_
                    refine Ops_step (R_move rfl) rfl rfl ?_
                    refine Ops_call (C_func TRf.bd31 rfl) rfl rfl ?_
                    refine (rread_any _ _ _ z _ hR).mono ?_
                    rintro _ wq134_ ⟨A134, c134, rfl, hRd, hq134_⟩
                    replace hq134_ := hq134_.symm
                    subst hq134_
                    refine ⟨_, rfl, ?_⟩
                    refine Ops_step (R_move rfl) rfl rfl ?_
                    refine Ops_step (R_extract rfl rfl) rfl rfl ?_
                    refine Ops_step (R_extract rfl rfl) rfl rfl ?_
                    refine Ops_step (R_assign rfl) rfl rfl ?_
                    refine Ops_step (R_assign rfl) rfl rfl ?_
                    refine Ops_nil ?_
                    refine then_n (hK154_ _ _ ?_)
                    clear hK154_ K154_
                    refine W_keepB [5, 7, 13, 14, 15, 16, 17, 47, 48, 49, 115, 116, 117, 118, 119] fun B155 hB155_ => ?_
                    simp only [pickE, lookE, putE, zipE, args0, Nat.reduceAdd, Nat.zero_add, List.cons_append, List.nil_append, Nat.reduceBEq, cond_true, cond_false] at hB155_
                    subst hB155_
                    refine W_seq_k fun K156_ hK156_ => ?_
                    refine W_seq_k fun K157_ hK157_ => ?_
                    refine W_region [some 137, some 138, some 139, some 140, some 141, some 142, some 143, some 144, some 145] rfl ?_
                    refine Ops_step (R_move rfl) rfl rfl ?_
                    refine Ops_step (R_move rfl) rfl rfl ?_
                    refine Ops_step (R_neq rfl rfl) rfl rfl ?_
                    refine Ops_step (R_move rfl) rfl rfl ?_
                    refine Ops_known (b := false) 140 rfl (decide_eq_false (fun h_ => h_ (hst.2.able z).symm)) ?_
                    refine Ops_step (R_move rfl) rfl rfl ?_
                    refine Ops_step (R_move rfl) rfl rfl ?_
                    refine Ops_call (C_func TRf.bd22 rfl) rfl rfl ?_
                    refine (beq_any _ _ _ _ _ _ _ _ _ rfl rfl (Own.rd hQ) hRd).mono ?_
                    rintro _ wq143_ ⟨rfl, hq143_⟩
                    replace hq143_ := hq143_.symm
                    subst hq143_
                    refine ⟨_, rfl, ?_⟩
                    refine Ops_step (R_not' rfl) rfl rfl ?_
                    refine Ops_step (R_pick_false rfl rfl) rfl rfl ?_
                    refine Ops_nil ?_
                    refine then_n (hK157_ _ _ ?_)
                    clear hK157_ K157_
                    refine W_keepB [5, 7, 13, 14, 47, 48, 49, 115, 116, 117, 118, 119, 141, 142, 143, 144, 145] fun B158 hB158_ => ?_
                    simp only [pickE, lookE, putE, zipE, args0, Nat.reduceAdd, Nat.zero_add, List.cons_append, List.nil_append, Nat.reduceBEq, cond_true, cond_false] at hB158_
                    subst hB158_
                    refine W_no rfl (by rw [hst.2.shown z]; simp) ?_
                    refine W_skip ?_
                    refine then_n (hK156_ _ _ ?_)
                    clear hK156_ K156_
                    refine W_seq_k fun K159_ hK159_ => ?_
                    refine W_region [some 146, some 147, some 148] rfl ?_
                    refine Ops_step (R_move rfl) rfl rfl ?_
                    refine Ops_step (R_len Try.underlying24 rfl rfl) rfl rfl ?_
                    refine Ops_step (R_move rfl) rfl rfl ?_
                    refine Ops_nil ?_
                    refine then_n (hK159_ _ _ ?_)
                    clear hK159_ K159_
                    refine W_block ?_
                    refine W_loopB [5, 7, 13, 14, 47, 48, 49, 115, 116, 117, 118, 119, 141, 142, 143, 144, 147] [148] (fun m vs w' => ∃ j xs, j ≤ (X.2.shown z).length ∧ m = (X.2.shown z).length - j ∧ vs = [vi (j : Nat)] ∧ xs.length = (X.2.shown z).length ∧ OwnB w' w.heap.size 5 A128 c128 xs ∧ Dsk w' (fun i => i ∉ blkOf A128) d21 X.2 ∧ Rsk w' (fun i => i ∉ blkOf A128) d26 Y.2 ∧ Fr [] w w') ((X.2.shown z).length) _ rfl (⟨0, X.2.shown z, by omega, rfl, rfl, rfl, hQ, hD, hR, hF⟩) fun B160 hB160_ => ?_
                    simp only [pickE, lookE, putE, zipE, args0, Nat.reduceAdd, Nat.zero_add, List.cons_append, List.nil_append, Nat.reduceBEq, cond_true, cond_false] at hB160_
                    subst hB160_
                    clear hQ hD hR hF
                    rintro m_ vs_ w0_ ⟨j, xs, hj, rfl, rfl, hxl, hQ, hD, hR, hF⟩
                    refine W_seq_k fun K161_ hK161_ => ?_
                    refine W_region [some 149] rfl ?_
                    refine Ops_step (R_lss rfl rfl) rfl rfl ?_
                    refine Ops_nil ?_
                    refine then_n (hK161_ _ _ ?_)
                    clear hK161_ K161_
                    refine W_seq_k fun K162_ hK162_ => ?_
                    refine W_if rfl (fun hc149 => ?_) (fun hc149 => ?_)
                    · refine W_skip ?_
                      refine then_n (hK162_ _ _ ?_)
                      clear hK162_ K162_
                      refine W_seq_k fun K163_ hK163_ => ?_
                      refine W_block ?_
                      refine W_seq_k fun K164_ hK164_ => ?_
                      refine W_region [some 150, some 18] rfl ?_
                      refine Ops_step (R_move rfl) rfl rfl ?_
                      refine Ops_step (R_assign rfl) rfl rfl ?_
                      refine Ops_nil ?_
                      refine then_n (hK164_ _ _ ?_)
                      clear hK164_ K164_
                      refine W_region [some 151, some 152, some 153, some 154, some 155, some 156, none] rfl ?_
                      refine Ops_step (R_move rfl) rfl rfl ?_
                      refine Ops_step (R_move rfl) rfl rfl ?_
                      refine Ops_step (R_indexSl Try.underlying24 TRf.sz5 rfl rfl (by omega) (by omega) (Rd.some (Own.rd hQ) (by omega))) rfl rfl ?_
                      refine Ops_step (R_load TRf.ag5 rfl (Rd.atB (Own.rd hQ) (by omega))) rfl rfl ?_
                      refine Ops_step (R_xor rfl rfl (xor8 _ (255 : UInt8))) rfl rfl ?_
                      refine Ops_step (R_indexSl Try.underlying24 TRf.sz5 rfl rfl (by omega) (by omega) (Rd.some (Own.rd hQ) (by omega))) rfl rfl ?_
                      have hof := hQ.off
                      refine Ops_to0 (R_storeOwnB TRf.sz5 rfl rfl hQ (by omega)) rfl ?_
                      clear hQ
                      rintro _ wst_ ⟨hQ, hFst_⟩
                      replace hF := hF.then hFst_ (fun i_ hi_ hj_ => absurd (hof i_ hi_) (by omega))
                      replace hD := hD.fr hFst_ (skAvoid hnD)
                      replace hR := hR.fr hFst_ (skAvoid hnR)
                      clear hFst_
                      refine Ops_nil ?_
                      refine block_n ?_
                      refine then_n (hK163_ _ _ ?_)
                      clear hK163_ K163_
                      refine W_keepB [5, 7, 13, 14, 47, 48, 49, 115, 116, 117, 118, 119, 141, 142, 143, 144, 147, 148] fun B166 hB166_ => ?_
                      simp only [pickE, lookE, putE, zipE, args0, Nat.reduceAdd, Nat.zero_add, List.cons_append, List.nil_append, Nat.reduceBEq, cond_true, cond_false] at hB166_
                      subst hB166_
                      refine W_region [some 157, some 148] rfl ?_
                      refine Ops_step (R_add rfl rfl (wIc (n := j + 1) (by omega) (by omega))) rfl rfl ?_
                      refine Ops_step (R_move rfl) rfl rfl ?_
                      refine Ops_nil ?_
                      exact ⟨(X.2.shown z).length - (j + 1), _, by omega, rfl, ⟨j + 1, _, by omega, rfl, rfl, by simp [hxl], hQ, hD, hR, hF⟩, ⟨rfl, rfl, rfl, rfl, rfl, rfl, rfl, rfl, rfl, rfl, rfl, rfl, rfl, rfl, rfl, rfl, rfl, trivial⟩⟩
                    · refine W_exit ?_
                      refine then_exit ?_
                      clear hK162_ K162_
                      refine then_exit ?_
                      refine block_exit ?_
                      refine block_n ?_
                      refine then_n (hK151_ _ _ ?_)
                      clear hK151_ K151_
                      refine W_region [some 123, some 124, some 13] rfl ?_
                      replace hD := hD.any
                      replace hR := hR.any
                      clear hQ
                      refine Ops_step (R_move rfl) rfl rfl ?_
                      refine Ops_step (R_add rfl rfl (wI (by omega) (by omega))) rfl rfl ?_
                      refine Ops_step (R_assign rfl) rfl rfl ?_
                      refine Ops_nil ?_
                      exact ⟨(4 - (z + 1)).toNat, _, by omega, rfl, ⟨z + 1, by omega, by omega, rfl, rfl, hD, hR, hF⟩, ⟨rfl, rfl, rfl, rfl, rfl, rfl, rfl, rfl, rfl, rfl, trivial⟩⟩
                  · refine W_exit ?_
                    refine then_exit ?_
                    clear hK149_ K149_
                    refine then_exit ?_
                    refine block_exit ?_
                    refine block_n ?_
                    refine then_n (hK18_ _ _ ?_)
                    clear hK18_ K18_
                    refine W_region [some 158, some 49] rfl ?_
                    refine Ops_step (R_add rfl rfl (wIc (n := i + 1) (by omega) (by omega))) rfl rfl ?_
                    refine Ops_step (R_move rfl) rfl rfl ?_
                    refine Ops_nil ?_
                    exact ⟨L.length - (i + 1), _, by omega, rfl, ⟨i + 1, X.2, Y.2, by omega, rfl, rfl, hst.2, hD, hR, hF⟩, ⟨rfl, rfl, rfl, rfl, trivial⟩⟩
                · refine W_region [some 80, some 81, some 82, some 83, some 84, some 85, some 8] rfl ?_
                  refine Ops_step (R_move rfl) rfl rfl ?_
                  refine Ops_step (R_fieldAddr TRf.fo38_1 rfl) rfl rfl ?_
                  refine Ops_step (R_loadB TRf.ag3 rfl hB10 rfl) rfl rfl ?_
                  refine Ops_step (R_fieldAddr TRf.fo38_3 rfl) rfl rfl ?_
                  refine Ops_step (R_loadB TRf.ag24 rfl hB10 rfl) rfl rfl ?_
                  have hs85_ := hF.size
                  have hd85_ := hR
                  refine Ops_call (C_func TRf.bd29 rfl) rfl rfl ?_
                  refine (rappend_any _ _ _ k.file Ai k.b ci _ hR (fun _ _ => trivial) (.old hdo.2.2.1 hF (by omega)) (by omega)).mono ?_
                  rintro _ w85_ ⟨rfl, hR, hF85_⟩
                  replace hF := hF.then hF85_ (by simp only [List.mem_singleton]; omega)
                  replace hD := hD.fr hF85_ (skRsk (by omega) hd85_)
                  replace hB10 := hB10.fr hF85_ (by simp only [List.mem_singleton]; omega)
                  clear hF85_
                  clear hd85_
                  have hre : R.does k = R.append k.file k.b := by unfold Rk.does; rw [if_neg (by omega)]; rw [if_neg (by omega)]; rw [if_neg (by omega)]; rw [if_neg (by omega)]; rw [if_neg (by omega)]
                  rw [← hre] at hR ⊢
                  refine named (R.does k) fun Y eY => ?_
                  rw [← eY] at hR hst ⊢
                  clear eY hre
                  refine ⟨_, rfl, ?_⟩
                  refine Ops_step (R_assign rfl) rfl rfl ?_
                  refine Ops_nil ?_
                  refine block_n ?_
                  refine then_n (hK36_ _ _ ?_)
                  clear hK36_ K36_
                  refine W_keepB [5, 6, 7, 8, 47, 48, 49] fun B167 hB167_ => ?_
                  simp only [pickE, lookE, putE, zipE, args0, Nat.reduceAdd, Nat.zero_add, List.cons_append, List.nil_append, Nat.reduceBEq, cond_true, cond_false] at hB167_
                  subst hB167_
                  refine W_seq_k fun K168_ hK168_ => ?_
                  refine W_seq_k fun K169_ hK169_ => ?_
                  refine W_region [some 111, some 112, some 113, some 114, some 115, some 116, some 117, some 118, some 119, some 120] rfl ?_
                  refine Ops_step (R_move rfl) rfl rfl ?_
                  refine Ops_step (R_move rfl) rfl rfl ?_
                  refine Ops_step (R_neq rfl rfl) rfl rfl ?_
                  refine Ops_step (R_move rfl) rfl rfl ?_
                  refine Ops_known (b := false) 114 rfl (decide_eq_false (fun h_ => h_ (by have h2_ := hst.1; omega))) ?_
                  refine Ops_step (R_move rfl) rfl rfl ?_
                  refine Ops_call (C_func TRf.bd19 rfl) rfl rfl ?_
                  refine (used_any _ _ _ _ hD).mono ?_
                  rintro _ wq116_ ⟨rfl, hq116_⟩
                  replace hq116_ := hq116_.symm
                  subst hq116_
                  refine ⟨_, rfl, ?_⟩
                  refine Ops_step (R_move rfl) rfl rfl ?_
                  have hs118_ := hF.size
                  refine Ops_call (C_func TRf.bd30 rfl) rfl rfl ?_
                  refine (rused_any _ _ _ _ hR).mono ?_
                  rintro _ w118_ ⟨rfl, hF118_⟩
                  replace hF := hF.fr0 hF118_
                  replace hD := hD.fr0 hF118_
                  replace hR := hR.fr0 hF118_
                  replace hB10 := hB10.fr0 hF118_
                  clear hF118_
                  
                  refine ⟨_, rfl, ?_⟩
                  refine Ops_step (R_neq rfl rfl) rfl rfl ?_
                  refine Ops_step (R_pick_false rfl rfl) rfl rfl ?_
                  refine Ops_nil ?_
                  refine then_n (hK169_ _ _ ?_)
                  clear hK169_ K169_
                  refine W_keepB [5, 7, 47, 48, 49, 115, 116, 117, 118, 119, 120] fun B170 hB170_ => ?_
                  simp only [pickE, lookE, putE, zipE, args0, Nat.reduceAdd, Nat.zero_add, List.cons_append, List.nil_append, Nat.reduceBEq, cond_true, cond_false] at hB170_
                  subst hB170_
                  refine W_no rfl (by have h_ := hst.2.used hD.ok.three; omega) ?_
                  refine W_skip ?_
                  refine then_n (hK168_ _ _ ?_)
                  clear hK168_ K168_
                  refine W_seq_k fun K171_ hK171_ => ?_
                  refine W_region [some 13] rfl ?_
                  refine Ops_step (R_assign rfl) rfl rfl ?_
                  refine Ops_nil ?_
                  refine then_n (hK171_ _ _ ?_)
                  clear hK171_ K171_
                  refine W_block ?_
                  refine W_loopB [5, 7, 47, 48, 49, 115, 116, 117, 118, 119] [13] (fun m vs w' => ∃ z : Int, -1 ≤ z ∧ z ≤ 4 ∧ m = (4 - z).toNat ∧ vs = [vi z] ∧ Dsk w' (fun _ => True) d21 X.2 ∧ Rsk w' (fun _ => True) d26 Y.2 ∧ Fr [] w w') (5) _ rfl (⟨-1, by omega, by omega, rfl, rfl, hD, hR, hF⟩) fun B172 hB172_ => ?_
                  simp only [pickE, lookE, putE, zipE, args0, Nat.reduceAdd, Nat.zero_add, List.cons_append, List.nil_append, Nat.reduceBEq, cond_true, cond_false] at hB172_
                  subst hB172_
                  clear hD hR hF hB10
                  rintro m_ vs_ w0_ ⟨z, hz1, hz2, rfl, rfl, hD, hR, hF⟩
                  refine W_seq_k fun K173_ hK173_ => ?_
                  refine W_seq_k fun K174_ hK174_ => ?_
                  refine W_region [some 121, some 122] rfl ?_
                  refine Ops_step (R_move rfl) rfl rfl ?_
                  refine Ops_step (R_leq rfl rfl) rfl rfl ?_
                  refine Ops_nil ?_
                  refine then_n (hK174_ _ _ ?_)
                  clear hK174_ K174_
                  refine W_if rfl (fun hc122 => ?_) (fun hc122 => ?_)
                  · refine W_skip ?_
                    refine then_n (hK173_ _ _ ?_)
                    clear hK173_ K173_
                    refine W_seq_k fun K175_ hK175_ => ?_
                    refine W_block ?_
                    refine W_seq_k fun K176_ hK176_ => ?_
                    refine W_region [some 126, some 127, some 128, some 125, some 129, some 130, some 14, some 15] rfl ?_
                    refine Ops_step (R_move rfl) rfl rfl ?_
                    refine Ops_step (R_move rfl) rfl rfl ?_
                    have hs128_ := hF.size
                    replace hD := hD.old
                    replace hR := hR.old
                    have hd21lt := hD.lt
                    have hd26lt := hR.lt
                    refine Ops_call (C_func TRf.bd17 rfl) rfl rfl ?_
                    refine (read_any _ _ _ z _ hD).mono ?_
                    rintro _ w128_ ⟨A128, c128, rfl, hQ, hF128_⟩
                    replace hF := hF.fr0 hF128_
                    replace hD := hD.fr0 hF128_
                    replace hR := hR.fr0 hF128_
                    clear hF128_
                    have hoq := hQ.off
                    have hnD : d21 ∉ blkOf A128 := fun h_ => absurd (hoq _ h_) (by omega)
                    have hnR : d26 ∉ blkOf A128 := fun h_ => absurd (hoq _ h_) (by omega)
                    replace hD := hD.le (B' := fun i => i ∉ blkOf A128) fun i _ h_ hm => absurd (hoq i hm) (Nat.not_le.2 h_)
                    replace hR := hR.le (B' := fun i => i ∉ blkOf A128) fun i _ h_ hm => absurd (hoq i hm) (Nat.not_le.2 h_)
                    replace hQ := hQ.le hs128_
                    clear hoq
                    have hshl := shown_le hD.ok z
                    refine ⟨_, rfl, ?_⟩
                    refine Ops_step (R_move rfl) rfl rfl ?_
                    refine Ops_step (R_extract rfl rfl) rfl rfl ?_
                    refine Ops_step (R_extract rfl rfl) rfl rfl ?_
                    refine Ops_step (R_assign rfl) rfl rfl ?_
                    refine Ops_step (R_assign rfl) rfl rfl ?_
                    refine Ops_nil ?_
                    refine then_n (hK176_ _ _ ?_)
                    clear hK176_ K176_
                    refine W_keepB [5, 7, 13, 14, 15, 47, 48, 49, 115, 116, 117, 118, 119] fun B177 hB177_ => ?_
                    simp only [pickE, lookE, putE, zipE, args0, Nat.reduceAdd, Nat.zero_add, List.cons_append, List.nil_append, Nat.reduceBEq, cond_true, cond_false] at hB177_
                    subst hB177_
                    refine W_seq_k fun K178_ hK178_ => ?_
                    refine W_region [some 132, some 133, some 134, some 131, some 135, some 136, some 16, some 17] rfl ?_
                    refine Ops_step (R_move rfl) rfl rfl ?_
                    refine Ops_step (R_move rfl) rfl rfl ?_
                    refine Ops_call (C_func TRf.bd31 rfl) rfl rfl ?_
                    refine (rread_any _ _ _ z _ hR).mono ?_
                    rintro _ wq134_ ⟨A134, c134, rfl, hRd, hq134_⟩
                    replace hq134_ := hq134_.symm
                    subst hq134_
                    refine ⟨_, rfl, ?_⟩
                    refine Ops_step (R_move rfl) rfl rfl ?_
                    refine Ops_step (R_extract rfl rfl) rfl rfl ?_
                    refine Ops_step (R_extract rfl rfl) rfl rfl ?_
                    refine Ops_step (R_assign rfl) rfl rfl ?_
                    refine Ops_step (R_assign rfl) rfl rfl ?_
                    refine Ops_nil ?_
                    refine then_n (hK178_ _ _ ?_)
                    clear hK178_ K178_
                    refine W_keepB [5, 7, 13, 14, 15, 16, 17, 47, 48, 49, 115, 116, 117, 118, 119] fun B179 hB179_ => ?_
                    simp only [pickE, lookE, putE, zipE, args0, Nat.reduceAdd, Nat.zero_add, List.cons_append, List.nil_append, Nat.reduceBEq, cond_true, cond_false] at hB179_
                    subst hB179_
                    refine W_seq_k fun K180_ hK180_ => ?_
                    refine W_seq_k fun K181_ hK181_ => ?_
                    refine W_region [some 137, some 138, some 139, some 140, some 141, some 142, some 143, some 144, some 145] rfl ?_
                    refine Ops_step (R_move rfl) rfl rfl ?_
                    refine Ops_step (R_move rfl) rfl rfl ?_
                    refine Ops_step (R_neq rfl rfl) rfl rfl ?_
                    refine Ops_step (R_move rfl) rfl rfl ?_
                    refine Ops_known (b := false) 140 rfl (decide_eq_false (fun h_ => h_ (hst.2.able z).symm)) ?_
                    refine Ops_step (R_move rfl) rfl rfl ?_
                    refine Ops_step (R_move rfl) rfl rfl ?_
                    refine Ops_call (C_func TRf.bd22 rfl) rfl rfl ?_
                    refine (beq_any _ _ _ _ _ _ _ _ _ rfl rfl (Own.rd hQ) hRd).mono ?_
                    rintro _ wq143_ ⟨rfl, hq143_⟩
                    replace hq143_ := hq143_.symm
                    subst hq143_
                    refine ⟨_, rfl, ?_⟩
                    refine Ops_step (R_not' rfl) rfl rfl ?_
                    refine Ops_step (R_pick_false rfl rfl) rfl rfl ?_
                    refine Ops_nil ?_
                    refine then_n (hK181_ _ _ ?_)
                    clear hK181_ K181_
                    refine W_keepB [5, 7, 13, 14, 47, 48, 49, 115, 116, 117, 118, 119, 141, 142, 143, 144, 145] fun B182 hB182_ => ?_
                    simp only [pickE, lookE, putE, zipE, args0, Nat.reduceAdd, Nat.zero_add, List.cons_append, List.nil_append, Nat.reduceBEq, cond_true, cond_false] at hB182_
                    subst hB182_
                    refine W_no rfl (by rw [hst.2.shown z]; simp) ?_
                    refine W_skip ?_
                    refine then_n (hK180_ _ _ ?_)
                    clear hK180_ K180_
                    refine W_seq_k fun K183_ hK183_ => ?_
                    refine W_region [some 146, some 147, some 148] rfl ?_
                    refine Ops_step (R_move rfl) rfl rfl ?_
                    refine Ops_step (R_len Try.underlying24 rfl rfl) rfl rfl ?_
                    refine Ops_step (R_move rfl) rfl rfl ?_
                    refine Ops_nil ?_
                    refine then_n (hK183_ _ _ ?_)
                    clear hK183_ K183_
                    refine W_block ?_
                    refine W_loopB [5, 7, 13, 14, 47, 48, 49, 115, 116, 117, 118, 119, 141, 142, 143, 144, 147] [148] (fun m vs w' => ∃ j xs, j ≤ (X.2.shown z).length ∧ m = (X.2.shown z).length - j ∧ vs = [vi (j : Nat)] ∧ xs.length = (X.2.shown z).length ∧ OwnB w' w.heap.size 5 A128 c128 xs ∧ Dsk w' (fun i => i ∉ blkOf A128) d21 X.2 ∧ Rsk w' (fun i => i ∉ blkOf A128) d26 Y.2 ∧ Fr [] w w') ((X.2.shown z).length) _ rfl (⟨0, X.2.shown z, by omega, rfl, rfl, rfl, hQ, hD, hR, hF⟩) fun B184 hB184_ => ?_
                    simp only [pickE, lookE, putE, zipE, args0, Nat.reduceAdd, Nat.zero_add, List.cons_append, List.nil_append, Nat.reduceBEq, cond_true, cond_false] at hB184_
                    subst hB184_
                    clear hQ hD hR hF
                    rintro m_ vs_ w0_ ⟨j, xs, hj, rfl, rfl, hxl, hQ, hD, hR, hF⟩
                    refine W_seq_k fun K185_ hK185_ => ?_
                    refine W_region [some 149] rfl ?_
                    refine Ops_step (R_lss rfl rfl) rfl rfl ?_
                    refine Ops_nil ?_
                    refine then_n (hK185_ _ _ ?_)
                    clear hK185_ K185_
                    refine W_seq_k fun K186_ hK186_ => ?_
                    refine W_if rfl (fun hc149 => ?_) (fun hc149 => ?_)
                    · refine W_skip ?_
                      refine then_n (hK186_ _ _ ?_)
                      clear hK186_ K186_
                      refine W_seq_k fun K187_ hK187_ => ?_
                      refine W_block ?_
                      refine W_seq_k fun K188_ hK188_ => ?_
                      refine W_region [some 150, some 18] rfl ?_
                      refine Ops_step (R_move rfl) rfl rfl ?_
                      refine Ops_step (R_assign rfl) rfl rfl ?_
                      refine Ops_nil ?_
                      refine then_n (hK188_ _ _ ?_)
                      clear hK188_ K188_
                      refine W_region [some 151, some 152, some 153, some 154, some 155, some 156, none] rfl ?_
                      refine Ops_step (R_move rfl) rfl rfl ?_
                      refine Ops_step (R_move rfl) rfl rfl ?_
                      refine Ops_step (R_indexSl Try.underlying24 TRf.sz5 rfl rfl (by omega) (by omega) (Rd.some (Own.rd hQ) (by omega))) rfl rfl ?_
                      refine Ops_step (R_load TRf.ag5 rfl (Rd.atB (Own.rd hQ) (by omega))) rfl rfl ?_
                      refine Ops_step (R_xor rfl rfl (xor8 _ (255 : UInt8))) rfl rfl ?_
                      refine Ops_step (R_indexSl Try.underlying24 TRf.sz5 rfl rfl (by omega) (by omega) (Rd.some (Own.rd hQ) (by omega))) rfl rfl ?_
                      have hof := hQ.off
                      refine Ops_to0 (R_storeOwnB TRf.sz5 rfl rfl hQ (by omega)) rfl ?_
                      clear hQ
                      rintro _ wst_ ⟨hQ, hFst_⟩
                      replace hF := hF.then hFst_ (fun i_ hi_ hj_ => absurd (hof i_ hi_) (by omega))
                      replace hD := hD.fr hFst_ (skAvoid hnD)
                      replace hR := hR.fr hFst_ (skAvoid hnR)
                      clear hFst_
                      refine Ops_nil ?_
                      refine block_n ?_
                      refine then_n (hK187_ _ _ ?_)
                      clear hK187_ K187_
                      refine W_keepB [5, 7, 13, 14, 47, 48, 49, 115, 116, 117, 118, 119, 141, 142, 143, 144, 147, 148] fun B190 hB190_ => ?_
                      simp only [pickE, lookE, putE, zipE, args0, Nat.reduceAdd, Nat.zero_add, List.cons_append, List.nil_append, Nat.reduceBEq, cond_true, cond_false] at hB190_
                      subst hB190_
                      refine W_region [some 157, some 148] rfl ?_
                      refine Ops_step (R_add rfl rfl (wIc (n := j + 1) (by omega) (by omega))) rfl rfl ?_
                      refine Ops_step (R_move rfl) rfl rfl ?_
                      refine Ops_nil ?_
                      exact ⟨(X.2.shown z).length - (j + 1), _, by omega, rfl, ⟨j + 1, _, by omega, rfl, rfl, by simp [hxl], hQ, hD, hR, hF⟩, ⟨rfl, rfl, rfl, rfl, rfl, rfl, rfl, rfl, rfl, rfl, rfl, rfl, rfl, rfl, rfl, rfl, rfl, trivial⟩⟩
                    · refine W_exit ?_
                      refine then_exit ?_
                      clear hK186_ K186_
                      refine then_exit ?_
                      refine block_exit ?_
                      refine block_n ?_
                      refine then_n (hK175_ _ _ ?_)
                      clear hK175_ K175_
                      refine W_region [some 123, some 124, some 13] rfl ?_
                      replace hD := hD.any
                      replace hR := hR.any
                      clear hQ
                      refine Ops_step (R_move rfl) rfl rfl ?_
                      refine Ops_step (R_add rfl rfl (wI (by omega) (by omega))) rfl rfl ?_
                      refine Ops_step (R_assign rfl) rfl rfl ?_
                      refine Ops_nil ?_
                      exact ⟨(4 - (z + 1)).toNat, _, by omega, rfl, ⟨z + 1, by omega, by omega, rfl, rfl, hD, hR, hF⟩, ⟨rfl, rfl, rfl, rfl, rfl, rfl, rfl, rfl, rfl, rfl, trivial⟩⟩
                  · refine W_exit ?_
                    refine then_exit ?_
                    clear hK173_ K173_
                    refine then_exit ?_
                    refine block_exit ?_
                    refine block_n ?_
                    refine then_n (hK18_ _ _ ?_)
                    clear hK18_ K18_
                    refine W_region [some 158, some 49] rfl ?_
                    refine Ops_step (R_add rfl rfl (wIc (n := i + 1) (by omega) (by omega))) rfl rfl ?_
                    refine Ops_step (R_move rfl) rfl rfl ?_
                    refine Ops_nil ?_
                    exact ⟨L.length - (i + 1), _, by omega, rfl, ⟨i + 1, X.2, Y.2, by omega, rfl, rfl, hst.2, hD, hR, hF⟩, ⟨rfl, rfl, rfl, rfl, trivial⟩⟩
    · refine W_exit ?_
      refine then_exit ?_
      clear hK17_ K17_
      refine then_exit ?_
      refine block_exit ?_
      refine then_n (hK13_ _ _ ?_)
      clear hK13_ K13_
      refine W_keepB [] fun B191 hB191_ => ?_
      simp only [pickE, lookE, putE, zipE, args0, Nat.reduceAdd, Nat.zero_add, List.cons_append, List.nil_append, Nat.reduceBEq, cond_true, cond_false] at hB191_
      subst hB191_
      refine W_seq_k fun K192_ hK192_ => ?_
      refine W_region [some 159, some 4] rfl ?_
      refine Ops_call (C_func TRf.bd11 rfl) rfl rfl ?_
      refine (awake_any _).mono ?_
      rintro _ w159_ ⟨rfl, hF159_⟩
      replace hF := hF.fr0 hF159_
      replace hD := hD.fr0 hF159_
      replace hR := hR.fr0 hF159_
      clear hF159_
      refine ⟨_, rfl, ?_⟩
      refine Ops_step (R_assign rfl) rfl rfl ?_
      refine Ops_nil ?_
      refine then_n (hK192_ _ _ ?_)
      clear hK192_ K192_
      refine W_ret ?_
      refine ⟨_, ⟨_, _, rfl, rfl, rfl⟩, ?_⟩
      exact ⟨rfl, hF⟩

end Go.Proofs.Ytijckogioombdaa
