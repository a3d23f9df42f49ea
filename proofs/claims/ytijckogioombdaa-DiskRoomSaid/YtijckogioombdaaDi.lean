/- What the walks of this seat show of Di. -/
import Derived.Test.YtijckogioombdaaDh
import Derived.Test.YtijckogioombdaaProg
set_option linter.unusedVariables false
set_option linter.unusedSimpArgs false
namespace Go.Proofs.Ytijckogioombdaa
open Go Go.Sx
namespace TDi
theorem hm : Try.prog.follows .mixedOrders = true := by kernel_rfl
theorem ag24 : aggB Try.prog 24 = some false := by kernel_rfl
theorem ag38 : aggB Try.prog 38 = some true := by kernel_rfl
theorem bd10 : bodied Try.prog 10 = true := by kernel_rfl
theorem bd11 : bodied Try.prog 11 = true := by kernel_rfl
theorem bd13 : bodied Try.prog 13 = true := by kernel_rfl
theorem bd18 : bodied Try.prog 18 = true := by kernel_rfl
theorem bd19 : bodied Try.prog 19 = true := by kernel_rfl
theorem bd20 : bodied Try.prog 20 = true := by kernel_rfl
theorem bd21 : bodied Try.prog 21 = true := by kernel_rfl
theorem bd22 : bodied Try.prog 22 = true := by kernel_rfl
theorem sz24 : sz Try.prog 24 = some 1 := by kernel_rfl
theorem sz30 : sz Try.prog 30 = some 3 := by kernel_rfl
theorem sz38 : sz Try.prog 38 = some 4 := by kernel_rfl
theorem zr30 : zr Try.prog 30 = some (List.replicate 3 (.slice none 0 0)) := by kernel_rfl
theorem zr38 : zr Try.prog 38 = some ([.int .i64 0] ++ [.int .i64 0] ++ [.int .i64 0] ++ [.slice none 0 0]) := by kernel_rfl
end TDi
set_option maxHeartbeats 4000000 in
theorem law_room (r : Int) (LA : Option Addr) (lc : Nat) (L : List Do) (w : World) (_wf : (Lit.int .i64 r).wf = true) (hL : RdDo w LA L) (hm : L.length * 48 ≤ 140737488351232) : Calls Try.prog 5 #[vi r, .slice LA L.length lc] w fun e w2 => e = .returned (.bool true) ∧ Fr [] w w2 := by
  have hF := Fr.refl [] w
  refine calls_W 64 Try.func5 rfl Try.ntmps5 rfl [.tmp 4] rfl ?_
  refine W_seq_k fun K1_ hK1_ => ?_
  refine W_region [some 4] rfl ?_
  refine Ops_step (R_assign rfl) rfl rfl ?_
  refine Ops_nil ?_
  refine then_n (hK1_ _ _ ?_)
  clear hK1_ K1_
  refine W_seq_k fun K2_ hK2_ => ?_
  refine W_seq_k fun K3_ hK3_ => ?_
  refine W_region [some 14, some 15, some 16] rfl ?_
  refine Ops_step (R_move rfl) rfl rfl ?_
  refine Ops_call (C_func TDi.bd10 rfl) rfl rfl ?_
  refine (short_any _ _ _ _ hL (by omega)).mono ?_
  rintro _ wq15_ ⟨r15, rfl, hr15, hq15_⟩
  replace hq15_ := hq15_.symm
  subst hq15_
  refine ⟨_, rfl, ?_⟩
  refine Ops_step (R_not rfl) rfl rfl ?_
  refine Ops_nil ?_
  refine then_n (hK3_ _ _ ?_)
  clear hK3_ K3_
  refine W_cond rfl (fun hc16 => ?_) (fun hc16 => ?_)
  · refine W_seq_k fun K4_ hK4_ => ?_
    refine W_region [some 17, some 4] rfl ?_
    refine Ops_call (C_func TDi.bd11 rfl) rfl rfl ?_
    refine (awake_any _).mono ?_
    rintro _ w17_ ⟨rfl, hF17_⟩
    replace hF := hF.fr0 hF17_
    clear hF17_
    refine ⟨_, rfl, ?_⟩
    refine Ops_step (R_assign rfl) rfl rfl ?_
    refine Ops_nil ?_
    refine then_n (hK4_ _ _ ?_)
    clear hK4_ K4_
    refine W_keepB [4] fun B5 hB5_ => ?_
    simp only [pickE, lookE, putE, zipE, args0, Nat.reduceAdd, Nat.zero_add, List.cons_append, List.nil_append, Nat.reduceBEq, cond_true, cond_false] at hB5_
    subst hB5_
    refine W_ret ?_
    refine then_ret ?_
    clear hK2_ K2_
    refine ⟨_, ⟨_, _, rfl, rfl, rfl⟩, ?_⟩
    exact ⟨rfl, hF⟩
  · refine W_skip ?_
    refine then_n (hK2_ _ _ ?_)
    clear hK2_ K2_
    refine W_seq_k fun K6_ hK6_ => ?_
    refine W_region [some 18, some 19, some 20, some 21, some 22, some 0] rfl ?_
    refine Ops_step (R_move rfl) rfl rfl ?_
    refine Ops_step (R_conv Try.underlying3 Try.underlying27 rfl (cI_64 _)) rfl rfl ?_
    refine Ops_step (R_rem rfl rfl (by decide) (remc _ 3000)) rfl rfl ?_
    refine Ops_step (R_conv Try.underlying27 Try.underlying3 rfl (wI (by omega) (by omega))) rfl rfl ?_
    refine Ops_step (R_add rfl rfl (wIc (n := 1 + (BitVec.ofInt 64 r).toNat % 3000) (by omega) (by omega))) rfl rfl ?_
    refine named (1 + (BitVec.ofInt 64 r).toNat % 3000) fun R eR => ?_
    rw [← eR]
    have hR1 : 1 ≤ R := by omega
    have hR2 : R ≤ 3000 := by omega
    refine Ops_step (R_assign rfl) rfl rfl ?_
    refine Ops_nil ?_
    refine then_n (hK6_ _ _ ?_)
    clear hK6_ K6_
    refine W_keepB [0, 1] fun B7 hB7_ => ?_
    simp only [pickE, lookE, putE, zipE, args0, Nat.reduceAdd, Nat.zero_add, List.cons_append, List.nil_append, Nat.reduceBEq, cond_true, cond_false] at hB7_
    subst hB7_
    refine W_seq_k fun K8_ hK8_ => ?_
    refine W_region [some 24, some 25, some 23, some 26, some 27, some 5, some 6] rfl ?_
    refine Ops_step (R_move rfl) rfl rfl ?_
    have hs25_ := hF.size
    refine Ops_call (C_func TDi.bd21 rfl) rfl rfl ?_
    refine (new_any R hR1 (by omega) _).mono ?_
    rintro _ w25_ ⟨d25, rfl, hD, hF25_⟩
    replace hF := hF.fr0 hF25_
    clear hF25_
    refine Exists.elim hD.name fun B_hD h_ => ?_
    clear hD
    have hBe_hD := h_.1
    have hD := h_.2
    clear h_
    have hge_hD := hD.ge
    refine ⟨_, rfl, ?_⟩
    refine Ops_step (R_move rfl) rfl rfl ?_
    refine Ops_step (R_extract rfl rfl) rfl rfl ?_
    refine Ops_step (R_extract rfl rfl) rfl rfl ?_
    refine Ops_step (R_assign rfl) rfl rfl ?_
    refine Ops_step (R_assign rfl) rfl rfl ?_
    refine Ops_nil ?_
    refine then_n (hK8_ _ _ ?_)
    clear hK8_ K8_
    refine W_keepB [0, 1, 5] fun B9 hB9_ => ?_
    simp only [pickE, lookE, putE, zipE, args0, Nat.reduceAdd, Nat.zero_add, List.cons_append, List.nil_append, Nat.reduceBEq, cond_true, cond_false] at hB9_
    subst hB9_
    refine W_seq_k fun K10_ hK10_ => ?_
    refine W_seq_k fun K11_ hK11_ => ?_
    refine W_region [some 28, some 29, some 30] rfl ?_
    refine Ops_step (R_move rfl) rfl rfl ?_
    refine Ops_step (R_len Try.underlying22 rfl rfl) rfl rfl ?_
    refine Ops_step (R_move rfl) rfl rfl ?_
    refine Ops_nil ?_
    refine then_n (hK11_ _ _ ?_)
    clear hK11_ K11_
    refine W_block ?_
    refine W_loopB [0, 5, 28, 29] [30] (fun m vs w' => ∃ i, i ≤ L.length ∧ m = L.length - i ∧ vs = [vi (i : Nat)] ∧ Dsk w' B_hD d25 (runs (Dk.new R) (L.take i)) ∧ Fr [] w w') (L.length) _ rfl (⟨0, by omega, rfl, rfl, hD, hF⟩) fun B12 hB12_ => ?_
    simp only [pickE, lookE, putE, zipE, args0, Nat.reduceAdd, Nat.zero_add, List.cons_append, List.nil_append, Nat.reduceBEq, cond_true, cond_false] at hB12_
    subst hB12_
    clear hD hF
    rintro m_ vs_ w0_ ⟨i, hi, rfl, rfl, hD, hF⟩
    refine W_seq_k fun K13_ hK13_ => ?_
    refine W_region [some 31] rfl ?_
    refine Ops_step (R_lss rfl rfl) rfl rfl ?_
    refine Ops_nil ?_
    refine then_n (hK13_ _ _ ?_)
    clear hK13_ K13_
    refine W_seq_k fun K14_ hK14_ => ?_
    refine W_if rfl (fun hc31 => ?_) (fun hc31 => ?_)
    · have hi1 : i < L.length := by omega
      have hx := hL i _ (List.getElem?_eq_getElem hi1)
      have htk := List.take_succ_eq_append_getElem hi1
      have hmem := List.getElem_mem hi1
      refine named L[i] fun k ek => ?_
      rw [← ek] at hx htk hmem
      obtain ⟨hs1, Ai, ci, hcs, hdo⟩ := hx
      refine named (runs (Dk.new R) (L.take i)) fun D1 eD1 => ?_
      rw [← eD1] at hD
      have hrm1 : D1.room = R := by rw [eD1, runs_room]; rfl
      have hrm2 : (D1.does k).2.room = R := by rw [does_room, hrm1]
      have hok1 := hD.ok
      have hT1 := hok1.three
      refine W_skip ?_
      refine then_n (hK14_ _ _ ?_)
      clear hK14_ K14_
      refine W_seq_k fun K15_ hK15_ => ?_
      refine W_block ?_
      refine W_seq_k fun K16_ hK16_ => ?_
      refine W_region [some 32, some 33, some 8, none] rfl ?_
      refine Ops_step (R_indexSl Try.underlying22 TDi.sz38 rfl rfl (by omega) (by omega) hs1) rfl rfl ?_
      refine Ops_step (R_loadCs (cs := doC k Ai ci) TDi.ag38 (by exact TDi.sz38) rfl (fun r v hr => Fr.cell hF (hcs r v hr) (by simp))) rfl rfl ?_
      have hz8_hF := hF.size
      have hn8_hD := hD.lt
      refine Ops_to (R_alloc TDi.zr38) rfl rfl ?_
      rintro _ w8_ ⟨b8, rfl, hb8, hB8, hF8_⟩
      have hl8 := hB8.lt
      replace hF := hF.fr0 hF8_
      replace hD := hD.fr0 hF8_
      clear hF8_
      have hb8_ := hB8
      refine Ops_to0 (R_storeN TDi.sz38 rfl rfl rfl hB8 (by decide) rfl) rfl ?_
      clear hB8
      rintro _ w17_ ⟨hB8, hF17_⟩
      replace hF := hF.then hF17_ (by simp only [List.mem_cons, List.not_mem_nil, or_false]; intro i_ hi_ hj_; omega)
      replace hD := hD.fr hF17_ (skOne (by omega) hb8_ (by decide))
      clear hF17_
      replace hB8 : Blk _ b8 38 (doC k Ai ci) := hB8.to (over4_ rfl)
      refine Ops_nil ?_
      refine then_n (hK16_ _ _ ?_)
      clear hK16_ K16_
      refine W_seq_k fun K18_ hK18_ => ?_
      refine W_region [some 34, some 35, some 9] rfl ?_
      refine Ops_step (R_move rfl) rfl rfl ?_
      have hs35_ := hF.size
      have hn35_hD := hD.lt
      have hn35_hB8 := hB8.lt
      refine Ops_call (C_func TDi.bd20 rfl) rfl rfl ?_
      refine (clone_any _ _ _ _ hD).mono ?_
      rintro _ w35_ ⟨d35, rfl, hge35, hE, hF35_⟩
      replace hF := hF.fr0 hF35_
      replace hD := hD.fr0 hF35_
      replace hB8 := hB8.fr0 hF35_
      clear hF35_
      
      refine ⟨_, rfl, ?_⟩
      refine Ops_step (R_assign rfl) rfl rfl ?_
      refine Ops_nil ?_
      refine then_n (hK18_ _ _ ?_)
      clear hK18_ K18_
      refine W_seq_k fun K19_ hK19_ => ?_
      refine W_region [some 36, some 37, some 38, some 10] rfl ?_
      refine Ops_step (R_move rfl) rfl rfl ?_
      refine Ops_step (R_loadW TDi.ag38 TDi.sz38 rfl hB8 rfl) rfl rfl ?_
      have hs38_ := hF.size
      have hd38_ := hD
      have hw38_ := hD.lt
      refine Ops_call (C_func TDi.bd18 rfl) rfl rfl ?_
      refine (does_any _ _ _ k Ai ci _ hD (RdY.old hdo.2.2.1 hF (by omega)) hdo.1 (Nat.le_trans hdo.1 hdo.2.1) hdo.2.2.2).mono ?_
      rintro _ w38_ ⟨rfl, hD, hF38_⟩
      replace hF := hF.then hF38_ (by simp only [List.mem_singleton]; omega)
      replace hE := hE.fr hF38_ (skDsk (by omega) hd38_)
      clear hF38_
      
      refine ⟨_, rfl, ?_⟩
      refine Ops_step (R_assign rfl) rfl rfl ?_
      refine Ops_nil ?_
      refine then_n (hK19_ _ _ ?_)
      clear hK19_ K19_
      refine W_keepB [0, 5, 9, 10, 28, 29, 30] fun B20 hB20_ => ?_
      simp only [pickE, lookE, putE, zipE, args0, Nat.reduceAdd, Nat.zero_add, List.cons_append, List.nil_append, Nat.reduceBEq, cond_true, cond_false] at hB20_
      subst hB20_
      refine W_seq_k fun K21_ hK21_ => ?_
      refine W_seq_k fun K22_ hK22_ => ?_
      refine W_region [some 39, some 40, some 41, some 42] rfl ?_
      refine Ops_step (R_move rfl) rfl rfl ?_
      refine Ops_call (C_func TDi.bd19 rfl) rfl rfl ?_
      refine (used_any _ _ _ _ hD).mono ?_
      rintro _ wq40_ ⟨rfl, hq40_⟩
      replace hq40_ := hq40_.symm
      subst hq40_
      refine ⟨_, rfl, ?_⟩
      refine Ops_step (R_move rfl) rfl rfl ?_
      refine Ops_step (R_gtr rfl rfl) rfl rfl ?_
      refine Ops_nil ?_
      refine then_n (hK22_ _ _ ?_)
      clear hK22_ K22_
      refine W_no rfl (by have h_ := hD.ok.used; omega) ?_
      refine W_skip ?_
      refine then_n (hK21_ _ _ ?_)
      clear hK21_ K21_
      refine W_seq_k fun K23_ hK23_ => ?_
      refine W_region [some 43, some 44] rfl ?_
      refine Ops_step (R_move rfl) rfl rfl ?_
      refine Ops_step (R_eql rfl rfl) rfl rfl ?_
      refine Ops_nil ?_
      refine then_n (hK23_ _ _ ?_)
      clear hK23_ K23_
      refine W_keepB [0, 5, 9, 28, 29, 30, 44] fun B24 hB24_ => ?_
      simp only [pickE, lookE, putE, zipE, args0, Nat.reduceAdd, Nat.zero_add, List.cons_append, List.nil_append, Nat.reduceBEq, cond_true, cond_false] at hB24_
      subst hB24_
      refine W_if rfl (fun hc44 => ?_) (fun hc44 => ?_)
      · have hsame := does_full D1 k (by omega)
        rw [hsame] at hD
        refine W_seq_k fun K25_ hK25_ => ?_
        refine W_region [some 45, some 46, some 47, some 48, some 49, some 11, some 12, none, none] rfl ?_
        refine Ops_step (R_move rfl) rfl rfl ?_
        have hs46_ := hF.size
        have hd46_ := hE
        have hw46_ := hE.lt
        refine Ops_call (C_func TDi.bd13 rfl) rfl rfl ?_
        refine (files_any _ _ _ _ hE).mono ?_
        rintro _ w46_ ⟨ps46, rfl, hpl46, hP, hE, hF46_⟩
        replace hF := hF.then hF46_ (by simp only [List.mem_singleton]; omega)
        replace hD := hD.fr hF46_ (skDsk (by omega) hd46_)
        clear hF46_
        replace hP := hP.le hs46_
        refine ⟨_, rfl, ?_⟩
        refine Ops_step (R_move rfl) rfl rfl ?_
        have hs48_ := hF.size
        have hn48_hD := hD.lt
        have hn48_hE := hE.lt
        refine Ops_call (C_func TDi.bd20 rfl) rfl rfl ?_
        refine (clone_any _ _ _ _ hD).mono ?_
        rintro _ w48_ ⟨d48, rfl, hge48, hG, hF48_⟩
        replace hF := hF.fr0 hF48_
        replace hD := hD.fr0 hF48_
        replace hE := hE.fr0 hF48_
        replace hP := hP.fr0 hF48_
        clear hF48_
        
        refine ⟨_, rfl, ?_⟩
        have hs49_ := hF.size
        have hd49_ := hG
        have hw49_ := hG.lt
        refine Ops_call (C_func TDi.bd13 rfl) rfl rfl ?_
        refine (files_any _ _ _ _ hG).mono ?_
        rintro _ w49_ ⟨ps49, rfl, hpl49, hP2, hG, hF49_⟩
        replace hF := hF.then hF49_ (by simp only [List.mem_singleton]; omega)
        replace hD := hD.fr hF49_ (skDsk (by omega) hd49_)
        replace hE := hE.fr hF49_ (skDsk (by omega) hd49_)
        replace hP := hP.fr hF49_ (fun i_ hi_ => by rw [List.mem_singleton.1 hi_]; obtain ⟨cs_, hb_⟩ := hd49_.blk; exact ⟨40, cs_, by decide, hb_⟩)
        clear hF49_
        replace hP2 := hP2.le hs49_
        refine ⟨_, rfl, ?_⟩
        have hz11_hF := hF.size
        have hn11_hD := hD.lt
        have hn11_hE := hE.lt
        have hn11_hG := hG.lt
        refine Ops_to (R_alloc TDi.zr30) rfl rfl ?_
        rintro _ w11_ ⟨b11, rfl, hb11, hB11, hF11_⟩
        have hl11 := hB11.lt
        replace hF := hF.fr0 hF11_
        replace hD := hD.fr0 hF11_
        replace hE := hE.fr0 hF11_
        replace hP := hP.fr0 hF11_
        replace hG := hG.fr0 hF11_
        replace hP2 := hP2.fr0 hF11_
        clear hF11_
        have hz12_hF := hF.size
        have hn12_hD := hD.lt
        have hn12_hE := hE.lt
        have hn12_hG := hG.lt
        have hn12_hB11 := hB11.lt
        refine Ops_to (R_alloc TDi.zr30) rfl rfl ?_
        rintro _ w12_ ⟨b12, rfl, hb12, hB12, hF12_⟩
        have hl12 := hB12.lt
        replace hF := hF.fr0 hF12_
        replace hD := hD.fr0 hF12_
        replace hE := hE.fr0 hF12_
        replace hP := hP.fr0 hF12_
        replace hG := hG.fr0 hF12_
        replace hP2 := hP2.fr0 hF12_
        replace hB11 := hB11.fr0 hF12_
        clear hF12_
        have hb11_ := hB11
        refine Ops_to0 (R_storeN TDi.sz30 (by rw [List.size_toArray, flC_len hpl46 hT1 (by omega)]) rfl rfl hB11 (by decide) (flC_one _ _)) rfl ?_
        clear hB11
        rintro _ w26_ ⟨hB11, hF26_⟩
        replace hF := hF.then hF26_ (by simp only [List.mem_cons, List.not_mem_nil, or_false]; intro i_ hi_ hj_; omega)
        replace hD := hD.fr hF26_ (skOne (by omega) hb11_ (by decide))
        replace hE := hE.fr hF26_ (skOne (by omega) hb11_ (by decide))
        replace hP := hP.fr hF26_ (fun i_ hi_ => by rw [List.mem_singleton.1 hi_]; exact ⟨30, _, by decide, hb11_⟩)
        replace hG := hG.fr hF26_ (skOne (by omega) hb11_ (by decide))
        replace hP2 := hP2.fr hF26_ (fun i_ hi_ => by rw [List.mem_singleton.1 hi_]; exact ⟨30, _, by decide, hb11_⟩)
        replace hB12 := hB12.fr hF26_ (by simp only [List.mem_cons, List.not_mem_nil, or_false]; omega)
        clear hF26_
        replace hB11 := hB11.to (cs' := flC ps46 D1.F) (over4_ (by rw [flC_len hpl46 hT1 (by omega)]; rfl))
        have hb12_ := hB12
        refine Ops_to0 (R_storeN TDi.sz30 (by rw [List.size_toArray, flC_len hpl49 hT1 (by omega)]) rfl rfl hB12 (by decide) (flC_one _ _)) rfl ?_
        clear hB12
        rintro _ w27_ ⟨hB12, hF27_⟩
        replace hF := hF.then hF27_ (by simp only [List.mem_cons, List.not_mem_nil, or_false]; intro i_ hi_ hj_; omega)
        replace hD := hD.fr hF27_ (skOne (by omega) hb12_ (by decide))
        replace hE := hE.fr hF27_ (skOne (by omega) hb12_ (by decide))
        replace hP := hP.fr hF27_ (fun i_ hi_ => by rw [List.mem_singleton.1 hi_]; exact ⟨30, _, by decide, hb12_⟩)
        replace hG := hG.fr hF27_ (skOne (by omega) hb12_ (by decide))
        replace hP2 := hP2.fr hF27_ (fun i_ hi_ => by rw [List.mem_singleton.1 hi_]; exact ⟨30, _, by decide, hb12_⟩)
        replace hB11 := hB11.fr hF27_ (by simp only [List.mem_cons, List.not_mem_nil, or_false]; omega)
        clear hF27_
        replace hB12 := hB12.to (cs' := flC ps49 D1.F) (over4_ (by rw [flC_len hpl49 hT1 (by omega)]; rfl))
        refine Ops_nil ?_
        refine then_n (hK25_ _ _ ?_)
        clear hK25_ K25_
        refine W_keepB [0, 5, 11, 12, 28, 29, 30] fun B28 hB28_ => ?_
        simp only [pickE, lookE, putE, zipE, args0, Nat.reduceAdd, Nat.zero_add, List.cons_append, List.nil_append, Nat.reduceBEq, cond_true, cond_false] at hB28_
        subst hB28_
        refine W_seq_k fun K29_ hK29_ => ?_
        refine W_region [some 50] rfl ?_
        refine Ops_step (R_move rfl) rfl rfl ?_
        refine Ops_nil ?_
        refine then_n (hK29_ _ _ ?_)
        clear hK29_ K29_
        refine W_block ?_
        refine W_loopB [0, 5, 11, 12, 28, 29, 30] [50] (fun m vs w' => ∃ j, j ≤ 3 ∧ m = 3 - j ∧ vs = [vi (j : Nat)] ∧ Blk w' b11 30 (flC ps46 D1.F) ∧ Blk w' b12 30 (flC ps49 D1.F) ∧ FlP w' w.heap.size ps46 D1.F ∧ FlP w' w.heap.size ps49 D1.F ∧ Dsk w' B_hD d25 D1 ∧ Fr [] w w') (3) _ rfl (⟨0, by omega, rfl, rfl, hB11, hB12, hP, hP2, hD, hF⟩) fun B30 hB30_ => ?_
        simp only [pickE, lookE, putE, zipE, args0, Nat.reduceAdd, Nat.zero_add, List.cons_append, List.nil_append, Nat.reduceBEq, cond_true, cond_false] at hB30_
        subst hB30_
        clear hB11 hB12 hP hP2 hD hF hE hG
        rintro m_ vs_ w0_ ⟨j, hj, rfl, rfl, hB11, hB12, hP, hP2, hD, hF⟩
        refine W_seq_k fun K31_ hK31_ => ?_
        refine W_region [some 51] rfl ?_
        refine Ops_step (R_lss rfl rfl) rfl rfl ?_
        refine Ops_nil ?_
        refine then_n (hK31_ _ _ ?_)
        clear hK31_ K31_
        refine W_seq_k fun K32_ hK32_ => ?_
        refine W_if rfl (fun hc51 => ?_) (fun hc51 => ?_)
        · refine W_skip ?_
          refine then_n (hK32_ _ _ ?_)
          clear hK32_ K32_
          refine W_seq_k fun K33_ hK33_ => ?_
          refine W_block ?_
          refine W_seq_k fun K34_ hK34_ => ?_
          refine W_region [some 52, some 13] rfl ?_
          refine Ops_step (R_move rfl) rfl rfl ?_
          refine Ops_step (R_assign rfl) rfl rfl ?_
          refine Ops_nil ?_
          refine then_n (hK34_ _ _ ?_)
          clear hK34_ K34_
          refine W_seq_k fun K35_ hK35_ => ?_
          refine W_drawF [some 53, some 54, some 55, some 56, some 57, some 58, some 59, some 60] [(0, true), (1, true), (2, true), (3, true), (4, true), (5, true), (6, false), (7, true)] TDi.hm rfl (by kernel_rfl) fun ops36_ w36_ hops36_ hF36_ => ?_
          replace hF := hF.fr0 hF36_
          replace hD := hD.fr0 hF36_
          replace hB11 := hB11.fr0 hF36_
          replace hB12 := hB12.fr0 hF36_
          replace hP := hP.fr0 hF36_
          replace hP2 := hP2.fr0 hF36_
          clear hF36_
          refine HS_pure (fun w_ => R_move rfl) rfl rfl ?_
          refine HS_pure (fun w_ => R_indexArr Try.underlying30 TDi.sz24 rfl rfl (by omega) (by omega)) rfl rfl ?_
          refine HS_loadB TDi.ag24 rfl hB11 (flC_get hpl46 hT1 (i := j) (by omega)) rfl rfl ?_
          refine HS_pure (fun w_ => R_move rfl) rfl rfl ?_
          refine HS_pure (fun w_ => R_indexArr Try.underlying30 TDi.sz24 rfl rfl (by omega) (by omega)) rfl rfl ?_
          refine HS_loadB TDi.ag24 rfl hB12 (flC_get hpl49 hT1 (i := j) (by omega)) rfl rfl ?_
          refine HS_call [] _ rfl (by rw [hops36_]; kernel_rfl) (C_func TDi.bd22 rfl) rfl rfl ?_
          refine (beq_any _ _ _ _ _ _ _ _ _ rfl rfl (hP j (by omega)).rd (hP2 j (by omega)).rd).mono ?_
          rintro _ wq59_ ⟨rfl, hq59_⟩
          replace hq59_ := hq59_.symm
          subst hq59_
          refine ⟨_, rfl, trivial, ?_⟩
          refine HS_pure (fun w_ => R_not' rfl) rfl rfl ?_
          refine HS_nil ?_
          clear hops36_
          refine then_n (hK35_ _ _ ?_)
          clear hK35_ K35_
          refine W_keepB [0, 5, 11, 12, 28, 29, 30, 50, 60] fun B37 hB37_ => ?_
          simp only [pickE, lookE, putE, zipE, args0, Nat.reduceAdd, Nat.zero_add, List.cons_append, List.nil_append, Nat.reduceBEq, cond_true, cond_false] at hB37_
          subst hB37_
          refine W_no rfl (by simp) ?_
          refine W_skip ?_
          refine block_n ?_
          refine then_n (hK33_ _ _ ?_)
          clear hK33_ K33_
          refine W_region [some 61, some 50] rfl ?_
          refine Ops_step (R_add rfl rfl (wIc (n := j + 1) (by omega) (by omega))) rfl rfl ?_
          refine Ops_step (R_move rfl) rfl rfl ?_
          refine Ops_nil ?_
          exact ⟨3 - (j + 1), _, by omega, rfl, ⟨j + 1, by omega, rfl, rfl, hB11, hB12, hP, hP2, hD, hF⟩, ⟨rfl, rfl, rfl, rfl, rfl, rfl, rfl, trivial⟩⟩
        · have hDn := hD.to (D' := runs (Dk.new R) (L.take (i + 1))) (by rw [htk, runs_app, ← eD1, hsame])
          refine W_exit ?_
          refine then_exit ?_
          clear hK32_ K32_
          refine then_exit ?_
          refine block_exit ?_
          refine block_n ?_
          refine then_n (hK15_ _ _ ?_)
          clear hK15_ K15_
          refine W_region [some 62, some 30] rfl ?_
          refine Ops_step (R_add rfl rfl (wIc (n := i + 1) (by omega) (by omega))) rfl rfl ?_
          refine Ops_step (R_move rfl) rfl rfl ?_
          refine Ops_nil ?_
          exact ⟨L.length - (i + 1), _, by omega, rfl, ⟨i + 1, by omega, rfl, rfl, hDn, hF⟩, ⟨rfl, rfl, rfl, rfl, trivial⟩⟩
      · have hDn := hD.to (D' := runs (Dk.new R) (L.take (i + 1))) (by rw [htk, runs_app, ← eD1])
        refine W_skip ?_
        refine block_n ?_
        refine then_n (hK15_ _ _ ?_)
        clear hK15_ K15_
        refine W_region [some 62, some 30] rfl ?_
        refine Ops_step (R_add rfl rfl (wIc (n := i + 1) (by omega) (by omega))) rfl rfl ?_
        refine Ops_step (R_move rfl) rfl rfl ?_
        refine Ops_nil ?_
        exact ⟨L.length - (i + 1), _, by omega, rfl, ⟨i + 1, by omega, rfl, rfl, hDn, hF⟩, ⟨rfl, rfl, rfl, rfl, trivial⟩⟩
    · refine W_exit ?_
      refine then_exit ?_
      clear hK14_ K14_
      refine then_exit ?_
      refine block_exit ?_
      refine then_n (hK10_ _ _ ?_)
      clear hK10_ K10_
      refine W_keepB [] fun B38 hB38_ => ?_
      simp only [pickE, lookE, putE, zipE, args0, Nat.reduceAdd, Nat.zero_add, List.cons_append, List.nil_append, Nat.reduceBEq, cond_true, cond_false] at hB38_
      subst hB38_
      refine W_seq_k fun K39_ hK39_ => ?_
      refine W_region [some 63, some 4] rfl ?_
      refine Ops_call (C_func TDi.bd11 rfl) rfl rfl ?_
      refine (awake_any _).mono ?_
      rintro _ w63_ ⟨rfl, hF63_⟩
      replace hF := hF.fr0 hF63_
      replace hD := hD.fr0 hF63_
      clear hF63_
      refine ⟨_, rfl, ?_⟩
      refine Ops_step (R_assign rfl) rfl rfl ?_
      refine Ops_nil ?_
      refine then_n (hK39_ _ _ ?_)
      clear hK39_ K39_
      refine W_ret ?_
      refine ⟨_, ⟨_, _, rfl, rfl, rfl⟩, ?_⟩
      exact ⟨rfl, hF⟩

end Go.Proofs.Ytijckogioombdaa
