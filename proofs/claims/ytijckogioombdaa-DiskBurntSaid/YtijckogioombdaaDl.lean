/- What the walks of this seat show of Dl. -/
import Derived.Test.YtijckogioombdaaFk
import Derived.Test.YtijckogioombdaaSx17
import Derived.Test.YtijckogioombdaaDj
import Derived.Test.YtijckogioombdaaProg
set_option linter.unusedVariables false
set_option linter.unusedSimpArgs false
namespace Go.Proofs.Ytijckogioombdaa
open Go Go.Sx
namespace TDl
theorem hm : Try.prog.follows .mixedOrders = true := by kernel_rfl
theorem ag24 : aggB Try.prog 24 = some false := by kernel_rfl
theorem bd10 : bodied Try.prog 10 = true := by kernel_rfl
theorem bd11 : bodied Try.prog 11 = true := by kernel_rfl
theorem bd12 : bodied Try.prog 12 = true := by kernel_rfl
theorem bd13 : bodied Try.prog 13 = true := by kernel_rfl
theorem bd14 : bodied Try.prog 14 = true := by kernel_rfl
theorem bd15 : bodied Try.prog 15 = true := by kernel_rfl
theorem bd16 : bodied Try.prog 16 = true := by kernel_rfl
theorem sz24 : sz Try.prog 24 = some 1 := by kernel_rfl
theorem sz30 : sz Try.prog 30 = some 3 := by kernel_rfl
theorem zr30 : zr Try.prog 30 = some (List.replicate 3 (.slice none 0 0)) := by kernel_rfl
end TDl
set_option maxHeartbeats 4000000 in
theorem law_burnt (LA : Option Addr) (lc : Nat) (L : List Do) (MA : Option Addr) (mc : Nat) (M : List (List UInt8)) (n : Int) (w : World) (hL : RdDo w LA L) (hm : L.length * 48 ≤ 140737488351232) (hM : RdLC w MA M) (hmm : M.length * 24 ≤ 140737488351232) (_wn : (Lit.int .i64 n).wf = true) : Calls Try.prog 3 #[.slice LA L.length lc, .slice MA M.length mc, vi n] w fun e w2 => e = .returned (.bool true) ∧ Fr [] w w2 := by
  have hF := Fr.refl [] w
  refine calls_W 108 Try.func3 rfl Try.ntmps3 rfl [.tmp 6] rfl ?_
  refine W_seq_k fun K1_ hK1_ => ?_
  refine W_region [some 6] rfl ?_
  refine Ops_step (R_assign rfl) rfl rfl ?_
  refine Ops_nil ?_
  refine then_n (hK1_ _ _ ?_)
  clear hK1_ K1_
  refine W_seq_k fun K2_ hK2_ => ?_
  refine W_region [some 7] rfl ?_
  refine Ops_step (R_assign rfl) rfl rfl ?_
  refine Ops_nil ?_
  refine then_n (hK2_ _ _ ?_)
  clear hK2_ K2_
  refine W_seq_k fun K3_ hK3_ => ?_
  refine W_seq_k fun K4_ hK4_ => ?_
  refine W_region [some 8] rfl ?_
  refine Ops_step (R_assign rfl) rfl rfl ?_
  refine Ops_nil ?_
  refine then_n (hK4_ _ _ ?_)
  clear hK4_ K4_
  refine W_block ?_
  refine W_loopB [0, 1, 2] [7, 8] (fun m vs w' => ∃ u i, i ≤ M.length ∧ m = M.length - i ∧ vs = [vi (u : Nat), vi (i : Nat)] ∧ u ≤ 40000 ∧ (u ≤ 16384 → (M.take i).flatten.length ≤ u) ∧ Fr [] w w') (M.length) _ rfl (⟨0, 0, by omega, rfl, rfl, by omega, fun _ => by simp, hF⟩) fun B5 hB5_ => ?_
  simp only [pickE, lookE, putE, zipE, args0, Nat.reduceAdd, Nat.zero_add, List.cons_append, List.nil_append, Nat.reduceBEq, cond_true, cond_false] at hB5_
  subst hB5_
  clear hF
  rintro m_ vs_ w0_ ⟨u, i, hi, rfl, rfl, hu1, hu, hF⟩
  refine W_seq_k fun K6_ hK6_ => ?_
  refine W_seq_k fun K7_ hK7_ => ?_
  refine W_region [some 17, some 18, some 19, some 20, some 21, some 22, some 23, some 24] rfl ?_
  refine Ops_step (R_move rfl) rfl rfl ?_
  refine Ops_step (R_move rfl) rfl rfl ?_
  refine Ops_step (R_len Try.underlying23 rfl rfl) rfl rfl ?_
  refine Ops_step (R_lss rfl rfl) rfl rfl ?_
  refine Ops_step (R_move rfl) rfl rfl ?_
  refine Ops_split 21 rfl (fun hg21 => ?_) (fun hg21 => ?_)
  · refine Ops_step (R_move rfl) rfl rfl ?_
    refine Ops_step (R_leq rfl rfl) rfl rfl ?_
    refine Ops_step (R_pick_true rfl rfl) rfl rfl ?_
    refine Ops_nil ?_
    refine then_n (hK7_ _ _ ?_)
    clear hK7_ K7_
    refine W_if rfl (fun hc24 => ?_) (fun hc24 => ?_)
    · have hi1 : i < M.length := by omega
      have hx := hM i _ (List.getElem?_eq_getElem hi1)
      have htk := sum_take hi1
      have htl := take_le (L := M) (i + 1)
      refine named M[i] fun bs ebs => ?_
      rw [← ebs] at hx htk
      obtain ⟨hs1, Ai, ci, hs3, hcc, hs4⟩ := hx
      rw [htk, List.length_append] at htl
      replace hs3 := (Fr.cell hF hs3 (by simp))
      refine W_skip ?_
      refine then_n (hK6_ _ _ ?_)
      clear hK6_ K6_
      refine W_keepB [0, 1, 2, 7, 8, 22, 23] fun B8 hB8_ => ?_
      simp only [pickE, lookE, putE, zipE, args0, Nat.reduceAdd, Nat.zero_add, List.cons_append, List.nil_append, Nat.reduceBEq, cond_true, cond_false] at hB8_
      subst hB8_
      refine W_seq_k fun K9_ hK9_ => ?_
      refine W_block ?_
      refine W_region [some 27, some 28, some 29, some 30, some 31, some 32, some 33, some 34, some 35, some 7] rfl ?_
      refine Ops_step (R_move rfl) rfl rfl ?_
      refine Ops_step (R_move rfl) rfl rfl ?_
      refine Ops_step (R_move rfl) rfl rfl ?_
      refine Ops_step (R_indexSl Try.underlying23 TDl.sz24 rfl rfl (by omega) (by omega) hs1) rfl rfl ?_
      refine Ops_step (R_load TDl.ag24 rfl (by simpa using hs3)) rfl rfl ?_
      refine Ops_step (R_len Try.underlying24 rfl rfl) rfl rfl ?_
      refine Ops_step (R_min rfl rfl (show _ = ((min bs.length 16384 : Nat) : Int) by omega)) rfl rfl ?_
      refine Ops_step (R_add rfl rfl (wIc (n := 1 + (min bs.length 16384)) (by omega) (by omega))) rfl rfl ?_
      refine Ops_step (R_add rfl rfl (wIc (n := u + (1 + (min bs.length 16384))) (by omega) (by omega))) rfl rfl ?_
      refine Ops_step (R_assign rfl) rfl rfl ?_
      refine Ops_nil ?_
      refine block_n ?_
      refine then_n (hK9_ _ _ ?_)
      clear hK9_ K9_
      refine W_keepB [0, 1, 2, 7, 8, 22, 23] fun B10 hB10_ => ?_
      simp only [pickE, lookE, putE, zipE, args0, Nat.reduceAdd, Nat.zero_add, List.cons_append, List.nil_append, Nat.reduceBEq, cond_true, cond_false] at hB10_
      subst hB10_
      refine W_region [some 25, some 26, some 8] rfl ?_
      refine Ops_step (R_move rfl) rfl rfl ?_
      refine Ops_step (R_add rfl rfl (wIc (n := i + 1) (by omega) (by omega))) rfl rfl ?_
      refine Ops_step (R_assign rfl) rfl rfl ?_
      refine Ops_nil ?_
      exact ⟨M.length - (i + 1), _, by omega, rfl, ⟨u + (1 + min bs.length 16384), i + 1, by omega, rfl, rfl, by omega, fun h_ => by rw [htk, List.length_append]; have h2_ := hu (by omega); omega, hF⟩, ⟨rfl, rfl, rfl, trivial⟩⟩
    · have hend : u ≤ 16384 → i = M.length := fun h_ => by omega
      refine W_exit ?_
      refine then_exit ?_
      clear hK6_ K6_
      refine then_exit ?_
      refine block_exit ?_
      refine then_n (hK3_ _ _ ?_)
      clear hK3_ K3_
      refine W_keepB [0, 1, 2, 7] fun B11 hB11_ => ?_
      simp only [pickE, lookE, putE, zipE, args0, Nat.reduceAdd, Nat.zero_add, List.cons_append, List.nil_append, Nat.reduceBEq, cond_true, cond_false] at hB11_
      subst hB11_
      refine W_seq_k fun K12_ hK12_ => ?_
      refine W_seq_k fun K13_ hK13_ => ?_
      refine W_region [some 36, some 37, some 38, some 39, some 40, some 41, some 42] rfl ?_
      refine Ops_step (R_move rfl) rfl rfl ?_
      refine Ops_call (C_func TDl.bd10 rfl) rfl rfl ?_
      refine (short_any _ _ _ _ (hL.fr0 hF) (by omega)).mono ?_
      rintro _ wq37_ ⟨r37, rfl, hr37, hq37_⟩
      replace hq37_ := hq37_.symm
      subst hq37_
      refine ⟨_, rfl, ?_⟩
      refine Ops_step (R_not rfl) rfl rfl ?_
      refine Ops_step (R_move rfl) rfl rfl ?_
      refine Ops_splitB 39 rfl (fun hg39 => ?_) (fun hg39 => ?_)
      · refine Ops_pass rfl rfl ?_
        refine Ops_pass rfl rfl ?_
        refine Ops_step (R_pick_true rfl rfl) rfl rfl ?_
        refine Ops_nil ?_
        refine then_n (hK13_ _ _ ?_)
        clear hK13_ K13_
        refine W_keepB [0, 1, 2, 42] fun B14 hB14_ => ?_
        simp only [pickE, lookE, putE, zipE, args0, Nat.reduceAdd, Nat.zero_add, List.cons_append, List.nil_append, Nat.reduceBEq, cond_true, cond_false] at hB14_
        subst hB14_
        refine W_cond_true rfl ?_
        refine W_seq_k fun K15_ hK15_ => ?_
        refine W_region [some 43, some 6] rfl ?_
        refine Ops_call (C_func TDl.bd11 rfl) rfl rfl ?_
        refine (awake_any _).mono ?_
        rintro _ w43_ ⟨rfl, hF43_⟩
        replace hF := hF.fr0 hF43_
        clear hF43_
        refine ⟨_, rfl, ?_⟩
        refine Ops_step (R_assign rfl) rfl rfl ?_
        refine Ops_nil ?_
        refine then_n (hK15_ _ _ ?_)
        clear hK15_ K15_
        refine W_ret ?_
        refine then_ret ?_
        clear hK12_ K12_
        refine ⟨_, ⟨_, _, rfl, rfl, rfl⟩, ?_⟩
        exact ⟨rfl, hF⟩
      · refine Ops_step (R_move rfl) rfl rfl ?_
        refine Ops_step (R_gtr rfl rfl) rfl rfl ?_
        refine Ops_step (R_pick_false rfl rfl) rfl rfl ?_
        refine Ops_nil ?_
        refine then_n (hK13_ _ _ ?_)
        clear hK13_ K13_
        refine W_keepB [0, 1, 2, 42] fun B16 hB16_ => ?_
        simp only [pickE, lookE, putE, zipE, args0, Nat.reduceAdd, Nat.zero_add, List.cons_append, List.nil_append, Nat.reduceBEq, cond_true, cond_false] at hB16_
        subst hB16_
        refine W_if rfl (fun hc42 => ?_) (fun hc42 => ?_)
        · refine W_seq_k fun K17_ hK17_ => ?_
          refine W_region [some 43, some 6] rfl ?_
          refine Ops_call (C_func TDl.bd11 rfl) rfl rfl ?_
          refine (awake_any _).mono ?_
          rintro _ w43_ ⟨rfl, hF43_⟩
          replace hF := hF.fr0 hF43_
          clear hF43_
          refine ⟨_, rfl, ?_⟩
          refine Ops_step (R_assign rfl) rfl rfl ?_
          refine Ops_nil ?_
          refine then_n (hK17_ _ _ ?_)
          clear hK17_ K17_
          refine W_ret ?_
          refine then_ret ?_
          clear hK12_ K12_
          refine ⟨_, ⟨_, _, rfl, rfl, rfl⟩, ?_⟩
          exact ⟨rfl, hF⟩
        · have hsh := hr37 (by simpa using hg39)
          have hil : i = M.length := hend (by omega)
          clear hend
          subst hil
          have hMl := hu (by omega)
          rw [List.take_length] at hMl
          refine W_skip ?_
          refine then_n (hK12_ _ _ ?_)
          clear hK12_ K12_
          refine W_seq_k fun K18_ hK18_ => ?_
          refine W_region [some 44, some 45, some 46, some 47, some 48, some 2] rfl ?_
          refine Ops_step (R_move rfl) rfl rfl ?_
          refine Ops_step (R_conv Try.underlying3 Try.underlying27 rfl (cI_64 _)) rfl rfl ?_
          refine Ops_step (R_rem rfl rfl (by decide) (remc _ 200)) rfl rfl ?_
          refine Ops_step (R_conv Try.underlying27 Try.underlying3 rfl (wI (by omega) (by omega))) rfl rfl ?_
          refine Ops_step (R_add rfl rfl (wIc (n := 1 + (BitVec.ofInt 64 n).toNat % 200) (by omega) (by omega))) rfl rfl ?_
          refine Ops_step (R_assign rfl) rfl rfl ?_
          refine Ops_nil ?_
          refine then_n (hK18_ _ _ ?_)
          clear hK18_ K18_
          refine W_keepB [0, 1, 2] fun B19 hB19_ => ?_
          simp only [pickE, lookE, putE, zipE, args0, Nat.reduceAdd, Nat.zero_add, List.cons_append, List.nil_append, Nat.reduceBEq, cond_true, cond_false] at hB19_
          subst hB19_
          refine W_seq_k fun K20_ hK20_ => ?_
          refine W_region [some 49, some 50, some 9] rfl ?_
          refine named (1 + (BitVec.ofInt 64 n).toNat % 200) fun N eN => ?_
          rw [← eN]
          have hN1 : 1 ≤ N := by omega
          have hN2 : N ≤ 200 := by omega
          clear eN
          refine Ops_step (R_move rfl) rfl rfl ?_
          have hs50_ := hF.size
          refine Ops_call (C_func TDl.bd12 rfl) rfl rfl ?_
          refine (made_any 4194304 (by decide) (by decide) _ L _ _ (hL.fr0 hF) (by omega)).mono ?_
          rintro _ w50_ ⟨d50, rfl, hD, hF50_⟩
          replace hF := hF.fr0 hF50_
          clear hF50_
          refine Exists.elim hD.name fun B_hD h_ => ?_
          clear hD
          have hBe_hD := h_.1
          have hD := h_.2
          clear h_
          have hge_hD := hD.ge
          refine named (runs (Dk.new 4194304) L) fun D1 eD1 => ?_
          rw [← eD1] at hD
          have hT1 := hD.ok.three
          have hrm1 : D1.room = 4194304 := by rw [eD1, runs_room]; rfl
          have hus1 : D1.used ≤ 16384 := by have h_ := runs_used L (Dk.new 4194304); rw [← eD1] at h_; have h2_ : (Dk.new 4194304).used = 0 := rfl; omega
          have hspec := Burnt.start (D := D1) hN1
          refine ⟨_, rfl, ?_⟩
          refine Ops_step (R_assign rfl) rfl rfl ?_
          refine Ops_nil ?_
          refine then_n (hK20_ _ _ ?_)
          clear hK20_ K20_
          refine W_seq_k fun K21_ hK21_ => ?_
          refine W_region [some 51, some 52, some 10, none] rfl ?_
          refine Ops_step (R_move rfl) rfl rfl ?_
          have hs52_ := hF.size
          have hd52_ := hD
          have hw52_ := hD.lt
          refine Ops_call (C_func TDl.bd13 rfl) rfl rfl ?_
          refine (files_any _ _ _ _ hD).mono ?_
          rintro _ w52_ ⟨ps52, rfl, hpl52, hP, hD, hF52_⟩
          replace hF := hF.then hF52_ (by simp only [List.mem_singleton]; omega)
          clear hF52_
          replace hP := hP.le hs52_
          refine ⟨_, rfl, ?_⟩
          have hz10_hF := hF.size
          have hn10_hD := hD.lt
          refine Ops_to (R_alloc TDl.zr30) rfl rfl ?_
          rintro _ w10_ ⟨b10, rfl, hb10, hB10, hF10_⟩
          have hl10 := hB10.lt
          replace hF := hF.fr0 hF10_
          replace hD := hD.fr0 hF10_
          replace hP := hP.fr0 hF10_
          clear hF10_
          have hb10_ := hB10
          refine Ops_to0 (R_storeN TDl.sz30 (by rw [List.size_toArray, flC_len hpl52 hT1 (by omega)]) rfl rfl hB10 (by decide) (flC_one _ _)) rfl ?_
          clear hB10
          rintro _ w22_ ⟨hB10, hF22_⟩
          replace hF := hF.then hF22_ (by simp only [List.mem_cons, List.not_mem_nil, or_false]; intro i_ hi_ hj_; omega)
          replace hD := hD.fr hF22_ (skOne (by omega) hb10_ (by decide))
          replace hP := hP.fr hF22_ (fun i_ hi_ => by rw [List.mem_singleton.1 hi_]; exact ⟨30, _, by decide, hb10_⟩)
          clear hF22_
          replace hB10 := hB10.to (cs' := flC ps52 D1.F) (over4_ (by rw [flC_len hpl52 hT1 (by omega)]; rfl))
          refine Ops_nil ?_
          refine then_n (hK21_ _ _ ?_)
          clear hK21_ K21_
          refine W_seq_k fun K23_ hK23_ => ?_
          refine W_region [some 53, some 54] rfl ?_
          refine Ops_step (R_move rfl) rfl rfl ?_
          have hs54_ := hF.size
          have hd54_ := hD
          have hw54_ := hD.lt
          have hb10lt := hB10.lt
          refine Ops_call (C_func TDl.bd14 rfl) rfl rfl ?_
          refine (disarm_any _ _ _ _ hD).mono ?_
          rintro _ w54_ ⟨rfl, hD, hF54_⟩
          replace hF := hF.then hF54_ (by simp only [List.mem_singleton]; omega)
          replace hP := hP.fr hF54_ (fun i_ hi_ => by rw [List.mem_singleton.1 hi_]; obtain ⟨cs_, hb_⟩ := hd54_.blk; exact ⟨40, cs_, by decide, hb_⟩)
          replace hB10 := hB10.fr hF54_ (by simp only [List.mem_singleton]; omega)
          clear hF54_
          
          refine ⟨_, rfl, ?_⟩
          refine Ops_nil ?_
          refine then_n (hK23_ _ _ ?_)
          clear hK23_ K23_
          refine W_keepB [1, 2, 9, 10] fun B24 hB24_ => ?_
          simp only [pickE, lookE, putE, zipE, args0, Nat.reduceAdd, Nat.zero_add, List.cons_append, List.nil_append, Nat.reduceBEq, cond_true, cond_false] at hB24_
          subst hB24_
          refine W_seq_k fun K25_ hK25_ => ?_
          refine W_seq_k fun K26_ hK26_ => ?_
          refine W_region [some 55, some 56, some 57, some 58] rfl ?_
          refine Ops_step (R_move rfl) rfl rfl ?_
          refine Ops_step (R_move rfl) rfl rfl ?_
          have hs57_ := hF.size
          have hd57_ := hD
          have hw57_ := hD.lt
          refine Ops_call (C_func TDl.bd15 rfl) rfl rfl ?_
          refine (arm_any _ _ _ N (by omega) _ hD).mono ?_
          rintro _ w57_ ⟨rfl, hD, hF57_⟩
          replace hF := hF.then hF57_ (by simp only [List.mem_singleton]; omega)
          replace hP := hP.fr hF57_ (fun i_ hi_ => by rw [List.mem_singleton.1 hi_]; obtain ⟨cs_, hb_⟩ := hd57_.blk; exact ⟨40, cs_, by decide, hb_⟩)
          replace hB10 := hB10.fr hF57_ (by simp only [List.mem_singleton]; omega)
          clear hF57_
          
          refine ⟨_, rfl, ?_⟩
          refine Ops_step (R_neq rfl rfl) rfl rfl ?_
          refine Ops_nil ?_
          refine then_n (hK26_ _ _ ?_)
          clear hK26_ K26_
          refine W_no rfl (by rw [hspec.1]; decide) ?_
          refine W_skip ?_
          refine then_n (hK25_ _ _ ?_)
          clear hK25_ K25_
          refine W_seq_k fun K27_ hK27_ => ?_
          refine W_region [some 11, some 12] rfl ?_
          refine named (D1.start.2.disarm.2.arm (N : Int)).2 fun X0 eX0 => ?_
          have hbt := hspec.2
          rw [← eX0] at hD hbt
          clear eX0
          refine Ops_step (R_assign rfl) rfl rfl ?_
          refine Ops_step (R_assign rfl) rfl rfl ?_
          refine Ops_nil ?_
          refine then_n (hK27_ _ _ ?_)
          clear hK27_ K27_
          refine W_seq_k fun K28_ hK28_ => ?_
          refine W_seq_k fun K29_ hK29_ => ?_
          refine W_region [some 59, some 60, some 61] rfl ?_
          refine Ops_step (R_move rfl) rfl rfl ?_
          refine Ops_step (R_len Try.underlying23 rfl rfl) rfl rfl ?_
          refine Ops_step (R_move rfl) rfl rfl ?_
          refine Ops_nil ?_
          refine then_n (hK29_ _ _ ?_)
          clear hK29_ K29_
          refine W_block ?_
          refine W_loopB [2, 9, 10, 59, 60] [11, 12, 61] (fun m vs w' => ∃ i X, i ≤ M.length ∧ m = M.length - i ∧ vs = [vi ((M.take i).flatten.length : Nat), .bool (decide (N ≤ (M.take i).flatten.length)), vi (i : Nat)] ∧ Burnt D1 X N (M.take i).flatten.length ∧ Dsk w' B_hD d50 X ∧ Blk w' b10 30 (flC ps52 D1.F) ∧ FlP w' w.heap.size ps52 D1.F ∧ Fr [] w w') (M.length) _ rfl (⟨0, X0, by omega, rfl, by rw [decide_eq_false (show ¬ N ≤ (M.take 0).flatten.length by simp; omega)]; rfl, hbt, hD, hB10, hP, hF⟩) fun B30 hB30_ => ?_
          simp only [pickE, lookE, putE, zipE, args0, Nat.reduceAdd, Nat.zero_add, List.cons_append, List.nil_append, Nat.reduceBEq, cond_true, cond_false] at hB30_
          subst hB30_
          clear hB10 hP hD hF hbt
          rintro m_ vs_ w0_ ⟨i, X, hi, rfl, rfl, hbt, hD, hB10, hP, hF⟩
          refine W_seq_k fun K31_ hK31_ => ?_
          refine W_region [some 62] rfl ?_
          refine Ops_step (R_lss rfl rfl) rfl rfl ?_
          refine Ops_nil ?_
          refine then_n (hK31_ _ _ ?_)
          clear hK31_ K31_
          refine W_seq_k fun K32_ hK32_ => ?_
          refine W_if rfl (fun hc62 => ?_) (fun hc62 => ?_)
          · have hi1 : i < M.length := by omega
            have hx := hM i _ (List.getElem?_eq_getElem hi1)
            have htk := sum_take hi1
            have htl := take_le (L := M) (i + 1)
            refine named M[i] fun bs ebs => ?_
            rw [← ebs] at hx htk
            obtain ⟨hs1, Ai, ci, hs3, hcc, hs4⟩ := hx
            rw [htk, List.length_append] at htl
            replace hs3 := (Fr.cell hF hs3 (by simp))
            refine W_skip ?_
            refine then_n (hK32_ _ _ ?_)
            clear hK32_ K32_
            refine W_seq_k fun K33_ hK33_ => ?_
            refine W_block ?_
            refine W_seq_k fun K34_ hK34_ => ?_
            refine W_region [some 63, some 64, some 14] rfl ?_
            refine Ops_step (R_indexSl Try.underlying23 TDl.sz24 rfl rfl (by omega) (by omega) hs1) rfl rfl ?_
            refine Ops_step (R_load TDl.ag24 rfl (by simpa using hs3)) rfl rfl ?_
            refine Ops_step (R_assign rfl) rfl rfl ?_
            refine Ops_nil ?_
            refine then_n (hK34_ _ _ ?_)
            clear hK34_ K34_
            refine W_seq_k fun K35_ hK35_ => ?_
            refine W_region [some 65, some 66, some 67, some 15] rfl ?_
            refine Ops_step (R_move rfl) rfl rfl ?_
            refine Ops_step (R_move rfl) rfl rfl ?_
            have hs67_ := hF.size
            have hd67_ := hD
            have hw67_ := hD.lt
            have hstep := hbt.step hD.ok.three bs (by omega)
            refine Ops_call (C_func TDl.bd16 rfl) rfl rfl ?_
            refine (append_any _ _ _ 1 Ai bs ci _ hD (.old hs4 hF (by omega)) hcc (by omega)).mono ?_
            rintro _ w67_ ⟨rfl, hD, hF67_⟩
            replace hF := hF.then hF67_ (by simp only [List.mem_singleton]; omega)
            replace hB10 := hB10.fr hF67_ (by simp only [List.mem_singleton]; omega)
            replace hP := hP.fr hF67_ (fun i_ hi_ => by rw [List.mem_singleton.1 hi_]; obtain ⟨cs_, hb_⟩ := hd67_.blk; exact ⟨40, cs_, by decide, hb_⟩)
            clear hF67_
            refine named (X.append 1 bs) fun Y eY => ?_
            rw [← eY] at hD hstep ⊢
            clear eY
            refine ⟨_, rfl, ?_⟩
            refine Ops_step (R_assign rfl) rfl rfl ?_
            refine Ops_nil ?_
            refine then_n (hK35_ _ _ ?_)
            clear hK35_ K35_
            refine W_keepB [2, 9, 10, 11, 12, 14, 15, 59, 60, 61] fun B36 hB36_ => ?_
            simp only [pickE, lookE, putE, zipE, args0, Nat.reduceAdd, Nat.zero_add, List.cons_append, List.nil_append, Nat.reduceBEq, cond_true, cond_false] at hB36_
            subst hB36_
            refine W_seq_k fun K37_ hK37_ => ?_
            refine W_seq_k fun K38_ hK38_ => ?_
            refine W_region [some 68, some 69, some 70, some 71, some 72, some 73, some 74] rfl ?_
            refine Ops_step (R_move rfl) rfl rfl ?_
            refine Ops_step (R_move rfl) rfl rfl ?_
            refine Ops_step (R_eql rfl rfl) rfl rfl ?_
            refine Ops_step (R_boolNe Try.underlying4 rfl rfl) rfl rfl ?_
            refine Ops_step (R_move rfl) rfl rfl ?_
            refine Ops_splitB 72 rfl (fun hg72 => ?_) (fun hg72 => ?_)
            · refine Ops_step (R_move rfl) rfl rfl ?_
              refine Ops_step (R_pick_true rfl rfl) rfl rfl ?_
              refine Ops_nil ?_
              refine then_n (hK38_ _ _ ?_)
              clear hK38_ K38_
              refine W_no rfl (by first | rfl | exact fun (h_ : N ≤ (M.take i).flatten.length) => by have h2_ := hstep.2.2 (by omega); rw [h2_, decide_eq_true h_] at hg72; simp at hg72) ?_
              refine W_skip ?_
              refine then_n (hK37_ _ _ ?_)
              clear hK37_ K37_
              refine W_keepB [2, 9, 10, 11, 12, 14, 15, 59, 60, 61, 73] fun B39 hB39_ => ?_
              simp only [pickE, lookE, putE, zipE, args0, Nat.reduceAdd, Nat.zero_add, List.cons_append, List.nil_append, Nat.reduceBEq, cond_true, cond_false] at hB39_
              subst hB39_
              refine W_seq_k fun K40_ hK40_ => ?_
              refine W_region [some 75, some 76, some 77, some 78, some 11] rfl ?_
              refine Ops_step (R_move rfl) rfl rfl ?_
              refine Ops_step (R_move rfl) rfl rfl ?_
              refine Ops_step (R_len Try.underlying24 rfl rfl) rfl rfl ?_
              refine Ops_step (R_add rfl rfl (wIc (n := ((M.take i).flatten.length) + bs.length) (by omega) (by omega))) rfl rfl ?_
              refine Ops_step (R_assign rfl) rfl rfl ?_
              refine Ops_nil ?_
              refine then_n (hK40_ _ _ ?_)
              clear hK40_ K40_
              refine W_region [some 79, some 80, some 81, some 82, some 83, some 12] rfl ?_
              refine Ops_step (R_move rfl) rfl rfl ?_
              refine Ops_step (R_move rfl) rfl rfl ?_
              refine Ops_splitB 80 rfl (fun hg80 => ?_) (fun hg80 => ?_)
              · refine Ops_pass rfl rfl ?_
                refine Ops_pass rfl rfl ?_
                refine Ops_step (R_pick_true rfl rfl) rfl rfl ?_
                refine Ops_step (R_assign rfl) rfl rfl ?_
                refine Ops_nil ?_
                refine block_n ?_
                refine then_n (hK33_ _ _ ?_)
                clear hK33_ K33_
                refine W_keepB [2, 9, 10, 11, 12, 59, 60, 61, 73, 81, 82] fun B41 hB41_ => ?_
                simp only [pickE, lookE, putE, zipE, args0, Nat.reduceAdd, Nat.zero_add, List.cons_append, List.nil_append, Nat.reduceBEq, cond_true, cond_false] at hB41_
                subst hB41_
                refine W_region [some 84, some 61] rfl ?_
                refine Ops_step (R_add rfl rfl (wIc (n := i + 1) (by omega) (by omega))) rfl rfl ?_
                refine Ops_step (R_move rfl) rfl rfl ?_
                refine Ops_nil ?_
                exact ⟨M.length - (i + 1), _, by omega, rfl, ⟨i + 1, Y.2, by omega, rfl, by rw [htk, List.length_append]; first | (rw [decide_eq_true (show N ≤ (M.take i).flatten.length + bs.length from Nat.le_trans (of_decide_eq_true hg80) (by omega))]) | (rw [show decide (Y.1 = 50) = decide (N ≤ (M.take i).flatten.length + bs.length) from decide_eq_decide.2 hstep.2]), by rw [htk, List.length_append]; exact hstep.1, hD, hB10, hP, hF⟩, ⟨rfl, rfl, rfl, rfl, rfl, trivial⟩⟩
              · refine Ops_step (R_move rfl) rfl rfl ?_
                refine Ops_step (R_eql rfl rfl) rfl rfl ?_
                refine Ops_step (R_pick_false rfl rfl) rfl rfl ?_
                refine Ops_step (R_assign rfl) rfl rfl ?_
                refine Ops_nil ?_
                refine block_n ?_
                refine then_n (hK33_ _ _ ?_)
                clear hK33_ K33_
                refine W_keepB [2, 9, 10, 11, 12, 59, 60, 61, 73, 81, 82] fun B42 hB42_ => ?_
                simp only [pickE, lookE, putE, zipE, args0, Nat.reduceAdd, Nat.zero_add, List.cons_append, List.nil_append, Nat.reduceBEq, cond_true, cond_false] at hB42_
                subst hB42_
                refine W_region [some 84, some 61] rfl ?_
                refine Ops_step (R_add rfl rfl (wIc (n := i + 1) (by omega) (by omega))) rfl rfl ?_
                refine Ops_step (R_move rfl) rfl rfl ?_
                refine Ops_nil ?_
                exact ⟨M.length - (i + 1), _, by omega, rfl, ⟨i + 1, Y.2, by omega, rfl, by rw [htk, List.length_append]; first | (rw [decide_eq_true (show N ≤ (M.take i).flatten.length + bs.length from Nat.le_trans (of_decide_eq_true hg80) (by omega))]) | (rw [show decide (Y.1 = 50) = decide (N ≤ (M.take i).flatten.length + bs.length) from decide_eq_decide.2 hstep.2]), by rw [htk, List.length_append]; exact hstep.1, hD, hB10, hP, hF⟩, ⟨rfl, rfl, rfl, rfl, rfl, trivial⟩⟩
            · refine Ops_pass rfl rfl ?_
              refine Ops_step (R_pick_false rfl rfl) rfl rfl ?_
              refine Ops_nil ?_
              refine then_n (hK38_ _ _ ?_)
              clear hK38_ K38_
              refine W_cond_false rfl ?_
              refine W_skip ?_
              refine then_n (hK37_ _ _ ?_)
              clear hK37_ K37_
              refine W_keepB [2, 9, 10, 11, 12, 14, 15, 59, 60, 61, 73] fun B43 hB43_ => ?_
              simp only [pickE, lookE, putE, zipE, args0, Nat.reduceAdd, Nat.zero_add, List.cons_append, List.nil_append, Nat.reduceBEq, cond_true, cond_false] at hB43_
              subst hB43_
              refine W_seq_k fun K44_ hK44_ => ?_
              refine W_region [some 75, some 76, some 77, some 78, some 11] rfl ?_
              refine Ops_step (R_move rfl) rfl rfl ?_
              refine Ops_step (R_move rfl) rfl rfl ?_
              refine Ops_step (R_len Try.underlying24 rfl rfl) rfl rfl ?_
              refine Ops_step (R_add rfl rfl (wIc (n := ((M.take i).flatten.length) + bs.length) (by omega) (by omega))) rfl rfl ?_
              refine Ops_step (R_assign rfl) rfl rfl ?_
              refine Ops_nil ?_
              refine then_n (hK44_ _ _ ?_)
              clear hK44_ K44_
              refine W_region [some 79, some 80, some 81, some 82, some 83, some 12] rfl ?_
              refine Ops_step (R_move rfl) rfl rfl ?_
              refine Ops_step (R_move rfl) rfl rfl ?_
              refine Ops_splitB 80 rfl (fun hg80 => ?_) (fun hg80 => ?_)
              · refine Ops_pass rfl rfl ?_
                refine Ops_pass rfl rfl ?_
                refine Ops_step (R_pick_true rfl rfl) rfl rfl ?_
                refine Ops_step (R_assign rfl) rfl rfl ?_
                refine Ops_nil ?_
                refine block_n ?_
                refine then_n (hK33_ _ _ ?_)
                clear hK33_ K33_
                refine W_keepB [2, 9, 10, 11, 12, 59, 60, 61, 73, 81, 82] fun B45 hB45_ => ?_
                simp only [pickE, lookE, putE, zipE, args0, Nat.reduceAdd, Nat.zero_add, List.cons_append, List.nil_append, Nat.reduceBEq, cond_true, cond_false] at hB45_
                subst hB45_
                refine W_region [some 84, some 61] rfl ?_
                refine Ops_step (R_add rfl rfl (wIc (n := i + 1) (by omega) (by omega))) rfl rfl ?_
                refine Ops_step (R_move rfl) rfl rfl ?_
                refine Ops_nil ?_
                exact ⟨M.length - (i + 1), _, by omega, rfl, ⟨i + 1, Y.2, by omega, rfl, by rw [htk, List.length_append]; first | (rw [decide_eq_true (show N ≤ (M.take i).flatten.length + bs.length from Nat.le_trans (of_decide_eq_true hg80) (by omega))]) | (rw [show decide (Y.1 = 50) = decide (N ≤ (M.take i).flatten.length + bs.length) from decide_eq_decide.2 hstep.2]), by rw [htk, List.length_append]; exact hstep.1, hD, hB10, hP, hF⟩, ⟨rfl, rfl, rfl, rfl, rfl, trivial⟩⟩
              · refine Ops_step (R_move rfl) rfl rfl ?_
                refine Ops_step (R_eql rfl rfl) rfl rfl ?_
                refine Ops_step (R_pick_false rfl rfl) rfl rfl ?_
                refine Ops_step (R_assign rfl) rfl rfl ?_
                refine Ops_nil ?_
                refine block_n ?_
                refine then_n (hK33_ _ _ ?_)
                clear hK33_ K33_
                refine W_keepB [2, 9, 10, 11, 12, 59, 60, 61, 73, 81, 82] fun B46 hB46_ => ?_
                simp only [pickE, lookE, putE, zipE, args0, Nat.reduceAdd, Nat.zero_add, List.cons_append, List.nil_append, Nat.reduceBEq, cond_true, cond_false] at hB46_
                subst hB46_
                refine W_region [some 84, some 61] rfl ?_
                refine Ops_step (R_add rfl rfl (wIc (n := i + 1) (by omega) (by omega))) rfl rfl ?_
                refine Ops_step (R_move rfl) rfl rfl ?_
                refine Ops_nil ?_
                exact ⟨M.length - (i + 1), _, by omega, rfl, ⟨i + 1, Y.2, by omega, rfl, by rw [htk, List.length_append]; first | (rw [decide_eq_true (show N ≤ (M.take i).flatten.length + bs.length from Nat.le_trans (of_decide_eq_true hg80) (by omega))]) | (rw [show decide (Y.1 = 50) = decide (N ≤ (M.take i).flatten.length + bs.length) from decide_eq_decide.2 hstep.2]), by rw [htk, List.length_append]; exact hstep.1, hD, hB10, hP, hF⟩, ⟨rfl, rfl, rfl, rfl, rfl, trivial⟩⟩
          · have hil : i = M.length := by omega
            subst hil
            rw [List.take_length] at hbt ⊢
            have hT3 := hD.ok.three
            have hN10 := hbt.len
            refine W_exit ?_
            refine then_exit ?_
            clear hK32_ K32_
            refine then_exit ?_
            refine block_exit ?_
            refine then_n (hK28_ _ _ ?_)
            clear hK28_ K28_
            refine W_seq_k fun K47_ hK47_ => ?_
            refine W_region [some 85, some 86, some 16, none] rfl ?_
            refine Ops_step (R_move rfl) rfl rfl ?_
            have hs86_ := hF.size
            have hd86_ := hD
            have hw86_ := hD.lt
            refine Ops_call (C_func TDl.bd13 rfl) rfl rfl ?_
            refine (files_any _ _ _ _ hD).mono ?_
            rintro _ w86_ ⟨ps86, rfl, hpl86, hP2, hD, hF86_⟩
            replace hF := hF.then hF86_ (by simp only [List.mem_singleton]; omega)
            replace hB10 := hB10.fr hF86_ (by simp only [List.mem_singleton]; omega)
            replace hP := hP.fr hF86_ (fun i_ hi_ => by rw [List.mem_singleton.1 hi_]; obtain ⟨cs_, hb_⟩ := hd86_.blk; exact ⟨40, cs_, by decide, hb_⟩)
            clear hF86_
            replace hP2 := hP2.le hs86_
            refine ⟨_, rfl, ?_⟩
            have hz16_hF := hF.size
            have hn16_hD := hD.lt
            have hn16_hB10 := hB10.lt
            refine Ops_to (R_alloc TDl.zr30) rfl rfl ?_
            rintro _ w16_ ⟨b16, rfl, hb16, hB16, hF16_⟩
            have hl16 := hB16.lt
            replace hF := hF.fr0 hF16_
            replace hD := hD.fr0 hF16_
            replace hB10 := hB10.fr0 hF16_
            replace hP := hP.fr0 hF16_
            replace hP2 := hP2.fr0 hF16_
            clear hF16_
            have hb16_ := hB16
            refine Ops_to0 (R_storeN TDl.sz30 (by rw [List.size_toArray, flC_len hpl86 hT3 (by omega)]) rfl rfl hB16 (by decide) (flC_one _ _)) rfl ?_
            clear hB16
            rintro _ w48_ ⟨hB16, hF48_⟩
            replace hF := hF.then hF48_ (by simp only [List.mem_cons, List.not_mem_nil, or_false]; intro i_ hi_ hj_; omega)
            replace hD := hD.fr hF48_ (skOne (by omega) hb16_ (by decide))
            replace hB10 := hB10.fr hF48_ (by simp only [List.mem_cons, List.not_mem_nil, or_false]; omega)
            replace hP := hP.fr hF48_ (fun i_ hi_ => by rw [List.mem_singleton.1 hi_]; exact ⟨30, _, by decide, hb16_⟩)
            replace hP2 := hP2.fr hF48_ (fun i_ hi_ => by rw [List.mem_singleton.1 hi_]; exact ⟨30, _, by decide, hb16_⟩)
            clear hF48_
            replace hB16 := hB16.to (cs' := flC ps86 X.F) (over4_ (by rw [flC_len hpl86 hT3 (by omega)]; rfl))
            refine Ops_nil ?_
            refine then_n (hK47_ _ _ ?_)
            clear hK47_ K47_
            refine W_keepB [2, 10, 11, 12, 16] fun B49 hB49_ => ?_
            simp only [pickE, lookE, putE, zipE, args0, Nat.reduceAdd, Nat.zero_add, List.cons_append, List.nil_append, Nat.reduceBEq, cond_true, cond_false] at hB49_
            subst hB49_
            refine W_seq_k fun K50_ hK50_ => ?_
            refine W_region [some 87, some 88, some 89, some 90, some 91, some 92, some 93, some 94, some 95, some 96, some 97, some 98, some 99, some 100, some 101, some 102, some 103, some 104, some 105, some 106, some 107, some 6] rfl ?_
            refine Ops_step (R_move rfl) rfl rfl ?_
            refine Ops_step (R_move rfl) rfl rfl ?_
            refine Ops_step (R_move rfl) rfl rfl ?_
            refine Ops_step (R_geq rfl rfl) rfl rfl ?_
            refine Ops_step (R_boolEq Try.underlying4 rfl rfl) rfl rfl ?_
            refine Ops_step (R_move rfl) rfl rfl ?_
            refine Ops_splitB 92 rfl (fun hg92 => ?_) (fun hg92 => ?_)
            · refine Ops_step (R_indexArr Try.underlying30 TDl.sz24 rfl rfl (by omega) (by omega)) rfl rfl ?_
              refine Ops_step (R_loadB TDl.ag24 rfl hB16 (flC_get hpl86 hT3 (i := 1) (by omega))) rfl rfl ?_
              refine Ops_step (R_len Try.underlying24 rfl rfl) rfl rfl ?_
              refine Ops_step (R_indexArr Try.underlying30 TDl.sz24 rfl rfl (by omega) (by omega)) rfl rfl ?_
              refine Ops_step (R_loadB TDl.ag24 rfl hB10 (flC_get hpl52 hT1 (i := 1) (by omega))) rfl rfl ?_
              refine Ops_step (R_len Try.underlying24 rfl rfl) rfl rfl ?_
              refine Ops_step (R_sub rfl rfl (wI (by omega) (by omega))) rfl rfl ?_
              refine Ops_step (R_move rfl) rfl rfl ?_
              refine Ops_step (R_move rfl) rfl rfl ?_
              refine Ops_step (R_min rfl rfl _root_.rfl) rfl rfl ?_
              refine Ops_step (R_eql rfl rfl) rfl rfl ?_
              refine Ops_step (R_pick_true rfl rfl) rfl rfl ?_
              refine Ops_step (R_move rfl) rfl rfl ?_
              refine Ops_split 105 rfl (fun hg105 => ?_) (fun hg105 => ?_)
              · refine Ops_call (C_func TDl.bd11 rfl) rfl rfl ?_
                refine (awake_any _).mono ?_
                rintro _ w106_ ⟨rfl, hF106_⟩
                replace hF := hF.fr0 hF106_
                replace hD := hD.fr0 hF106_
                replace hB10 := hB10.fr0 hF106_
                replace hP := hP.fr0 hF106_
                replace hP2 := hP2.fr0 hF106_
                replace hB16 := hB16.fr0 hF106_
                clear hF106_
                refine ⟨_, rfl, ?_⟩
                refine Ops_step (R_pick_true rfl rfl) rfl rfl ?_
                refine Ops_step (R_assign rfl) rfl rfl ?_
                refine Ops_nil ?_
                refine then_n (hK50_ _ _ ?_)
                clear hK50_ K50_
                refine W_keepB [6] fun B51 hB51_ => ?_
                simp only [pickE, lookE, putE, zipE, args0, Nat.reduceAdd, Nat.zero_add, List.cons_append, List.nil_append, Nat.reduceBEq, cond_true, cond_false] at hB51_
                subst hB51_
                refine W_ret ?_
                refine ⟨_, ⟨_, _, rfl, rfl, rfl⟩, ?_⟩
                exact ⟨rfl, hF⟩
              · exfalso; omega
            · exfalso; have h_ : decide (N ≤ M.flatten.length) = decide ((M.flatten.length : Int) ≥ N) := decide_eq_decide.2 (by omega); rw [h_] at hg92; simp at hg92
  · have hend : u ≤ 16384 → i = M.length := fun h_ => by omega
    refine Ops_pass rfl rfl ?_
    refine Ops_pass rfl rfl ?_
    refine Ops_step (R_pick_false rfl rfl) rfl rfl ?_
    refine Ops_nil ?_
    refine then_n (hK7_ _ _ ?_)
    clear hK7_ K7_
    refine W_cond_false rfl ?_
    refine W_exit ?_
    refine then_exit ?_
    clear hK6_ K6_
    refine then_exit ?_
    refine block_exit ?_
    refine then_n (hK3_ _ _ ?_)
    clear hK3_ K3_
    refine W_keepB [0, 1, 2, 7] fun B52 hB52_ => ?_
    simp only [pickE, lookE, putE, zipE, args0, Nat.reduceAdd, Nat.zero_add, List.cons_append, List.nil_append, Nat.reduceBEq, cond_true, cond_false] at hB52_
    subst hB52_
    refine W_seq_k fun K53_ hK53_ => ?_
    refine W_seq_k fun K54_ hK54_ => ?_
    refine W_region [some 36, some 37, some 38, some 39, some 40, some 41, some 42] rfl ?_
    refine Ops_step (R_move rfl) rfl rfl ?_
    refine Ops_call (C_func TDl.bd10 rfl) rfl rfl ?_
    refine (short_any _ _ _ _ (hL.fr0 hF) (by omega)).mono ?_
    rintro _ wq37_ ⟨r37, rfl, hr37, hq37_⟩
    replace hq37_ := hq37_.symm
    subst hq37_
    refine ⟨_, rfl, ?_⟩
    refine Ops_step (R_not rfl) rfl rfl ?_
    refine Ops_step (R_move rfl) rfl rfl ?_
    refine Ops_splitB 39 rfl (fun hg39 => ?_) (fun hg39 => ?_)
    · refine Ops_pass rfl rfl ?_
      refine Ops_pass rfl rfl ?_
      refine Ops_step (R_pick_true rfl rfl) rfl rfl ?_
      refine Ops_nil ?_
      refine then_n (hK54_ _ _ ?_)
      clear hK54_ K54_
      refine W_keepB [0, 1, 2, 42] fun B55 hB55_ => ?_
      simp only [pickE, lookE, putE, zipE, args0, Nat.reduceAdd, Nat.zero_add, List.cons_append, List.nil_append, Nat.reduceBEq, cond_true, cond_false] at hB55_
      subst hB55_
      refine W_cond_true rfl ?_
      refine W_seq_k fun K56_ hK56_ => ?_
      refine W_region [some 43, some 6] rfl ?_
      refine Ops_call (C_func TDl.bd11 rfl) rfl rfl ?_
      refine (awake_any _).mono ?_
      rintro _ w43_ ⟨rfl, hF43_⟩
      replace hF := hF.fr0 hF43_
      clear hF43_
      refine ⟨_, rfl, ?_⟩
      refine Ops_step (R_assign rfl) rfl rfl ?_
      refine Ops_nil ?_
      refine then_n (hK56_ _ _ ?_)
      clear hK56_ K56_
      refine W_ret ?_
      refine then_ret ?_
      clear hK53_ K53_
      refine ⟨_, ⟨_, _, rfl, rfl, rfl⟩, ?_⟩
      exact ⟨rfl, hF⟩
    · refine Ops_step (R_move rfl) rfl rfl ?_
      refine Ops_step (R_gtr rfl rfl) rfl rfl ?_
      refine Ops_step (R_pick_false rfl rfl) rfl rfl ?_
      refine Ops_nil ?_
      refine then_n (hK54_ _ _ ?_)
      clear hK54_ K54_
      refine W_keepB [0, 1, 2, 42] fun B57 hB57_ => ?_
      simp only [pickE, lookE, putE, zipE, args0, Nat.reduceAdd, Nat.zero_add, List.cons_append, List.nil_append, Nat.reduceBEq, cond_true, cond_false] at hB57_
      subst hB57_
      refine W_if rfl (fun hc42 => ?_) (fun hc42 => ?_)
      · refine W_seq_k fun K58_ hK58_ => ?_
        refine W_region [some 43, some 6] rfl ?_
        refine Ops_call (C_func TDl.bd11 rfl) rfl rfl ?_
        refine (awake_any _).mono ?_
        rintro _ w43_ ⟨rfl, hF43_⟩
        replace hF := hF.fr0 hF43_
        clear hF43_
        refine ⟨_, rfl, ?_⟩
        refine Ops_step (R_assign rfl) rfl rfl ?_
        refine Ops_nil ?_
        refine then_n (hK58_ _ _ ?_)
        clear hK58_ K58_
        refine W_ret ?_
        refine then_ret ?_
        clear hK53_ K53_
        refine ⟨_, ⟨_, _, rfl, rfl, rfl⟩, ?_⟩
        exact ⟨rfl, hF⟩
      · have hsh := hr37 (by simpa using hg39)
        have hil : i = M.length := hend (by omega)
        clear hend
        subst hil
        have hMl := hu (by omega)
        rw [List.take_length] at hMl
        refine W_skip ?_
        refine then_n (hK53_ _ _ ?_)
        clear hK53_ K53_
        refine W_seq_k fun K59_ hK59_ => ?_
        refine W_region [some 44, some 45, some 46, some 47, some 48, some 2] rfl ?_
        refine Ops_step (R_move rfl) rfl rfl ?_
        refine Ops_step (R_conv Try.underlying3 Try.underlying27 rfl (cI_64 _)) rfl rfl ?_
        refine Ops_step (R_rem rfl rfl (by decide) (remc _ 200)) rfl rfl ?_
        refine Ops_step (R_conv Try.underlying27 Try.underlying3 rfl (wI (by omega) (by omega))) rfl rfl ?_
        refine Ops_step (R_add rfl rfl (wIc (n := 1 + (BitVec.ofInt 64 n).toNat % 200) (by omega) (by omega))) rfl rfl ?_
        refine Ops_step (R_assign rfl) rfl rfl ?_
        refine Ops_nil ?_
        refine then_n (hK59_ _ _ ?_)
        clear hK59_ K59_
        refine W_keepB [0, 1, 2] fun B60 hB60_ => ?_
        simp only [pickE, lookE, putE, zipE, args0, Nat.reduceAdd, Nat.zero_add, List.cons_append, List.nil_append, Nat.reduceBEq, cond_true, cond_false] at hB60_
        subst hB60_
        refine W_seq_k fun K61_ hK61_ => ?_
        refine W_region [some 49, some 50, some 9] rfl ?_
        refine named (1 + (BitVec.ofInt 64 n).toNat % 200) fun N eN => ?_
        rw [← eN]
        have hN1 : 1 ≤ N := by omega
        have hN2 : N ≤ 200 := by omega
        clear eN
        refine Ops_step (R_move rfl) rfl rfl ?_
        have hs50_ := hF.size
        refine Ops_call (C_func TDl.bd12 rfl) rfl rfl ?_
        refine (made_any 4194304 (by decide) (by decide) _ L _ _ (hL.fr0 hF) (by omega)).mono ?_
        rintro _ w50_ ⟨d50, rfl, hD, hF50_⟩
        replace hF := hF.fr0 hF50_
        clear hF50_
        refine Exists.elim hD.name fun B_hD h_ => ?_
        clear hD
        have hBe_hD := h_.1
        have hD := h_.2
        clear h_
        have hge_hD := hD.ge
        refine named (runs (Dk.new 4194304) L) fun D1 eD1 => ?_
        rw [← eD1] at hD
        have hT1 := hD.ok.three
        have hrm1 : D1.room = 4194304 := by rw [eD1, runs_room]; rfl
        have hus1 : D1.used ≤ 16384 := by have h_ := runs_used L (Dk.new 4194304); rw [← eD1] at h_; have h2_ : (Dk.new 4194304).used = 0 := rfl; omega
        have hspec := Burnt.start (D := D1) hN1
        refine ⟨_, rfl, ?_⟩
        refine Ops_step (R_assign rfl) rfl rfl ?_
        refine Ops_nil ?_
        refine then_n (hK61_ _ _ ?_)
        clear hK61_ K61_
        refine W_seq_k fun K62_ hK62_ => ?_
        refine W_region [some 51, some 52, some 10, none] rfl ?_
        refine Ops_step (R_move rfl) rfl rfl ?_
        have hs52_ := hF.size
        have hd52_ := hD
        have hw52_ := hD.lt
        refine Ops_call (C_func TDl.bd13 rfl) rfl rfl ?_
        refine (files_any _ _ _ _ hD).mono ?_
        rintro _ w52_ ⟨ps52, rfl, hpl52, hP, hD, hF52_⟩
        replace hF := hF.then hF52_ (by simp only [List.mem_singleton]; omega)
        clear hF52_
        replace hP := hP.le hs52_
        refine ⟨_, rfl, ?_⟩
        have hz10_hF := hF.size
        have hn10_hD := hD.lt
        refine Ops_to (R_alloc TDl.zr30) rfl rfl ?_
        rintro _ w10_ ⟨b10, rfl, hb10, hB10, hF10_⟩
        have hl10 := hB10.lt
        replace hF := hF.fr0 hF10_
        replace hD := hD.fr0 hF10_
        replace hP := hP.fr0 hF10_
        clear hF10_
        have hb10_ := hB10
        refine Ops_to0 (R_storeN TDl.sz30 (by rw [List.size_toArray, flC_len hpl52 hT1 (by omega)]) rfl rfl hB10 (by decide) (flC_one _ _)) rfl ?_
        clear hB10
        rintro _ w63_ ⟨hB10, hF63_⟩
        replace hF := hF.then hF63_ (by simp only [List.mem_cons, List.not_mem_nil, or_false]; intro i_ hi_ hj_; omega)
        replace hD := hD.fr hF63_ (skOne (by omega) hb10_ (by decide))
        replace hP := hP.fr hF63_ (fun i_ hi_ => by rw [List.mem_singleton.1 hi_]; exact ⟨30, _, by decide, hb10_⟩)
        clear hF63_
        replace hB10 := hB10.to (cs' := flC ps52 D1.F) (over4_ (by rw [flC_len hpl52 hT1 (by omega)]; rfl))
        refine Ops_nil ?_
        refine then_n (hK62_ _ _ ?_)
        clear hK62_ K62_
        refine W_seq_k fun K64_ hK64_ => ?_
        refine W_region [some 53, some 54] rfl ?_
        refine Ops_step (R_move rfl) rfl rfl ?_
        have hs54_ := hF.size
        have hd54_ := hD
        have hw54_ := hD.lt
        have hb10lt := hB10.lt
        refine Ops_call (C_func TDl.bd14 rfl) rfl rfl ?_
        refine (disarm_any _ _ _ _ hD).mono ?_
        rintro _ w54_ ⟨rfl, hD, hF54_⟩
        replace hF := hF.then hF54_ (by simp only [List.mem_singleton]; omega)
        replace hP := hP.fr hF54_ (fun i_ hi_ => by rw [List.mem_singleton.1 hi_]; obtain ⟨cs_, hb_⟩ := hd54_.blk; exact ⟨40, cs_, by decide, hb_⟩)
        replace hB10 := hB10.fr hF54_ (by simp only [List.mem_singleton]; omega)
        clear hF54_
        
        refine ⟨_, rfl, ?_⟩
        refine Ops_nil ?_
        refine then_n (hK64_ _ _ ?_)
        clear hK64_ K64_
        refine W_keepB [1, 2, 9, 10] fun B65 hB65_ => ?_
        simp only [pickE, lookE, putE, zipE, args0, Nat.reduceAdd, Nat.zero_add, List.cons_append, List.nil_append, Nat.reduceBEq, cond_true, cond_false] at hB65_
        subst hB65_
        refine W_seq_k fun K66_ hK66_ => ?_
        refine W_seq_k fun K67_ hK67_ => ?_
        refine W_region [some 55, some 56, some 57, some 58] rfl ?_
        refine Ops_step (R_move rfl) rfl rfl ?_
        refine Ops_step (R_move rfl) rfl rfl ?_
        have hs57_ := hF.size
        have hd57_ := hD
        have hw57_ := hD.lt
        refine Ops_call (C_func TDl.bd15 rfl) rfl rfl ?_
        refine (arm_any _ _ _ N (by omega) _ hD).mono ?_
        rintro _ w57_ ⟨rfl, hD, hF57_⟩
        replace hF := hF.then hF57_ (by simp only [List.mem_singleton]; omega)
        replace hP := hP.fr hF57_ (fun i_ hi_ => by rw [List.mem_singleton.1 hi_]; obtain ⟨cs_, hb_⟩ := hd57_.blk; exact ⟨40, cs_, by decide, hb_⟩)
        replace hB10 := hB10.fr hF57_ (by simp only [List.mem_singleton]; omega)
        clear hF57_
        
        refine ⟨_, rfl, ?_⟩
        refine Ops_step (R_neq rfl rfl) rfl rfl ?_
        refine Ops_nil ?_
        refine then_n (hK67_ _ _ ?_)
        clear hK67_ K67_
        refine W_no rfl (by rw [hspec.1]; decide) ?_
        refine W_skip ?_
        refine then_n (hK66_ _ _ ?_)
        clear hK66_ K66_
        refine W_seq_k fun K68_ hK68_ => ?_
        refine W_region [some 11, some 12] rfl ?_
        refine named (D1.start.2.disarm.2.arm (N : Int)).2 fun X0 eX0 => ?_
        have hbt := hspec.2
        rw [← eX0] at hD hbt
        clear eX0
        refine Ops_step (R_assign rfl) rfl rfl ?_
        refine Ops_step (R_assign rfl) rfl rfl ?_
        refine Ops_nil ?_
        refine then_n (hK68_ _ _ ?_)
        clear hK68_ K68_
        refine W_seq_k fun K69_ hK69_ => ?_
        refine W_seq_k fun K70_ hK70_ => ?_
        refine W_region [some 59, some 60, some 61] rfl ?_
        refine Ops_step (R_move rfl) rfl rfl ?_
        refine Ops_step (R_len Try.underlying23 rfl rfl) rfl rfl ?_
        refine Ops_step (R_move rfl) rfl rfl ?_
        refine Ops_nil ?_
        refine then_n (hK70_ _ _ ?_)
        clear hK70_ K70_
        refine W_block ?_
        refine W_loopB [2, 9, 10, 59, 60] [11, 12, 61] (fun m vs w' => ∃ i X, i ≤ M.length ∧ m = M.length - i ∧ vs = [vi ((M.take i).flatten.length : Nat), .bool (decide (N ≤ (M.take i).flatten.length)), vi (i : Nat)] ∧ Burnt D1 X N (M.take i).flatten.length ∧ Dsk w' B_hD d50 X ∧ Blk w' b10 30 (flC ps52 D1.F) ∧ FlP w' w.heap.size ps52 D1.F ∧ Fr [] w w') (M.length) _ rfl (⟨0, X0, by omega, rfl, by rw [decide_eq_false (show ¬ N ≤ (M.take 0).flatten.length by simp; omega)]; rfl, hbt, hD, hB10, hP, hF⟩) fun B71 hB71_ => ?_
        simp only [pickE, lookE, putE, zipE, args0, Nat.reduceAdd, Nat.zero_add, List.cons_append, List.nil_append, Nat.reduceBEq, cond_true, cond_false] at hB71_
        subst hB71_
        clear hB10 hP hD hF hbt
        rintro m_ vs_ w0_ ⟨i, X, hi, rfl, rfl, hbt, hD, hB10, hP, hF⟩
        refine W_seq_k fun K72_ hK72_ => ?_
        refine W_region [some 62] rfl ?_
        refine Ops_step (R_lss rfl rfl) rfl rfl ?_
        refine Ops_nil ?_
        refine then_n (hK72_ _ _ ?_)
        clear hK72_ K72_
        refine W_seq_k fun K73_ hK73_ => ?_
        refine W_if rfl (fun hc62 => ?_) (fun hc62 => ?_)
        · have hi1 : i < M.length := by omega
          have hx := hM i _ (List.getElem?_eq_getElem hi1)
          have htk := sum_take hi1
          have htl := take_le (L := M) (i + 1)
          refine named M[i] fun bs ebs => ?_
          rw [← ebs] at hx htk
          obtain ⟨hs1, Ai, ci, hs3, hcc, hs4⟩ := hx
          rw [htk, List.length_append] at htl
          replace hs3 := (Fr.cell hF hs3 (by simp))
          refine W_skip ?_
          refine then_n (hK73_ _ _ ?_)
          clear hK73_ K73_
          refine W_seq_k fun K74_ hK74_ => ?_
          refine W_block ?_
          refine W_seq_k fun K75_ hK75_ => ?_
          refine W_region [some 63, some 64, some 14] rfl ?_
          refine Ops_step (R_indexSl Try.underlying23 TDl.sz24 rfl rfl (by omega) (by omega) hs1) rfl rfl ?_
          refine Ops_step (R_load TDl.ag24 rfl (by simpa using hs3)) rfl rfl ?_
          refine Ops_step (R_assign rfl) rfl rfl ?_
          refine Ops_nil ?_
          refine then_n (hK75_ _ _ ?_)
          clear hK75_ K75_
          refine W_seq_k fun K76_ hK76_ => ?_
          refine W_region [some 65, some 66, some 67, some 15] rfl ?_
          refine Ops_step (R_move rfl) rfl rfl ?_
          refine Ops_step (R_move rfl) rfl rfl ?_
          have hs67_ := hF.size
          have hd67_ := hD
          have hw67_ := hD.lt
          have hstep := hbt.step hD.ok.three bs (by omega)
          refine Ops_call (C_func TDl.bd16 rfl) rfl rfl ?_
          refine (append_any _ _ _ 1 Ai bs ci _ hD (.old hs4 hF (by omega)) hcc (by omega)).mono ?_
          rintro _ w67_ ⟨rfl, hD, hF67_⟩
          replace hF := hF.then hF67_ (by simp only [List.mem_singleton]; omega)
          replace hB10 := hB10.fr hF67_ (by simp only [List.mem_singleton]; omega)
          replace hP := hP.fr hF67_ (fun i_ hi_ => by rw [List.mem_singleton.1 hi_]; obtain ⟨cs_, hb_⟩ := hd67_.blk; exact ⟨40, cs_, by decide, hb_⟩)
          clear hF67_
          refine named (X.append 1 bs) fun Y eY => ?_
          rw [← eY] at hD hstep ⊢
          clear eY
          refine ⟨_, rfl, ?_⟩
          refine Ops_step (R_assign rfl) rfl rfl ?_
          refine Ops_nil ?_
          refine then_n (hK76_ _ _ ?_)
          clear hK76_ K76_
          refine W_keepB [2, 9, 10, 11, 12, 14, 15, 59, 60, 61] fun B77 hB77_ => ?_
          simp only [pickE, lookE, putE, zipE, args0, Nat.reduceAdd, Nat.zero_add, List.cons_append, List.nil_append, Nat.reduceBEq, cond_true, cond_false] at hB77_
          subst hB77_
          refine W_seq_k fun K78_ hK78_ => ?_
          refine W_seq_k fun K79_ hK79_ => ?_
          refine W_region [some 68, some 69, some 70, some 71, some 72, some 73, some 74] rfl ?_
          refine Ops_step (R_move rfl) rfl rfl ?_
          refine Ops_step (R_move rfl) rfl rfl ?_
          refine Ops_step (R_eql rfl rfl) rfl rfl ?_
          refine Ops_step (R_boolNe Try.underlying4 rfl rfl) rfl rfl ?_
          refine Ops_step (R_move rfl) rfl rfl ?_
          refine Ops_splitB 72 rfl (fun hg72 => ?_) (fun hg72 => ?_)
          · refine Ops_step (R_move rfl) rfl rfl ?_
            refine Ops_step (R_pick_true rfl rfl) rfl rfl ?_
            refine Ops_nil ?_
            refine then_n (hK79_ _ _ ?_)
            clear hK79_ K79_
            refine W_no rfl (by first | rfl | exact fun (h_ : N ≤ (M.take i).flatten.length) => by have h2_ := hstep.2.2 (by omega); rw [h2_, decide_eq_true h_] at hg72; simp at hg72) ?_
            refine W_skip ?_
            refine then_n (hK78_ _ _ ?_)
            clear hK78_ K78_
            refine W_keepB [2, 9, 10, 11, 12, 14, 15, 59, 60, 61, 73] fun B80 hB80_ => ?_
            simp only [pickE, lookE, putE, zipE, args0, Nat.reduceAdd, Nat.zero_add, List.cons_append, List.nil_append, Nat.reduceBEq, cond_true, cond_false] at hB80_
            subst hB80_
            refine W_seq_k fun K81_ hK81_ => ?_
            refine W_region [some 75, some 76, some 77, some 78, some 11] rfl ?_
            refine Ops_step (R_move rfl) rfl rfl ?_
            refine Ops_step (R_move rfl) rfl rfl ?_
            refine Ops_step (R_len Try.underlying24 rfl rfl) rfl rfl ?_
            refine Ops_step (R_add rfl rfl (wIc (n := ((M.take i).flatten.length) + bs.length) (by omega) (by omega))) rfl rfl ?_
            refine Ops_step (R_assign rfl) rfl rfl ?_
            refine Ops_nil ?_
            refine then_n (hK81_ _ _ ?_)
            clear hK81_ K81_
            refine W_region [some 79, some 80, some 81, some 82, some 83, some 12] rfl ?_
            refine Ops_step (R_move rfl) rfl rfl ?_
            refine Ops_step (R_move rfl) rfl rfl ?_
            refine Ops_splitB 80 rfl (fun hg80 => ?_) (fun hg80 => ?_)
            · refine Ops_pass rfl rfl ?_
              refine Ops_pass rfl rfl ?_
              refine Ops_step (R_pick_true rfl rfl) rfl rfl ?_
              refine Ops_step (R_assign rfl) rfl rfl ?_
              refine Ops_nil ?_
              refine block_n ?_
              refine then_n (hK74_ _ _ ?_)
              clear hK74_ K74_
              refine W_keepB [2, 9, 10, 11, 12, 59, 60, 61, 73, 81, 82] fun B82 hB82_ => ?_
              simp only [pickE, lookE, putE, zipE, args0, Nat.reduceAdd, Nat.zero_add, List.cons_append, List.nil_append, Nat.reduceBEq, cond_true, cond_false] at hB82_
              subst hB82_
              refine W_region [some 84, some 61] rfl ?_
              refine Ops_step (R_add rfl rfl (wIc (n := i + 1) (by omega) (by omega))) rfl rfl ?_
              refine Ops_step (R_move rfl) rfl rfl ?_
              refine Ops_nil ?_
              exact ⟨M.length - (i + 1), _, by omega, rfl, ⟨i + 1, Y.2, by omega, rfl, by rw [htk, List.length_append]; first | (rw [decide_eq_true (show N ≤ (M.take i).flatten.length + bs.length from Nat.le_trans (of_decide_eq_true hg80) (by omega))]) | (rw [show decide (Y.1 = 50) = decide (N ≤ (M.take i).flatten.length + bs.length) from decide_eq_decide.2 hstep.2]), by rw [htk, List.length_append]; exact hstep.1, hD, hB10, hP, hF⟩, ⟨rfl, rfl, rfl, rfl, rfl, trivial⟩⟩
            · refine Ops_step (R_move rfl) rfl rfl ?_
              refine Ops_step (R_eql rfl rfl) rfl rfl ?_
              refine Ops_step (R_pick_false rfl rfl) rfl rfl ?_
              refine Ops_step (R_assign rfl) rfl rfl ?_
              refine Ops_nil ?_
              refine block_n ?_
              refine then_n (hK74_ _ _ ?_)
              clear hK74_ K74_
              refine W_keepB [2, 9, 10, 11, 12, 59, 60, 61, 73, 81, 82] fun B83 hB83_ => ?_
              simp only [pickE, lookE, putE, zipE, args0, Nat.reduceAdd, Nat.zero_add, List.cons_append, List.nil_append, Nat.reduceBEq, cond_true, cond_false] at hB83_
              subst hB83_
              refine W_region [some 84, some 61] rfl ?_
              refine Ops_step (R_add rfl rfl (wIc (n := i + 1) (by omega) (by omega))) rfl rfl ?_
              refine Ops_step (R_move rfl) rfl rfl ?_
              refine Ops_nil ?_
              exact ⟨M.length - (i + 1), _, by omega, rfl, ⟨i + 1, Y.2, by omega, rfl, by rw [htk, List.length_append]; first | (rw [decide_eq_true (show N ≤ (M.take i).flatten.length + bs.length from Nat.le_trans (of_decide_eq_true hg80) (by omega))]) | (rw [show decide (Y.1 = 50) = decide (N ≤ (M.take i).flatten.length + bs.length) from decide_eq_decide.2 hstep.2]), by rw [htk, List.length_append]; exact hstep.1, hD, hB10, hP, hF⟩, ⟨rfl, rfl, rfl, rfl, rfl, trivial⟩⟩
          · refine Ops_pass rfl rfl ?_
            refine Ops_step (R_pick_false rfl rfl) rfl rfl ?_
            refine Ops_nil ?_
            refine then_n (hK79_ _ _ ?_)
            clear hK79_ K79_
            refine W_cond_false rfl ?_
            refine W_skip ?_
            refine then_n (hK78_ _ _ ?_)
            clear hK78_ K78_
            refine W_keepB [2, 9, 10, 11, 12, 14, 15, 59, 60, 61, 73] fun B84 hB84_ => ?_
            simp only [pickE, lookE, putE, zipE, args0, Nat.reduceAdd, Nat.zero_add, List.cons_append, List.nil_append, Nat.reduceBEq, cond_true, cond_false] at hB84_
            subst hB84_
            refine W_seq_k fun K85_ hK85_ => ?_
            refine W_region [some 75, some 76, some 77, some 78, some 11] rfl ?_
            refine Ops_step (R_move rfl) rfl rfl ?_
            refine Ops_step (R_move rfl) rfl rfl ?_
            refine Ops_step (R_len Try.underlying24 rfl rfl) rfl rfl ?_
            refine Ops_step (R_add rfl rfl (wIc (n := ((M.take i).flatten.length) + bs.length) (by omega) (by omega))) rfl rfl ?_
            refine Ops_step (R_assign rfl) rfl rfl ?_
            refine Ops_nil ?_
            refine then_n (hK85_ _ _ ?_)
            clear hK85_ K85_
            refine W_region [some 79, some 80, some 81, some 82, some 83, some 12] rfl ?_
            refine Ops_step (R_move rfl) rfl rfl ?_
            refine Ops_step (R_move rfl) rfl rfl ?_
            refine Ops_splitB 80 rfl (fun hg80 => ?_) (fun hg80 => ?_)
            · refine Ops_pass rfl rfl ?_
              refine Ops_pass rfl rfl ?_
              refine Ops_step (R_pick_true rfl rfl) rfl rfl ?_
              refine Ops_step (R_assign rfl) rfl rfl ?_
              refine Ops_nil ?_
              refine block_n ?_
              refine then_n (hK74_ _ _ ?_)
              clear hK74_ K74_
              refine W_keepB [2, 9, 10, 11, 12, 59, 60, 61, 73, 81, 82] fun B86 hB86_ => ?_
              simp only [pickE, lookE, putE, zipE, args0, Nat.reduceAdd, Nat.zero_add, List.cons_append, List.nil_append, Nat.reduceBEq, cond_true, cond_false] at hB86_
              subst hB86_
              refine W_region [some 84, some 61] rfl ?_
              refine Ops_step (R_add rfl rfl (wIc (n := i + 1) (by omega) (by omega))) rfl rfl ?_
              refine Ops_step (R_move rfl) rfl rfl ?_
              refine Ops_nil ?_
              exact ⟨M.length - (i + 1), _, by omega, rfl, ⟨i + 1, Y.2, by omega, rfl, by rw [htk, List.length_append]; first | (rw [decide_eq_true (show N ≤ (M.take i).flatten.length + bs.length from Nat.le_trans (of_decide_eq_true hg80) (by omega))]) | (rw [show decide (Y.1 = 50) = decide (N ≤ (M.take i).flatten.length + bs.length) from decide_eq_decide.2 hstep.2]), by rw [htk, List.length_append]; exact hstep.1, hD, hB10, hP, hF⟩, ⟨rfl, rfl, rfl, rfl, rfl, trivial⟩⟩
            · refine Ops_step (R_move rfl) rfl rfl ?_
              refine Ops_step (R_eql rfl rfl) rfl rfl ?_
              refine Ops_step (R_pick_false rfl rfl) rfl rfl ?_
              refine Ops_step (R_assign rfl) rfl rfl ?_
              refine Ops_nil ?_
              refine block_n ?_
              refine then_n (hK74_ _ _ ?_)
              clear hK74_ K74_
              refine W_keepB [2, 9, 10, 11, 12, 59, 60, 61, 73, 81, 82] fun B87 hB87_ => ?_
              simp only [pickE, lookE, putE, zipE, args0, Nat.reduceAdd, Nat.zero_add, List.cons_append, List.nil_append, Nat.reduceBEq, cond_true, cond_false] at hB87_
              subst hB87_
              refine W_region [some 84, some 61] rfl ?_
              refine Ops_step (R_add rfl rfl (wIc (n := i + 1) (by omega) (by omega))) rfl rfl ?_
              refine Ops_step (R_move rfl) rfl rfl ?_
              refine Ops_nil ?_
              exact ⟨M.length - (i + 1), _, by omega, rfl, ⟨i + 1, Y.2, by omega, rfl, by rw [htk, List.length_append]; first | (rw [decide_eq_true (show N ≤ (M.take i).flatten.length + bs.length from Nat.le_trans (of_decide_eq_true hg80) (by omega))]) | (rw [show decide (Y.1 = 50) = decide (N ≤ (M.take i).flatten.length + bs.length) from decide_eq_decide.2 hstep.2]), by rw [htk, List.length_append]; exact hstep.1, hD, hB10, hP, hF⟩, ⟨rfl, rfl, rfl, rfl, rfl, trivial⟩⟩
        · have hil : i = M.length := by omega
          subst hil
          rw [List.take_length] at hbt ⊢
          have hT3 := hD.ok.three
          have hN10 := hbt.len
          refine W_exit ?_
          refine then_exit ?_
          clear hK73_ K73_
          refine then_exit ?_
          refine block_exit ?_
          refine then_n (hK69_ _ _ ?_)
          clear hK69_ K69_
          refine W_seq_k fun K88_ hK88_ => ?_
          refine W_region [some 85, some 86, some 16, none] rfl ?_
          refine Ops_step (R_move rfl) rfl rfl ?_
          have hs86_ := hF.size
          have hd86_ := hD
          have hw86_ := hD.lt
          refine Ops_call (C_func TDl.bd13 rfl) rfl rfl ?_
          refine (files_any _ _ _ _ hD).mono ?_
          rintro _ w86_ ⟨ps86, rfl, hpl86, hP2, hD, hF86_⟩
          replace hF := hF.then hF86_ (by simp only [List.mem_singleton]; omega)
          replace hB10 := hB10.fr hF86_ (by simp only [List.mem_singleton]; omega)
          replace hP := hP.fr hF86_ (fun i_ hi_ => by rw [List.mem_singleton.1 hi_]; obtain ⟨cs_, hb_⟩ := hd86_.blk; exact ⟨40, cs_, by decide, hb_⟩)
          clear hF86_
          replace hP2 := hP2.le hs86_
          refine ⟨_, rfl, ?_⟩
          have hz16_hF := hF.size
          have hn16_hD := hD.lt
          have hn16_hB10 := hB10.lt
          refine Ops_to (R_alloc TDl.zr30) rfl rfl ?_
          rintro _ w16_ ⟨b16, rfl, hb16, hB16, hF16_⟩
          have hl16 := hB16.lt
          replace hF := hF.fr0 hF16_
          replace hD := hD.fr0 hF16_
          replace hB10 := hB10.fr0 hF16_
          replace hP := hP.fr0 hF16_
          replace hP2 := hP2.fr0 hF16_
          clear hF16_
          have hb16_ := hB16
          refine Ops_to0 (R_storeN TDl.sz30 (by rw [List.size_toArray, flC_len hpl86 hT3 (by omega)]) rfl rfl hB16 (by decide) (flC_one _ _)) rfl ?_
          clear hB16
          rintro _ w89_ ⟨hB16, hF89_⟩
          replace hF := hF.then hF89_ (by simp only [List.mem_cons, List.not_mem_nil, or_false]; intro i_ hi_ hj_; omega)
          replace hD := hD.fr hF89_ (skOne (by omega) hb16_ (by decide))
          replace hB10 := hB10.fr hF89_ (by simp only [List.mem_cons, List.not_mem_nil, or_false]; omega)
          replace hP := hP.fr hF89_ (fun i_ hi_ => by rw [List.mem_singleton.1 hi_]; exact ⟨30, _, by decide, hb16_⟩)
          replace hP2 := hP2.fr hF89_ (fun i_ hi_ => by rw [List.mem_singleton.1 hi_]; exact ⟨30, _, by decide, hb16_⟩)
          clear hF89_
          replace hB16 := hB16.to (cs' := flC ps86 X.F) (over4_ (by rw [flC_len hpl86 hT3 (by omega)]; rfl))
          refine Ops_nil ?_
          refine then_n (hK88_ _ _ ?_)
          clear hK88_ K88_
          refine W_keepB [2, 10, 11, 12, 16] fun B90 hB90_ => ?_
          simp only [pickE, lookE, putE, zipE, args0, Nat.reduceAdd, Nat.zero_add, List.cons_append, List.nil_append, Nat.reduceBEq, cond_true, cond_false] at hB90_
          subst hB90_
          refine W_seq_k fun K91_ hK91_ => ?_
          refine W_region [some 87, some 88, some 89, some 90, some 91, some 92, some 93, some 94, some 95, some 96, some 97, some 98, some 99, some 100, some 101, some 102, some 103, some 104, some 105, some 106, some 107, some 6] rfl ?_
          refine Ops_step (R_move rfl) rfl rfl ?_
          refine Ops_step (R_move rfl) rfl rfl ?_
          refine Ops_step (R_move rfl) rfl rfl ?_
          refine Ops_step (R_geq rfl rfl) rfl rfl ?_
          refine Ops_step (R_boolEq Try.underlying4 rfl rfl) rfl rfl ?_
          refine Ops_step (R_move rfl) rfl rfl ?_
          refine Ops_splitB 92 rfl (fun hg92 => ?_) (fun hg92 => ?_)
          · refine Ops_step (R_indexArr Try.underlying30 TDl.sz24 rfl rfl (by omega) (by omega)) rfl rfl ?_
            refine Ops_step (R_loadB TDl.ag24 rfl hB16 (flC_get hpl86 hT3 (i := 1) (by omega))) rfl rfl ?_
            refine Ops_step (R_len Try.underlying24 rfl rfl) rfl rfl ?_
            refine Ops_step (R_indexArr Try.underlying30 TDl.sz24 rfl rfl (by omega) (by omega)) rfl rfl ?_
            refine Ops_step (R_loadB TDl.ag24 rfl hB10 (flC_get hpl52 hT1 (i := 1) (by omega))) rfl rfl ?_
            refine Ops_step (R_len Try.underlying24 rfl rfl) rfl rfl ?_
            refine Ops_step (R_sub rfl rfl (wI (by omega) (by omega))) rfl rfl ?_
            refine Ops_step (R_move rfl) rfl rfl ?_
            refine Ops_step (R_move rfl) rfl rfl ?_
            refine Ops_step (R_min rfl rfl _root_.rfl) rfl rfl ?_
            refine Ops_step (R_eql rfl rfl) rfl rfl ?_
            refine Ops_step (R_pick_true rfl rfl) rfl rfl ?_
            refine Ops_step (R_move rfl) rfl rfl ?_
            refine Ops_split 105 rfl (fun hg105 => ?_) (fun hg105 => ?_)
            · refine Ops_call (C_func TDl.bd11 rfl) rfl rfl ?_
              refine (awake_any _).mono ?_
              rintro _ w106_ ⟨rfl, hF106_⟩
              replace hF := hF.fr0 hF106_
              replace hD := hD.fr0 hF106_
              replace hB10 := hB10.fr0 hF106_
              replace hP := hP.fr0 hF106_
              replace hP2 := hP2.fr0 hF106_
              replace hB16 := hB16.fr0 hF106_
              clear hF106_
              refine ⟨_, rfl, ?_⟩
              refine Ops_step (R_pick_true rfl rfl) rfl rfl ?_
              refine Ops_step (R_assign rfl) rfl rfl ?_
              refine Ops_nil ?_
              refine then_n (hK91_ _ _ ?_)
              clear hK91_ K91_
              refine W_keepB [6] fun B92 hB92_ => ?_
              simp only [pickE, lookE, putE, zipE, args0, Nat.reduceAdd, Nat.zero_add, List.cons_append, List.nil_append, Nat.reduceBEq, cond_true, cond_false] at hB92_
              subst hB92_
              refine W_ret ?_
              refine ⟨_, ⟨_, _, rfl, rfl, rfl⟩, ?_⟩
              exact ⟨rfl, hF⟩
            · exfalso; omega
          · exfalso; have h_ : decide (N ≤ M.flatten.length) = decide ((M.flatten.length : Int) ≥ N) := decide_eq_decide.2 (by omega); rw [h_] at hg92; simp at hg92

end Go.Proofs.Ytijckogioombdaa
