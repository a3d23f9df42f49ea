/- What the walks of this seat show of Dk. -/
import Derived.Test.YtijckogioombdaaDj
import Derived.Test.YtijckogioombdaaProg
set_option linter.unusedVariables false
set_option linter.unusedSimpArgs false
namespace Go.Proofs.Ytijckogioombdaa
open Go Go.Sx
namespace TDk
theorem hm : Try.prog.follows .mixedOrders = true := by kernel_rfl
theorem ag24 : aggB Try.prog 24 = some false := by kernel_rfl
theorem bd10 : bodied Try.prog 10 = true := by kernel_rfl
theorem bd11 : bodied Try.prog 11 = true := by kernel_rfl
theorem bd12 : bodied Try.prog 12 = true := by kernel_rfl
theorem bd13 : bodied Try.prog 13 = true := by kernel_rfl
theorem bd15 : bodied Try.prog 15 = true := by kernel_rfl
theorem bd16 : bodied Try.prog 16 = true := by kernel_rfl
theorem bd22 : bodied Try.prog 22 = true := by kernel_rfl
theorem bd33 : bodied Try.prog 33 = true := by kernel_rfl
theorem el23 : Elem Try.prog 23 24 1 24 := Elem.of (by kernel_rfl)
theorem sz24 : sz Try.prog 24 = some 1 := by kernel_rfl
theorem sz30 : sz Try.prog 30 = some 3 := by kernel_rfl
theorem sz5 : sz Try.prog 5 = some 1 := by kernel_rfl
theorem zr24 : zr Try.prog 24 = some ([.slice none 0 0]) := by kernel_rfl
theorem zr30 : zr Try.prog 30 = some (List.replicate 3 (.slice none 0 0)) := by kernel_rfl
end TDk
set_option maxHeartbeats 4000000 in
theorem law_begins (LA : Option Addr) (lc : Nat) (L : List Do) (f n : Int) (Ab : Option Addr) (cb : Nat) (b : List UInt8) (w : World) (hL : RdDo w LA L) (hm : L.length * 48 ≤ 140737488351232) (_wf : (Lit.int .i64 f).wf = true) (_wn : (Lit.int .i64 n).wf = true) (hRb : Rd w Ab (b.map vb)) (hlb : b.length ≤ 140737488351232) (hbc : b.length ≤ cb) : Calls Try.prog 9 #[.slice LA L.length lc, vi f, vi n, .slice Ab b.length cb] w fun e w2 => e = .returned (.bool true) ∧ Fr [] w w2 := by
  have hF := Fr.refl [] w
  refine calls_W 94 Try.func9 rfl Try.ntmps9 rfl [.tmp 8] rfl ?_
  refine W_seq_k fun K1_ hK1_ => ?_
  refine W_region [some 8] rfl ?_
  refine Ops_step (R_assign rfl) rfl rfl ?_
  refine Ops_nil ?_
  refine then_n (hK1_ _ _ ?_)
  clear hK1_ K1_
  refine W_seq_k fun K2_ hK2_ => ?_
  refine W_seq_k fun K3_ hK3_ => ?_
  refine W_region [some 14, some 15, some 16, some 17, some 18, some 19, some 20, some 21] rfl ?_
  refine Ops_step (R_move rfl) rfl rfl ?_
  refine Ops_call (C_func TDk.bd10 rfl) rfl rfl ?_
  refine (short_any _ _ _ _ hL (by omega)).mono ?_
  rintro _ wq15_ ⟨r15, rfl, hr15, hq15_⟩
  replace hq15_ := hq15_.symm
  subst hq15_
  refine ⟨_, rfl, ?_⟩
  refine Ops_step (R_not rfl) rfl rfl ?_
  refine Ops_step (R_move rfl) rfl rfl ?_
  refine Ops_splitB 17 rfl (fun hg17 => ?_) (fun hg17 => ?_)
  · refine Ops_pass rfl rfl ?_
    refine Ops_pass rfl rfl ?_
    refine Ops_pass rfl rfl ?_
    refine Ops_step (R_pick_true rfl rfl) rfl rfl ?_
    refine Ops_nil ?_
    refine then_n (hK3_ _ _ ?_)
    clear hK3_ K3_
    refine W_keepB [0, 1, 2, 3, 21] fun B4 hB4_ => ?_
    simp only [pickE, lookE, putE, zipE, args0, Nat.reduceAdd, Nat.zero_add, List.cons_append, List.nil_append, Nat.reduceBEq, cond_true, cond_false] at hB4_
    subst hB4_
    refine W_cond_true rfl ?_
    refine W_seq_k fun K5_ hK5_ => ?_
    refine W_region [some 22, some 8] rfl ?_
    refine Ops_call (C_func TDk.bd11 rfl) rfl rfl ?_
    refine (awake_any _).mono ?_
    rintro _ w22_ ⟨rfl, hF22_⟩
    replace hF := hF.fr0 hF22_
    clear hF22_
    refine ⟨_, rfl, ?_⟩
    refine Ops_step (R_assign rfl) rfl rfl ?_
    refine Ops_nil ?_
    refine then_n (hK5_ _ _ ?_)
    clear hK5_ K5_
    refine W_keepB [8] fun B6 hB6_ => ?_
    simp only [pickE, lookE, putE, zipE, args0, Nat.reduceAdd, Nat.zero_add, List.cons_append, List.nil_append, Nat.reduceBEq, cond_true, cond_false] at hB6_
    subst hB6_
    refine W_ret ?_
    refine then_ret ?_
    clear hK2_ K2_
    refine ⟨_, ⟨_, _, rfl, rfl, rfl⟩, ?_⟩
    exact ⟨rfl, hF⟩
  · have hsh := hr15 (by simpa using hg17)
    refine Ops_step (R_move rfl) rfl rfl ?_
    refine Ops_step (R_len Try.underlying24 rfl rfl) rfl rfl ?_
    refine Ops_step (R_gtr rfl rfl) rfl rfl ?_
    refine Ops_step (R_pick_false rfl rfl) rfl rfl ?_
    refine Ops_nil ?_
    refine then_n (hK3_ _ _ ?_)
    clear hK3_ K3_
    refine W_keepB [0, 1, 2, 3, 21] fun B7 hB7_ => ?_
    simp only [pickE, lookE, putE, zipE, args0, Nat.reduceAdd, Nat.zero_add, List.cons_append, List.nil_append, Nat.reduceBEq, cond_true, cond_false] at hB7_
    subst hB7_
    refine W_if rfl (fun hc21 => ?_) (fun hc21 => ?_)
    · refine W_seq_k fun K8_ hK8_ => ?_
      refine W_region [some 22, some 8] rfl ?_
      refine Ops_call (C_func TDk.bd11 rfl) rfl rfl ?_
      refine (awake_any _).mono ?_
      rintro _ w22_ ⟨rfl, hF22_⟩
      replace hF := hF.fr0 hF22_
      clear hF22_
      refine ⟨_, rfl, ?_⟩
      refine Ops_step (R_assign rfl) rfl rfl ?_
      refine Ops_nil ?_
      refine then_n (hK8_ _ _ ?_)
      clear hK8_ K8_
      refine W_keepB [8] fun B9 hB9_ => ?_
      simp only [pickE, lookE, putE, zipE, args0, Nat.reduceAdd, Nat.zero_add, List.cons_append, List.nil_append, Nat.reduceBEq, cond_true, cond_false] at hB9_
      subst hB9_
      refine W_ret ?_
      refine then_ret ?_
      clear hK2_ K2_
      refine ⟨_, ⟨_, _, rfl, rfl, rfl⟩, ?_⟩
      exact ⟨rfl, hF⟩
    · refine W_skip ?_
      refine then_n (hK2_ _ _ ?_)
      clear hK2_ K2_
      refine W_seq_k fun K10_ hK10_ => ?_
      refine W_drawF [some 23, some 24, some 25, some 26, some 27, some 28, some 29, some 30, some 31, some 32, some 33, some 34, some 35, some 1, some 2] [(0, true), (1, true), (2, true), (3, true), (4, true), (5, true), (6, true), (7, true), (8, true), (9, true), (10, true), (11, true), (12, true), (13, true), (14, true)] TDk.hm rfl (by kernel_rfl) fun ops11_ w11_ hops11_ hF11_ => ?_
      replace hF := hF.fr0 hF11_
      clear hF11_
      refine HS_pure (fun w_ => R_move rfl) rfl rfl ?_
      refine HS_pure (fun w_ => R_conv Try.underlying3 Try.underlying27 rfl (cI_64 _)) rfl rfl ?_
      refine HS_pure (fun w_ => R_rem rfl rfl (by decide) (remc _ 3)) rfl rfl ?_
      refine HS_pure (fun w_ => R_conv Try.underlying27 Try.underlying3 rfl (wI (by omega) (by omega))) rfl rfl ?_
      refine HS_pure (fun w_ => R_move rfl) rfl rfl ?_
      refine HS_pure (fun w_ => R_conv Try.underlying3 Try.underlying27 rfl (cI_64 _)) rfl rfl ?_
      refine HS_pure (fun w_ => R_move rfl) rfl rfl ?_
      refine HS_pure (fun w_ => R_len Try.underlying24 rfl rfl) rfl rfl ?_
      refine HS_pure (fun w_ => R_add rfl rfl (wIc (n := b.length + 2) (by omega) (by omega))) rfl rfl ?_
      refine HS_pure (fun w_ => R_conv Try.underlying3 Try.underlying27 rfl (show _ = ((b.length + 2 : Nat) : Int) by rw [wU64]; omega)) rfl rfl ?_
      refine HS_pure (fun w_ => R_rem rfl rfl (by omega) (remc _ (b.length + 2))) rfl rfl ?_
      have hlt34 := Nat.mod_lt (BitVec.ofInt 64 n).toNat (show b.length + 2 > 0 by omega)
      refine HS_pure (fun w_ => R_conv Try.underlying27 Try.underlying3 rfl (wI (by omega) (by omega))) rfl rfl ?_
      refine HS_pure (fun w_ => R_add rfl rfl (wIc (n := 1 + (BitVec.ofInt 64 n).toNat % (b.length + 2)) (by omega) (by omega))) rfl rfl ?_
      refine HS_pure (fun w_ => R_assign rfl) rfl rfl ?_
      refine HS_pure (fun w_ => R_assign rfl) rfl rfl ?_
      refine HS_nil ?_
      clear hops11_
      refine then_n (hK10_ _ _ ?_)
      clear hK10_ K10_
      refine W_keepB [0, 1, 2, 3] fun B12 hB12_ => ?_
      simp only [pickE, lookE, putE, zipE, args0, Nat.reduceAdd, Nat.zero_add, List.cons_append, List.nil_append, Nat.reduceBEq, cond_true, cond_false] at hB12_
      subst hB12_
      refine W_seq_k fun K13_ hK13_ => ?_
      refine W_region [some 36, some 37, some 9] rfl ?_
      refine named ((BitVec.ofInt 64 f).toNat % 3) fun fi efi => ?_
      refine named (1 + (BitVec.ofInt 64 n).toNat % (b.length + 2)) fun N eN => ?_
      rw [← efi, ← eN]
      have hfi : fi < 3 := by omega
      have hN1 : 1 ≤ N := by omega
      have hN2 : N ≤ b.length + 2 := by omega
      clear efi eN
      refine Ops_step (R_move rfl) rfl rfl ?_
      have hs37_ := hF.size
      refine Ops_call (C_func TDk.bd12 rfl) rfl rfl ?_
      refine (made_any 4194304 (by decide) (by decide) _ L _ _ (hL.fr0 hF) (by omega)).mono ?_
      rintro _ w37_ ⟨d37, rfl, hD, hF37_⟩
      replace hF := hF.fr0 hF37_
      clear hF37_
      refine Exists.elim hD.name fun B_hD h_ => ?_
      clear hD
      have hBe_hD := h_.1
      have hD := h_.2
      clear h_
      have hge_hD := hD.ge
      refine named (runs (Dk.new 4194304) L) fun D1 eD1 => ?_
      rw [← eD1] at hD
      have hT1 := hD.ok.three
      have hrm1 : D1.room = 4194304 := by rw [eD1, runs_room]; rfl
      have hus1 : D1.used ≤ 16384 := by have h_ := runs_used L (Dk.new 4194304); rw [← eD1] at h_; have h2_ : (Dk.new 4194304).used = 0 := rfl; omega
      have hspec := begins_spec hD.ok hfi hN1 (b := b) (by omega)
      refine ⟨_, rfl, ?_⟩
      refine Ops_step (R_assign rfl) rfl rfl ?_
      refine Ops_nil ?_
      refine then_n (hK13_ _ _ ?_)
      clear hK13_ K13_
      refine W_seq_k fun K14_ hK14_ => ?_
      refine W_region [some 38, some 39, some 10, none] rfl ?_
      refine Ops_step (R_move rfl) rfl rfl ?_
      have hs39_ := hF.size
      have hd39_ := hD
      have hw39_ := hD.lt
      refine Ops_call (C_func TDk.bd13 rfl) rfl rfl ?_
      refine (files_any _ _ _ _ hD).mono ?_
      rintro _ w39_ ⟨ps39, rfl, hpl39, hP, hD, hF39_⟩
      replace hF := hF.then hF39_ (by simp only [List.mem_singleton]; omega)
      clear hF39_
      replace hP := hP.le hs39_
      refine ⟨_, rfl, ?_⟩
      have hz10_hF := hF.size
      have hn10_hD := hD.lt
      refine Ops_to (R_alloc TDk.zr30) rfl rfl ?_
      rintro _ w10_ ⟨b10, rfl, hb10, hB10, hF10_⟩
      have hl10 := hB10.lt
      replace hF := hF.fr0 hF10_
      replace hD := hD.fr0 hF10_
      replace hP := hP.fr0 hF10_
      clear hF10_
      have hb10_ := hB10
      refine Ops_to0 (R_storeN TDk.sz30 (by rw [List.size_toArray, flC_len hpl39 hT1 (by omega)]) rfl rfl hB10 (by decide) (flC_one _ _)) rfl ?_
      clear hB10
      rintro _ w15_ ⟨hB10, hF15_⟩
      replace hF := hF.then hF15_ (by simp only [List.mem_cons, List.not_mem_nil, or_false]; intro i_ hi_ hj_; omega)
      replace hD := hD.fr hF15_ (skOne (by omega) hb10_ (by decide))
      replace hP := hP.fr hF15_ (fun i_ hi_ => by rw [List.mem_singleton.1 hi_]; exact ⟨30, _, by decide, hb10_⟩)
      clear hF15_
      replace hB10 := hB10.to (cs' := flC ps39 D1.F) (over4_ (by rw [flC_len hpl39 hT1 (by omega)]; rfl))
      refine Ops_nil ?_
      refine then_n (hK14_ _ _ ?_)
      clear hK14_ K14_
      refine W_seq_k fun K16_ hK16_ => ?_
      refine W_seq_k fun K17_ hK17_ => ?_
      refine W_region [some 40, some 41, some 42, some 43] rfl ?_
      refine Ops_step (R_move rfl) rfl rfl ?_
      refine Ops_step (R_move rfl) rfl rfl ?_
      have hs42_ := hF.size
      have hd42_ := hD
      have hw42_ := hD.lt
      have hb10lt := hB10.lt
      refine Ops_call (C_func TDk.bd15 rfl) rfl rfl ?_
      refine (arm_any _ _ _ N (by omega) _ hD).mono ?_
      rintro _ w42_ ⟨rfl, hD, hF42_⟩
      replace hF := hF.then hF42_ (by simp only [List.mem_singleton]; omega)
      replace hP := hP.fr hF42_ (fun i_ hi_ => by rw [List.mem_singleton.1 hi_]; obtain ⟨cs_, hb_⟩ := hd42_.blk; exact ⟨40, cs_, by decide, hb_⟩)
      replace hB10 := hB10.fr hF42_ (by simp only [List.mem_singleton]; omega)
      clear hF42_
      
      refine ⟨_, rfl, ?_⟩
      refine Ops_step (R_neq rfl rfl) rfl rfl ?_
      refine Ops_nil ?_
      refine then_n (hK17_ _ _ ?_)
      clear hK17_ K17_
      refine W_keepB [1, 2, 3, 9, 10, 43] fun B18 hB18_ => ?_
      simp only [pickE, lookE, putE, zipE, args0, Nat.reduceAdd, Nat.zero_add, List.cons_append, List.nil_append, Nat.reduceBEq, cond_true, cond_false] at hB18_
      subst hB18_
      refine W_no rfl (by rw [(begin_arm D1 hN1)]; decide) ?_
      refine W_skip ?_
      refine then_n (hK16_ _ _ ?_)
      clear hK16_ K16_
      refine W_seq_k fun K19_ hK19_ => ?_
      refine W_region [some 44, some 45, some 46, some 47, some 11] rfl ?_
      refine Ops_step (R_move rfl) rfl rfl ?_
      refine Ops_step (R_move rfl) rfl rfl ?_
      refine Ops_step (R_move rfl) rfl rfl ?_
      have hs47_ := hF.size
      have hd47_ := hD
      have hw47_ := hD.lt
      refine Ops_call (C_func TDk.bd16 rfl) rfl rfl ?_
      refine (append_any _ _ _ (fi : Int) _ b _ _ hD (.old hRb hF (by omega)) hbc (by omega)).mono ?_
      rintro _ w47_ ⟨rfl, hD, hF47_⟩
      replace hF := hF.then hF47_ (by simp only [List.mem_singleton]; omega)
      replace hP := hP.fr hF47_ (fun i_ hi_ => by rw [List.mem_singleton.1 hi_]; obtain ⟨cs_, hb_⟩ := hd47_.blk; exact ⟨40, cs_, by decide, hb_⟩)
      replace hB10 := hB10.fr hF47_ (by simp only [List.mem_singleton]; omega)
      clear hF47_
      refine named ((D1.start.2.arm (N : Int)).2.append (fi : Int) b) fun X eX => ?_
      rw [← eX] at hD hspec ⊢
      have hT3 := hD.ok.three
      clear eX
      refine ⟨_, rfl, ?_⟩
      refine Ops_step (R_assign rfl) rfl rfl ?_
      refine Ops_nil ?_
      refine then_n (hK19_ _ _ ?_)
      clear hK19_ K19_
      refine W_seq_k fun K20_ hK20_ => ?_
      refine W_region [some 48, some 49, some 12, none] rfl ?_
      refine Ops_step (R_move rfl) rfl rfl ?_
      have hs49_ := hF.size
      have hd49_ := hD
      have hw49_ := hD.lt
      refine Ops_call (C_func TDk.bd13 rfl) rfl rfl ?_
      refine (files_any _ _ _ _ hD).mono ?_
      rintro _ w49_ ⟨ps49, rfl, hpl49, hP2, hD, hF49_⟩
      replace hF := hF.then hF49_ (by simp only [List.mem_singleton]; omega)
      replace hP := hP.fr hF49_ (fun i_ hi_ => by rw [List.mem_singleton.1 hi_]; obtain ⟨cs_, hb_⟩ := hd49_.blk; exact ⟨40, cs_, by decide, hb_⟩)
      replace hB10 := hB10.fr hF49_ (by simp only [List.mem_singleton]; omega)
      clear hF49_
      replace hP2 := hP2.le hs49_
      refine ⟨_, rfl, ?_⟩
      have hz12_hF := hF.size
      have hn12_hD := hD.lt
      have hn12_hB10 := hB10.lt
      refine Ops_to (R_alloc TDk.zr30) rfl rfl ?_
      rintro _ w12_ ⟨b12, rfl, hb12, hB12, hF12_⟩
      have hl12 := hB12.lt
      replace hF := hF.fr0 hF12_
      replace hD := hD.fr0 hF12_
      replace hP := hP.fr0 hF12_
      replace hB10 := hB10.fr0 hF12_
      replace hP2 := hP2.fr0 hF12_
      clear hF12_
      have hb12_ := hB12
      refine Ops_to0 (R_storeN TDk.sz30 (by rw [List.size_toArray, flC_len hpl49 hT3 (by omega)]) rfl rfl hB12 (by decide) (flC_one _ _)) rfl ?_
      clear hB12
      rintro _ w21_ ⟨hB12, hF21_⟩
      replace hF := hF.then hF21_ (by simp only [List.mem_cons, List.not_mem_nil, or_false]; intro i_ hi_ hj_; omega)
      replace hD := hD.fr hF21_ (skOne (by omega) hb12_ (by decide))
      replace hP := hP.fr hF21_ (fun i_ hi_ => by rw [List.mem_singleton.1 hi_]; exact ⟨30, _, by decide, hb12_⟩)
      replace hB10 := hB10.fr hF21_ (by simp only [List.mem_cons, List.not_mem_nil, or_false]; omega)
      replace hP2 := hP2.fr hF21_ (fun i_ hi_ => by rw [List.mem_singleton.1 hi_]; exact ⟨30, _, by decide, hb12_⟩)
      clear hF21_
      replace hB12 := hB12.to (cs' := flC ps49 X.2.F) (over4_ (by rw [flC_len hpl49 hT3 (by omega)]; rfl))
      refine Ops_nil ?_
      refine then_n (hK20_ _ _ ?_)
      clear hK20_ K20_
      refine W_keepB [1, 2, 3, 10, 11, 12] fun B22 hB22_ => ?_
      simp only [pickE, lookE, putE, zipE, args0, Nat.reduceAdd, Nat.zero_add, List.cons_append, List.nil_append, Nat.reduceBEq, cond_true, cond_false] at hB22_
      subst hB22_
      refine W_seq_k fun K23_ hK23_ => ?_
      refine W_seq_k fun K24_ hK24_ => ?_
      refine W_region [some 50] rfl ?_
      refine Ops_step (R_move rfl) rfl rfl ?_
      refine Ops_nil ?_
      refine then_n (hK24_ _ _ ?_)
      clear hK24_ K24_
      refine W_block ?_
      refine W_loopB [1, 2, 3, 10, 11, 12] [50] (fun m vs w' => ∃ i, i ≤ 3 ∧ m = 3 - i ∧ vs = [vi (i : Nat)] ∧ Blk w' b10 30 (flC ps39 D1.F) ∧ Blk w' b12 30 (flC ps49 X.2.F) ∧ FlP w' w.heap.size ps39 D1.F ∧ FlP w' w.heap.size ps49 X.2.F ∧ Fr [] w w') (3) _ rfl (⟨0, by omega, rfl, rfl, hB10, hB12, hP, hP2, hF⟩) fun B25 hB25_ => ?_
      simp only [pickE, lookE, putE, zipE, args0, Nat.reduceAdd, Nat.zero_add, List.cons_append, List.nil_append, Nat.reduceBEq, cond_true, cond_false] at hB25_
      subst hB25_
      clear hB10 hB12 hP hP2 hD hF
      rintro m_ vs_ w0_ ⟨i, hi, rfl, rfl, hB10, hB12, hP, hP2, hF⟩
      refine W_seq_k fun K26_ hK26_ => ?_
      refine W_region [some 51] rfl ?_
      refine Ops_step (R_lss rfl rfl) rfl rfl ?_
      refine Ops_nil ?_
      refine then_n (hK26_ _ _ ?_)
      clear hK26_ K26_
      refine W_seq_k fun K27_ hK27_ => ?_
      refine W_if rfl (fun hc51 => ?_) (fun hc51 => ?_)
      · refine W_skip ?_
        refine then_n (hK27_ _ _ ?_)
        clear hK27_ K27_
        refine W_seq_k fun K28_ hK28_ => ?_
        refine W_block ?_
        refine W_seq_k fun K29_ hK29_ => ?_
        refine W_region [some 52, some 13] rfl ?_
        refine Ops_step (R_move rfl) rfl rfl ?_
        refine Ops_step (R_assign rfl) rfl rfl ?_
        refine Ops_nil ?_
        refine then_n (hK29_ _ _ ?_)
        clear hK29_ K29_
        refine W_seq_k fun K30_ hK30_ => ?_
        refine W_drawF [some 53, some 54, some 55, some 56, some 57, some 58, some 59, some 60, some 61, some 62, some 63, some 64, some 65] [(0, true), (1, true), (2, true), (3, true), (4, true), (5, true), (6, true), (7, true), (8, true), (9, true), (10, false), (11, true), (12, true)] TDk.hm rfl (by kernel_rfl) fun ops31_ w31_ hops31_ hF31_ => ?_
        replace hF := hF.fr0 hF31_
        replace hB10 := hB10.fr0 hF31_
        replace hB12 := hB12.fr0 hF31_
        replace hP := hP.fr0 hF31_
        replace hP2 := hP2.fr0 hF31_
        clear hF31_
        refine HS_pure (fun w_ => R_move rfl) rfl rfl ?_
        refine HS_pure (fun w_ => R_move rfl) rfl rfl ?_
        refine HS_pure (fun w_ => R_neq rfl rfl) rfl rfl ?_
        refine HS_pure (fun w_ => R_move rfl) rfl rfl ?_
        refine HS_split 56 rfl (fun hg56 => ?_) (fun hg56 => ?_)
        · refine HS_pure (fun w_ => R_move rfl) rfl rfl ?_
          refine HS_pure (fun w_ => R_indexArr Try.underlying30 TDk.sz24 rfl rfl (by omega) (by omega)) rfl rfl ?_
          refine HS_loadB TDk.ag24 rfl hB10 (flC_get hpl39 hT1 (i := i) (by omega)) rfl rfl ?_
          refine HS_pure (fun w_ => R_move rfl) rfl rfl ?_
          refine HS_pure (fun w_ => R_indexArr Try.underlying30 TDk.sz24 rfl rfl (by omega) (by omega)) rfl rfl ?_
          refine HS_loadB TDk.ag24 rfl hB12 (flC_get hpl49 hT3 (i := i) (by omega)) rfl rfl ?_
          refine HS_call [] _ rfl (by rw [hops31_]; kernel_rfl) (C_func TDk.bd22 rfl) rfl rfl ?_
          refine (beq_any _ _ _ _ _ _ _ _ _ rfl rfl (hP i (by omega)).rd (hP2 i (by omega)).rd).mono ?_
          rintro _ wq63_ ⟨rfl, hq63_⟩
          replace hq63_ := hq63_.symm
          subst hq63_
          refine ⟨_, rfl, trivial, ?_⟩
          refine HS_pure (fun w_ => R_not' rfl) rfl rfl ?_
          refine HS_pure (fun w_ => R_pick_true rfl rfl) rfl rfl ?_
          refine HS_nil ?_
          clear hops31_
          refine then_n (hK30_ _ _ ?_)
          clear hK30_ K30_
          refine W_keepB [1, 2, 3, 10, 11, 12, 50, 57, 58, 59, 60, 61, 62, 63, 64, 65] fun B32 hB32_ => ?_
          simp only [pickE, lookE, putE, zipE, args0, Nat.reduceAdd, Nat.zero_add, List.cons_append, List.nil_append, Nat.reduceBEq, cond_true, cond_false] at hB32_
          subst hB32_
          refine W_no rfl (fun h_ => h_ (by rw [hspec.2, set_other _ (fun e_ => hg56 (by rw [e_]))])) ?_
          refine W_skip ?_
          refine block_n ?_
          refine then_n (hK28_ _ _ ?_)
          clear hK28_ K28_
          refine W_region [some 66, some 50] rfl ?_
          refine Ops_step (R_add rfl rfl (wIc (n := i + 1) (by omega) (by omega))) rfl rfl ?_
          refine Ops_step (R_move rfl) rfl rfl ?_
          refine Ops_nil ?_
          exact ⟨3 - (i + 1), _, by omega, rfl, ⟨i + 1, by omega, rfl, rfl, hB10, hB12, hP, hP2, hF⟩, ⟨rfl, rfl, rfl, rfl, rfl, rfl, trivial⟩⟩
        · refine HS_pass rfl rfl ?_
          refine HS_pass rfl rfl ?_
          refine HS_pass rfl rfl ?_
          refine HS_pass rfl rfl ?_
          refine HS_pass rfl rfl ?_
          refine HS_pass rfl rfl ?_
          refine HS_passL rfl rfl ?_
          refine HS_pass rfl rfl ?_
          refine HS_pure (fun w_ => R_pick_false rfl rfl) rfl rfl ?_
          refine HS_nil ?_
          clear hops31_
          refine then_n (hK30_ _ _ ?_)
          clear hK30_ K30_
          refine W_keepB [1, 2, 3, 10, 11, 12, 50, 57, 58, 59, 60, 61, 62, 63, 64, 65] fun B33 hB33_ => ?_
          simp only [pickE, lookE, putE, zipE, args0, Nat.reduceAdd, Nat.zero_add, List.cons_append, List.nil_append, Nat.reduceBEq, cond_true, cond_false] at hB33_
          subst hB33_
          refine W_cond_false rfl ?_
          refine W_skip ?_
          refine block_n ?_
          refine then_n (hK28_ _ _ ?_)
          clear hK28_ K28_
          refine W_region [some 66, some 50] rfl ?_
          refine Ops_step (R_add rfl rfl (wIc (n := i + 1) (by omega) (by omega))) rfl rfl ?_
          refine Ops_step (R_move rfl) rfl rfl ?_
          refine Ops_nil ?_
          exact ⟨3 - (i + 1), _, by omega, rfl, ⟨i + 1, by omega, rfl, rfl, hB10, hB12, hP, hP2, hF⟩, ⟨rfl, rfl, rfl, rfl, rfl, rfl, trivial⟩⟩
      · refine W_exit ?_
        refine then_exit ?_
        clear hK27_ K27_
        refine then_exit ?_
        refine block_exit ?_
        refine then_n (hK23_ _ _ ?_)
        clear hK23_ K23_
        refine W_seq_k fun K34_ hK34_ => ?_
        refine W_drawF [some 67, some 68, some 69, some 70, some 71, some 72, some 73, some 74, some 75, some 76, some 77, some 78, some 79, some 80, some 81, some 82, some 83, some 84, some 85, some 86, some 87, some 88, some 89, some 90, some 91, some 92, some 93, some 8] [(0, true), (1, true), (2, true), (3, true), (4, true), (5, true), (6, true), (7, true), (8, true), (9, true), (10, true), (11, true), (12, true), (13, true), (14, true), (15, true), (16, true), (17, true), (18, true), (19, true), (20, false), (21, false), (22, false), (23, true), (24, true), (25, false), (26, true), (27, true)] TDk.hm rfl (by kernel_rfl) fun ops35_ w35_ hops35_ hF35_ => ?_
        replace hF := hF.fr0 hF35_
        replace hB10 := hB10.fr0 hF35_
        replace hB12 := hB12.fr0 hF35_
        replace hP := hP.fr0 hF35_
        replace hP2 := hP2.fr0 hF35_
        clear hF35_
        refine HS_pure (fun w_ => R_move rfl) rfl rfl ?_
        refine HS_pure (fun w_ => R_eql rfl rfl) rfl rfl ?_
        refine HS_pure (fun w_ => R_move rfl) rfl rfl ?_
        refine HS_pure (fun w_ => R_move rfl) rfl rfl ?_
        refine HS_pure (fun w_ => R_len Try.underlying24 rfl rfl) rfl rfl ?_
        refine HS_pure (fun w_ => R_leq rfl rfl) rfl rfl ?_
        refine HS_pure (fun w_ => R_boolEq Try.underlying4 rfl rfl) rfl rfl ?_
        refine HS_pure (fun w_ => R_move rfl) rfl rfl ?_
        refine HS_known (b := true) 74 rfl (by rw [hspec.1]; by_cases h_ : N ≤ b.length <;> simp [h_]) ?_
        refine HS_pure (fun w_ => R_move rfl) rfl rfl ?_
        refine HS_pure (fun w_ => R_indexArr Try.underlying30 TDk.sz24 rfl rfl (by omega) (by omega)) rfl rfl ?_
        refine HS_loadB TDk.ag24 rfl hB12 (flC_get hpl49 hT3 (i := fi) (by omega)) rfl rfl ?_
        refine HS_pure (fun w_ => R_move rfl) rfl rfl ?_
        refine HS_pure (fun w_ => R_indexArr Try.underlying30 TDk.sz24 rfl rfl (by omega) (by omega)) rfl rfl ?_
        refine HS_loadB TDk.ag24 rfl hB10 (flC_get hpl39 hT1 (i := fi) (by omega)) rfl rfl ?_
        refine HS_pure (fun w_ => R_move rfl) rfl rfl ?_
        refine HS_pure (fun w_ => R_move rfl) rfl rfl ?_
        refine HS_pure (fun w_ => R_move rfl) rfl rfl ?_
        refine HS_pure (fun w_ => R_len Try.underlying24 rfl rfl) rfl rfl ?_
        refine HS_pure (fun w_ => R_min rfl rfl (show _ = ((min N b.length : Nat) : Int) by omega)) rfl rfl ?_
        refine HS_pure (fun w_ => R_sliceTo (h := min N b.length) Try.underlying24 TDk.sz5 rfl ⟨_, _, rfl, rfl⟩ rfl (by decide) (by omega) (by omega)) rfl rfl ?_
        have hz87_hF := hF.size
        have hn87_hB10 := hB10.lt
        have hn87_hB12 := hB12.lt
        refine HS_to [10] _ rfl (by rw [hops35_]; kernel_rfl) (R_buildSlice TDk.el23 TDk.zr24 (by decide) (by decide) rfl rfl) rfl rfl ?_
        rintro _ w87_ ⟨b87, rfl, hb87, hB87, hF87_⟩
        have hl87 := hB87.lt
        replace hF := hF.fr0 hF87_
        replace hB10 := hB10.fr0 hF87_
        replace hB12 := hB12.fr0 hF87_
        replace hP := hP.fr0 hF87_
        replace hP2 := hP2.fr0 hF87_
        clear hF87_
        replace hB87 : Blk _ b87 24 [.slice (ps39.getD fi (none, 0)).1 (D1.F.getD fi []).length (ps39.getD fi (none, 0)).2, .slice Ab (min N b.length) cb] := hB87
        refine ⟨⟨(hB12.at_ (flC_get hpl49 hT3 (i := fi) (by omega))), trivial⟩, ?_⟩
        have hs88_ := hF.size
        refine HS_call [10] _ rfl (by rw [hops35_]; kernel_rfl) (C_func TDk.bd33 rfl) rfl rfl ?_
        refine (concat_any _ [D1.F.getD fi [], b.take (min N b.length)] _ _ (RdLL.lit hB87 [D1.F.getD fi [], b.take (min N b.length)] [((ps39.getD fi (none, 0)).1, (ps39.getD fi (none, 0)).2), (Ab, cb)] (by simp [List.length_take, Nat.min_eq_left (Nat.min_le_right N b.length)]) rfl (by simp only [List.zip_cons_cons, List.zip_nil_right, List.forall_mem_cons]; exact ⟨(hP fi (by omega)).rd, (hRb.fr0 hF).takeB _, by simp⟩)) (by rw [List.flatten_cons, List.flatten_cons, List.flatten_nil, List.append_nil, List.length_append, List.length_take]; have h_ := len_used hT1 hfi; omega) (by simp)).mono ?_
        rintro _ w88_ ⟨A88, c88, rfl, hQ88, hF88_⟩
        replace hF := hF.fr0 hF88_
        replace hB10 := hB10.fr0 hF88_
        replace hB12 := hB12.fr0 hF88_
        replace hP := hP.fr0 hF88_
        replace hP2 := hP2.fr0 hF88_
        replace hB87 := hB87.fr0 hF88_
        clear hF88_
        
        refine ⟨_, rfl, ⟨(hB12.at_ (flC_get hpl49 hT3 (i := fi) (by omega))), trivial⟩, ?_⟩
        refine HS_call [] _ rfl (by rw [hops35_]; kernel_rfl) (C_func TDk.bd22 rfl) rfl rfl ?_
        refine (beq_any _ _ _ _ _ _ _ _ _ rfl rfl (hP2 fi (by omega)).rd hQ88.rd).mono ?_
        rintro _ wq89_ ⟨rfl, hq89_⟩
        replace hq89_ := hq89_.symm
        subst hq89_
        refine ⟨_, rfl, trivial, ?_⟩
        refine HS_pure (fun w_ => R_pick_true rfl rfl) rfl rfl ?_
        refine HS_pure (fun w_ => R_move rfl) rfl rfl ?_
        refine HS_known (b := true) 91 rfl (decide_eq_true (by rw [hspec.2, set_same (by omega)]; simp)) ?_
        refine HS_call [] _ rfl (by rw [hops35_]; kernel_rfl) (C_func TDk.bd11 rfl) rfl rfl ?_
        refine (awake_any _).mono ?_
        rintro _ w92_ ⟨rfl, hF92_⟩
        replace hF := hF.fr0 hF92_
        replace hB10 := hB10.fr0 hF92_
        replace hB12 := hB12.fr0 hF92_
        replace hP := hP.fr0 hF92_
        replace hP2 := hP2.fr0 hF92_
        replace hQ88 := hQ88.fr0 hF92_
        clear hF92_
        refine ⟨_, rfl, trivial, ?_⟩
        refine HS_pure (fun w_ => R_pick_true rfl rfl) rfl rfl ?_
        refine HS_pure (fun w_ => R_assign rfl) rfl rfl ?_
        refine HS_nil ?_
        clear hops35_
        refine then_n (hK34_ _ _ ?_)
        clear hK34_ K34_
        refine W_keepB [8] fun B36 hB36_ => ?_
        simp only [pickE, lookE, putE, zipE, args0, Nat.reduceAdd, Nat.zero_add, List.cons_append, List.nil_append, Nat.reduceBEq, cond_true, cond_false] at hB36_
        subst hB36_
        refine W_ret ?_
        refine ⟨_, ⟨_, _, rfl, rfl, rfl⟩, ?_⟩
        exact ⟨rfl, hF⟩

end Go.Proofs.Ytijckogioombdaa
