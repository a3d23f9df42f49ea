/- What the walks of this seat show of Dm. -/
import Derived.Test.YtijckogioombdaaFk
import Derived.Test.YtijckogioombdaaFm
import Derived.Test.YtijckogioombdaaSx17
import Derived.Test.YtijckogioombdaaSx18
import Derived.Test.YtijckogioombdaaDj
import Derived.Test.YtijckogioombdaaProg
set_option linter.unusedVariables false
set_option linter.unusedSimpArgs false
namespace Go.Proofs.Ytijckogioombdaa
open Go Go.Sx
namespace TDm
theorem hm : Try.prog.follows .mixedOrders = true := by kernel_rfl
theorem ag24 : aggB Try.prog 24 = some false := by kernel_rfl
theorem ag38 : aggB Try.prog 38 = some true := by kernel_rfl
theorem bd10 : bodied Try.prog 10 = true := by kernel_rfl
theorem bd11 : bodied Try.prog 11 = true := by kernel_rfl
theorem bd12 : bodied Try.prog 12 = true := by kernel_rfl
theorem bd13 : bodied Try.prog 13 = true := by kernel_rfl
theorem bd17 : bodied Try.prog 17 = true := by kernel_rfl
theorem bd18 : bodied Try.prog 18 = true := by kernel_rfl
theorem bd20 : bodied Try.prog 20 = true := by kernel_rfl
theorem bd22 : bodied Try.prog 22 = true := by kernel_rfl
theorem el22 : Elem Try.prog 22 38 4 48 := Elem.of (by kernel_rfl)
theorem sz24 : sz Try.prog 24 = some 1 := by kernel_rfl
theorem sz30 : sz Try.prog 30 = some 3 := by kernel_rfl
theorem sz38 : sz Try.prog 38 = some 4 := by kernel_rfl
theorem zr30 : zr Try.prog 30 = some (List.replicate 3 (.slice none 0 0)) := by kernel_rfl
theorem zr38 : zr Try.prog 38 = some ([.int .i64 0] ++ [.int .i64 0] ++ [.int .i64 0] ++ [.slice none 0 0]) := by kernel_rfl
end TDm

theorem read_zero (B d : Nat) (D : Dk) (w : World) (hD : Dsk w B d D) : Calls Try.prog 17 #[.pointer (some ⟨d, 0, none⟩), vi 0] w fun e w2 => ∃ A n c, e = .returned (.tuple #[.slice A n c, vi (D.able 0)]) ∧ Fr [] w w2 := by
  cases ho : D.off with
  | false => exact (read_ok B d D 0 (by decide) ho w hD).mono fun e w2 ⟨A, c, he, _, hF⟩ => ⟨A, (D.F.getD 0 []).length, c, by rw [he]; simp [Dk.able, ho], hF⟩
  | true => exact (read_no B d D 0 (by simp [Dk.able, ho]) w hD).mono fun e w2 ⟨he, hw⟩ => ⟨none, 0, 0, he, by rw [hw]; exact Fr.refl _ _⟩
set_option maxHeartbeats 4000000 in
theorem law_refused (LA : Option Addr) (lc : Nat) (L : List Do) (k : Do) (AB : Option Addr) (bc : Nat) (w : World) (hL : RdDo w LA L) (hm : L.length * 48 ≤ 140737488351232) (_hk : DoOk w k AB bc) : Calls Try.prog 6 #[.slice LA L.length lc, .agg ([vi k.op, vi k.file, vi k.n, .slice AB k.b.length bc] : List Value).toArray] w fun e w2 => e = .returned (.bool true) ∧ Fr [] w w2 := by
  have hF := Fr.refl [] w
  obtain ⟨xs, hX, hXr⟩ := hL.xs
  refine calls_W 72 Try.func6 rfl Try.ntmps6 rfl [.tmp 4] rfl ?_
  refine W_seq_k fun K1_ hK1_ => ?_
  refine W_region [some 3, some 4] rfl ?_
  have hz3_hF := hF.size
  refine Ops_to (R_box rfl) rfl rfl ?_
  rintro _ w3_ ⟨b3, rfl, hb3, hB3, hF3_⟩
  have hl3 := hB3.lt
  replace hF := hF.fr0 hF3_
  clear hF3_
  replace hB3 : Blk _ b3 38 [vi k.op, vi k.file, vi k.n, .slice AB k.b.length bc] := hB3
  refine Ops_step (R_assign rfl) rfl rfl ?_
  refine Ops_nil ?_
  refine then_n (hK1_ _ _ ?_)
  clear hK1_ K1_
  refine W_seq_k fun K2_ hK2_ => ?_
  refine W_seq_k fun K3_ hK3_ => ?_
  refine W_region [some 15, some 16, some 17, some 18, some 19, some 20] rfl ?_
  refine Ops_step (R_loadW TDm.ag38 TDm.sz38 rfl hB3 (by rfl)) rfl rfl ?_
  have hz16_hF := hF.size
  have hn16_hB3 := hB3.lt
  refine Ops_to (R_buildSlice TDm.el22 TDm.zr38 (by decide) (by decide) rfl rfl) rfl rfl ?_
  rintro _ w16_ ⟨b16, rfl, hb16, hB16, hF16_⟩
  have hl16 := hB16.lt
  replace hF := hF.fr0 hF16_
  replace hB3 := hB3.fr0 hF16_
  clear hF16_
  replace hB16 : Blk _ b16 38 [vi k.op, vi k.file, vi k.n, .slice AB k.b.length bc] := hB16
  refine Ops_step (R_move rfl) rfl rfl ?_
  have hQ16 : Own _ b16 38 4 (some ⟨b16, 0, none⟩) 1 1 (doC k AB bc) := Own.mk (Nat.le_refl _) hB16 (Nat.le_refl _) (by decide) rfl rfl
  have hof := hQ16.off
  have hb18lt := hB16.lt
  have hxr18 := hXr.fr0 hF
  refine Ops_to (R_append TDm.el22 rfl rfl hQ16 (Src.ofRd Try.underlying22 (by decide) hxr18 hX.len hX.one) (by omega) (by simp only [maxLen]; omega) (Nat.le_of_lt hb18lt)) rfl rfl ?_
  clear hB16
  rintro _ w18_ ⟨A18, c18, rfl, hQ18, hF18_⟩
  replace hF := hF.then hF18_ (fun i_ hi_ hj_ => absurd (hof i_ hi_) (by omega))
  replace hB3 := hB3.fr hF18_ (fun h_ => absurd (hof _ h_) (by omega))
  clear hF18_
  have hR18 : RdDo w18_ A18 (k :: L) := ((((DoXs.single _hk).app hX).fr0 hF).rd hQ18.rd)
  rw [show 1 + L.length = (k :: L).length by rw [List.length_cons]; omega]
  refine Ops_call (C_func TDm.bd10 rfl) rfl rfl ?_
  refine (short_any _ (k :: L) _ _ hR18 (by rw [List.length_cons]; omega)).mono ?_
  rintro _ wq19_ ⟨r19, rfl, hr19, hq19_⟩
  replace hq19_ := hq19_.symm
  subst hq19_
  clear hR18 hQ18
  refine ⟨_, rfl, ?_⟩
  refine Ops_step (R_not rfl) rfl rfl ?_
  refine Ops_nil ?_
  refine then_n (hK3_ _ _ ?_)
  clear hK3_ K3_
  refine W_keepB [0, 3, 20] fun B4 hB4_ => ?_
  simp only [pickE, lookE, putE, zipE, args0, Nat.reduceAdd, Nat.zero_add, List.cons_append, List.nil_append, Nat.reduceBEq, cond_true, cond_false] at hB4_
  subst hB4_
  refine W_cond rfl (fun hc20 => ?_) (fun hc20 => ?_)
  · refine W_seq_k fun K5_ hK5_ => ?_
    refine W_region [some 21, some 4] rfl ?_
    refine Ops_call (C_func TDm.bd11 rfl) rfl rfl ?_
    refine (awake_any _).mono ?_
    rintro _ w21_ ⟨rfl, hF21_⟩
    replace hF := hF.fr0 hF21_
    replace hB3 := hB3.fr0 hF21_
    clear hF21_
    refine ⟨_, rfl, ?_⟩
    refine Ops_step (R_assign rfl) rfl rfl ?_
    refine Ops_nil ?_
    refine then_n (hK5_ _ _ ?_)
    clear hK5_ K5_
    refine W_ret ?_
    refine then_ret ?_
    clear hK2_ K2_
    refine ⟨_, ⟨_, _, rfl, rfl, rfl⟩, ?_⟩
    exact ⟨rfl, hF⟩
  · have hsh := hr19 (by simpa using hc20)
    rw [List.length_cons, bytesOf_cons] at hsh
    refine W_skip ?_
    refine then_n (hK2_ _ _ ?_)
    clear hK2_ K2_
    refine W_seq_k fun K6_ hK6_ => ?_
    refine W_region [some 22, some 23, some 5] rfl ?_
    refine Ops_step (R_move rfl) rfl rfl ?_
    have hs23_ := hF.size
    refine Ops_call (C_func TDm.bd12 rfl) rfl rfl ?_
    refine (made_any 4194304 (by decide) (by decide) _ L _ _ (hL.fr0 hF) (by omega)).mono ?_
    rintro _ w23_ ⟨d23, rfl, hD, hF23_⟩
    replace hF := hF.fr0 hF23_
    replace hB3 := hB3.fr0 hF23_
    clear hF23_
    refine Exists.elim hD.name fun B_hD h_ => ?_
    clear hD
    have hBe_hD := h_.1
    have hD := h_.2
    clear h_
    have hge_hD := hD.ge
    refine named (runs (Dk.new 4194304) L) fun D1 eD1 => ?_
    rw [← eD1] at hD
    have hT1 := hD.ok.three
    refine ⟨_, rfl, ?_⟩
    refine Ops_step (R_assign rfl) rfl rfl ?_
    refine Ops_nil ?_
    refine then_n (hK6_ _ _ ?_)
    clear hK6_ K6_
    refine W_seq_k fun K7_ hK7_ => ?_
    refine W_region [some 25, some 26, some 24, some 27, some 28, some 6, some 7] rfl ?_
    refine Ops_step (R_move rfl) rfl rfl ?_
    have hs26_ := hF.size
    refine Ops_call (C_func TDm.bd17 rfl) rfl rfl ?_
    refine (read_zero _ _ _ _ hD).mono ?_
    rintro _ w26_ ⟨A26, n26, c26, rfl, hF26_⟩
    replace hF := hF.fr0 hF26_
    replace hB3 := hB3.fr0 hF26_
    replace hD := hD.fr0 hF26_
    clear hF26_
    
    refine ⟨_, rfl, ?_⟩
    refine Ops_step (R_move rfl) rfl rfl ?_
    refine Ops_step (R_extract rfl rfl) rfl rfl ?_
    refine Ops_step (R_extract rfl rfl) rfl rfl ?_
    refine Ops_step (R_assign rfl) rfl rfl ?_
    refine Ops_step (R_assign rfl) rfl rfl ?_
    refine Ops_nil ?_
    refine then_n (hK7_ _ _ ?_)
    clear hK7_ K7_
    refine W_keepB [3, 5, 7] fun B8 hB8_ => ?_
    simp only [pickE, lookE, putE, zipE, args0, Nat.reduceAdd, Nat.zero_add, List.cons_append, List.nil_append, Nat.reduceBEq, cond_true, cond_false] at hB8_
    subst hB8_
    refine W_seq_k fun K9_ hK9_ => ?_
    refine W_region [some 29, some 30, some 8] rfl ?_
    refine Ops_step (R_move rfl) rfl rfl ?_
    have hs30_ := hF.size
    have hn30_hD := hD.lt
    have hn30_hB3 := hB3.lt
    refine Ops_call (C_func TDm.bd20 rfl) rfl rfl ?_
    refine (clone_any _ _ _ _ hD).mono ?_
    rintro _ w30_ ⟨d30, rfl, hge30, hE, hF30_⟩
    replace hF := hF.fr0 hF30_
    replace hB3 := hB3.fr0 hF30_
    replace hD := hD.fr0 hF30_
    clear hF30_
    
    refine ⟨_, rfl, ?_⟩
    refine Ops_step (R_assign rfl) rfl rfl ?_
    refine Ops_nil ?_
    refine then_n (hK9_ _ _ ?_)
    clear hK9_ K9_
    refine W_seq_k fun K10_ hK10_ => ?_
    refine W_region [some 31, some 32, some 33, some 9] rfl ?_
    refine Ops_step (R_move rfl) rfl rfl ?_
    refine Ops_step (R_loadW TDm.ag38 TDm.sz38 rfl hB3 rfl) rfl rfl ?_
    have hs33_ := hF.size
    have hd33_ := hD
    have hw33_ := hD.lt
    refine Ops_call (C_func TDm.bd18 rfl) rfl rfl ?_
    refine (does_any _ _ _ k AB bc _ hD (RdY.old _hk.2.2.1 hF (by omega)) _hk.1 (Nat.le_trans _hk.1 _hk.2.1) _hk.2.2.2).mono ?_
    rintro _ w33_ ⟨rfl, hD, hF33_⟩
    replace hF := hF.then hF33_ (by simp only [List.mem_singleton]; omega)
    replace hE := hE.fr hF33_ (skDsk (by omega) hd33_)
    clear hF33_
    
    refine ⟨_, rfl, ?_⟩
    refine Ops_step (R_assign rfl) rfl rfl ?_
    refine Ops_nil ?_
    refine then_n (hK10_ _ _ ?_)
    clear hK10_ K10_
    refine W_keepB [5, 7, 8, 9] fun B11 hB11_ => ?_
    simp only [pickE, lookE, putE, zipE, args0, Nat.reduceAdd, Nat.zero_add, List.cons_append, List.nil_append, Nat.reduceBEq, cond_true, cond_false] at hB11_
    subst hB11_
    refine W_seq_k fun K12_ hK12_ => ?_
    refine W_seq_k fun K13_ hK13_ => ?_
    refine W_region [some 34, some 35, some 36, some 37, some 38, some 39, some 40, some 41, some 42, some 43] rfl ?_
    refine Ops_step (R_move rfl) rfl rfl ?_
    refine Ops_step (R_eql rfl rfl) rfl rfl ?_
    refine Ops_step (R_move rfl) rfl rfl ?_
    refine Ops_split 36 rfl (fun hg36 => ?_) (fun hg36 => ?_)
    · refine Ops_pass rfl rfl ?_
      refine Ops_pass rfl rfl ?_
      refine Ops_pass rfl rfl ?_
      refine Ops_passU rfl rfl ?_
      refine Ops_passU rfl rfl ?_
      refine Ops_pass rfl rfl ?_
      refine Ops_step (R_pick_true rfl rfl) rfl rfl ?_
      refine Ops_nil ?_
      refine then_n (hK13_ _ _ ?_)
      clear hK13_ K13_
      refine W_keepB [5, 7, 8, 43] fun B14 hB14_ => ?_
      simp only [pickE, lookE, putE, zipE, args0, Nat.reduceAdd, Nat.zero_add, List.cons_append, List.nil_append, Nat.reduceBEq, cond_true, cond_false] at hB14_
      subst hB14_
      refine W_cond_true rfl ?_
      refine W_seq_k fun K15_ hK15_ => ?_
      refine W_region [some 44, some 4] rfl ?_
      refine Ops_call (C_func TDm.bd11 rfl) rfl rfl ?_
      refine (awake_any _).mono ?_
      rintro _ w44_ ⟨rfl, hF44_⟩
      replace hF := hF.fr0 hF44_
      replace hD := hD.fr0 hF44_
      replace hE := hE.fr0 hF44_
      clear hF44_
      refine ⟨_, rfl, ?_⟩
      refine Ops_step (R_assign rfl) rfl rfl ?_
      refine Ops_nil ?_
      refine then_n (hK15_ _ _ ?_)
      clear hK15_ K15_
      refine W_ret ?_
      refine then_ret ?_
      clear hK12_ K12_
      refine ⟨_, ⟨_, _, rfl, rfl, rfl⟩, ?_⟩
      exact ⟨rfl, hF⟩
    · refine Ops_step (R_move rfl) rfl rfl ?_
      refine Ops_step (R_eql rfl rfl) rfl rfl ?_
      refine Ops_step (R_move rfl) rfl rfl ?_
      refine Ops_split 39 rfl (fun hg39 => ?_) (fun hg39 => ?_)
      · refine Ops_step (R_move rfl) rfl rfl ?_
        refine Ops_step (R_eql rfl rfl) rfl rfl ?_
        refine Ops_step (R_pick_true rfl rfl) rfl rfl ?_
        refine Ops_step (R_pick_false rfl rfl) rfl rfl ?_
        refine Ops_nil ?_
        refine then_n (hK13_ _ _ ?_)
        clear hK13_ K13_
        refine W_keepB [5, 7, 8, 43] fun B16 hB16_ => ?_
        simp only [pickE, lookE, putE, zipE, args0, Nat.reduceAdd, Nat.zero_add, List.cons_append, List.nil_append, Nat.reduceBEq, cond_true, cond_false] at hB16_
        subst hB16_
        refine W_if rfl (fun hc43 => ?_) (fun hc43 => ?_)
        · refine W_seq_k fun K17_ hK17_ => ?_
          refine W_region [some 44, some 4] rfl ?_
          refine Ops_call (C_func TDm.bd11 rfl) rfl rfl ?_
          refine (awake_any _).mono ?_
          rintro _ w44_ ⟨rfl, hF44_⟩
          replace hF := hF.fr0 hF44_
          replace hD := hD.fr0 hF44_
          replace hE := hE.fr0 hF44_
          clear hF44_
          refine ⟨_, rfl, ?_⟩
          refine Ops_step (R_assign rfl) rfl rfl ?_
          refine Ops_nil ?_
          refine then_n (hK17_ _ _ ?_)
          clear hK17_ K17_
          refine W_ret ?_
          refine then_ret ?_
          clear hK12_ K12_
          refine ⟨_, ⟨_, _, rfl, rfl, rfl⟩, ?_⟩
          exact ⟨rfl, hF⟩
        · have hsame := refused_same (D := D1) (k := k) (by omega) (fun h_ => (able0_on (D := D1) (by omega)).1)
          rw [hsame] at hD
          refine W_skip ?_
          refine then_n (hK12_ _ _ ?_)
          clear hK12_ K12_
          refine W_seq_k fun K18_ hK18_ => ?_
          refine W_region [some 46, some 47, some 45, some 48, some 49, some 10, some 11] rfl ?_
          refine Ops_step (R_move rfl) rfl rfl ?_
          have hs47_ := hF.size
          refine Ops_call (C_func TDm.bd17 rfl) rfl rfl ?_
          refine (read_zero _ _ _ _ hD).mono ?_
          rintro _ w47_ ⟨A47, n47, c47, rfl, hF47_⟩
          replace hF := hF.fr0 hF47_
          replace hD := hD.fr0 hF47_
          replace hE := hE.fr0 hF47_
          clear hF47_
          
          refine ⟨_, rfl, ?_⟩
          refine Ops_step (R_move rfl) rfl rfl ?_
          refine Ops_step (R_extract rfl rfl) rfl rfl ?_
          refine Ops_step (R_extract rfl rfl) rfl rfl ?_
          refine Ops_step (R_assign rfl) rfl rfl ?_
          refine Ops_step (R_assign rfl) rfl rfl ?_
          refine Ops_nil ?_
          refine then_n (hK18_ _ _ ?_)
          clear hK18_ K18_
          refine W_keepB [5, 7, 8, 11] fun B19 hB19_ => ?_
          simp only [pickE, lookE, putE, zipE, args0, Nat.reduceAdd, Nat.zero_add, List.cons_append, List.nil_append, Nat.reduceBEq, cond_true, cond_false] at hB19_
          subst hB19_
          refine W_seq_k fun K20_ hK20_ => ?_
          refine W_region [some 50, some 51, some 52, some 53, some 12, some 13, none, none] rfl ?_
          refine Ops_step (R_move rfl) rfl rfl ?_
          have hs51_ := hF.size
          have hd51_ := hE
          have hw51_ := hE.lt
          refine Ops_call (C_func TDm.bd13 rfl) rfl rfl ?_
          refine (files_any _ _ _ _ hE).mono ?_
          rintro _ w51_ ⟨ps51, rfl, hpl51, hP, hE, hF51_⟩
          replace hF := hF.then hF51_ (by simp only [List.mem_singleton]; omega)
          replace hD := hD.fr hF51_ (skDsk (by omega) hd51_)
          clear hF51_
          replace hP := hP.le hs51_
          refine ⟨_, rfl, ?_⟩
          refine Ops_step (R_move rfl) rfl rfl ?_
          have hs53_ := hF.size
          have hd53_ := hD
          have hw53_ := hD.lt
          refine Ops_call (C_func TDm.bd13 rfl) rfl rfl ?_
          refine (files_any _ _ _ _ hD).mono ?_
          rintro _ w53_ ⟨ps53, rfl, hpl53, hP2, hD, hF53_⟩
          replace hF := hF.then hF53_ (by simp only [List.mem_singleton]; omega)
          replace hE := hE.fr hF53_ (skDsk (by omega) hd53_)
          replace hP := hP.fr hF53_ (fun i_ hi_ => by rw [List.mem_singleton.1 hi_]; obtain ⟨cs_, hb_⟩ := hd53_.blk; exact ⟨40, cs_, by decide, hb_⟩)
          clear hF53_
          replace hP2 := hP2.le hs53_
          refine ⟨_, rfl, ?_⟩
          have hz12_hF := hF.size
          have hn12_hD := hD.lt
          have hn12_hE := hE.lt
          refine Ops_to (R_alloc TDm.zr30) rfl rfl ?_
          rintro _ w12_ ⟨b12, rfl, hb12, hB12, hF12_⟩
          have hl12 := hB12.lt
          replace hF := hF.fr0 hF12_
          replace hD := hD.fr0 hF12_
          replace hE := hE.fr0 hF12_
          replace hP := hP.fr0 hF12_
          replace hP2 := hP2.fr0 hF12_
          clear hF12_
          have hz13_hF := hF.size
          have hn13_hD := hD.lt
          have hn13_hE := hE.lt
          have hn13_hB12 := hB12.lt
          refine Ops_to (R_alloc TDm.zr30) rfl rfl ?_
          rintro _ w13_ ⟨b13, rfl, hb13, hB13, hF13_⟩
          have hl13 := hB13.lt
          replace hF := hF.fr0 hF13_
          replace hD := hD.fr0 hF13_
          replace hE := hE.fr0 hF13_
          replace hP := hP.fr0 hF13_
          replace hP2 := hP2.fr0 hF13_
          replace hB12 := hB12.fr0 hF13_
          clear hF13_
          have hb12_ := hB12
          refine Ops_to0 (R_storeN TDm.sz30 (by rw [List.size_toArray, flC_len hpl51 hT1 (by omega)]) rfl rfl hB12 (by decide) (flC_one _ _)) rfl ?_
          clear hB12
          rintro _ w21_ ⟨hB12, hF21_⟩
          replace hF := hF.then hF21_ (by simp only [List.mem_cons, List.not_mem_nil, or_false]; intro i_ hi_ hj_; omega)
          replace hD := hD.fr hF21_ (skOne (by omega) hb12_ (by decide))
          replace hE := hE.fr hF21_ (skOne (by omega) hb12_ (by decide))
          replace hP := hP.fr hF21_ (fun i_ hi_ => by rw [List.mem_singleton.1 hi_]; exact ⟨30, _, by decide, hb12_⟩)
          replace hP2 := hP2.fr hF21_ (fun i_ hi_ => by rw [List.mem_singleton.1 hi_]; exact ⟨30, _, by decide, hb12_⟩)
          replace hB13 := hB13.fr hF21_ (by simp only [List.mem_cons, List.not_mem_nil, or_false]; omega)
          clear hF21_
          replace hB12 := hB12.to (cs' := flC ps51 D1.F) (over4_ (by rw [flC_len hpl51 hT1 (by omega)]; rfl))
          have hb13_ := hB13
          refine Ops_to0 (R_storeN TDm.sz30 (by rw [List.size_toArray, flC_len hpl53 hT1 (by omega)]) rfl rfl hB13 (by decide) (flC_one _ _)) rfl ?_
          clear hB13
          rintro _ w22_ ⟨hB13, hF22_⟩
          replace hF := hF.then hF22_ (by simp only [List.mem_cons, List.not_mem_nil, or_false]; intro i_ hi_ hj_; omega)
          replace hD := hD.fr hF22_ (skOne (by omega) hb13_ (by decide))
          replace hE := hE.fr hF22_ (skOne (by omega) hb13_ (by decide))
          replace hP := hP.fr hF22_ (fun i_ hi_ => by rw [List.mem_singleton.1 hi_]; exact ⟨30, _, by decide, hb13_⟩)
          replace hP2 := hP2.fr hF22_ (fun i_ hi_ => by rw [List.mem_singleton.1 hi_]; exact ⟨30, _, by decide, hb13_⟩)
          replace hB12 := hB12.fr hF22_ (by simp only [List.mem_cons, List.not_mem_nil, or_false]; omega)
          clear hF22_
          replace hB13 := hB13.to (cs' := flC ps53 D1.F) (over4_ (by rw [flC_len hpl53 hT1 (by omega)]; rfl))
          refine Ops_nil ?_
          refine then_n (hK20_ _ _ ?_)
          clear hK20_ K20_
          refine W_keepB [7, 11, 12, 13] fun B23 hB23_ => ?_
          simp only [pickE, lookE, putE, zipE, args0, Nat.reduceAdd, Nat.zero_add, List.cons_append, List.nil_append, Nat.reduceBEq, cond_true, cond_false] at hB23_
          subst hB23_
          refine W_seq_k fun K24_ hK24_ => ?_
          refine W_seq_k fun K25_ hK25_ => ?_
          refine W_region [some 54] rfl ?_
          refine Ops_step (R_move rfl) rfl rfl ?_
          refine Ops_nil ?_
          refine then_n (hK25_ _ _ ?_)
          clear hK25_ K25_
          refine W_block ?_
          refine W_loopB [7, 11, 12, 13] [54] (fun m vs w' => ∃ j, j ≤ 3 ∧ m = 3 - j ∧ vs = [vi (j : Nat)] ∧ Blk w' b12 30 (flC ps51 D1.F) ∧ Blk w' b13 30 (flC ps53 D1.F) ∧ FlP w' w.heap.size ps51 D1.F ∧ FlP w' w.heap.size ps53 D1.F ∧ Fr [] w w') (3) _ rfl (⟨0, by omega, rfl, rfl, hB12, hB13, hP, hP2, hF⟩) fun B26 hB26_ => ?_
          simp only [pickE, lookE, putE, zipE, args0, Nat.reduceAdd, Nat.zero_add, List.cons_append, List.nil_append, Nat.reduceBEq, cond_true, cond_false] at hB26_
          subst hB26_
          clear hB12 hB13 hP hP2 hD hF hE
          rintro m_ vs_ w0_ ⟨j, hj, rfl, rfl, hB12, hB13, hP, hP2, hF⟩
          refine W_seq_k fun K27_ hK27_ => ?_
          refine W_region [some 55] rfl ?_
          refine Ops_step (R_lss rfl rfl) rfl rfl ?_
          refine Ops_nil ?_
          refine then_n (hK27_ _ _ ?_)
          clear hK27_ K27_
          refine W_seq_k fun K28_ hK28_ => ?_
          refine W_if rfl (fun hc55 => ?_) (fun hc55 => ?_)
          · refine W_skip ?_
            refine then_n (hK28_ _ _ ?_)
            clear hK28_ K28_
            refine W_seq_k fun K29_ hK29_ => ?_
            refine W_block ?_
            refine W_seq_k fun K30_ hK30_ => ?_
            refine W_region [some 56, some 14] rfl ?_
            refine Ops_step (R_move rfl) rfl rfl ?_
            refine Ops_step (R_assign rfl) rfl rfl ?_
            refine Ops_nil ?_
            refine then_n (hK30_ _ _ ?_)
            clear hK30_ K30_
            refine W_seq_k fun K31_ hK31_ => ?_
            refine W_drawF [some 57, some 58, some 59, some 60, some 61, some 62, some 63, some 64] [(0, true), (1, true), (2, true), (3, true), (4, true), (5, true), (6, false), (7, true)] TDm.hm rfl (by kernel_rfl) fun ops32_ w32_ hops32_ hF32_ => ?_
            replace hF := hF.fr0 hF32_
            replace hB12 := hB12.fr0 hF32_
            replace hB13 := hB13.fr0 hF32_
            replace hP := hP.fr0 hF32_
            replace hP2 := hP2.fr0 hF32_
            clear hF32_
            refine HS_pure (fun w_ => R_move rfl) rfl rfl ?_
            refine HS_pure (fun w_ => R_indexArr Try.underlying30 TDm.sz24 rfl rfl (by omega) (by omega)) rfl rfl ?_
            refine HS_loadB TDm.ag24 rfl hB12 (flC_get hpl51 hT1 (i := j) (by omega)) rfl rfl ?_
            refine HS_pure (fun w_ => R_move rfl) rfl rfl ?_
            refine HS_pure (fun w_ => R_indexArr Try.underlying30 TDm.sz24 rfl rfl (by omega) (by omega)) rfl rfl ?_
            refine HS_loadB TDm.ag24 rfl hB13 (flC_get hpl53 hT1 (i := j) (by omega)) rfl rfl ?_
            refine HS_call [] _ rfl (by rw [hops32_]; kernel_rfl) (C_func TDm.bd22 rfl) rfl rfl ?_
            refine (beq_any _ _ _ _ _ _ _ _ _ rfl rfl (hP j (by omega)).rd (hP2 j (by omega)).rd).mono ?_
            rintro _ wq63_ ⟨rfl, hq63_⟩
            replace hq63_ := hq63_.symm
            subst hq63_
            refine ⟨_, rfl, trivial, ?_⟩
            refine HS_pure (fun w_ => R_not' rfl) rfl rfl ?_
            refine HS_nil ?_
            clear hops32_
            refine then_n (hK31_ _ _ ?_)
            clear hK31_ K31_
            refine W_keepB [7, 11, 12, 13, 54, 64] fun B33 hB33_ => ?_
            simp only [pickE, lookE, putE, zipE, args0, Nat.reduceAdd, Nat.zero_add, List.cons_append, List.nil_append, Nat.reduceBEq, cond_true, cond_false] at hB33_
            subst hB33_
            refine W_no rfl (by simp) ?_
            refine W_skip ?_
            refine block_n ?_
            refine then_n (hK29_ _ _ ?_)
            clear hK29_ K29_
            refine W_region [some 65, some 54] rfl ?_
            refine Ops_step (R_add rfl rfl (wIc (n := j + 1) (by omega) (by omega))) rfl rfl ?_
            refine Ops_step (R_move rfl) rfl rfl ?_
            refine Ops_nil ?_
            exact ⟨3 - (j + 1), _, by omega, rfl, ⟨j + 1, by omega, rfl, rfl, hB12, hB13, hP, hP2, hF⟩, ⟨rfl, rfl, rfl, rfl, trivial⟩⟩
          · refine W_exit ?_
            refine then_exit ?_
            clear hK28_ K28_
            refine then_exit ?_
            refine block_exit ?_
            refine then_n (hK24_ _ _ ?_)
            clear hK24_ K24_
            refine W_seq_k fun K34_ hK34_ => ?_
            refine W_region [some 66, some 67, some 68, some 69, some 70, some 71, some 4] rfl ?_
            refine Ops_step (R_move rfl) rfl rfl ?_
            refine Ops_step (R_move rfl) rfl rfl ?_
            refine Ops_step (R_eql rfl rfl) rfl rfl ?_
            refine Ops_step (R_move rfl) rfl rfl ?_
            refine Ops_split 69 rfl (fun hg69 => ?_) (fun hg69 => ?_)
            · refine Ops_call (C_func TDm.bd11 rfl) rfl rfl ?_
              refine (awake_any _).mono ?_
              rintro _ w70_ ⟨rfl, hF70_⟩
              replace hF := hF.fr0 hF70_
              replace hB12 := hB12.fr0 hF70_
              replace hB13 := hB13.fr0 hF70_
              replace hP := hP.fr0 hF70_
              replace hP2 := hP2.fr0 hF70_
              clear hF70_
              refine ⟨_, rfl, ?_⟩
              refine Ops_step (R_pick_true rfl rfl) rfl rfl ?_
              refine Ops_step (R_assign rfl) rfl rfl ?_
              refine Ops_nil ?_
              refine then_n (hK34_ _ _ ?_)
              clear hK34_ K34_
              refine W_keepB [4] fun B35 hB35_ => ?_
              simp only [pickE, lookE, putE, zipE, args0, Nat.reduceAdd, Nat.zero_add, List.cons_append, List.nil_append, Nat.reduceBEq, cond_true, cond_false] at hB35_
              subst hB35_
              refine W_ret ?_
              refine ⟨_, ⟨_, _, rfl, rfl, rfl⟩, ?_⟩
              exact ⟨rfl, hF⟩
            · exfalso; omega
      · have hsame := refused_same (D := D1) (k := k) (by omega) (fun h_ => (able0_on (D := D1) (by omega)).1)
        rw [hsame] at hD
        refine Ops_pass rfl rfl ?_
        refine Ops_pass rfl rfl ?_
        refine Ops_step (R_pick_false rfl rfl) rfl rfl ?_
        refine Ops_step (R_pick_false rfl rfl) rfl rfl ?_
        refine Ops_nil ?_
        refine then_n (hK13_ _ _ ?_)
        clear hK13_ K13_
        refine W_keepB [5, 7, 8, 43] fun B36 hB36_ => ?_
        simp only [pickE, lookE, putE, zipE, args0, Nat.reduceAdd, Nat.zero_add, List.cons_append, List.nil_append, Nat.reduceBEq, cond_true, cond_false] at hB36_
        subst hB36_
        refine W_cond_false rfl ?_
        refine W_skip ?_
        refine then_n (hK12_ _ _ ?_)
        clear hK12_ K12_
        refine W_seq_k fun K37_ hK37_ => ?_
        refine W_region [some 46, some 47, some 45, some 48, some 49, some 10, some 11] rfl ?_
        refine Ops_step (R_move rfl) rfl rfl ?_
        have hs47_ := hF.size
        refine Ops_call (C_func TDm.bd17 rfl) rfl rfl ?_
        refine (read_zero _ _ _ _ hD).mono ?_
        rintro _ w47_ ⟨A47, n47, c47, rfl, hF47_⟩
        replace hF := hF.fr0 hF47_
        replace hD := hD.fr0 hF47_
        replace hE := hE.fr0 hF47_
        clear hF47_
        
        refine ⟨_, rfl, ?_⟩
        refine Ops_step (R_move rfl) rfl rfl ?_
        refine Ops_step (R_extract rfl rfl) rfl rfl ?_
        refine Ops_step (R_extract rfl rfl) rfl rfl ?_
        refine Ops_step (R_assign rfl) rfl rfl ?_
        refine Ops_step (R_assign rfl) rfl rfl ?_
        refine Ops_nil ?_
        refine then_n (hK37_ _ _ ?_)
        clear hK37_ K37_
        refine W_keepB [5, 7, 8, 11] fun B38 hB38_ => ?_
        simp only [pickE, lookE, putE, zipE, args0, Nat.reduceAdd, Nat.zero_add, List.cons_append, List.nil_append, Nat.reduceBEq, cond_true, cond_false] at hB38_
        subst hB38_
        refine W_seq_k fun K39_ hK39_ => ?_
        refine W_region [some 50, some 51, some 52, some 53, some 12, some 13, none, none] rfl ?_
        refine Ops_step (R_move rfl) rfl rfl ?_
        have hs51_ := hF.size
        have hd51_ := hE
        have hw51_ := hE.lt
        refine Ops_call (C_func TDm.bd13 rfl) rfl rfl ?_
        refine (files_any _ _ _ _ hE).mono ?_
        rintro _ w51_ ⟨ps51, rfl, hpl51, hP, hE, hF51_⟩
        replace hF := hF.then hF51_ (by simp only [List.mem_singleton]; omega)
        replace hD := hD.fr hF51_ (skDsk (by omega) hd51_)
        clear hF51_
        replace hP := hP.le hs51_
        refine ⟨_, rfl, ?_⟩
        refine Ops_step (R_move rfl) rfl rfl ?_
        have hs53_ := hF.size
        have hd53_ := hD
        have hw53_ := hD.lt
        refine Ops_call (C_func TDm.bd13 rfl) rfl rfl ?_
        refine (files_any _ _ _ _ hD).mono ?_
        rintro _ w53_ ⟨ps53, rfl, hpl53, hP2, hD, hF53_⟩
        replace hF := hF.then hF53_ (by simp only [List.mem_singleton]; omega)
        replace hE := hE.fr hF53_ (skDsk (by omega) hd53_)
        replace hP := hP.fr hF53_ (fun i_ hi_ => by rw [List.mem_singleton.1 hi_]; obtain ⟨cs_, hb_⟩ := hd53_.blk; exact ⟨40, cs_, by decide, hb_⟩)
        clear hF53_
        replace hP2 := hP2.le hs53_
        refine ⟨_, rfl, ?_⟩
        have hz12_hF := hF.size
        have hn12_hD := hD.lt
        have hn12_hE := hE.lt
        refine Ops_to (R_alloc TDm.zr30) rfl rfl ?_
        rintro _ w12_ ⟨b12, rfl, hb12, hB12, hF12_⟩
        have hl12 := hB12.lt
        replace hF := hF.fr0 hF12_
        replace hD := hD.fr0 hF12_
        replace hE := hE.fr0 hF12_
        replace hP := hP.fr0 hF12_
        replace hP2 := hP2.fr0 hF12_
        clear hF12_
        have hz13_hF := hF.size
        have hn13_hD := hD.lt
        have hn13_hE := hE.lt
        have hn13_hB12 := hB12.lt
        refine Ops_to (R_alloc TDm.zr30) rfl rfl ?_
        rintro _ w13_ ⟨b13, rfl, hb13, hB13, hF13_⟩
        have hl13 := hB13.lt
        replace hF := hF.fr0 hF13_
        replace hD := hD.fr0 hF13_
        replace hE := hE.fr0 hF13_
        replace hP := hP.fr0 hF13_
        replace hP2 := hP2.fr0 hF13_
        replace hB12 := hB12.fr0 hF13_
        clear hF13_
        have hb12_ := hB12
        refine Ops_to0 (R_storeN TDm.sz30 (by rw [List.size_toArray, flC_len hpl51 hT1 (by omega)]) rfl rfl hB12 (by decide) (flC_one _ _)) rfl ?_
        clear hB12
        rintro _ w40_ ⟨hB12, hF40_⟩
        replace hF := hF.then hF40_ (by simp only [List.mem_cons, List.not_mem_nil, or_false]; intro i_ hi_ hj_; omega)
        replace hD := hD.fr hF40_ (skOne (by omega) hb12_ (by decide))
        replace hE := hE.fr hF40_ (skOne (by omega) hb12_ (by decide))
        replace hP := hP.fr hF40_ (fun i_ hi_ => by rw [List.mem_singleton.1 hi_]; exact ⟨30, _, by decide, hb12_⟩)
        replace hP2 := hP2.fr hF40_ (fun i_ hi_ => by rw [List.mem_singleton.1 hi_]; exact ⟨30, _, by decide, hb12_⟩)
        replace hB13 := hB13.fr hF40_ (by simp only [List.mem_cons, List.not_mem_nil, or_false]; omega)
        clear hF40_
        replace hB12 := hB12.to (cs' := flC ps51 D1.F) (over4_ (by rw [flC_len hpl51 hT1 (by omega)]; rfl))
        have hb13_ := hB13
        refine Ops_to0 (R_storeN TDm.sz30 (by rw [List.size_toArray, flC_len hpl53 hT1 (by omega)]) rfl rfl hB13 (by decide) (flC_one _ _)) rfl ?_
        clear hB13
        rintro _ w41_ ⟨hB13, hF41_⟩
        replace hF := hF.then hF41_ (by simp only [List.mem_cons, List.not_mem_nil, or_false]; intro i_ hi_ hj_; omega)
        replace hD := hD.fr hF41_ (skOne (by omega) hb13_ (by decide))
        replace hE := hE.fr hF41_ (skOne (by omega) hb13_ (by decide))
        replace hP := hP.fr hF41_ (fun i_ hi_ => by rw [List.mem_singleton.1 hi_]; exact ⟨30, _, by decide, hb13_⟩)
        replace hP2 := hP2.fr hF41_ (fun i_ hi_ => by rw [List.mem_singleton.1 hi_]; exact ⟨30, _, by decide, hb13_⟩)
        replace hB12 := hB12.fr hF41_ (by simp only [List.mem_cons, List.not_mem_nil, or_false]; omega)
        clear hF41_
        replace hB13 := hB13.to (cs' := flC ps53 D1.F) (over4_ (by rw [flC_len hpl53 hT1 (by omega)]; rfl))
        refine Ops_nil ?_
        refine then_n (hK39_ _ _ ?_)
        clear hK39_ K39_
        refine W_keepB [7, 11, 12, 13] fun B42 hB42_ => ?_
        simp only [pickE, lookE, putE, zipE, args0, Nat.reduceAdd, Nat.zero_add, List.cons_append, List.nil_append, Nat.reduceBEq, cond_true, cond_false] at hB42_
        subst hB42_
        refine W_seq_k fun K43_ hK43_ => ?_
        refine W_seq_k fun K44_ hK44_ => ?_
        refine W_region [some 54] rfl ?_
        refine Ops_step (R_move rfl) rfl rfl ?_
        refine Ops_nil ?_
        refine then_n (hK44_ _ _ ?_)
        clear hK44_ K44_
        refine W_block ?_
        refine W_loopB [7, 11, 12, 13] [54] (fun m vs w' => ∃ j, j ≤ 3 ∧ m = 3 - j ∧ vs = [vi (j : Nat)] ∧ Blk w' b12 30 (flC ps51 D1.F) ∧ Blk w' b13 30 (flC ps53 D1.F) ∧ FlP w' w.heap.size ps51 D1.F ∧ FlP w' w.heap.size ps53 D1.F ∧ Fr [] w w') (3) _ rfl (⟨0, by omega, rfl, rfl, hB12, hB13, hP, hP2, hF⟩) fun B45 hB45_ => ?_
        simp only [pickE, lookE, putE, zipE, args0, Nat.reduceAdd, Nat.zero_add, List.cons_append, List.nil_append, Nat.reduceBEq, cond_true, cond_false] at hB45_
        subst hB45_
        clear hB12 hB13 hP hP2 hD hF hE
        rintro m_ vs_ w0_ ⟨j, hj, rfl, rfl, hB12, hB13, hP, hP2, hF⟩
        refine W_seq_k fun K46_ hK46_ => ?_
        refine W_region [some 55] rfl ?_
        refine Ops_step (R_lss rfl rfl) rfl rfl ?_
        refine Ops_nil ?_
        refine then_n (hK46_ _ _ ?_)
        clear hK46_ K46_
        refine W_seq_k fun K47_ hK47_ => ?_
        refine W_if rfl (fun hc55 => ?_) (fun hc55 => ?_)
        · refine W_skip ?_
          refine then_n (hK47_ _ _ ?_)
          clear hK47_ K47_
          refine W_seq_k fun K48_ hK48_ => ?_
          refine W_block ?_
          refine W_seq_k fun K49_ hK49_ => ?_
          refine W_region [some 56, some 14] rfl ?_
          refine Ops_step (R_move rfl) rfl rfl ?_
          refine Ops_step (R_assign rfl) rfl rfl ?_
          refine Ops_nil ?_
          refine then_n (hK49_ _ _ ?_)
          clear hK49_ K49_
          refine W_seq_k fun K50_ hK50_ => ?_
          refine W_drawF [some 57, some 58, some 59, some 60, some 61, some 62, some 63, some 64] [(0, true), (1, true), (2, true), (3, true), (4, true), (5, true), (6, false), (7, true)] TDm.hm rfl (by kernel_rfl) fun ops51_ w51_ hops51_ hF51_ => ?_
          replace hF := hF.fr0 hF51_
          replace hB12 := hB12.fr0 hF51_
          replace hB13 := hB13.fr0 hF51_
          replace hP := hP.fr0 hF51_
          replace hP2 := hP2.fr0 hF51_
          clear hF51_
          refine HS_pure (fun w_ => R_move rfl) rfl rfl ?_
          refine HS_pure (fun w_ => R_indexArr Try.underlying30 TDm.sz24 rfl rfl (by omega) (by omega)) rfl rfl ?_
          refine HS_loadB TDm.ag24 rfl hB12 (flC_get hpl51 hT1 (i := j) (by omega)) rfl rfl ?_
          refine HS_pure (fun w_ => R_move rfl) rfl rfl ?_
          refine HS_pure (fun w_ => R_indexArr Try.underlying30 TDm.sz24 rfl rfl (by omega) (by omega)) rfl rfl ?_
          refine HS_loadB TDm.ag24 rfl hB13 (flC_get hpl53 hT1 (i := j) (by omega)) rfl rfl ?_
          refine HS_call [] _ rfl (by rw [hops51_]; kernel_rfl) (C_func TDm.bd22 rfl) rfl rfl ?_
          refine (beq_any _ _ _ _ _ _ _ _ _ rfl rfl (hP j (by omega)).rd (hP2 j (by omega)).rd).mono ?_
          rintro _ wq63_ ⟨rfl, hq63_⟩
          replace hq63_ := hq63_.symm
          subst hq63_
          refine ⟨_, rfl, trivial, ?_⟩
          refine HS_pure (fun w_ => R_not' rfl) rfl rfl ?_
          refine HS_nil ?_
          clear hops51_
          refine then_n (hK50_ _ _ ?_)
          clear hK50_ K50_
          refine W_keepB [7, 11, 12, 13, 54, 64] fun B52 hB52_ => ?_
          simp only [pickE, lookE, putE, zipE, args0, Nat.reduceAdd, Nat.zero_add, List.cons_append, List.nil_append, Nat.reduceBEq, cond_true, cond_false] at hB52_
          subst hB52_
          refine W_no rfl (by simp) ?_
          refine W_skip ?_
          refine block_n ?_
          refine then_n (hK48_ _ _ ?_)
          clear hK48_ K48_
          refine W_region [some 65, some 54] rfl ?_
          refine Ops_step (R_add rfl rfl (wIc (n := j + 1) (by omega) (by omega))) rfl rfl ?_
          refine Ops_step (R_move rfl) rfl rfl ?_
          refine Ops_nil ?_
          exact ⟨3 - (j + 1), _, by omega, rfl, ⟨j + 1, by omega, rfl, rfl, hB12, hB13, hP, hP2, hF⟩, ⟨rfl, rfl, rfl, rfl, trivial⟩⟩
        · refine W_exit ?_
          refine then_exit ?_
          clear hK47_ K47_
          refine then_exit ?_
          refine block_exit ?_
          refine then_n (hK43_ _ _ ?_)
          clear hK43_ K43_
          refine W_seq_k fun K53_ hK53_ => ?_
          refine W_region [some 66, some 67, some 68, some 69, some 70, some 71, some 4] rfl ?_
          refine Ops_step (R_move rfl) rfl rfl ?_
          refine Ops_step (R_move rfl) rfl rfl ?_
          refine Ops_step (R_eql rfl rfl) rfl rfl ?_
          refine Ops_step (R_move rfl) rfl rfl ?_
          refine Ops_split 69 rfl (fun hg69 => ?_) (fun hg69 => ?_)
          · refine Ops_call (C_func TDm.bd11 rfl) rfl rfl ?_
            refine (awake_any _).mono ?_
            rintro _ w70_ ⟨rfl, hF70_⟩
            replace hF := hF.fr0 hF70_
            replace hB12 := hB12.fr0 hF70_
            replace hB13 := hB13.fr0 hF70_
            replace hP := hP.fr0 hF70_
            replace hP2 := hP2.fr0 hF70_
            clear hF70_
            refine ⟨_, rfl, ?_⟩
            refine Ops_step (R_pick_true rfl rfl) rfl rfl ?_
            refine Ops_step (R_assign rfl) rfl rfl ?_
            refine Ops_nil ?_
            refine then_n (hK53_ _ _ ?_)
            clear hK53_ K53_
            refine W_keepB [4] fun B54 hB54_ => ?_
            simp only [pickE, lookE, putE, zipE, args0, Nat.reduceAdd, Nat.zero_add, List.cons_append, List.nil_append, Nat.reduceBEq, cond_true, cond_false] at hB54_
            subst hB54_
            refine W_ret ?_
            refine ⟨_, ⟨_, _, rfl, rfl, rfl⟩, ?_⟩
            exact ⟨rfl, hF⟩
          · exfalso; omega

end Go.Proofs.Ytijckogioombdaa
