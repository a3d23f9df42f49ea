/- What the walks of this seat show of Dp. -/
import Derived.Test.YtijckogioombdaaDn
import Derived.Test.YtijckogioombdaaProg
set_option linter.unusedVariables false
set_option linter.unusedSimpArgs false
namespace Go.Proofs.Ytijckogioombdaa
open Go Go.Sx
namespace TDp
theorem hm : Try.prog.follows .mixedOrders = true := by kernel_rfl
theorem ag24 : aggB Try.prog 24 = some false := by kernel_rfl
theorem ag38 : aggB Try.prog 38 = some true := by kernel_rfl
theorem bd10 : bodied Try.prog 10 = true := by kernel_rfl
theorem bd11 : bodied Try.prog 11 = true := by kernel_rfl
theorem bd12 : bodied Try.prog 12 = true := by kernel_rfl
theorem bd13 : bodied Try.prog 13 = true := by kernel_rfl
theorem bd18 : bodied Try.prog 18 = true := by kernel_rfl
theorem bd20 : bodied Try.prog 20 = true := by kernel_rfl
theorem bd22 : bodied Try.prog 22 = true := by kernel_rfl
theorem bd32 : bodied Try.prog 32 = true := by kernel_rfl
theorem el22 : Elem Try.prog 22 38 4 48 := Elem.of (by kernel_rfl)
theorem sz24 : sz Try.prog 24 = some 1 := by kernel_rfl
theorem sz30 : sz Try.prog 30 = some 3 := by kernel_rfl
theorem sz38 : sz Try.prog 38 = some 4 := by kernel_rfl
theorem zr30 : zr Try.prog 30 = some (List.replicate 3 (.slice none 0 0)) := by kernel_rfl
end TDp

theorem own_le {w : World} {B B' e size n c : Nat} {A : Option Addr} {xs : List Value} (h : Own w B e size A n c xs) (hb : B' ≤ B) : Own w B' e size A n c xs := by
  rcases h.form with ⟨rfl, rfl, rfl, rfl⟩ | ⟨g, cur, rfl, h0, hB, h1, h3, h4, h5⟩
  · exact Own.nil _ _ _ _
  · exact Own.mk (Nat.le_trans hb h0) hB h1 h3 h4 h5
theorem skOwn {w : World} {B B' B2 d n c : Nat} {D : Dk} {A : Option Addr} {xs : List Value} (h : Own w B 38 4 A n c xs) (hd : Dsk w B' d D) : ∀ i ∈ blkOf A, i ≠ d ∧ (i < B2 ∨ ∃ t cs, t ≠ 5 ∧ Blk w i t cs) := by
  rcases h.form with ⟨rfl, _⟩ | ⟨g, cur, rfl, _, hB, _⟩
  · simp [blkOf]
  · intro i hi
    simp [blkOf] at hi
    subst hi
    obtain ⟨cs, hb⟩ := hd.blk
    exact ⟨hB.ne hb (by decide), .inr ⟨38, cur, by decide, hB⟩⟩
set_option maxHeartbeats 4000000 in
theorem law_twins (A0_ : Option Addr) (lc0 : Nat) (L0 : List Do) (A1_ : Option Addr) (lc1 : Nat) (L1 : List Do) (A2_ : Option Addr) (lc2 : Nat) (L2 : List Do) (w : World) (hL0 : RdDo w A0_ L0) (hm0 : L0.length * 48 ≤ 140737488351232) (hL1 : RdDo w A1_ L1) (hm1 : L1.length * 48 ≤ 140737488351232) (hL2 : RdDo w A2_ L2) (hm2 : L2.length * 48 ≤ 140737488351232) : Calls Try.prog 8 #[.slice A0_ L0.length lc0, .slice A1_ L1.length lc1, .slice A2_ L2.length lc2] w fun e w2 => e = .returned (.bool true) ∧ Fr [] w w2 := by
  have hF := Fr.refl [] w
  obtain ⟨x0, hx0, hx0r⟩ := hL0.xs
  obtain ⟨x1, hx1, hx1r⟩ := hL1.xs
  obtain ⟨x2, hx2, hx2r⟩ := hL2.xs
  refine calls_W 105 Try.func8 rfl Try.ntmps8 rfl [.tmp 6] rfl ?_
  refine W_seq_k fun K1_ hK1_ => ?_
  refine W_region [some 6] rfl ?_
  refine Ops_step (R_assign rfl) rfl rfl ?_
  refine Ops_nil ?_
  refine then_n (hK1_ _ _ ?_)
  clear hK1_ K1_
  refine W_seq_k fun K2_ hK2_ => ?_
  refine W_seq_k fun K3_ hK3_ => ?_
  refine W_region [some 17, some 18, some 19, some 20, some 21, some 22, some 23, some 24, some 25, some 26, some 27, some 28, some 29] rfl ?_
  refine Ops_step (R_move rfl) rfl rfl ?_
  refine Ops_call (C_func TDp.bd10 rfl) rfl rfl ?_
  refine (short_any _ _ _ _ hL0 (by omega)).mono ?_
  rintro _ wq18_ ⟨r18, rfl, hr18, hq18_⟩
  replace hq18_ := hq18_.symm
  subst hq18_
  refine ⟨_, rfl, ?_⟩
  refine Ops_step (R_not rfl) rfl rfl ?_
  refine Ops_step (R_move rfl) rfl rfl ?_
  refine Ops_splitB 20 rfl (fun hg20 => ?_) (fun hg20 => ?_)
  · refine Ops_pass rfl rfl ?_
    refine Ops_pass rfl rfl ?_
    refine Ops_pass rfl rfl ?_
    refine Ops_step (R_pick_true rfl rfl) rfl rfl ?_
    refine Ops_step (R_move rfl) rfl rfl ?_
    refine Ops_pass rfl rfl ?_
    refine Ops_pass rfl rfl ?_
    refine Ops_pass rfl rfl ?_
    refine Ops_step (R_pick_true rfl rfl) rfl rfl ?_
    refine Ops_nil ?_
    refine then_n (hK3_ _ _ ?_)
    clear hK3_ K3_
    refine W_keepB [0, 1, 2, 29] fun B4 hB4_ => ?_
    simp only [pickE, lookE, putE, zipE, args0, Nat.reduceAdd, Nat.zero_add, List.cons_append, List.nil_append, Nat.reduceBEq, cond_true, cond_false] at hB4_
    subst hB4_
    refine W_cond_true rfl ?_
    refine W_seq_k fun K5_ hK5_ => ?_
    refine W_region [some 30, some 6] rfl ?_
    refine Ops_call (C_func TDp.bd11 rfl) rfl rfl ?_
    refine (awake_any _).mono ?_
    rintro _ w30_ ⟨rfl, hF30_⟩
    replace hF := hF.fr0 hF30_
    clear hF30_
    refine ⟨_, rfl, ?_⟩
    refine Ops_step (R_assign rfl) rfl rfl ?_
    refine Ops_nil ?_
    refine then_n (hK5_ _ _ ?_)
    clear hK5_ K5_
    refine W_ret ?_
    refine then_ret ?_
    clear hK2_ K2_
    refine ⟨_, ⟨_, _, rfl, rfl, rfl⟩, ?_⟩
    exact ⟨rfl, hF⟩
  · have hsh0 := hr18 (by simpa using hg20)
    refine Ops_step (R_move rfl) rfl rfl ?_
    refine Ops_call (C_func TDp.bd10 rfl) rfl rfl ?_
    refine (short_any _ _ _ _ hL1 (by omega)).mono ?_
    rintro _ wq22_ ⟨r22, rfl, hr22, hq22_⟩
    replace hq22_ := hq22_.symm
    subst hq22_
    refine ⟨_, rfl, ?_⟩
    refine Ops_step (R_not rfl) rfl rfl ?_
    refine Ops_step (R_pick_false rfl rfl) rfl rfl ?_
    refine Ops_step (R_move rfl) rfl rfl ?_
    refine Ops_splitB 25 rfl (fun hg25 => ?_) (fun hg25 => ?_)
    · refine Ops_pass rfl rfl ?_
      refine Ops_pass rfl rfl ?_
      refine Ops_pass rfl rfl ?_
      refine Ops_step (R_pick_true rfl rfl) rfl rfl ?_
      refine Ops_nil ?_
      refine then_n (hK3_ _ _ ?_)
      clear hK3_ K3_
      refine W_keepB [0, 1, 2, 29] fun B6 hB6_ => ?_
      simp only [pickE, lookE, putE, zipE, args0, Nat.reduceAdd, Nat.zero_add, List.cons_append, List.nil_append, Nat.reduceBEq, cond_true, cond_false] at hB6_
      subst hB6_
      refine W_cond_true rfl ?_
      refine W_seq_k fun K7_ hK7_ => ?_
      refine W_region [some 30, some 6] rfl ?_
      refine Ops_call (C_func TDp.bd11 rfl) rfl rfl ?_
      refine (awake_any _).mono ?_
      rintro _ w30_ ⟨rfl, hF30_⟩
      replace hF := hF.fr0 hF30_
      clear hF30_
      refine ⟨_, rfl, ?_⟩
      refine Ops_step (R_assign rfl) rfl rfl ?_
      refine Ops_nil ?_
      refine then_n (hK7_ _ _ ?_)
      clear hK7_ K7_
      refine W_ret ?_
      refine then_ret ?_
      clear hK2_ K2_
      refine ⟨_, ⟨_, _, rfl, rfl, rfl⟩, ?_⟩
      exact ⟨rfl, hF⟩
    · have hsh1 := hr22 (by simpa using hg25)
      refine Ops_step (R_move rfl) rfl rfl ?_
      refine Ops_call (C_func TDp.bd10 rfl) rfl rfl ?_
      refine (short_any _ _ _ _ hL2 (by omega)).mono ?_
      rintro _ wq27_ ⟨r27, rfl, hr27, hq27_⟩
      replace hq27_ := hq27_.symm
      subst hq27_
      refine ⟨_, rfl, ?_⟩
      refine Ops_step (R_not rfl) rfl rfl ?_
      refine Ops_step (R_pick_false rfl rfl) rfl rfl ?_
      refine Ops_nil ?_
      refine then_n (hK3_ _ _ ?_)
      clear hK3_ K3_
      refine W_keepB [0, 1, 2, 29] fun B8 hB8_ => ?_
      simp only [pickE, lookE, putE, zipE, args0, Nat.reduceAdd, Nat.zero_add, List.cons_append, List.nil_append, Nat.reduceBEq, cond_true, cond_false] at hB8_
      subst hB8_
      refine W_cond rfl (fun hc29 => ?_) (fun hc29 => ?_)
      · refine W_seq_k fun K9_ hK9_ => ?_
        refine W_region [some 30, some 6] rfl ?_
        refine Ops_call (C_func TDp.bd11 rfl) rfl rfl ?_
        refine (awake_any _).mono ?_
        rintro _ w30_ ⟨rfl, hF30_⟩
        replace hF := hF.fr0 hF30_
        clear hF30_
        refine ⟨_, rfl, ?_⟩
        refine Ops_step (R_assign rfl) rfl rfl ?_
        refine Ops_nil ?_
        refine then_n (hK9_ _ _ ?_)
        clear hK9_ K9_
        refine W_ret ?_
        refine then_ret ?_
        clear hK2_ K2_
        refine ⟨_, ⟨_, _, rfl, rfl, rfl⟩, ?_⟩
        exact ⟨rfl, hF⟩
      · have hsh2 := hr27 (by simpa using hc29)
        refine W_skip ?_
        refine then_n (hK2_ _ _ ?_)
        clear hK2_ K2_
        refine W_seq_k fun K10_ hK10_ => ?_
        refine W_region [some 31, some 32, some 7] rfl ?_
        refine Ops_step (R_move rfl) rfl rfl ?_
        have hs32_ := hF.size
        refine Ops_call (C_func TDp.bd12 rfl) rfl rfl ?_
        refine (made_any 4194304 (by decide) (by decide) _ L0 _ _ (hL0.fr0 hF) (by omega)).mono ?_
        rintro _ w32_ ⟨d32, rfl, hD, hF32_⟩
        replace hF := hF.fr0 hF32_
        clear hF32_
        refine Exists.elim hD.name fun B_hD h_ => ?_
        clear hD
        have hBe_hD := h_.1
        have hD := h_.2
        clear h_
        have hge_hD := hD.ge
        refine named (runs (Dk.new 4194304) L0) fun D1 eD1 => ?_
        rw [← eD1] at hD
        have hT1 := hD.ok.three
        refine ⟨_, rfl, ?_⟩
        refine Ops_step (R_assign rfl) rfl rfl ?_
        refine Ops_nil ?_
        refine then_n (hK10_ _ _ ?_)
        clear hK10_ K10_
        refine W_seq_k fun K11_ hK11_ => ?_
        refine W_region [some 33, some 34, some 8] rfl ?_
        refine Ops_step (R_move rfl) rfl rfl ?_
        have hs34_ := hF.size
        have hn34_hD := hD.lt
        refine Ops_call (C_func TDp.bd20 rfl) rfl rfl ?_
        refine (clone_any _ _ _ _ hD).mono ?_
        rintro _ w34_ ⟨d34, rfl, hge34, hE, hF34_⟩
        replace hF := hF.fr0 hF34_
        replace hD := hD.fr0 hF34_
        clear hF34_
        replace hE := hE.le (Nat.le_refl _)
        refine ⟨_, rfl, ?_⟩
        refine Ops_step (R_assign rfl) rfl rfl ?_
        refine Ops_nil ?_
        refine then_n (hK11_ _ _ ?_)
        clear hK11_ K11_
        refine W_seq_k fun K12_ hK12_ => ?_
        refine W_region [some 35, some 36, some 37, some 38, some 39, some 9] rfl ?_
        refine Ops_step (R_move rfl) rfl rfl ?_
        have hs36_ := hF.size
        refine Ops_call (C_func TDp.bd32 rfl) rfl rfl ?_
        refine (dclone_any _ L0.length _ x0 _ (hx0r.fr0 hF) hx0.len hx0.one hm0).mono ?_
        rintro _ w36_ ⟨A36, c36, rfl, hQ36, hF36_⟩
        replace hF := hF.fr0 hF36_
        replace hD := hD.fr0 hF36_
        replace hE := hE.fr0 hF36_
        clear hF36_
        replace hQ36 := own_le hQ36 hs36_
        refine ⟨_, rfl, ?_⟩
        refine Ops_step (R_move rfl) rfl rfl ?_
        have hof38 := hQ36.off
        have hltA38 := hQ36.ltA
        have hzz38 := hF.size
        have hxr38 := hx1r.fr0 hF
        refine Ops_to (R_append TDp.el22 rfl rfl hQ36 (Src.ofRd Try.underlying22 (by decide) hxr38 hx1.len hx1.one) (by omega) (by simp only [maxLen]; omega) (by omega)) rfl rfl ?_
        rintro _ w38_ ⟨A38, c38, rfl, hQ38, hF38_⟩
        replace hF := hF.then hF38_ (fun i_ hi_ hj_ => absurd (hof38 i_ hi_) (by omega))
        replace hD := hD.fr hF38_ (skOwn hQ36 hD)
        replace hE := hE.fr hF38_ (skOwn hQ36 hE)
        clear hF38_
        have hR38 : RdDo w38_ A38 (L0 ++ L1) := (((hx0.app hx1).fr0 hF).rd hQ38.rd)
        rw [show L0.length + L1.length = (L0 ++ L1).length by rw [List.length_append]]
        clear hQ36 hQ38
        have hs39_ := hF.size
        have hn39_hD := hD.lt
        have hn39_hE := hE.lt
        refine Ops_call (C_func TDp.bd12 rfl) rfl rfl ?_
        refine (made_any 4194304 (by decide) (by decide) _ (L0 ++ L1) _ _ hR38 (by rw [List.length_append]; omega)).mono ?_
        rintro _ w39_ ⟨d39, rfl, hC, hF39_⟩
        replace hF := hF.fr0 hF39_
        replace hD := hD.fr0 hF39_
        replace hE := hE.fr0 hF39_
        clear hF39_
        refine Exists.elim hC.name fun B_hC h_ => ?_
        clear hC
        have hBe_hC := h_.1
        have hC := h_.2
        clear h_
        have hge_hC := hC.ge
        replace hC := hC.to (D' := runs D1 L1) (by rw [runs_two, ← eD1])
        refine ⟨_, rfl, ?_⟩
        refine Ops_step (R_assign rfl) rfl rfl ?_
        refine Ops_nil ?_
        refine then_n (hK12_ _ _ ?_)
        clear hK12_ K12_
        refine W_keepB [0, 1, 2, 7, 8, 9] fun B13 hB13_ => ?_
        simp only [pickE, lookE, putE, zipE, args0, Nat.reduceAdd, Nat.zero_add, List.cons_append, List.nil_append, Nat.reduceBEq, cond_true, cond_false] at hB13_
        subst hB13_
        refine W_seq_k fun K14_ hK14_ => ?_
        refine W_region [some 40, some 41, some 42, some 43, some 44, some 10] rfl ?_
        refine Ops_step (R_move rfl) rfl rfl ?_
        have hs41_ := hF.size
        refine Ops_call (C_func TDp.bd32 rfl) rfl rfl ?_
        refine (dclone_any _ L0.length _ x0 _ (hx0r.fr0 hF) hx0.len hx0.one hm0).mono ?_
        rintro _ w41_ ⟨A41, c41, rfl, hQ41, hF41_⟩
        replace hF := hF.fr0 hF41_
        replace hD := hD.fr0 hF41_
        replace hE := hE.fr0 hF41_
        replace hC := hC.fr0 hF41_
        clear hF41_
        replace hQ41 := own_le hQ41 hs41_
        refine ⟨_, rfl, ?_⟩
        refine Ops_step (R_move rfl) rfl rfl ?_
        have hof43 := hQ41.off
        have hltA43 := hQ41.ltA
        have hzz43 := hF.size
        have hxr43 := hx2r.fr0 hF
        refine Ops_to (R_append TDp.el22 rfl rfl hQ41 (Src.ofRd Try.underlying22 (by decide) hxr43 hx2.len hx2.one) (by omega) (by simp only [maxLen]; omega) (by omega)) rfl rfl ?_
        rintro _ w43_ ⟨A43, c43, rfl, hQ43, hF43_⟩
        replace hF := hF.then hF43_ (fun i_ hi_ hj_ => absurd (hof43 i_ hi_) (by omega))
        replace hD := hD.fr hF43_ (skOwn hQ41 hD)
        replace hE := hE.fr hF43_ (skOwn hQ41 hE)
        replace hC := hC.fr hF43_ (skOwn hQ41 hC)
        clear hF43_
        have hR43 : RdDo w43_ A43 (L0 ++ L2) := (((hx0.app hx2).fr0 hF).rd hQ43.rd)
        rw [show L0.length + L2.length = (L0 ++ L2).length by rw [List.length_append]]
        clear hQ41 hQ43
        have hs44_ := hF.size
        have hn44_hD := hD.lt
        have hn44_hE := hE.lt
        have hn44_hC := hC.lt
        refine Ops_call (C_func TDp.bd12 rfl) rfl rfl ?_
        refine (made_any 4194304 (by decide) (by decide) _ (L0 ++ L2) _ _ hR43 (by rw [List.length_append]; omega)).mono ?_
        rintro _ w44_ ⟨d44, rfl, hG, hF44_⟩
        replace hF := hF.fr0 hF44_
        replace hD := hD.fr0 hF44_
        replace hE := hE.fr0 hF44_
        replace hC := hC.fr0 hF44_
        clear hF44_
        refine Exists.elim hG.name fun B_hG h_ => ?_
        clear hG
        have hBe_hG := h_.1
        have hG := h_.2
        clear h_
        have hge_hG := hG.ge
        replace hG := hG.to (D' := runs D1 L2) (by rw [runs_two, ← eD1])
        refine ⟨_, rfl, ?_⟩
        refine Ops_step (R_assign rfl) rfl rfl ?_
        refine Ops_nil ?_
        refine then_n (hK14_ _ _ ?_)
        clear hK14_ K14_
        refine W_keepB [1, 2, 7, 8, 9, 10] fun B15 hB15_ => ?_
        simp only [pickE, lookE, putE, zipE, args0, Nat.reduceAdd, Nat.zero_add, List.cons_append, List.nil_append, Nat.reduceBEq, cond_true, cond_false] at hB15_
        subst hB15_
        refine W_seq_k fun K16_ hK16_ => ?_
        refine W_seq_k fun K17_ hK17_ => ?_
        refine W_region [some 45, some 46, some 47, some 48, some 49, some 50] rfl ?_
        refine Ops_step (R_move rfl) rfl rfl ?_
        refine Ops_step (R_len Try.underlying22 rfl rfl) rfl rfl ?_
        refine Ops_step (R_move rfl) rfl rfl ?_
        refine Ops_step (R_len Try.underlying22 rfl rfl) rfl rfl ?_
        refine Ops_step (R_max rfl rfl (show _ = ((max L1.length L2.length : Nat) : Int) by omega)) rfl rfl ?_
        refine Ops_step (R_move rfl) rfl rfl ?_
        refine Ops_nil ?_
        refine then_n (hK17_ _ _ ?_)
        clear hK17_ K17_
        refine W_block ?_
        refine W_loopB [1, 2, 7, 8, 9, 10, 49] [50] (fun m vs w' => ∃ i, i ≤ max L1.length L2.length ∧ m = max L1.length L2.length - i ∧ vs = [vi (i : Nat)] ∧ Dsk w' B_hD d32 (runs D1 (L1.take i)) ∧ Dsk w' B_hD d34 (runs D1 (L2.take i)) ∧ Dsk w' B_hC d39 (runs D1 L1) ∧ Dsk w' B_hG d44 (runs D1 L2) ∧ Fr [] w w') (max L1.length L2.length) _ rfl (⟨0, by omega, rfl, rfl, hD, hE, hC, hG, hF⟩) fun B18 hB18_ => ?_
        simp only [pickE, lookE, putE, zipE, args0, Nat.reduceAdd, Nat.zero_add, List.cons_append, List.nil_append, Nat.reduceBEq, cond_true, cond_false] at hB18_
        subst hB18_
        have hne1 : d32 < d34 := by omega
        have hne2 : d34 < d39 := by omega
        have hne3 : d39 < d44 := by omega
        have hgw : w.heap.size ≤ d32 := by omega
        clear hD hE hC hG hF
        rintro m_ vs_ w0_ ⟨i, hi, rfl, rfl, hD, hE, hC, hG, hF⟩
        refine W_seq_k fun K19_ hK19_ => ?_
        refine W_region [some 51] rfl ?_
        refine Ops_step (R_lss rfl rfl) rfl rfl ?_
        refine Ops_nil ?_
        refine then_n (hK19_ _ _ ?_)
        clear hK19_ K19_
        refine W_seq_k fun K20_ hK20_ => ?_
        refine W_if rfl (fun hc51 => ?_) (fun hc51 => ?_)
        · refine W_skip ?_
          refine then_n (hK20_ _ _ ?_)
          clear hK20_ K20_
          refine W_seq_k fun K21_ hK21_ => ?_
          refine W_block ?_
          refine W_seq_k fun K22_ hK22_ => ?_
          refine W_region [some 52, some 11] rfl ?_
          refine Ops_step (R_move rfl) rfl rfl ?_
          refine Ops_step (R_assign rfl) rfl rfl ?_
          refine Ops_nil ?_
          refine then_n (hK22_ _ _ ?_)
          clear hK22_ K22_
          refine W_seq_k fun K23_ hK23_ => ?_
          refine W_seq_k fun K24_ hK24_ => ?_
          refine W_region [some 53, some 54, some 55, some 56] rfl ?_
          refine Ops_step (R_move rfl) rfl rfl ?_
          refine Ops_step (R_move rfl) rfl rfl ?_
          refine Ops_step (R_len Try.underlying22 rfl rfl) rfl rfl ?_
          refine Ops_step (R_lss rfl rfl) rfl rfl ?_
          refine Ops_nil ?_
          refine then_n (hK24_ _ _ ?_)
          clear hK24_ K24_
          refine W_if rfl (fun hc56 => ?_) (fun hc56 => ?_)
          · have hi1 : i < L1.length := by omega
            have hx := hL1 i _ (List.getElem?_eq_getElem hi1)
            have htk := List.take_succ_eq_append_getElem hi1
            have hmem := List.getElem_mem hi1
            refine named L1[i] fun k ek => ?_
            rw [← ek] at hx htk hmem
            obtain ⟨hs1, Ai, ci, hcs, hdo⟩ := hx
            refine W_region [some 57, some 58, some 59, some 60, some 61, some 62] rfl ?_
            refine Ops_step (R_move rfl) rfl rfl ?_
            refine Ops_step (R_move rfl) rfl rfl ?_
            refine Ops_step (R_move rfl) rfl rfl ?_
            refine Ops_step (R_indexSl Try.underlying22 TDp.sz38 rfl rfl (by omega) (by omega) hs1) rfl rfl ?_
            refine Ops_step (R_loadCs (cs := doC k Ai ci) TDp.ag38 (by exact TDp.sz38) rfl (fun r v hr => Fr.cell hF (hcs r v hr) (by simp))) rfl rfl ?_
            have hs62_ := hF.size
            have hd62_ := hD
            have hw62_ := hD.lt
            refine Ops_call (C_func TDp.bd18 rfl) rfl rfl ?_
            refine (does_any _ _ _ k Ai ci _ hD (RdY.old hdo.2.2.1 hF (by omega)) hdo.1 (Nat.le_trans hdo.1 hdo.2.1) hdo.2.2.2).mono ?_
            rintro _ w62_ ⟨rfl, hD, hF62_⟩
            replace hF := hF.then hF62_ (by simp only [List.mem_singleton]; omega)
            replace hE := hE.fr hF62_ (skDsk (by omega) hd62_)
            replace hC := hC.fr hF62_ (skDsk (by omega) hd62_)
            replace hG := hG.fr hF62_ (skDsk (by omega) hd62_)
            clear hF62_
            replace hD := hD.to (D' := runs D1 (L1.take (i + 1))) (by rw [htk, runs_app])
            refine ⟨_, rfl, ?_⟩
            refine Ops_nil ?_
            refine then_n (hK23_ _ _ ?_)
            clear hK23_ K23_
            refine W_keepB [1, 2, 7, 8, 9, 10, 11, 49, 50] fun B25 hB25_ => ?_
            simp only [pickE, lookE, putE, zipE, args0, Nat.reduceAdd, Nat.zero_add, List.cons_append, List.nil_append, Nat.reduceBEq, cond_true, cond_false] at hB25_
            subst hB25_
            refine W_seq_k fun K26_ hK26_ => ?_
            refine W_region [some 63, some 64, some 65, some 66] rfl ?_
            refine Ops_step (R_move rfl) rfl rfl ?_
            refine Ops_step (R_move rfl) rfl rfl ?_
            refine Ops_step (R_len Try.underlying22 rfl rfl) rfl rfl ?_
            refine Ops_step (R_lss rfl rfl) rfl rfl ?_
            refine Ops_nil ?_
            refine then_n (hK26_ _ _ ?_)
            clear hK26_ K26_
            refine W_if rfl (fun hc66 => ?_) (fun hc66 => ?_)
            · have hi1 : i < L2.length := by omega
              have hx := hL2 i _ (List.getElem?_eq_getElem hi1)
              have htk := List.take_succ_eq_append_getElem hi1
              have hmem := List.getElem_mem hi1
              refine named L2[i] fun k2 ek2 => ?_
              rw [← ek2] at hx htk hmem
              obtain ⟨hs1, A2, c2, hcs, hdo⟩ := hx
              refine W_region [some 67, some 68, some 69, some 70, some 71, some 72] rfl ?_
              refine Ops_step (R_move rfl) rfl rfl ?_
              refine Ops_step (R_move rfl) rfl rfl ?_
              refine Ops_step (R_move rfl) rfl rfl ?_
              refine Ops_step (R_indexSl Try.underlying22 TDp.sz38 rfl rfl (by omega) (by omega) hs1) rfl rfl ?_
              refine Ops_step (R_loadCs (cs := doC k2 A2 c2) TDp.ag38 (by exact TDp.sz38) rfl (fun r v hr => Fr.cell hF (hcs r v hr) (by simp))) rfl rfl ?_
              have hs72_ := hF.size
              have hd72_ := hE
              have hw72_ := hE.lt
              refine Ops_call (C_func TDp.bd18 rfl) rfl rfl ?_
              refine (does_any _ _ _ k2 A2 c2 _ hE (RdY.old hdo.2.2.1 hF (by omega)) hdo.1 (Nat.le_trans hdo.1 hdo.2.1) hdo.2.2.2).mono ?_
              rintro _ w72_ ⟨rfl, hE, hF72_⟩
              replace hF := hF.then hF72_ (by simp only [List.mem_singleton]; omega)
              replace hD := hD.fr hF72_ (skDsk (by omega) hd72_)
              replace hC := hC.fr hF72_ (skDsk (by omega) hd72_)
              replace hG := hG.fr hF72_ (skDsk (by omega) hd72_)
              clear hF72_
              replace hE := hE.to (D' := runs D1 (L2.take (i + 1))) (by rw [htk, runs_app])
              refine ⟨_, rfl, ?_⟩
              refine Ops_nil ?_
              refine block_n ?_
              refine then_n (hK21_ _ _ ?_)
              clear hK21_ K21_
              refine W_keepB [1, 2, 7, 8, 9, 10, 49, 50] fun B27 hB27_ => ?_
              simp only [pickE, lookE, putE, zipE, args0, Nat.reduceAdd, Nat.zero_add, List.cons_append, List.nil_append, Nat.reduceBEq, cond_true, cond_false] at hB27_
              subst hB27_
              refine W_region [some 73, some 50] rfl ?_
              refine Ops_step (R_add rfl rfl (wIc (n := i + 1) (by omega) (by omega))) rfl rfl ?_
              refine Ops_step (R_move rfl) rfl rfl ?_
              refine Ops_nil ?_
              exact ⟨max L1.length L2.length - (i + 1), _, by omega, rfl, ⟨i + 1, by omega, rfl, rfl, hD, hE, hC, hG, hF⟩, ⟨rfl, rfl, rfl, rfl, rfl, rfl, rfl, trivial⟩⟩
            · replace hE := hE.to (D' := runs D1 (L2.take (i + 1))) (by rw [List.take_of_length_le (l := L2) (i := i) (by omega), List.take_of_length_le (l := L2) (i := i + 1) (by omega)])
              refine W_skip ?_
              refine block_n ?_
              refine then_n (hK21_ _ _ ?_)
              clear hK21_ K21_
              refine W_region [some 73, some 50] rfl ?_
              refine Ops_step (R_add rfl rfl (wIc (n := i + 1) (by omega) (by omega))) rfl rfl ?_
              refine Ops_step (R_move rfl) rfl rfl ?_
              refine Ops_nil ?_
              exact ⟨max L1.length L2.length - (i + 1), _, by omega, rfl, ⟨i + 1, by omega, rfl, rfl, hD, hE, hC, hG, hF⟩, ⟨rfl, rfl, rfl, rfl, rfl, rfl, rfl, trivial⟩⟩
          · replace hD := hD.to (D' := runs D1 (L1.take (i + 1))) (by rw [List.take_of_length_le (l := L1) (i := i) (by omega), List.take_of_length_le (l := L1) (i := i + 1) (by omega)])
            refine W_skip ?_
            refine then_n (hK23_ _ _ ?_)
            clear hK23_ K23_
            refine W_keepB [1, 2, 7, 8, 9, 10, 11, 49, 50] fun B28 hB28_ => ?_
            simp only [pickE, lookE, putE, zipE, args0, Nat.reduceAdd, Nat.zero_add, List.cons_append, List.nil_append, Nat.reduceBEq, cond_true, cond_false] at hB28_
            subst hB28_
            refine W_seq_k fun K29_ hK29_ => ?_
            refine W_region [some 63, some 64, some 65, some 66] rfl ?_
            refine Ops_step (R_move rfl) rfl rfl ?_
            refine Ops_step (R_move rfl) rfl rfl ?_
            refine Ops_step (R_len Try.underlying22 rfl rfl) rfl rfl ?_
            refine Ops_step (R_lss rfl rfl) rfl rfl ?_
            refine Ops_nil ?_
            refine then_n (hK29_ _ _ ?_)
            clear hK29_ K29_
            refine W_if rfl (fun hc66 => ?_) (fun hc66 => ?_)
            · have hi1 : i < L2.length := by omega
              have hx := hL2 i _ (List.getElem?_eq_getElem hi1)
              have htk := List.take_succ_eq_append_getElem hi1
              have hmem := List.getElem_mem hi1
              refine named L2[i] fun k2 ek2 => ?_
              rw [← ek2] at hx htk hmem
              obtain ⟨hs1, A2, c2, hcs, hdo⟩ := hx
              refine W_region [some 67, some 68, some 69, some 70, some 71, some 72] rfl ?_
              refine Ops_step (R_move rfl) rfl rfl ?_
              refine Ops_step (R_move rfl) rfl rfl ?_
              refine Ops_step (R_move rfl) rfl rfl ?_
              refine Ops_step (R_indexSl Try.underlying22 TDp.sz38 rfl rfl (by omega) (by omega) hs1) rfl rfl ?_
              refine Ops_step (R_loadCs (cs := doC k2 A2 c2) TDp.ag38 (by exact TDp.sz38) rfl (fun r v hr => Fr.cell hF (hcs r v hr) (by simp))) rfl rfl ?_
              have hs72_ := hF.size
              have hd72_ := hE
              have hw72_ := hE.lt
              refine Ops_call (C_func TDp.bd18 rfl) rfl rfl ?_
              refine (does_any _ _ _ k2 A2 c2 _ hE (RdY.old hdo.2.2.1 hF (by omega)) hdo.1 (Nat.le_trans hdo.1 hdo.2.1) hdo.2.2.2).mono ?_
              rintro _ w72_ ⟨rfl, hE, hF72_⟩
              replace hF := hF.then hF72_ (by simp only [List.mem_singleton]; omega)
              replace hD := hD.fr hF72_ (skDsk (by omega) hd72_)
              replace hC := hC.fr hF72_ (skDsk (by omega) hd72_)
              replace hG := hG.fr hF72_ (skDsk (by omega) hd72_)
              clear hF72_
              replace hE := hE.to (D' := runs D1 (L2.take (i + 1))) (by rw [htk, runs_app])
              refine ⟨_, rfl, ?_⟩
              refine Ops_nil ?_
              refine block_n ?_
              refine then_n (hK21_ _ _ ?_)
              clear hK21_ K21_
              refine W_keepB [1, 2, 7, 8, 9, 10, 49, 50] fun B30 hB30_ => ?_
              simp only [pickE, lookE, putE, zipE, args0, Nat.reduceAdd, Nat.zero_add, List.cons_append, List.nil_append, Nat.reduceBEq, cond_true, cond_false] at hB30_
              subst hB30_
              refine W_region [some 73, some 50] rfl ?_
              refine Ops_step (R_add rfl rfl (wIc (n := i + 1) (by omega) (by omega))) rfl rfl ?_
              refine Ops_step (R_move rfl) rfl rfl ?_
              refine Ops_nil ?_
              exact ⟨max L1.length L2.length - (i + 1), _, by omega, rfl, ⟨i + 1, by omega, rfl, rfl, hD, hE, hC, hG, hF⟩, ⟨rfl, rfl, rfl, rfl, rfl, rfl, rfl, trivial⟩⟩
            · replace hE := hE.to (D' := runs D1 (L2.take (i + 1))) (by rw [List.take_of_length_le (l := L2) (i := i) (by omega), List.take_of_length_le (l := L2) (i := i + 1) (by omega)])
              refine W_skip ?_
              refine block_n ?_
              refine then_n (hK21_ _ _ ?_)
              clear hK21_ K21_
              refine W_region [some 73, some 50] rfl ?_
              refine Ops_step (R_add rfl rfl (wIc (n := i + 1) (by omega) (by omega))) rfl rfl ?_
              refine Ops_step (R_move rfl) rfl rfl ?_
              refine Ops_nil ?_
              exact ⟨max L1.length L2.length - (i + 1), _, by omega, rfl, ⟨i + 1, by omega, rfl, rfl, hD, hE, hC, hG, hF⟩, ⟨rfl, rfl, rfl, rfl, rfl, rfl, rfl, trivial⟩⟩
        · replace hD := hD.to (D' := runs D1 L1) (by rw [List.take_of_length_le (l := L1) (by omega)])
          replace hE := hE.to (D' := runs D1 L2) (by rw [List.take_of_length_le (l := L2) (by omega)])
          refine named (runs D1 L1) fun X1 eX1 => ?_
          rw [← eX1] at hD hC
          clear eX1
          refine named (runs D1 L2) fun X2 eX2 => ?_
          rw [← eX2] at hE hG
          clear eX2
          have hTX1 := hD.ok.three
          have hTX2 := hE.ok.three
          refine W_exit ?_
          refine then_exit ?_
          clear hK20_ K20_
          refine then_exit ?_
          refine block_exit ?_
          refine then_n (hK16_ _ _ ?_)
          clear hK16_ K16_
          refine W_seq_k fun K31_ hK31_ => ?_
          refine W_region [some 74, some 75, some 76, some 77, some 78, some 79, some 80, some 81, some 12, some 13, some 14, some 15, none, none, none, none] rfl ?_
          refine Ops_step (R_move rfl) rfl rfl ?_
          have hs75_ := hF.size
          have hd75_ := hD
          have hw75_ := hD.lt
          refine Ops_call (C_func TDp.bd13 rfl) rfl rfl ?_
          refine (files_any _ _ _ _ hD).mono ?_
          rintro _ w75_ ⟨ps75, rfl, hpl75, hP, hD, hF75_⟩
          replace hF := hF.then hF75_ (by simp only [List.mem_singleton]; omega)
          replace hE := hE.fr hF75_ (skDsk (by omega) hd75_)
          replace hC := hC.fr hF75_ (skDsk (by omega) hd75_)
          replace hG := hG.fr hF75_ (skDsk (by omega) hd75_)
          clear hF75_
          replace hP := hP.le hs75_
          refine ⟨_, rfl, ?_⟩
          refine Ops_step (R_move rfl) rfl rfl ?_
          have hs77_ := hF.size
          have hd77_ := hC
          have hw77_ := hC.lt
          refine Ops_call (C_func TDp.bd13 rfl) rfl rfl ?_
          refine (files_any _ _ _ _ hC).mono ?_
          rintro _ w77_ ⟨ps77, rfl, hpl77, hP2, hC, hF77_⟩
          replace hF := hF.then hF77_ (by simp only [List.mem_singleton]; omega)
          replace hD := hD.fr hF77_ (skDsk (by omega) hd77_)
          replace hE := hE.fr hF77_ (skDsk (by omega) hd77_)
          replace hG := hG.fr hF77_ (skDsk (by omega) hd77_)
          replace hP := hP.fr hF77_ (fun i_ hi_ => by rw [List.mem_singleton.1 hi_]; obtain ⟨cs_, hb_⟩ := hd77_.blk; exact ⟨40, cs_, by decide, hb_⟩)
          clear hF77_
          replace hP2 := hP2.le hs77_
          refine ⟨_, rfl, ?_⟩
          refine Ops_step (R_move rfl) rfl rfl ?_
          have hs79_ := hF.size
          have hd79_ := hE
          have hw79_ := hE.lt
          refine Ops_call (C_func TDp.bd13 rfl) rfl rfl ?_
          refine (files_any _ _ _ _ hE).mono ?_
          rintro _ w79_ ⟨ps79, rfl, hpl79, hP3, hE, hF79_⟩
          replace hF := hF.then hF79_ (by simp only [List.mem_singleton]; omega)
          replace hD := hD.fr hF79_ (skDsk (by omega) hd79_)
          replace hC := hC.fr hF79_ (skDsk (by omega) hd79_)
          replace hG := hG.fr hF79_ (skDsk (by omega) hd79_)
          replace hP := hP.fr hF79_ (fun i_ hi_ => by rw [List.mem_singleton.1 hi_]; obtain ⟨cs_, hb_⟩ := hd79_.blk; exact ⟨40, cs_, by decide, hb_⟩)
          replace hP2 := hP2.fr hF79_ (fun i_ hi_ => by rw [List.mem_singleton.1 hi_]; obtain ⟨cs_, hb_⟩ := hd79_.blk; exact ⟨40, cs_, by decide, hb_⟩)
          clear hF79_
          replace hP3 := hP3.le hs79_
          refine ⟨_, rfl, ?_⟩
          refine Ops_step (R_move rfl) rfl rfl ?_
          have hs81_ := hF.size
          have hd81_ := hG
          have hw81_ := hG.lt
          refine Ops_call (C_func TDp.bd13 rfl) rfl rfl ?_
          refine (files_any _ _ _ _ hG).mono ?_
          rintro _ w81_ ⟨ps81, rfl, hpl81, hP4, hG, hF81_⟩
          replace hF := hF.then hF81_ (by simp only [List.mem_singleton]; omega)
          replace hD := hD.fr hF81_ (skDsk (by omega) hd81_)
          replace hE := hE.fr hF81_ (skDsk (by omega) hd81_)
          replace hC := hC.fr hF81_ (skDsk (by omega) hd81_)
          replace hP := hP.fr hF81_ (fun i_ hi_ => by rw [List.mem_singleton.1 hi_]; obtain ⟨cs_, hb_⟩ := hd81_.blk; exact ⟨40, cs_, by decide, hb_⟩)
          replace hP2 := hP2.fr hF81_ (fun i_ hi_ => by rw [List.mem_singleton.1 hi_]; obtain ⟨cs_, hb_⟩ := hd81_.blk; exact ⟨40, cs_, by decide, hb_⟩)
          replace hP3 := hP3.fr hF81_ (fun i_ hi_ => by rw [List.mem_singleton.1 hi_]; obtain ⟨cs_, hb_⟩ := hd81_.blk; exact ⟨40, cs_, by decide, hb_⟩)
          clear hF81_
          replace hP4 := hP4.le hs81_
          refine ⟨_, rfl, ?_⟩
          have hz12_hF := hF.size
          have hn12_hD := hD.lt
          have hn12_hE := hE.lt
          have hn12_hC := hC.lt
          have hn12_hG := hG.lt
          refine Ops_to (R_alloc TDp.zr30) rfl rfl ?_
          rintro _ w12_ ⟨b12, rfl, hb12, hB12, hF12_⟩
          have hl12 := hB12.lt
          replace hF := hF.fr0 hF12_
          replace hD := hD.fr0 hF12_
          replace hE := hE.fr0 hF12_
          replace hC := hC.fr0 hF12_
          replace hG := hG.fr0 hF12_
          replace hP := hP.fr0 hF12_
          replace hP2 := hP2.fr0 hF12_
          replace hP3 := hP3.fr0 hF12_
          replace hP4 := hP4.fr0 hF12_
          clear hF12_
          have hz13_hF := hF.size
          have hn13_hD := hD.lt
          have hn13_hE := hE.lt
          have hn13_hC := hC.lt
          have hn13_hG := hG.lt
          have hn13_hB12 := hB12.lt
          refine Ops_to (R_alloc TDp.zr30) rfl rfl ?_
          rintro _ w13_ ⟨b13, rfl, hb13, hB13, hF13_⟩
          have hl13 := hB13.lt
          replace hF := hF.fr0 hF13_
          replace hD := hD.fr0 hF13_
          replace hE := hE.fr0 hF13_
          replace hC := hC.fr0 hF13_
          replace hG := hG.fr0 hF13_
          replace hP := hP.fr0 hF13_
          replace hP2 := hP2.fr0 hF13_
          replace hP3 := hP3.fr0 hF13_
          replace hP4 := hP4.fr0 hF13_
          replace hB12 := hB12.fr0 hF13_
          clear hF13_
          have hz14_hF := hF.size
          have hn14_hD := hD.lt
          have hn14_hE := hE.lt
          have hn14_hC := hC.lt
          have hn14_hG := hG.lt
          have hn14_hB12 := hB12.lt
          have hn14_hB13 := hB13.lt
          refine Ops_to (R_alloc TDp.zr30) rfl rfl ?_
          rintro _ w14_ ⟨b14, rfl, hb14, hB14, hF14_⟩
          have hl14 := hB14.lt
          replace hF := hF.fr0 hF14_
          replace hD := hD.fr0 hF14_
          replace hE := hE.fr0 hF14_
          replace hC := hC.fr0 hF14_
          replace hG := hG.fr0 hF14_
          replace hP := hP.fr0 hF14_
          replace hP2 := hP2.fr0 hF14_
          replace hP3 := hP3.fr0 hF14_
          replace hP4 := hP4.fr0 hF14_
          replace hB12 := hB12.fr0 hF14_
          replace hB13 := hB13.fr0 hF14_
          clear hF14_
          have hz15_hF := hF.size
          have hn15_hD := hD.lt
          have hn15_hE := hE.lt
          have hn15_hC := hC.lt
          have hn15_hG := hG.lt
          have hn15_hB12 := hB12.lt
          have hn15_hB13 := hB13.lt
          have hn15_hB14 := hB14.lt
          refine Ops_to (R_alloc TDp.zr30) rfl rfl ?_
          rintro _ w15_ ⟨b15, rfl, hb15, hB15, hF15_⟩
          have hl15 := hB15.lt
          replace hF := hF.fr0 hF15_
          replace hD := hD.fr0 hF15_
          replace hE := hE.fr0 hF15_
          replace hC := hC.fr0 hF15_
          replace hG := hG.fr0 hF15_
          replace hP := hP.fr0 hF15_
          replace hP2 := hP2.fr0 hF15_
          replace hP3 := hP3.fr0 hF15_
          replace hP4 := hP4.fr0 hF15_
          replace hB12 := hB12.fr0 hF15_
          replace hB13 := hB13.fr0 hF15_
          replace hB14 := hB14.fr0 hF15_
          clear hF15_
          have hb12_ := hB12
          refine Ops_to0 (R_storeN TDp.sz30 (by rw [List.size_toArray, flC_len hpl75 hTX1 (by omega)]) rfl rfl hB12 (by decide) (flC_one _ _)) rfl ?_
          clear hB12
          rintro _ w32_ ⟨hB12, hF32_⟩
          replace hF := hF.then hF32_ (by simp only [List.mem_cons, List.not_mem_nil, or_false]; intro i_ hi_ hj_; omega)
          replace hD := hD.fr hF32_ (skOne (by omega) hb12_ (by decide))
          replace hE := hE.fr hF32_ (skOne (by omega) hb12_ (by decide))
          replace hC := hC.fr hF32_ (skOne (by omega) hb12_ (by decide))
          replace hG := hG.fr hF32_ (skOne (by omega) hb12_ (by decide))
          replace hP := hP.fr hF32_ (fun i_ hi_ => by rw [List.mem_singleton.1 hi_]; exact ⟨30, _, by decide, hb12_⟩)
          replace hP2 := hP2.fr hF32_ (fun i_ hi_ => by rw [List.mem_singleton.1 hi_]; exact ⟨30, _, by decide, hb12_⟩)
          replace hP3 := hP3.fr hF32_ (fun i_ hi_ => by rw [List.mem_singleton.1 hi_]; exact ⟨30, _, by decide, hb12_⟩)
          replace hP4 := hP4.fr hF32_ (fun i_ hi_ => by rw [List.mem_singleton.1 hi_]; exact ⟨30, _, by decide, hb12_⟩)
          replace hB13 := hB13.fr hF32_ (by simp only [List.mem_cons, List.not_mem_nil, or_false]; omega)
          replace hB14 := hB14.fr hF32_ (by simp only [List.mem_cons, List.not_mem_nil, or_false]; omega)
          replace hB15 := hB15.fr hF32_ (by simp only [List.mem_cons, List.not_mem_nil, or_false]; omega)
          clear hF32_
          replace hB12 := hB12.to (cs' := flC ps75 X1.F) (over4_ (by rw [flC_len hpl75 hTX1 (by omega)]; rfl))
          have hb13_ := hB13
          refine Ops_to0 (R_storeN TDp.sz30 (by rw [List.size_toArray, flC_len hpl77 hTX1 (by omega)]) rfl rfl hB13 (by decide) (flC_one _ _)) rfl ?_
          clear hB13
          rintro _ w33_ ⟨hB13, hF33_⟩
          replace hF := hF.then hF33_ (by simp only [List.mem_cons, List.not_mem_nil, or_false]; intro i_ hi_ hj_; omega)
          replace hD := hD.fr hF33_ (skOne (by omega) hb13_ (by decide))
          replace hE := hE.fr hF33_ (skOne (by omega) hb13_ (by decide))
          replace hC := hC.fr hF33_ (skOne (by omega) hb13_ (by decide))
          replace hG := hG.fr hF33_ (skOne (by omega) hb13_ (by decide))
          replace hP := hP.fr hF33_ (fun i_ hi_ => by rw [List.mem_singleton.1 hi_]; exact ⟨30, _, by decide, hb13_⟩)
          replace hP2 := hP2.fr hF33_ (fun i_ hi_ => by rw [List.mem_singleton.1 hi_]; exact ⟨30, _, by decide, hb13_⟩)
          replace hP3 := hP3.fr hF33_ (fun i_ hi_ => by rw [List.mem_singleton.1 hi_]; exact ⟨30, _, by decide, hb13_⟩)
          replace hP4 := hP4.fr hF33_ (fun i_ hi_ => by rw [List.mem_singleton.1 hi_]; exact ⟨30, _, by decide, hb13_⟩)
          replace hB12 := hB12.fr hF33_ (by simp only [List.mem_cons, List.not_mem_nil, or_false]; omega)
          replace hB14 := hB14.fr hF33_ (by simp only [List.mem_cons, List.not_mem_nil, or_false]; omega)
          replace hB15 := hB15.fr hF33_ (by simp only [List.mem_cons, List.not_mem_nil, or_false]; omega)
          clear hF33_
          replace hB13 := hB13.to (cs' := flC ps77 X1.F) (over4_ (by rw [flC_len hpl77 hTX1 (by omega)]; rfl))
          have hb14_ := hB14
          refine Ops_to0 (R_storeN TDp.sz30 (by rw [List.size_toArray, flC_len hpl79 hTX2 (by omega)]) rfl rfl hB14 (by decide) (flC_one _ _)) rfl ?_
          clear hB14
          rintro _ w34_ ⟨hB14, hF34_⟩
          replace hF := hF.then hF34_ (by simp only [List.mem_cons, List.not_mem_nil, or_false]; intro i_ hi_ hj_; omega)
          replace hD := hD.fr hF34_ (skOne (by omega) hb14_ (by decide))
          replace hE := hE.fr hF34_ (skOne (by omega) hb14_ (by decide))
          replace hC := hC.fr hF34_ (skOne (by omega) hb14_ (by decide))
          replace hG := hG.fr hF34_ (skOne (by omega) hb14_ (by decide))
          replace hP := hP.fr hF34_ (fun i_ hi_ => by rw [List.mem_singleton.1 hi_]; exact ⟨30, _, by decide, hb14_⟩)
          replace hP2 := hP2.fr hF34_ (fun i_ hi_ => by rw [List.mem_singleton.1 hi_]; exact ⟨30, _, by decide, hb14_⟩)
          replace hP3 := hP3.fr hF34_ (fun i_ hi_ => by rw [List.mem_singleton.1 hi_]; exact ⟨30, _, by decide, hb14_⟩)
          replace hP4 := hP4.fr hF34_ (fun i_ hi_ => by rw [List.mem_singleton.1 hi_]; exact ⟨30, _, by decide, hb14_⟩)
          replace hB12 := hB12.fr hF34_ (by simp only [List.mem_cons, List.not_mem_nil, or_false]; omega)
          replace hB13 := hB13.fr hF34_ (by simp only [List.mem_cons, List.not_mem_nil, or_false]; omega)
          replace hB15 := hB15.fr hF34_ (by simp only [List.mem_cons, List.not_mem_nil, or_false]; omega)
          clear hF34_
          replace hB14 := hB14.to (cs' := flC ps79 X2.F) (over4_ (by rw [flC_len hpl79 hTX2 (by omega)]; rfl))
          have hb15_ := hB15
          refine Ops_to0 (R_storeN TDp.sz30 (by rw [List.size_toArray, flC_len hpl81 hTX2 (by omega)]) rfl rfl hB15 (by decide) (flC_one _ _)) rfl ?_
          clear hB15
          rintro _ w35_ ⟨hB15, hF35_⟩
          replace hF := hF.then hF35_ (by simp only [List.mem_cons, List.not_mem_nil, or_false]; intro i_ hi_ hj_; omega)
          replace hD := hD.fr hF35_ (skOne (by omega) hb15_ (by decide))
          replace hE := hE.fr hF35_ (skOne (by omega) hb15_ (by decide))
          replace hC := hC.fr hF35_ (skOne (by omega) hb15_ (by decide))
          replace hG := hG.fr hF35_ (skOne (by omega) hb15_ (by decide))
          replace hP := hP.fr hF35_ (fun i_ hi_ => by rw [List.mem_singleton.1 hi_]; exact ⟨30, _, by decide, hb15_⟩)
          replace hP2 := hP2.fr hF35_ (fun i_ hi_ => by rw [List.mem_singleton.1 hi_]; exact ⟨30, _, by decide, hb15_⟩)
          replace hP3 := hP3.fr hF35_ (fun i_ hi_ => by rw [List.mem_singleton.1 hi_]; exact ⟨30, _, by decide, hb15_⟩)
          replace hP4 := hP4.fr hF35_ (fun i_ hi_ => by rw [List.mem_singleton.1 hi_]; exact ⟨30, _, by decide, hb15_⟩)
          replace hB12 := hB12.fr hF35_ (by simp only [List.mem_cons, List.not_mem_nil, or_false]; omega)
          replace hB13 := hB13.fr hF35_ (by simp only [List.mem_cons, List.not_mem_nil, or_false]; omega)
          replace hB14 := hB14.fr hF35_ (by simp only [List.mem_cons, List.not_mem_nil, or_false]; omega)
          clear hF35_
          replace hB15 := hB15.to (cs' := flC ps81 X2.F) (over4_ (by rw [flC_len hpl81 hTX2 (by omega)]; rfl))
          refine Ops_nil ?_
          refine then_n (hK31_ _ _ ?_)
          clear hK31_ K31_
          refine W_keepB [12, 13, 14, 15] fun B36 hB36_ => ?_
          simp only [pickE, lookE, putE, zipE, args0, Nat.reduceAdd, Nat.zero_add, List.cons_append, List.nil_append, Nat.reduceBEq, cond_true, cond_false] at hB36_
          subst hB36_
          refine W_seq_k fun K37_ hK37_ => ?_
          refine W_seq_k fun K38_ hK38_ => ?_
          refine W_region [some 82] rfl ?_
          refine Ops_step (R_move rfl) rfl rfl ?_
          refine Ops_nil ?_
          refine then_n (hK38_ _ _ ?_)
          clear hK38_ K38_
          refine W_block ?_
          refine W_loopB [12, 13, 14, 15] [82] (fun m vs w' => ∃ j, j ≤ 3 ∧ m = 3 - j ∧ vs = [vi (j : Nat)] ∧ Blk w' b12 30 (flC ps75 X1.F) ∧ Blk w' b13 30 (flC ps77 X1.F) ∧ Blk w' b14 30 (flC ps79 X2.F) ∧ Blk w' b15 30 (flC ps81 X2.F) ∧ FlP w' w.heap.size ps75 X1.F ∧ FlP w' w.heap.size ps77 X1.F ∧ FlP w' w.heap.size ps79 X2.F ∧ FlP w' w.heap.size ps81 X2.F ∧ Fr [] w w') (3) _ rfl (⟨0, by omega, rfl, rfl, hB12, hB13, hB14, hB15, hP, hP2, hP3, hP4, hF⟩) fun B39 hB39_ => ?_
          simp only [pickE, lookE, putE, zipE, args0, Nat.reduceAdd, Nat.zero_add, List.cons_append, List.nil_append, Nat.reduceBEq, cond_true, cond_false] at hB39_
          subst hB39_
          clear hB12 hB13 hB14 hB15 hP hP2 hP3 hP4 hD hE hC hG hF
          rintro m_ vs_ w0_ ⟨j, hj, rfl, rfl, hB12, hB13, hB14, hB15, hP, hP2, hP3, hP4, hF⟩
          refine W_seq_k fun K40_ hK40_ => ?_
          refine W_region [some 83] rfl ?_
          refine Ops_step (R_lss rfl rfl) rfl rfl ?_
          refine Ops_nil ?_
          refine then_n (hK40_ _ _ ?_)
          clear hK40_ K40_
          refine W_seq_k fun K41_ hK41_ => ?_
          refine W_if rfl (fun hc83 => ?_) (fun hc83 => ?_)
          · refine W_skip ?_
            refine then_n (hK41_ _ _ ?_)
            clear hK41_ K41_
            refine W_seq_k fun K42_ hK42_ => ?_
            refine W_block ?_
            refine W_seq_k fun K43_ hK43_ => ?_
            refine W_region [some 84, some 16] rfl ?_
            refine Ops_step (R_move rfl) rfl rfl ?_
            refine Ops_step (R_assign rfl) rfl rfl ?_
            refine Ops_nil ?_
            refine then_n (hK43_ _ _ ?_)
            clear hK43_ K43_
            refine W_seq_k fun K44_ hK44_ => ?_
            refine W_drawF [some 85, some 86, some 87, some 88, some 89, some 90, some 91, some 92, some 93, some 94, some 95, some 96, some 97, some 98, some 99, some 100, some 101, some 102] [(0, true), (1, true), (2, true), (3, true), (4, true), (5, true), (6, false), (7, true), (8, true), (9, true), (10, true), (11, true), (12, true), (13, true), (14, true), (15, false), (16, true), (17, true)] TDp.hm rfl (by kernel_rfl) fun ops45_ w45_ hops45_ hF45_ => ?_
            replace hF := hF.fr0 hF45_
            replace hB12 := hB12.fr0 hF45_
            replace hB13 := hB13.fr0 hF45_
            replace hB14 := hB14.fr0 hF45_
            replace hB15 := hB15.fr0 hF45_
            replace hP := hP.fr0 hF45_
            replace hP2 := hP2.fr0 hF45_
            replace hP3 := hP3.fr0 hF45_
            replace hP4 := hP4.fr0 hF45_
            clear hF45_
            refine HS_pure (fun w_ => R_move rfl) rfl rfl ?_
            refine HS_pure (fun w_ => R_indexArr Try.underlying30 TDp.sz24 rfl rfl (by omega) (by omega)) rfl rfl ?_
            refine HS_loadB TDp.ag24 rfl hB12 (flC_get hpl75 hTX1 (i := j) (by omega)) rfl rfl ?_
            refine HS_pure (fun w_ => R_move rfl) rfl rfl ?_
            refine HS_pure (fun w_ => R_indexArr Try.underlying30 TDp.sz24 rfl rfl (by omega) (by omega)) rfl rfl ?_
            refine HS_loadB TDp.ag24 rfl hB13 (flC_get hpl77 hTX1 (i := j) (by omega)) rfl rfl ?_
            refine HS_call [] _ rfl (by rw [hops45_]; kernel_rfl) (C_func TDp.bd22 rfl) rfl rfl ?_
            refine (beq_any _ _ _ _ _ _ _ _ _ rfl rfl (hP j (by omega)).rd (hP2 j (by omega)).rd).mono ?_
            rintro _ wq91_ ⟨rfl, hq91_⟩
            replace hq91_ := hq91_.symm
            subst hq91_
            refine ⟨_, rfl, trivial, ?_⟩
            refine HS_pure (fun w_ => R_not' rfl) rfl rfl ?_
            refine HS_pure (fun w_ => R_move rfl) rfl rfl ?_
            refine HS_known (b := false) 93 rfl (by simp) ?_
            refine HS_pure (fun w_ => R_move rfl) rfl rfl ?_
            refine HS_pure (fun w_ => R_indexArr Try.underlying30 TDp.sz24 rfl rfl (by omega) (by omega)) rfl rfl ?_
            refine HS_loadB TDp.ag24 rfl hB14 (flC_get hpl79 hTX2 (i := j) (by omega)) rfl rfl ?_
            refine HS_pure (fun w_ => R_move rfl) rfl rfl ?_
            refine HS_pure (fun w_ => R_indexArr Try.underlying30 TDp.sz24 rfl rfl (by omega) (by omega)) rfl rfl ?_
            refine HS_loadB TDp.ag24 rfl hB15 (flC_get hpl81 hTX2 (i := j) (by omega)) rfl rfl ?_
            refine HS_call [] _ rfl (by rw [hops45_]; kernel_rfl) (C_func TDp.bd22 rfl) rfl rfl ?_
            refine (beq_any _ _ _ _ _ _ _ _ _ rfl rfl (hP3 j (by omega)).rd (hP4 j (by omega)).rd).mono ?_
            rintro _ wq100_ ⟨rfl, hq100_⟩
            replace hq100_ := hq100_.symm
            subst hq100_
            refine ⟨_, rfl, trivial, ?_⟩
            refine HS_pure (fun w_ => R_not' rfl) rfl rfl ?_
            refine HS_pure (fun w_ => R_pick_false rfl rfl) rfl rfl ?_
            refine HS_nil ?_
            clear hops45_
            refine then_n (hK44_ _ _ ?_)
            clear hK44_ K44_
            refine W_keepB [12, 13, 14, 15, 82, 94, 95, 96, 97, 98, 99, 100, 101, 102] fun B46 hB46_ => ?_
            simp only [pickE, lookE, putE, zipE, args0, Nat.reduceAdd, Nat.zero_add, List.cons_append, List.nil_append, Nat.reduceBEq, cond_true, cond_false] at hB46_
            subst hB46_
            refine W_no rfl (by simp) ?_
            refine W_skip ?_
            refine block_n ?_
            refine then_n (hK42_ _ _ ?_)
            clear hK42_ K42_
            refine W_region [some 103, some 82] rfl ?_
            refine Ops_step (R_add rfl rfl (wIc (n := j + 1) (by omega) (by omega))) rfl rfl ?_
            refine Ops_step (R_move rfl) rfl rfl ?_
            refine Ops_nil ?_
            exact ⟨3 - (j + 1), _, by omega, rfl, ⟨j + 1, by omega, rfl, rfl, hB12, hB13, hB14, hB15, hP, hP2, hP3, hP4, hF⟩, ⟨rfl, rfl, rfl, rfl, trivial⟩⟩
          · refine W_exit ?_
            refine then_exit ?_
            clear hK41_ K41_
            refine then_exit ?_
            refine block_exit ?_
            refine then_n (hK37_ _ _ ?_)
            clear hK37_ K37_
            refine W_keepB [] fun B47 hB47_ => ?_
            simp only [pickE, lookE, putE, zipE, args0, Nat.reduceAdd, Nat.zero_add, List.cons_append, List.nil_append, Nat.reduceBEq, cond_true, cond_false] at hB47_
            subst hB47_
            refine W_seq_k fun K48_ hK48_ => ?_
            refine W_region [some 104, some 6] rfl ?_
            refine Ops_call (C_func TDp.bd11 rfl) rfl rfl ?_
            refine (awake_any _).mono ?_
            rintro _ w104_ ⟨rfl, hF104_⟩
            replace hF := hF.fr0 hF104_
            replace hB12 := hB12.fr0 hF104_
            replace hB13 := hB13.fr0 hF104_
            replace hB14 := hB14.fr0 hF104_
            replace hB15 := hB15.fr0 hF104_
            replace hP := hP.fr0 hF104_
            replace hP2 := hP2.fr0 hF104_
            replace hP3 := hP3.fr0 hF104_
            replace hP4 := hP4.fr0 hF104_
            clear hF104_
            refine ⟨_, rfl, ?_⟩
            refine Ops_step (R_assign rfl) rfl rfl ?_
            refine Ops_nil ?_
            refine then_n (hK48_ _ _ ?_)
            clear hK48_ K48_
            refine W_ret ?_
            refine ⟨_, ⟨_, _, rfl, rfl, rfl⟩, ?_⟩
            exact ⟨rfl, hF⟩

end Go.Proofs.Ytijckogioombdaa
