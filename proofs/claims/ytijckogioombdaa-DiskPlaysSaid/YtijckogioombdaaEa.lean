/- What the walks of this seat show of Ea. -/
import Derived.Test.YtijckogioombdaaGi
import Derived.Test.YtijckogioombdaaProg
set_option linter.unusedVariables false
set_option linter.unusedSimpArgs false
namespace Go.Proofs.Ytijckogioombdaa
open Go Go.Sx
namespace TEa
theorem hm : Try.prog.follows .mixedOrders = true := by kernel_rfl
theorem ag24 : aggB Try.prog 24 = some false := by kernel_rfl
theorem ag3 : aggB Try.prog 3 = some false := by kernel_rfl
theorem ag30 : aggB Try.prog 30 = some true := by kernel_rfl
theorem ag4 : aggB Try.prog 4 = some false := by kernel_rfl
theorem fo40_0 : offB Try.prog 40 0 = some 0 := by kernel_rfl
theorem fo40_1 : offB Try.prog 40 1 = some 3 := by kernel_rfl
theorem fo40_2 : offB Try.prog 40 2 = some 4 := by kernel_rfl
theorem fo40_3 : offB Try.prog 40 3 = some 5 := by kernel_rfl
theorem fo40_4 : offB Try.prog 40 4 = some 6 := by kernel_rfl
theorem sz24 : sz Try.prog 24 = some 1 := by kernel_rfl
theorem sz3 : sz Try.prog 3 = some 1 := by kernel_rfl
theorem sz30 : sz Try.prog 30 = some 3 := by kernel_rfl
theorem sz4 : sz Try.prog 4 = some 1 := by kernel_rfl
end TEa
set_option maxHeartbeats 4000000 in
theorem able_any (B : Nat → Prop) (d : Nat) (D : Dk) (f : Int) (w : World) (hD : Dsk w B d D) : Calls Try.prog 35 #[.pointer (some ⟨d, 0, none⟩), vi f] w fun e w2 => e = .returned (vi (D.able f)) ∧ w2 = w := by
  obtain ⟨ps, hB, hp, hd, hfil, hok⟩ := hD
  have hT := hok.three
  have hus := hok.used
  have hrm := hok.room
  have hr1 := hok.one
  have hlf := hok.left
  refine calls_W 27 Try.func35 rfl Try.ntmps35 rfl [.tmp 4] rfl ?_
  refine W_seq_k fun K1_ hK1_ => ?_
  refine W_region [some 4] rfl ?_
  refine Ops_step (R_assign rfl) rfl rfl ?_
  refine Ops_nil ?_
  refine then_n (hK1_ _ _ ?_)
  clear hK1_ K1_
  refine W_seq_k fun K2_ hK2_ => ?_
  refine W_block ?_
  refine W_seq_k fun K3_ hK3_ => ?_
  refine W_region [some 6, some 7, some 8, some 9, some 10, some 11, some 12, some 13, some 14, some 5] rfl ?_
  refine Ops_step (R_move rfl) rfl rfl ?_
  refine Ops_step (R_ptrNil Try.underlying28 rfl rfl) rfl rfl ?_
  refine Ops_step (R_move rfl) rfl rfl ?_
  refine Ops_step (R_move rfl) rfl rfl ?_
  refine Ops_step (R_nilCheck rfl) rfl rfl ?_
  refine Ops_step (R_fieldAddr TEa.fo40_1 rfl) rfl rfl ?_
  refine Ops_step (R_loadB TEa.ag3 rfl hB (dkC_3 hp hT)) rfl rfl ?_
  refine Ops_step (R_eql rfl rfl) rfl rfl ?_
  refine Ops_step (R_pick_false rfl rfl) rfl rfl ?_
  refine Ops_step (R_assign rfl) rfl rfl ?_
  refine Ops_nil ?_
  refine then_n (hK3_ _ _ ?_)
  clear hK3_ K3_
  refine W_keepB [0, 1, 5] fun B4 hB4_ => ?_
  simp only [pickE, lookE, putE, zipE, args0, Nat.reduceAdd, Nat.zero_add, List.cons_append, List.nil_append, Nat.reduceBEq, cond_true, cond_false] at hB4_
  subst hB4_
  refine W_no rfl (by omega) ?_
  refine W_seq_k fun K5_ hK5_ => ?_
  refine W_region [some 16, some 17, some 18, some 19, some 15] rfl ?_
  refine Ops_step (R_move rfl) rfl rfl ?_
  refine Ops_step (R_nilCheck rfl) rfl rfl ?_
  refine Ops_step (R_fieldAddr TEa.fo40_2 rfl) rfl rfl ?_
  refine Ops_step (R_loadB TEa.ag4 rfl hB (dkC_4 hp hT)) rfl rfl ?_
  refine Ops_step (R_assign rfl) rfl rfl ?_
  refine Ops_nil ?_
  refine then_n (hK5_ _ _ ?_)
  clear hK5_ K5_
  refine W_keepB [1, 15] fun B6 hB6_ => ?_
  simp only [pickE, lookE, putE, zipE, args0, Nat.reduceAdd, Nat.zero_add, List.cons_append, List.nil_append, Nat.reduceBEq, cond_true, cond_false] at hB6_
  subst hB6_
  refine W_cond rfl (fun hc15 => ?_) (fun hc15 => ?_)
  · have hfin : D.able f = 50 := by rw [Dk.able, if_pos hc15]
    refine W_seq_k fun K7_ hK7_ => ?_
    refine W_region [some 4] rfl ?_
    refine Ops_step (R_assign rfl) rfl rfl ?_
    refine Ops_nil ?_
    refine then_n (hK7_ _ _ ?_)
    clear hK7_ K7_
    refine W_ret ?_
    refine block_ret ?_
    refine then_ret ?_
    clear hK2_ K2_
    refine ⟨_, ⟨_, _, rfl, rfl, rfl⟩, ?_⟩
    exact ⟨by rw [hfin]; rfl, rfl⟩
  · refine W_seq_k fun K8_ hK8_ => ?_
    refine W_region [some 21, some 22, some 23, some 24, some 25, some 26, some 20] rfl ?_
    refine Ops_step (R_move rfl) rfl rfl ?_
    refine Ops_step (R_lss rfl rfl) rfl rfl ?_
    refine Ops_step (R_move rfl) rfl rfl ?_
    refine Ops_split 23 rfl (fun hg23 => ?_) (fun hg23 => ?_)
    · have hfin : D.able f = 51 := by rw [Dk.able, hc15, if_neg (by simp), if_pos (by omega)]
      refine Ops_pass rfl rfl ?_
      refine Ops_pass rfl rfl ?_
      refine Ops_step (R_pick_true rfl rfl) rfl rfl ?_
      refine Ops_step (R_assign rfl) rfl rfl ?_
      refine Ops_nil ?_
      refine then_n (hK8_ _ _ ?_)
      clear hK8_ K8_
      refine W_keepB [20] fun B9 hB9_ => ?_
      simp only [pickE, lookE, putE, zipE, args0, Nat.reduceAdd, Nat.zero_add, List.cons_append, List.nil_append, Nat.reduceBEq, cond_true, cond_false] at hB9_
      subst hB9_
      refine W_cond_true rfl ?_
      refine W_seq_k fun K10_ hK10_ => ?_
      refine W_region [some 4] rfl ?_
      refine Ops_step (R_assign rfl) rfl rfl ?_
      refine Ops_nil ?_
      refine then_n (hK10_ _ _ ?_)
      clear hK10_ K10_
      refine W_ret ?_
      refine block_ret ?_
      refine then_ret ?_
      clear hK2_ K2_
      refine ⟨_, ⟨_, _, rfl, rfl, rfl⟩, ?_⟩
      exact ⟨by rw [hfin]; rfl, rfl⟩
    · refine Ops_step (R_move rfl) rfl rfl ?_
      refine Ops_step (R_geq rfl rfl) rfl rfl ?_
      refine Ops_step (R_pick_false rfl rfl) rfl rfl ?_
      refine Ops_step (R_assign rfl) rfl rfl ?_
      refine Ops_nil ?_
      refine then_n (hK8_ _ _ ?_)
      clear hK8_ K8_
      refine W_keepB [20] fun B11 hB11_ => ?_
      simp only [pickE, lookE, putE, zipE, args0, Nat.reduceAdd, Nat.zero_add, List.cons_append, List.nil_append, Nat.reduceBEq, cond_true, cond_false] at hB11_
      subst hB11_
      refine W_if rfl (fun hc20 => ?_) (fun hc20 => ?_)
      · have hfin : D.able f = 51 := by rw [Dk.able, hc15, if_neg (by simp), if_pos (by omega)]
        refine W_seq_k fun K12_ hK12_ => ?_
        refine W_region [some 4] rfl ?_
        refine Ops_step (R_assign rfl) rfl rfl ?_
        refine Ops_nil ?_
        refine then_n (hK12_ _ _ ?_)
        clear hK12_ K12_
        refine W_ret ?_
        refine block_ret ?_
        refine then_ret ?_
        clear hK2_ K2_
        refine ⟨_, ⟨_, _, rfl, rfl, rfl⟩, ?_⟩
        exact ⟨by rw [hfin]; rfl, rfl⟩
      · have hfin : D.able f = 0 := by rw [Dk.able, hc15, if_neg (by simp), if_neg (by omega)]
        refine W_skip ?_
        refine block_n ?_
        refine then_n (hK2_ _ _ ?_)
        clear hK2_ K2_
        refine W_seq_k fun K13_ hK13_ => ?_
        refine W_region [some 4] rfl ?_
        refine Ops_step (R_assign rfl) rfl rfl ?_
        refine Ops_nil ?_
        refine then_n (hK13_ _ _ ?_)
        clear hK13_ K13_
        refine W_ret ?_
        refine ⟨_, ⟨_, _, rfl, rfl, rfl⟩, ?_⟩
        exact ⟨by rw [hfin]; rfl, rfl⟩
set_option maxHeartbeats 4000000 in
theorem used_any (B : Nat → Prop) (d : Nat) (D : Dk) (w : World) (hD : Dsk w B d D) : Calls Try.prog 19 #[.pointer (some ⟨d, 0, none⟩)] w fun e w2 => e = .returned (vi D.used) ∧ w2 = w := by
  obtain ⟨ps, hB, hp, hd, hfil, hok⟩ := hD
  have hT := hok.three
  have hus := hok.used
  have hrm := hok.room
  have hr1 := hok.one
  have hlf := hok.left
  have hu3 := used_three hT
  refine calls_W 21 Try.func19 rfl Try.ntmps19 rfl [.tmp 2] rfl ?_
  refine W_seq_k fun K1_ hK1_ => ?_
  refine W_region [some 2] rfl ?_
  refine Ops_step (R_assign rfl) rfl rfl ?_
  refine Ops_nil ?_
  refine then_n (hK1_ _ _ ?_)
  clear hK1_ K1_
  refine W_seq_k fun K2_ hK2_ => ?_
  refine W_seq_k fun K3_ hK3_ => ?_
  refine W_region [some 6, some 7] rfl ?_
  refine Ops_step (R_move rfl) rfl rfl ?_
  refine Ops_step (R_ptrNil Try.underlying28 rfl rfl) rfl rfl ?_
  refine Ops_nil ?_
  refine then_n (hK3_ _ _ ?_)
  clear hK3_ K3_
  refine W_cond_false rfl ?_
  refine W_skip ?_
  refine then_n (hK2_ _ _ ?_)
  clear hK2_ K2_
  refine W_seq_k fun K4_ hK4_ => ?_
  refine W_region [some 3] rfl ?_
  refine Ops_step (R_assign rfl) rfl rfl ?_
  refine Ops_nil ?_
  refine then_n (hK4_ _ _ ?_)
  clear hK4_ K4_
  refine W_seq_k fun K5_ hK5_ => ?_
  refine W_seq_k fun K6_ hK6_ => ?_
  refine W_region [some 8, some 9, some 10, some 11, some 12] rfl ?_
  refine Ops_step (R_move rfl) rfl rfl ?_
  refine Ops_step (R_nilCheck rfl) rfl rfl ?_
  refine Ops_step (R_fieldAddr TEa.fo40_0 rfl) rfl rfl ?_
  refine Ops_step (R_loadN TEa.ag30 TEa.sz30 rfl hB (by rw [dkC_len hp hT]; decide)) rfl rfl ?_
  refine Ops_step (R_move rfl) rfl rfl ?_
  refine Ops_nil ?_
  refine then_n (hK6_ _ _ ?_)
  clear hK6_ K6_
  refine W_keepB [3, 11, 12] fun B7 hB7_ => ?_
  simp only [pickE, lookE, putE, zipE, args0, Nat.reduceAdd, Nat.zero_add, List.cons_append, List.nil_append, Nat.reduceBEq, cond_true, cond_false] at hB7_
  subst hB7_
  refine W_block ?_
  refine W_loopB [11] [3, 12] (fun m vs w' => ∃ i, i ≤ 3 ∧ m = 3 - i ∧ vs = [vi (usedTo D.F i : Nat), vi (i : Nat)] ∧ w' = w) (3) _ rfl (⟨0, by omega, rfl, rfl, rfl⟩) fun B8 hB8_ => ?_
  simp only [pickE, lookE, putE, zipE, args0, Nat.reduceAdd, Nat.zero_add, List.cons_append, List.nil_append, Nat.reduceBEq, cond_true, cond_false] at hB8_
  subst hB8_
  rintro m_ vs_ w0_ ⟨i, hi, rfl, rfl, rfl⟩
  refine W_seq_k fun K9_ hK9_ => ?_
  refine W_region [some 13] rfl ?_
  refine Ops_step (R_lss rfl rfl) rfl rfl ?_
  refine Ops_nil ?_
  refine then_n (hK9_ _ _ ?_)
  clear hK9_ K9_
  refine W_seq_k fun K10_ hK10_ => ?_
  refine W_if rfl (fun hc13 => ?_) (fun hc13 => ?_)
  · have hul := used_le hT (i := i) (by omega)
    refine W_skip ?_
    refine then_n (hK10_ _ _ ?_)
    clear hK10_ K10_
    refine W_seq_k fun K11_ hK11_ => ?_
    refine W_block ?_
    refine W_seq_k fun K12_ hK12_ => ?_
    refine W_region [some 14, some 5] rfl ?_
    refine Ops_step (R_index Try.underlying30 TEa.sz24 TEa.ag24 rfl rfl (by omega) (by omega) (dkC_fa hp hT (i := i) (by omega))) rfl rfl ?_
    refine Ops_step (R_assign rfl) rfl rfl ?_
    refine Ops_nil ?_
    refine then_n (hK12_ _ _ ?_)
    clear hK12_ K12_
    refine W_region [some 15, some 16, some 17, some 18, some 3] rfl ?_
    refine Ops_step (R_move rfl) rfl rfl ?_
    refine Ops_step (R_move rfl) rfl rfl ?_
    refine Ops_step (R_len Try.underlying24 rfl rfl) rfl rfl ?_
    refine Ops_step (R_add rfl rfl (wIc (n := (usedTo D.F i) + ((D.F.getD i []).length)) (by omega) (by omega))) rfl rfl ?_
    refine Ops_step (R_assign rfl) rfl rfl ?_
    refine Ops_nil ?_
    refine block_n ?_
    refine then_n (hK11_ _ _ ?_)
    clear hK11_ K11_
    refine W_keepB [3, 11, 12] fun B13 hB13_ => ?_
    simp only [pickE, lookE, putE, zipE, args0, Nat.reduceAdd, Nat.zero_add, List.cons_append, List.nil_append, Nat.reduceBEq, cond_true, cond_false] at hB13_
    subst hB13_
    refine W_region [some 19, some 12] rfl ?_
    refine Ops_step (R_add rfl rfl (wIc (n := i + 1) (by omega) (by omega))) rfl rfl ?_
    refine Ops_step (R_move rfl) rfl rfl ?_
    refine Ops_nil ?_
    exact ⟨3 - (i + 1), _, by omega, rfl, ⟨i + 1, by omega, rfl, rfl, rfl⟩, ⟨rfl, trivial⟩⟩
  · have hi3 : i = 3 := by omega
    subst hi3
    refine W_exit ?_
    refine then_exit ?_
    clear hK10_ K10_
    refine then_exit ?_
    refine block_exit ?_
    refine then_n (hK5_ _ _ ?_)
    clear hK5_ K5_
    refine W_seq_k fun K14_ hK14_ => ?_
    refine W_region [some 20, some 2] rfl ?_
    refine Ops_step (R_move rfl) rfl rfl ?_
    refine Ops_step (R_assign rfl) rfl rfl ?_
    refine Ops_nil ?_
    refine then_n (hK14_ _ _ ?_)
    clear hK14_ K14_
    refine W_ret ?_
    refine ⟨_, ⟨_, _, rfl, rfl, rfl⟩, ?_⟩
    exact ⟨by rw [hu3]; rfl, rfl⟩
set_option maxHeartbeats 4000000 in
theorem burn_any (B : Nat → Prop) (d : Nat) (D : Dk) (n : Nat) (w : World) (hn : n < 4611686018427387904) (hD : Dsk w B d D) : Calls Try.prog 36 #[.pointer (some ⟨d, 0, none⟩), vi n] w fun e w2 => e = .returned (vi (D.burnN n)) ∧ Dsk w2 B d (D.burnD n) ∧ Fr [d] w w2 := by
  obtain ⟨ps, hB, hp, hd, hfil, hok⟩ := hD
  have hT := hok.three
  have hus := hok.used
  have hrm := hok.room
  have hr1 := hok.one
  have hlf := hok.left
  have hF := Fr.refl [d] w
  replace hfil := Fils.mk hfil
  refine calls_W 42 Try.func36 rfl Try.ntmps36 rfl [.tmp 4] rfl ?_
  refine W_seq_k fun K1_ hK1_ => ?_
  refine W_region [some 4] rfl ?_
  refine Ops_step (R_assign rfl) rfl rfl ?_
  refine Ops_nil ?_
  refine then_n (hK1_ _ _ ?_)
  clear hK1_ K1_
  refine W_seq_k fun K2_ hK2_ => ?_
  refine W_block ?_
  refine W_seq_k fun K3_ hK3_ => ?_
  refine W_region [some 6, some 7, some 8, some 9, some 10, some 5] rfl ?_
  refine Ops_step (R_move rfl) rfl rfl ?_
  refine Ops_step (R_nilCheck rfl) rfl rfl ?_
  refine Ops_step (R_fieldAddr TEa.fo40_3 rfl) rfl rfl ?_
  refine Ops_step (R_loadB TEa.ag4 rfl hB (dkC_5 hp hT)) rfl rfl ?_
  refine Ops_step (R_not rfl) rfl rfl ?_
  refine Ops_step (R_assign rfl) rfl rfl ?_
  refine Ops_nil ?_
  refine then_n (hK3_ _ _ ?_)
  clear hK3_ K3_
  refine W_keepB [0, 1, 5] fun B4 hB4_ => ?_
  simp only [pickE, lookE, putE, zipE, args0, Nat.reduceAdd, Nat.zero_add, List.cons_append, List.nil_append, Nat.reduceBEq, cond_true, cond_false] at hB4_
  subst hB4_
  refine W_cond rfl (fun hc5 => ?_) (fun hc5 => ?_)
  · have ha : D.armed = false := by simpa using hc5
    have hN : D.burnN n = n := by rw [Dk.burnN, ha]; rfl
    have hDD : D.burnD n = D := by rw [Dk.burnD, ha]; rfl
    have hok2 := hok
    have hB2 := hB
    clear hB
    have hB := hB2
    refine W_seq_k fun K5_ hK5_ => ?_
    refine W_region [some 11, some 4] rfl ?_
    refine Ops_step (R_move rfl) rfl rfl ?_
    refine Ops_step (R_assign rfl) rfl rfl ?_
    refine Ops_nil ?_
    refine then_n (hK5_ _ _ ?_)
    clear hK5_ K5_
    refine W_ret ?_
    refine block_ret ?_
    refine then_ret ?_
    clear hK2_ K2_
    refine ⟨_, ⟨_, _, rfl, rfl, rfl⟩, ?_⟩
    exact ⟨by rw [hN]; rfl, by rw [hDD]; exact ⟨ps, hB, hp, hd, hfil.2, hok2⟩, hF⟩
  · have ha : D.armed = true := by simpa using hc5
    refine W_seq_k fun K6_ hK6_ => ?_
    refine W_region [some 13, some 14, some 15, some 16, some 17, some 18, some 12] rfl ?_
    refine Ops_step (R_move rfl) rfl rfl ?_
    refine Ops_step (R_move rfl) rfl rfl ?_
    refine Ops_step (R_nilCheck rfl) rfl rfl ?_
    refine Ops_step (R_fieldAddr TEa.fo40_4 rfl) rfl rfl ?_
    refine Ops_step (R_loadB TEa.ag3 rfl hB (dkC_6 hp hT)) rfl rfl ?_
    refine Ops_step (R_lss rfl rfl) rfl rfl ?_
    refine Ops_step (R_assign rfl) rfl rfl ?_
    refine Ops_nil ?_
    refine then_n (hK6_ _ _ ?_)
    clear hK6_ K6_
    refine W_keepB [0, 1, 12] fun B7 hB7_ => ?_
    simp only [pickE, lookE, putE, zipE, args0, Nat.reduceAdd, Nat.zero_add, List.cons_append, List.nil_append, Nat.reduceBEq, cond_true, cond_false] at hB7_
    subst hB7_
    refine W_if rfl (fun hc12 => ?_) (fun hc12 => ?_)
    · have hl : n < D.left := by omega
      have hN : D.burnN n = n := by rw [Dk.burnN, ha, if_pos rfl, if_pos hl]
      have hDD : D.burnD n = { D with left := D.left - n } := by rw [Dk.burnD, ha, if_pos rfl, if_pos hl]
      have hok2 : DkOk { D with left := D.left - n } := ⟨hT, hus, hrm, hr1, by show D.left - n < _; omega⟩
      refine W_seq_k fun K8_ hK8_ => ?_
      refine W_region [some 19, some 20, some 21, some 22, some 23, some 24, some 25, some 26, none] rfl ?_
      refine Ops_step (R_move rfl) rfl rfl ?_
      refine Ops_step (R_nilCheck rfl) rfl rfl ?_
      refine Ops_step (R_fieldAddr TEa.fo40_4 rfl) rfl rfl ?_
      refine Ops_step (R_loadB TEa.ag3 rfl hB (dkC_6 hp hT)) rfl rfl ?_
      refine Ops_step (R_move rfl) rfl rfl ?_
      refine Ops_step (R_sub rfl rfl (wIc (n := D.left - n) (by omega) (by omega))) rfl rfl ?_
      refine Ops_step (R_nilCheck rfl) rfl rfl ?_
      refine Ops_step (R_fieldAddr TEa.fo40_4 rfl) rfl rfl ?_
      have hT40 : ∃ cs, Blk _ d 40 cs := ⟨_, hB⟩
      refine Ops_to0 (R_store TEa.sz3 rfl rfl hB (by rw [dkC_len hp hT]; decide) rfl) rfl ?_
      clear hB
      rintro _ w9_ ⟨hB, hF9_⟩
      replace hF := hF.then hF9_ (by simp)
      replace hfil := hfil.fr hF9_ (one40 hT40)
      clear hF9_
      clear hT40
      replace hB := hB.to (dkC_s6 hp hT (D.left - n))
      refine Ops_nil ?_
      refine then_n (hK8_ _ _ ?_)
      clear hK8_ K8_
      refine W_keepB [1] fun B10 hB10_ => ?_
      simp only [pickE, lookE, putE, zipE, args0, Nat.reduceAdd, Nat.zero_add, List.cons_append, List.nil_append, Nat.reduceBEq, cond_true, cond_false] at hB10_
      subst hB10_
      refine W_seq_k fun K11_ hK11_ => ?_
      refine W_region [some 27, some 4] rfl ?_
      refine Ops_step (R_move rfl) rfl rfl ?_
      refine Ops_step (R_assign rfl) rfl rfl ?_
      refine Ops_nil ?_
      refine then_n (hK11_ _ _ ?_)
      clear hK11_ K11_
      refine W_ret ?_
      refine block_ret ?_
      refine then_ret ?_
      clear hK2_ K2_
      refine ⟨_, ⟨_, _, rfl, rfl, rfl⟩, ?_⟩
      exact ⟨by rw [hN]; rfl, by rw [hDD]; exact ⟨ps, hB, hp, hd, hfil.2, hok2⟩, hF⟩
    · have hl : ¬ n < D.left := by omega
      have hN : D.burnN n = D.left := by rw [Dk.burnN, ha, if_pos rfl, if_neg hl]
      have hDD : D.burnD n = { D with off := true, armed := false, left := 0 } := by rw [Dk.burnD, ha, if_pos rfl, if_neg hl]
      have hok2 : DkOk { D with off := true, armed := false, left := 0 } := ⟨hT, hus, hrm, hr1, by show 0 < _; decide⟩
      refine W_skip ?_
      refine block_n ?_
      refine then_n (hK2_ _ _ ?_)
      clear hK2_ K2_
      refine W_seq_k fun K12_ hK12_ => ?_
      refine W_region [some 28, some 29, some 30, some 31, some 1] rfl ?_
      refine Ops_step (R_move rfl) rfl rfl ?_
      refine Ops_step (R_nilCheck rfl) rfl rfl ?_
      refine Ops_step (R_fieldAddr TEa.fo40_4 rfl) rfl rfl ?_
      refine Ops_step (R_loadB TEa.ag3 rfl hB (dkC_6 hp hT)) rfl rfl ?_
      refine Ops_step (R_assign rfl) rfl rfl ?_
      refine Ops_nil ?_
      refine then_n (hK12_ _ _ ?_)
      clear hK12_ K12_
      refine W_seq_k fun K13_ hK13_ => ?_
      refine W_region [some 32, some 33, some 34, some 35, some 36, none, some 37, some 38, none, some 39, some 40, none] rfl ?_
      refine Ops_step (R_move rfl) rfl rfl ?_
      refine Ops_step (R_move rfl) rfl rfl ?_
      refine Ops_step (R_move rfl) rfl rfl ?_
      refine Ops_step (R_nilCheck rfl) rfl rfl ?_
      refine Ops_step (R_fieldAddr TEa.fo40_2 rfl) rfl rfl ?_
      have hT40 : ∃ cs, Blk _ d 40 cs := ⟨_, hB⟩
      refine Ops_to0 (R_store TEa.sz4 rfl rfl hB (by rw [dkC_len hp hT]; decide) rfl) rfl ?_
      clear hB
      rintro _ w14_ ⟨hB, hF14_⟩
      replace hF := hF.then hF14_ (by simp)
      replace hfil := hfil.fr hF14_ (one40 hT40)
      clear hF14_
      clear hT40
      replace hB := hB.to (dkC_s4 hp hT true)
      refine Ops_step (R_nilCheck rfl) rfl rfl ?_
      refine Ops_step (R_fieldAddr TEa.fo40_3 rfl) rfl rfl ?_
      have hT40 : ∃ cs, Blk _ d 40 cs := ⟨_, hB⟩
      refine Ops_to0 (R_store TEa.sz4 rfl rfl hB (by rw [dkC_len hp hT]; decide) rfl) rfl ?_
      clear hB
      rintro _ w15_ ⟨hB, hF15_⟩
      replace hF := hF.then hF15_ (by simp)
      replace hfil := hfil.fr hF15_ (one40 hT40)
      clear hF15_
      clear hT40
      replace hB := hB.to (dkC_s5 hp hT false)
      refine Ops_step (R_nilCheck rfl) rfl rfl ?_
      refine Ops_step (R_fieldAddr TEa.fo40_4 rfl) rfl rfl ?_
      have hT40 : ∃ cs, Blk _ d 40 cs := ⟨_, hB⟩
      refine Ops_to0 (R_store TEa.sz3 rfl rfl hB (by rw [dkC_len hp hT]; decide) rfl) rfl ?_
      clear hB
      rintro _ w16_ ⟨hB, hF16_⟩
      replace hF := hF.then hF16_ (by simp)
      replace hfil := hfil.fr hF16_ (one40 hT40)
      clear hF16_
      clear hT40
      replace hB := hB.to (dkC_s6 hp hT 0)
      refine Ops_nil ?_
      refine then_n (hK13_ _ _ ?_)
      clear hK13_ K13_
      refine W_keepB [1] fun B17 hB17_ => ?_
      simp only [pickE, lookE, putE, zipE, args0, Nat.reduceAdd, Nat.zero_add, List.cons_append, List.nil_append, Nat.reduceBEq, cond_true, cond_false] at hB17_
      subst hB17_
      refine W_seq_k fun K18_ hK18_ => ?_
      refine W_region [some 41, some 4] rfl ?_
      refine Ops_step (R_move rfl) rfl rfl ?_
      refine Ops_step (R_assign rfl) rfl rfl ?_
      refine Ops_nil ?_
      refine then_n (hK18_ _ _ ?_)
      clear hK18_ K18_
      refine W_ret ?_
      refine ⟨_, ⟨_, _, rfl, rfl, rfl⟩, ?_⟩
      exact ⟨by rw [hN]; rfl, by rw [hDD]; exact ⟨ps, hB, hp, hd, hfil.2, hok2⟩, hF⟩
set_option maxHeartbeats 4000000 in
theorem done_any (B : Nat → Prop) (d : Nat) (D : Dk) (w : World) (hD : Dsk w B d D) : Calls Try.prog 37 #[.pointer (some ⟨d, 0, none⟩)] w fun e w2 => e = .returned (vi D.done) ∧ w2 = w := by
  obtain ⟨ps, hB, hp, hd, hfil, hok⟩ := hD
  have hT := hok.three
  have hus := hok.used
  have hrm := hok.room
  have hr1 := hok.one
  have hlf := hok.left
  refine calls_W 7 Try.func37 rfl Try.ntmps37 rfl [.tmp 2] rfl ?_
  refine W_seq_k fun K1_ hK1_ => ?_
  refine W_region [some 2] rfl ?_
  refine Ops_step (R_assign rfl) rfl rfl ?_
  refine Ops_nil ?_
  refine then_n (hK1_ _ _ ?_)
  clear hK1_ K1_
  refine W_seq_k fun K2_ hK2_ => ?_
  refine W_seq_k fun K3_ hK3_ => ?_
  refine W_region [some 3, some 4, some 5, some 6] rfl ?_
  refine Ops_step (R_move rfl) rfl rfl ?_
  refine Ops_step (R_nilCheck rfl) rfl rfl ?_
  refine Ops_step (R_fieldAddr TEa.fo40_2 rfl) rfl rfl ?_
  refine Ops_step (R_loadB TEa.ag4 rfl hB (dkC_4 hp hT)) rfl rfl ?_
  refine Ops_nil ?_
  refine then_n (hK3_ _ _ ?_)
  clear hK3_ K3_
  refine W_cond rfl (fun hc6 => ?_) (fun hc6 => ?_)
  · have hfin : D.done = 50 := by rw [Dk.done, if_pos hc6]
    refine W_seq_k fun K4_ hK4_ => ?_
    refine W_region [some 2] rfl ?_
    refine Ops_step (R_assign rfl) rfl rfl ?_
    refine Ops_nil ?_
    refine then_n (hK4_ _ _ ?_)
    clear hK4_ K4_
    refine W_ret ?_
    refine then_ret ?_
    clear hK2_ K2_
    refine ⟨_, ⟨_, _, rfl, rfl, rfl⟩, ?_⟩
    exact ⟨by rw [hfin]; rfl, rfl⟩
  · have hfin : D.done = 0 := by rw [Dk.done, hc6]; rfl
    refine W_skip ?_
    refine then_n (hK2_ _ _ ?_)
    clear hK2_ K2_
    refine W_keepB [] fun B5 hB5_ => ?_
    simp only [pickE, lookE, putE, zipE, args0, Nat.reduceAdd, Nat.zero_add, List.cons_append, List.nil_append, Nat.reduceBEq, cond_true, cond_false] at hB5_
    subst hB5_
    refine W_seq_k fun K6_ hK6_ => ?_
    refine W_region [some 2] rfl ?_
    refine Ops_step (R_assign rfl) rfl rfl ?_
    refine Ops_nil ?_
    refine then_n (hK6_ _ _ ?_)
    clear hK6_ K6_
    refine W_ret ?_
    refine ⟨_, ⟨_, _, rfl, rfl, rfl⟩, ?_⟩
    exact ⟨by rw [hfin]; rfl, rfl⟩

end Go.Proofs.Ytijckogioombdaa
