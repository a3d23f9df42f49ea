/- What the walks of this seat show of Ec. -/
import Derived.Test.YtijckogioombdaaEb
import Derived.Test.YtijckogioombdaaProg
set_option linter.unusedVariables false
set_option linter.unusedSimpArgs false
namespace Go.Proofs.Ytijckogioombdaa
open Go Go.Sx
namespace TEc
theorem hm : Try.prog.follows .mixedOrders = true := by kernel_rfl
theorem ag24 : aggB Try.prog 24 = some false := by kernel_rfl
theorem ag3 : aggB Try.prog 3 = some false := by kernel_rfl
theorem bd35 : bodied Try.prog 35 = true := by kernel_rfl
theorem bd36 : bodied Try.prog 36 = true := by kernel_rfl
theorem bd37 : bodied Try.prog 37 = true := by kernel_rfl
theorem el24 : Elem Try.prog 24 5 1 1 := Elem.of (by kernel_rfl)
theorem fo40_0 : offB Try.prog 40 0 = some 0 := by kernel_rfl
theorem fo40_1 : offB Try.prog 40 1 = some 3 := by kernel_rfl
theorem fo40_2 : offB Try.prog 40 2 = some 4 := by kernel_rfl
theorem fo40_3 : offB Try.prog 40 3 = some 5 := by kernel_rfl
theorem fo40_4 : offB Try.prog 40 4 = some 6 := by kernel_rfl
theorem pl40 : partPl Try.prog 40 = some [(0, 3), (3, 1), (4, 1), (5, 1), (6, 1)] := by kernel_rfl
theorem sz24 : sz Try.prog 24 = some 1 := by kernel_rfl
theorem sz3 : sz Try.prog 3 = some 1 := by kernel_rfl
theorem sz4 : sz Try.prog 4 = some 1 := by kernel_rfl
theorem zr40 : zr Try.prog 40 = some (List.replicate 3 (.slice none 0 0) ++ [.int .i64 0] ++ [.bool false] ++ [.bool false] ++ [.int .i64 0]) := by kernel_rfl
end TEc
set_option maxHeartbeats 4000000 in
theorem wipe_any (B : Nat → Prop) (d : Nat) (D : Dk) (f : Int) (w : World) (hD : Dsk w B d D) : Calls Try.prog 38 #[.pointer (some ⟨d, 0, none⟩), vi f] w fun e w2 => e = .returned (vi (D.wipe f).1) ∧ Dsk w2 B d (D.wipe f).2 ∧ Fr [d] w w2 := by
  have hF := Fr.refl [d] w
  refine calls_W 22 Try.func38 rfl Try.ntmps38 rfl [.tmp 4] rfl ?_
  refine W_seq_k fun K1_ hK1_ => ?_
  refine W_region [some 4] rfl ?_
  refine Ops_step (R_assign rfl) rfl rfl ?_
  refine Ops_nil ?_
  refine then_n (hK1_ _ _ ?_)
  clear hK1_ K1_
  refine W_seq_k fun K2_ hK2_ => ?_
  refine W_seq_k fun K3_ hK3_ => ?_
  refine W_region [some 6, some 7, some 8, some 5] rfl ?_
  refine Ops_step (R_move rfl) rfl rfl ?_
  refine Ops_step (R_move rfl) rfl rfl ?_
  refine Ops_call (C_func TEc.bd35 rfl) rfl rfl ?_
  refine (able_any _ _ _ f _ hD).mono ?_
  rintro _ wq8_ ⟨rfl, hq8_⟩
  replace hq8_ := hq8_.symm
  subst hq8_
  refine ⟨_, rfl, ?_⟩
  refine Ops_step (R_assign rfl) rfl rfl ?_
  refine Ops_nil ?_
  refine then_n (hK3_ _ _ ?_)
  clear hK3_ K3_
  refine W_seq_k fun K4_ hK4_ => ?_
  refine W_region [some 9, some 10] rfl ?_
  refine Ops_step (R_move rfl) rfl rfl ?_
  refine Ops_step (R_neq rfl rfl) rfl rfl ?_
  refine Ops_nil ?_
  refine then_n (hK4_ _ _ ?_)
  clear hK4_ K4_
  refine W_if rfl (fun hc10 => ?_) (fun hc10 => ?_)
  · have hfin : D.wipe f = (D.able f, D) := by rw [Dk.wipe, if_pos (by omega)]
    refine W_seq_k fun K5_ hK5_ => ?_
    refine W_region [some 11, some 4] rfl ?_
    refine Ops_step (R_move rfl) rfl rfl ?_
    refine Ops_step (R_assign rfl) rfl rfl ?_
    refine Ops_nil ?_
    refine then_n (hK5_ _ _ ?_)
    clear hK5_ K5_
    refine W_keepB [4] fun B6 hB6_ => ?_
    simp only [pickE, lookE, putE, zipE, args0, Nat.reduceAdd, Nat.zero_add, List.cons_append, List.nil_append, Nat.reduceBEq, cond_true, cond_false] at hB6_
    subst hB6_
    refine W_ret ?_
    refine then_ret ?_
    clear hK2_ K2_
    refine ⟨_, ⟨_, _, rfl, rfl, rfl⟩, ?_⟩
    exact ⟨by rw [hfin]; rfl, by rw [hfin]; exact hD, hF⟩
  · refine W_skip ?_
    refine then_n (hK2_ _ _ ?_)
    clear hK2_ K2_
    refine W_keepB [0, 1] fun B7 hB7_ => ?_
    simp only [pickE, lookE, putE, zipE, args0, Nat.reduceAdd, Nat.zero_add, List.cons_append, List.nil_append, Nat.reduceBEq, cond_true, cond_false] at hB7_
    subst hB7_
    refine W_seq_k fun K8_ hK8_ => ?_
    refine W_seq_k fun K9_ hK9_ => ?_
    refine W_region [some 12, some 13, some 14] rfl ?_
    have hab : D.able f = 0 := by omega
    obtain ⟨i, rfl, hi3, hoff⟩ := able_zero hab
    have hfin0 := wipe_put (D := D) hi3 hoff
    refine Ops_step (R_move rfl) rfl rfl ?_
    refine Ops_call (C_func TEc.bd36 rfl) rfl rfl ?_
    refine (burn_any _ _ _ 1 _ (by omega) hD).mono ?_
    rintro _ w13_ ⟨rfl, hD, hF13_⟩
    replace hF := hF.then hF13_ (by simp)
    clear hF13_
    refine ⟨_, rfl, ?_⟩
    refine Ops_step (R_eql rfl rfl) rfl rfl ?_
    refine Ops_nil ?_
    refine then_n (hK9_ _ _ ?_)
    clear hK9_ K9_
    refine W_if rfl (fun hc14 => ?_) (fun hc14 => ?_)
    · refine W_region [some 15, some 16, some 17, some 18, some 19, none] rfl ?_
      have hb1 : D.burnN 1 = 1 := by omega
      have hfin : D.wipe (i : Int) = (((D.burnD 1).put i []).done, (D.burnD 1).put i []) := by rw [hfin0, if_pos hb1]
      obtain ⟨ps2, hB, hp2, hd2, hfil, hok2⟩ := hD
      replace hfil := Fils.mk hfil
      have hT2 := hok2.three
      refine Ops_step (R_move rfl) rfl rfl ?_
      refine Ops_step (R_move rfl) rfl rfl ?_
      refine Ops_step (R_nilCheck rfl) rfl rfl ?_
      refine Ops_step (R_fieldAddr TEc.fo40_0 rfl) rfl rfl ?_
      refine Ops_step (R_indexArr Try.underlying30 TEc.sz24 rfl rfl (by omega) (by omega)) rfl rfl ?_
      have hT40 : ∃ cs, Blk _ d 40 cs := ⟨_, hB⟩
      refine Ops_to0 (R_store TEc.sz24 rfl rfl hB (by rw [dkC_len hp2 hT2]; omega) rfl) rfl ?_
      clear hB
      rintro _ w10_ ⟨hB, hF10_⟩
      replace hF := hF.then hF10_ (by simp)
      replace hfil := hfil.fr hF10_ (one40 hT40)
      clear hF10_
      clear hT40
      replace hB := hB.to (dkC_sf hp2 hT2 hi3 none 0 [])
      replace hfil := hfil.put hp2 hT2 hi3 (Fil.nil _ _) (Nat.le_refl _)
      have hD : Dsk _ B d ((D.burnD 1).put i []) := ⟨_, hB, by rw [List.length_set]; exact hp2, hd2, hfil.2, put_ok hok2 hi3 (by have := hok2.used; simp; omega)⟩
      clear hB hfil
      refine Ops_nil ?_
      refine then_n (hK8_ _ _ ?_)
      clear hK8_ K8_
      refine W_keepB [0] fun B11 hB11_ => ?_
      simp only [pickE, lookE, putE, zipE, args0, Nat.reduceAdd, Nat.zero_add, List.cons_append, List.nil_append, Nat.reduceBEq, cond_true, cond_false] at hB11_
      subst hB11_
      refine W_seq_k fun K12_ hK12_ => ?_
      refine W_region [some 20, some 21, some 4] rfl ?_
      refine Ops_step (R_move rfl) rfl rfl ?_
      refine Ops_call (C_func TEc.bd37 rfl) rfl rfl ?_
      refine (done_any _ _ _ _ hD).mono ?_
      rintro _ wq21_ ⟨rfl, hq21_⟩
      replace hq21_ := hq21_.symm
      subst hq21_
      refine ⟨_, rfl, ?_⟩
      refine Ops_step (R_assign rfl) rfl rfl ?_
      refine Ops_nil ?_
      refine then_n (hK12_ _ _ ?_)
      clear hK12_ K12_
      refine W_ret ?_
      refine ⟨_, ⟨_, _, rfl, rfl, rfl⟩, ?_⟩
      exact ⟨by rw [hfin]; rfl, by rw [hfin]; exact hD, hF⟩
    · have hfin : D.wipe (i : Int) = ((D.burnD 1).done, D.burnD 1) := by rw [hfin0, if_neg (by omega)]
      refine W_skip ?_
      refine then_n (hK8_ _ _ ?_)
      clear hK8_ K8_
      refine W_seq_k fun K13_ hK13_ => ?_
      refine W_region [some 20, some 21, some 4] rfl ?_
      refine Ops_step (R_move rfl) rfl rfl ?_
      refine Ops_call (C_func TEc.bd37 rfl) rfl rfl ?_
      refine (done_any _ _ _ _ hD).mono ?_
      rintro _ wq21_ ⟨rfl, hq21_⟩
      replace hq21_ := hq21_.symm
      subst hq21_
      refine ⟨_, rfl, ?_⟩
      refine Ops_step (R_assign rfl) rfl rfl ?_
      refine Ops_nil ?_
      refine then_n (hK13_ _ _ ?_)
      clear hK13_ K13_
      refine W_keepB [4] fun B14 hB14_ => ?_
      simp only [pickE, lookE, putE, zipE, args0, Nat.reduceAdd, Nat.zero_add, List.cons_append, List.nil_append, Nat.reduceBEq, cond_true, cond_false] at hB14_
      subst hB14_
      refine W_ret ?_
      refine ⟨_, ⟨_, _, rfl, rfl, rfl⟩, ?_⟩
      exact ⟨by rw [hfin]; rfl, by rw [hfin]; exact hD, hF⟩
set_option maxHeartbeats 4000000 in
theorem crash_any (B : Nat → Prop) (d : Nat) (D : Dk) (w : World) (hD : Dsk w B d D) : Calls Try.prog 39 #[.pointer (some ⟨d, 0, none⟩)] w fun e w2 => e = .returned (vi (D.crash).1) ∧ Dsk w2 B d (D.crash).2 ∧ Fr [d] w w2 := by
  have hF := Fr.refl [d] w
  refine calls_W 18 Try.func39 rfl Try.ntmps39 rfl [.tmp 2] rfl ?_
  refine W_seq_k fun K1_ hK1_ => ?_
  refine W_region [some 2] rfl ?_
  refine Ops_step (R_assign rfl) rfl rfl ?_
  refine Ops_nil ?_
  refine then_n (hK1_ _ _ ?_)
  clear hK1_ K1_
  refine W_seq_k fun K2_ hK2_ => ?_
  refine W_seq_k fun K3_ hK3_ => ?_
  refine W_region [some 4, some 5, some 3] rfl ?_
  refine Ops_step (R_move rfl) rfl rfl ?_
  refine Ops_call (C_func TEc.bd35 rfl) rfl rfl ?_
  refine (able_any _ _ _ 0 _ hD).mono ?_
  rintro _ wq5_ ⟨rfl, hq5_⟩
  replace hq5_ := hq5_.symm
  subst hq5_
  refine ⟨_, rfl, ?_⟩
  refine Ops_step (R_assign rfl) rfl rfl ?_
  refine Ops_nil ?_
  refine then_n (hK3_ _ _ ?_)
  clear hK3_ K3_
  refine W_seq_k fun K4_ hK4_ => ?_
  refine W_region [some 6, some 7] rfl ?_
  refine Ops_step (R_move rfl) rfl rfl ?_
  refine Ops_step (R_neq rfl rfl) rfl rfl ?_
  refine Ops_nil ?_
  refine then_n (hK4_ _ _ ?_)
  clear hK4_ K4_
  refine W_if rfl (fun hc7 => ?_) (fun hc7 => ?_)
  · have hfin : D.crash = (D.able 0, D) := by have h_ := able0_on (D := D) (by omega); rw [Dk.crash, h_.1, if_pos rfl, h_.2]
    refine W_seq_k fun K5_ hK5_ => ?_
    refine W_region [some 8, some 2] rfl ?_
    refine Ops_step (R_move rfl) rfl rfl ?_
    refine Ops_step (R_assign rfl) rfl rfl ?_
    refine Ops_nil ?_
    refine then_n (hK5_ _ _ ?_)
    clear hK5_ K5_
    refine W_keepB [2] fun B6 hB6_ => ?_
    simp only [pickE, lookE, putE, zipE, args0, Nat.reduceAdd, Nat.zero_add, List.cons_append, List.nil_append, Nat.reduceBEq, cond_true, cond_false] at hB6_
    subst hB6_
    refine W_ret ?_
    refine then_ret ?_
    clear hK2_ K2_
    refine ⟨_, ⟨_, _, rfl, rfl, rfl⟩, ?_⟩
    exact ⟨by rw [hfin]; rfl, by rw [hfin]; exact hD, hF⟩
  · refine W_skip ?_
    refine then_n (hK2_ _ _ ?_)
    clear hK2_ K2_
    refine W_keepB [0] fun B7 hB7_ => ?_
    simp only [pickE, lookE, putE, zipE, args0, Nat.reduceAdd, Nat.zero_add, List.cons_append, List.nil_append, Nat.reduceBEq, cond_true, cond_false] at hB7_
    subst hB7_
    refine W_seq_k fun K8_ hK8_ => ?_
    refine W_region [some 9, some 10, some 11, some 12, some 13, none, some 14, some 15, none, some 16, some 17, none] rfl ?_
    have hoff := able0_off (D := D) (by omega)
    have hfin : D.crash = (0, { D with off := true, armed := false, left := 0 }) := by rw [Dk.crash, hoff]; rfl
    refine Exists.elim hD fun ps hDx => ?_
    have hB := hDx.1
    have hp := hDx.2.1
    have hd := hDx.2.2.1
    have hfil := Fils.mk hDx.2.2.2.1
    have hok := hDx.2.2.2.2
    have hT := hok.three
    have hus := hok.used
    have hrm := hok.room
    have hr1 := hok.one
    clear hDx
    refine Ops_step (R_move rfl) rfl rfl ?_
    refine Ops_step (R_move rfl) rfl rfl ?_
    refine Ops_step (R_move rfl) rfl rfl ?_
    refine Ops_step (R_nilCheck rfl) rfl rfl ?_
    refine Ops_step (R_fieldAddr TEc.fo40_2 rfl) rfl rfl ?_
    have hT40 : ∃ cs, Blk _ d 40 cs := ⟨_, hB⟩
    refine Ops_to0 (R_store TEc.sz4 rfl rfl hB (by rw [dkC_len hp hT]; decide) rfl) rfl ?_
    clear hB
    rintro _ w9_ ⟨hB, hF9_⟩
    replace hF := hF.then hF9_ (by simp)
    replace hfil := hfil.fr hF9_ (one40 hT40)
    clear hF9_
    clear hT40
    replace hB := hB.to (dkC_s4 hp hT true)
    refine Ops_step (R_nilCheck rfl) rfl rfl ?_
    refine Ops_step (R_fieldAddr TEc.fo40_3 rfl) rfl rfl ?_
    have hT40 : ∃ cs, Blk _ d 40 cs := ⟨_, hB⟩
    refine Ops_to0 (R_store TEc.sz4 rfl rfl hB (by rw [dkC_len hp hT]; decide) rfl) rfl ?_
    clear hB
    rintro _ w10_ ⟨hB, hF10_⟩
    replace hF := hF.then hF10_ (by simp)
    replace hfil := hfil.fr hF10_ (one40 hT40)
    clear hF10_
    clear hT40
    replace hB := hB.to (dkC_s5 hp hT false)
    refine Ops_step (R_nilCheck rfl) rfl rfl ?_
    refine Ops_step (R_fieldAddr TEc.fo40_4 rfl) rfl rfl ?_
    have hT40 : ∃ cs, Blk _ d 40 cs := ⟨_, hB⟩
    refine Ops_to0 (R_store TEc.sz3 rfl rfl hB (by rw [dkC_len hp hT]; decide) rfl) rfl ?_
    clear hB
    rintro _ w11_ ⟨hB, hF11_⟩
    replace hF := hF.then hF11_ (by simp)
    replace hfil := hfil.fr hF11_ (one40 hT40)
    clear hF11_
    clear hT40
    replace hB := hB.to (dkC_s6 hp hT 0)
    have hD : Dsk _ B d { D with off := true, armed := false, left := 0 } := ⟨ps, hB, hp, hd, hfil.2, ⟨hT, hus, hrm, hr1, by show 0 < _; decide⟩⟩
    clear hB hfil
    refine Ops_nil ?_
    refine then_n (hK8_ _ _ ?_)
    clear hK8_ K8_
    refine W_keepB [] fun B12 hB12_ => ?_
    simp only [pickE, lookE, putE, zipE, args0, Nat.reduceAdd, Nat.zero_add, List.cons_append, List.nil_append, Nat.reduceBEq, cond_true, cond_false] at hB12_
    subst hB12_
    refine W_seq_k fun K13_ hK13_ => ?_
    refine W_region [some 2] rfl ?_
    refine Ops_step (R_assign rfl) rfl rfl ?_
    refine Ops_nil ?_
    refine then_n (hK13_ _ _ ?_)
    clear hK13_ K13_
    refine W_ret ?_
    refine ⟨_, ⟨_, _, rfl, rfl, rfl⟩, ?_⟩
    exact ⟨by rw [hfin]; rfl, by rw [hfin]; exact hD, hF⟩
set_option maxHeartbeats 4000000 in
theorem disarm_any (B : Nat → Prop) (d : Nat) (D : Dk) (w : World) (hD : Dsk w B d D) : Calls Try.prog 14 #[.pointer (some ⟨d, 0, none⟩)] w fun e w2 => e = .returned (vi (D.disarm).1) ∧ Dsk w2 B d (D.disarm).2 ∧ Fr [d] w w2 := by
  have hF := Fr.refl [d] w
  refine calls_W 15 Try.func14 rfl Try.ntmps14 rfl [.tmp 2] rfl ?_
  refine W_seq_k fun K1_ hK1_ => ?_
  refine W_region [some 2] rfl ?_
  refine Ops_step (R_assign rfl) rfl rfl ?_
  refine Ops_nil ?_
  refine then_n (hK1_ _ _ ?_)
  clear hK1_ K1_
  refine W_seq_k fun K2_ hK2_ => ?_
  refine W_seq_k fun K3_ hK3_ => ?_
  refine W_region [some 4, some 5, some 3] rfl ?_
  refine Ops_step (R_move rfl) rfl rfl ?_
  refine Ops_call (C_func TEc.bd35 rfl) rfl rfl ?_
  refine (able_any _ _ _ 0 _ hD).mono ?_
  rintro _ wq5_ ⟨rfl, hq5_⟩
  replace hq5_ := hq5_.symm
  subst hq5_
  refine ⟨_, rfl, ?_⟩
  refine Ops_step (R_assign rfl) rfl rfl ?_
  refine Ops_nil ?_
  refine then_n (hK3_ _ _ ?_)
  clear hK3_ K3_
  refine W_seq_k fun K4_ hK4_ => ?_
  refine W_region [some 6, some 7] rfl ?_
  refine Ops_step (R_move rfl) rfl rfl ?_
  refine Ops_step (R_neq rfl rfl) rfl rfl ?_
  refine Ops_nil ?_
  refine then_n (hK4_ _ _ ?_)
  clear hK4_ K4_
  refine W_if rfl (fun hc7 => ?_) (fun hc7 => ?_)
  · have hfin : D.disarm = (D.able 0, D) := by have h_ := able0_on (D := D) (by omega); rw [Dk.disarm, h_.1, if_pos rfl, h_.2]
    refine W_seq_k fun K5_ hK5_ => ?_
    refine W_region [some 8, some 2] rfl ?_
    refine Ops_step (R_move rfl) rfl rfl ?_
    refine Ops_step (R_assign rfl) rfl rfl ?_
    refine Ops_nil ?_
    refine then_n (hK5_ _ _ ?_)
    clear hK5_ K5_
    refine W_keepB [2] fun B6 hB6_ => ?_
    simp only [pickE, lookE, putE, zipE, args0, Nat.reduceAdd, Nat.zero_add, List.cons_append, List.nil_append, Nat.reduceBEq, cond_true, cond_false] at hB6_
    subst hB6_
    refine W_ret ?_
    refine then_ret ?_
    clear hK2_ K2_
    refine ⟨_, ⟨_, _, rfl, rfl, rfl⟩, ?_⟩
    exact ⟨by rw [hfin]; rfl, by rw [hfin]; exact hD, hF⟩
  · refine W_skip ?_
    refine then_n (hK2_ _ _ ?_)
    clear hK2_ K2_
    refine W_keepB [0] fun B7 hB7_ => ?_
    simp only [pickE, lookE, putE, zipE, args0, Nat.reduceAdd, Nat.zero_add, List.cons_append, List.nil_append, Nat.reduceBEq, cond_true, cond_false] at hB7_
    subst hB7_
    refine W_seq_k fun K8_ hK8_ => ?_
    refine W_region [some 9, some 10, some 11, some 12, none, some 13, some 14, none] rfl ?_
    have hoff := able0_off (D := D) (by omega)
    have hfin : D.disarm = (0, { D with armed := false, left := 0 }) := by rw [Dk.disarm, hoff]; rfl
    refine Exists.elim hD fun ps hDx => ?_
    have hB := hDx.1
    have hp := hDx.2.1
    have hd := hDx.2.2.1
    have hfil := Fils.mk hDx.2.2.2.1
    have hok := hDx.2.2.2.2
    have hT := hok.three
    have hus := hok.used
    have hrm := hok.room
    have hr1 := hok.one
    clear hDx
    refine Ops_step (R_move rfl) rfl rfl ?_
    refine Ops_step (R_move rfl) rfl rfl ?_
    refine Ops_step (R_nilCheck rfl) rfl rfl ?_
    refine Ops_step (R_fieldAddr TEc.fo40_3 rfl) rfl rfl ?_
    have hT40 : ∃ cs, Blk _ d 40 cs := ⟨_, hB⟩
    refine Ops_to0 (R_store TEc.sz4 rfl rfl hB (by rw [dkC_len hp hT]; decide) rfl) rfl ?_
    clear hB
    rintro _ w9_ ⟨hB, hF9_⟩
    replace hF := hF.then hF9_ (by simp)
    replace hfil := hfil.fr hF9_ (one40 hT40)
    clear hF9_
    clear hT40
    replace hB := hB.to (dkC_s5 hp hT false)
    refine Ops_step (R_nilCheck rfl) rfl rfl ?_
    refine Ops_step (R_fieldAddr TEc.fo40_4 rfl) rfl rfl ?_
    have hT40 : ∃ cs, Blk _ d 40 cs := ⟨_, hB⟩
    refine Ops_to0 (R_store TEc.sz3 rfl rfl hB (by rw [dkC_len hp hT]; decide) rfl) rfl ?_
    clear hB
    rintro _ w10_ ⟨hB, hF10_⟩
    replace hF := hF.then hF10_ (by simp)
    replace hfil := hfil.fr hF10_ (one40 hT40)
    clear hF10_
    clear hT40
    replace hB := hB.to (dkC_s6 hp hT 0)
    have hD : Dsk _ B d { D with armed := false, left := 0 } := ⟨ps, hB, hp, hd, hfil.2, ⟨hT, hus, hrm, hr1, by show 0 < _; decide⟩⟩
    clear hB hfil
    refine Ops_nil ?_
    refine then_n (hK8_ _ _ ?_)
    clear hK8_ K8_
    refine W_keepB [] fun B11 hB11_ => ?_
    simp only [pickE, lookE, putE, zipE, args0, Nat.reduceAdd, Nat.zero_add, List.cons_append, List.nil_append, Nat.reduceBEq, cond_true, cond_false] at hB11_
    subst hB11_
    refine W_seq_k fun K12_ hK12_ => ?_
    refine W_region [some 2] rfl ?_
    refine Ops_step (R_assign rfl) rfl rfl ?_
    refine Ops_nil ?_
    refine then_n (hK12_ _ _ ?_)
    clear hK12_ K12_
    refine W_ret ?_
    refine ⟨_, ⟨_, _, rfl, rfl, rfl⟩, ?_⟩
    exact ⟨by rw [hfin]; rfl, by rw [hfin]; exact hD, hF⟩
set_option maxHeartbeats 4000000 in
theorem arm_any (B : Nat → Prop) (d : Nat) (D : Dk) (n : Int) (hn : n ≤ 9223372036854775807) (w : World) (hD : Dsk w B d D) : Calls Try.prog 15 #[.pointer (some ⟨d, 0, none⟩), vi n] w fun e w2 => e = .returned (vi (D.arm n).1) ∧ Dsk w2 B d (D.arm n).2 ∧ Fr [d] w w2 := by
  have hF := Fr.refl [d] w
  refine calls_W 22 Try.func15 rfl Try.ntmps15 rfl [.tmp 4] rfl ?_
  refine W_seq_k fun K1_ hK1_ => ?_
  refine W_region [some 4] rfl ?_
  refine Ops_step (R_assign rfl) rfl rfl ?_
  refine Ops_nil ?_
  refine then_n (hK1_ _ _ ?_)
  clear hK1_ K1_
  refine W_seq_k fun K2_ hK2_ => ?_
  refine W_region [some 6, some 7, some 5] rfl ?_
  refine Ops_step (R_move rfl) rfl rfl ?_
  refine Ops_call (C_func TEc.bd35 rfl) rfl rfl ?_
  refine (able_any _ _ _ 0 _ hD).mono ?_
  rintro _ wq7_ ⟨rfl, hq7_⟩
  replace hq7_ := hq7_.symm
  subst hq7_
  refine ⟨_, rfl, ?_⟩
  refine Ops_step (R_assign rfl) rfl rfl ?_
  refine Ops_nil ?_
  refine then_n (hK2_ _ _ ?_)
  clear hK2_ K2_
  refine W_seq_k fun K3_ hK3_ => ?_
  refine W_block ?_
  refine W_seq_k fun K4_ hK4_ => ?_
  refine W_region [some 9, some 10, some 8] rfl ?_
  refine Ops_step (R_move rfl) rfl rfl ?_
  refine Ops_step (R_neq rfl rfl) rfl rfl ?_
  refine Ops_step (R_assign rfl) rfl rfl ?_
  refine Ops_nil ?_
  refine then_n (hK4_ _ _ ?_)
  clear hK4_ K4_
  refine W_if rfl (fun hc8 => ?_) (fun hc8 => ?_)
  · have hfin : D.arm n = (D.able 0, D) := by have h_ := able0_on (D := D) (by omega); rw [Dk.arm, h_.1, if_pos rfl, h_.2]
    refine W_seq_k fun K5_ hK5_ => ?_
    refine W_region [some 11, some 4] rfl ?_
    refine Ops_step (R_move rfl) rfl rfl ?_
    refine Ops_step (R_assign rfl) rfl rfl ?_
    refine Ops_nil ?_
    refine then_n (hK5_ _ _ ?_)
    clear hK5_ K5_
    refine W_keepB [4] fun B6 hB6_ => ?_
    simp only [pickE, lookE, putE, zipE, args0, Nat.reduceAdd, Nat.zero_add, List.cons_append, List.nil_append, Nat.reduceBEq, cond_true, cond_false] at hB6_
    subst hB6_
    refine W_ret ?_
    refine block_ret ?_
    refine then_ret ?_
    clear hK3_ K3_
    refine ⟨_, ⟨_, _, rfl, rfl, rfl⟩, ?_⟩
    exact ⟨by rw [hfin]; rfl, by rw [hfin]; exact hD, hF⟩
  · refine W_seq_k fun K7_ hK7_ => ?_
    refine W_region [some 13, some 14, some 12] rfl ?_
    refine Ops_step (R_move rfl) rfl rfl ?_
    refine Ops_step (R_lss rfl rfl) rfl rfl ?_
    refine Ops_step (R_assign rfl) rfl rfl ?_
    refine Ops_nil ?_
    refine then_n (hK7_ _ _ ?_)
    clear hK7_ K7_
    refine W_keepB [0, 1, 12] fun B8 hB8_ => ?_
    simp only [pickE, lookE, putE, zipE, args0, Nat.reduceAdd, Nat.zero_add, List.cons_append, List.nil_append, Nat.reduceBEq, cond_true, cond_false] at hB8_
    subst hB8_
    refine W_if rfl (fun hc12 => ?_) (fun hc12 => ?_)
    · have hoff := able0_off (D := D) (by omega)
      have hfin : D.arm n = (1, D) := by rw [Dk.arm, hoff, if_neg (by simp), if_pos (by omega)]
      refine W_seq_k fun K9_ hK9_ => ?_
      refine W_region [some 4] rfl ?_
      refine Ops_step (R_assign rfl) rfl rfl ?_
      refine Ops_nil ?_
      refine then_n (hK9_ _ _ ?_)
      clear hK9_ K9_
      refine W_ret ?_
      refine block_ret ?_
      refine then_ret ?_
      clear hK3_ K3_
      refine ⟨_, ⟨_, _, rfl, rfl, rfl⟩, ?_⟩
      exact ⟨by rw [hfin]; rfl, by rw [hfin]; exact hD, hF⟩
    · refine W_skip ?_
      refine block_n ?_
      refine then_n (hK3_ _ _ ?_)
      clear hK3_ K3_
      refine W_seq_k fun K10_ hK10_ => ?_
      refine W_region [some 15, some 16, some 17, some 18, some 19, none, some 20, some 21, none] rfl ?_
      have hn1 : ¬ n < 1 := by omega
      obtain ⟨m, rfl⟩ := Int.eq_ofNat_of_zero_le (show 0 ≤ n by omega)
      have hoff := able0_off (D := D) (by omega)
      have hfin : D.arm (m : Int) = (0, { D with armed := true, left := m }) := by rw [Dk.arm, hoff, if_neg (by simp), if_neg hn1]; rfl
      refine Exists.elim hD fun ps hDx => ?_
      have hB := hDx.1
      have hp := hDx.2.1
      have hd := hDx.2.2.1
      have hfil := Fils.mk hDx.2.2.2.1
      have hok := hDx.2.2.2.2
      have hT := hok.three
      have hus := hok.used
      have hrm := hok.room
      have hr1 := hok.one
      clear hDx
      refine Ops_step (R_move rfl) rfl rfl ?_
      refine Ops_step (R_move rfl) rfl rfl ?_
      refine Ops_step (R_move rfl) rfl rfl ?_
      refine Ops_step (R_nilCheck rfl) rfl rfl ?_
      refine Ops_step (R_fieldAddr TEc.fo40_3 rfl) rfl rfl ?_
      have hT40 : ∃ cs, Blk _ d 40 cs := ⟨_, hB⟩
      refine Ops_to0 (R_store TEc.sz4 rfl rfl hB (by rw [dkC_len hp hT]; decide) rfl) rfl ?_
      clear hB
      rintro _ w11_ ⟨hB, hF11_⟩
      replace hF := hF.then hF11_ (by simp)
      replace hfil := hfil.fr hF11_ (one40 hT40)
      clear hF11_
      clear hT40
      replace hB := hB.to (dkC_s5 hp hT true)
      refine Ops_step (R_nilCheck rfl) rfl rfl ?_
      refine Ops_step (R_fieldAddr TEc.fo40_4 rfl) rfl rfl ?_
      have hT40 : ∃ cs, Blk _ d 40 cs := ⟨_, hB⟩
      refine Ops_to0 (R_store TEc.sz3 rfl rfl hB (by rw [dkC_len hp hT]; decide) rfl) rfl ?_
      clear hB
      rintro _ w12_ ⟨hB, hF12_⟩
      replace hF := hF.then hF12_ (by simp)
      replace hfil := hfil.fr hF12_ (one40 hT40)
      clear hF12_
      clear hT40
      replace hB := hB.to (dkC_s6 hp hT m)
      have hD : Dsk _ B d { D with armed := true, left := m } := ⟨ps, hB, hp, hd, hfil.2, ⟨hT, hus, hrm, hr1, by show m < _; omega⟩⟩
      clear hB hfil
      refine Ops_nil ?_
      refine then_n (hK10_ _ _ ?_)
      clear hK10_ K10_
      refine W_keepB [] fun B13 hB13_ => ?_
      simp only [pickE, lookE, putE, zipE, args0, Nat.reduceAdd, Nat.zero_add, List.cons_append, List.nil_append, Nat.reduceBEq, cond_true, cond_false] at hB13_
      subst hB13_
      refine W_seq_k fun K14_ hK14_ => ?_
      refine W_region [some 4] rfl ?_
      refine Ops_step (R_assign rfl) rfl rfl ?_
      refine Ops_nil ?_
      refine then_n (hK14_ _ _ ?_)
      clear hK14_ K14_
      refine W_ret ?_
      refine ⟨_, ⟨_, _, rfl, rfl, rfl⟩, ?_⟩
      exact ⟨by rw [hfin]; rfl, by rw [hfin]; exact hD, hF⟩
set_option maxHeartbeats 4000000 in
theorem start_any (B : Nat → Prop) (d : Nat) (D : Dk) (w : World) (hD : Dsk w B d D) : Calls Try.prog 34 #[.pointer (some ⟨d, 0, none⟩)] w fun e w2 => e = .returned (vi (D.start).1) ∧ Dsk w2 B d (D.start).2 ∧ Fr [d] w w2 := by
  have hF := Fr.refl [d] w
  have hfin : D.start = (0, { D with off := false }) := rfl
  refine calls_W 15 Try.func34 rfl Try.ntmps34 rfl [.tmp 2] rfl ?_
  refine W_seq_k fun K1_ hK1_ => ?_
  refine W_region [some 2] rfl ?_
  refine Ops_step (R_assign rfl) rfl rfl ?_
  refine Ops_nil ?_
  refine then_n (hK1_ _ _ ?_)
  clear hK1_ K1_
  refine W_seq_k fun K2_ hK2_ => ?_
  refine W_seq_k fun K3_ hK3_ => ?_
  refine W_region [some 3, some 4, some 5, some 6, some 7, some 8, some 9, some 10, some 11] rfl ?_
  refine Exists.elim hD fun ps hDx => ?_
  have hB := hDx.1
  have hp := hDx.2.1
  have hd := hDx.2.2.1
  have hfil := Fils.mk hDx.2.2.2.1
  have hok := hDx.2.2.2.2
  have hT := hok.three
  have hus := hok.used
  have hrm := hok.room
  have hr1 := hok.one
  clear hDx
  refine Ops_step (R_move rfl) rfl rfl ?_
  refine Ops_step (R_ptrNil Try.underlying28 rfl rfl) rfl rfl ?_
  refine Ops_step (R_move rfl) rfl rfl ?_
  refine Ops_step (R_move rfl) rfl rfl ?_
  refine Ops_step (R_nilCheck rfl) rfl rfl ?_
  refine Ops_step (R_fieldAddr TEc.fo40_1 rfl) rfl rfl ?_
  refine Ops_step (R_loadB TEc.ag3 rfl hB (dkC_3 hp hT)) rfl rfl ?_
  refine Ops_step (R_eql rfl rfl) rfl rfl ?_
  refine Ops_step (R_pick_false rfl rfl) rfl rfl ?_
  refine Ops_nil ?_
  refine then_n (hK3_ _ _ ?_)
  clear hK3_ K3_
  refine W_keepB [0, 11] fun B4 hB4_ => ?_
  simp only [pickE, lookE, putE, zipE, args0, Nat.reduceAdd, Nat.zero_add, List.cons_append, List.nil_append, Nat.reduceBEq, cond_true, cond_false] at hB4_
  subst hB4_
  refine W_no rfl (by omega) ?_
  refine W_skip ?_
  refine then_n (hK2_ _ _ ?_)
  clear hK2_ K2_
  refine W_seq_k fun K5_ hK5_ => ?_
  refine W_region [some 12, some 13, some 14, none] rfl ?_
  refine Ops_step (R_move rfl) rfl rfl ?_
  refine Ops_step (R_nilCheck rfl) rfl rfl ?_
  refine Ops_step (R_fieldAddr TEc.fo40_2 rfl) rfl rfl ?_
  have hT40 : ∃ cs, Blk _ d 40 cs := ⟨_, hB⟩
  refine Ops_to0 (R_store TEc.sz4 rfl rfl hB (by rw [dkC_len hp hT]; decide) rfl) rfl ?_
  clear hB
  rintro _ w6_ ⟨hB, hF6_⟩
  replace hF := hF.then hF6_ (by simp)
  replace hfil := hfil.fr hF6_ (one40 hT40)
  clear hF6_
  clear hT40
  replace hB := hB.to (dkC_s4 hp hT false)
  have hD : Dsk _ B d { D with off := false } := ⟨ps, hB, hp, hd, hfil.2, ⟨hT, hus, hrm, hr1, hok.left⟩⟩
  clear hB hfil
  refine Ops_nil ?_
  refine then_n (hK5_ _ _ ?_)
  clear hK5_ K5_
  refine W_seq_k fun K7_ hK7_ => ?_
  refine W_region [some 2] rfl ?_
  refine Ops_step (R_assign rfl) rfl rfl ?_
  refine Ops_nil ?_
  refine then_n (hK7_ _ _ ?_)
  clear hK7_ K7_
  refine W_ret ?_
  refine ⟨_, ⟨_, _, rfl, rfl, rfl⟩, ?_⟩
  exact ⟨by rw [hfin]; rfl, by rw [hfin]; exact hD, hF⟩
set_option maxHeartbeats 4000000 in
theorem read_ok (B : Nat → Prop) (d : Nat) (D : Dk) (i : Nat) (hi3 : i < 3) (hoff : D.off = false) (w : World) (hD : Dsk w B d D) : Calls Try.prog 17 #[.pointer (some ⟨d, 0, none⟩), vi i] w fun e w2 => ∃ A c, e = .returned (.tuple #[.slice A (D.F.getD i []).length c, vi 0]) ∧ OwnB w2 w.heap.size 5 A c (D.F.getD i []) ∧ Fr [] w w2 := by
  have hF := Fr.refl [] w
  refine calls_W 21 Try.func17 rfl Try.ntmps17 rfl [.tmp 4, .tmp 5] rfl ?_
  refine W_seq_k fun K1_ hK1_ => ?_
  refine W_region [some 4, some 5] rfl ?_
  refine Ops_step (R_assign rfl) rfl rfl ?_
  refine Ops_step (R_assign rfl) rfl rfl ?_
  refine Ops_nil ?_
  refine then_n (hK1_ _ _ ?_)
  clear hK1_ K1_
  refine W_seq_k fun K2_ hK2_ => ?_
  refine W_seq_k fun K3_ hK3_ => ?_
  refine W_region [some 7, some 8, some 9, some 6] rfl ?_
  refine Ops_step (R_move rfl) rfl rfl ?_
  refine Ops_step (R_move rfl) rfl rfl ?_
  refine Ops_call (C_func TEc.bd35 rfl) rfl rfl ?_
  refine (able_any _ _ _ (i : Int) _ hD).mono ?_
  rintro _ wq9_ ⟨rfl, hq9_⟩
  replace hq9_ := hq9_.symm
  subst hq9_
  refine ⟨_, rfl, ?_⟩
  refine Ops_step (R_assign rfl) rfl rfl ?_
  refine Ops_nil ?_
  refine then_n (hK3_ _ _ ?_)
  clear hK3_ K3_
  refine W_seq_k fun K4_ hK4_ => ?_
  refine W_region [some 10, some 11] rfl ?_
  refine Ops_step (R_move rfl) rfl rfl ?_
  refine Ops_step (R_neq rfl rfl) rfl rfl ?_
  refine Ops_nil ?_
  refine then_n (hK4_ _ _ ?_)
  clear hK4_ K4_
  refine W_keepB [0, 1, 6, 11] fun B5 hB5_ => ?_
  simp only [pickE, lookE, putE, zipE, args0, Nat.reduceAdd, Nat.zero_add, List.cons_append, List.nil_append, Nat.reduceBEq, cond_true, cond_false] at hB5_
  subst hB5_
  refine W_no rfl (by rw [able_in hi3 hoff rfl]; decide) ?_
  refine W_skip ?_
  refine then_n (hK2_ _ _ ?_)
  clear hK2_ K2_
  refine W_seq_k fun K6_ hK6_ => ?_
  refine W_region [some 13, some 14, some 15, some 16, some 17, some 18, some 19, some 20, some 4, some 5] rfl ?_
  refine Exists.elim (hD.fr0 hF) fun ps hDx => ?_
  have hB := hDx.1
  have hp := hDx.2.1
  have hd := hDx.2.2.1
  have hfil := Fils.mk hDx.2.2.2.1
  have hok := hDx.2.2.2.2
  have hT := hok.three
  have hus := hok.used
  have hrm := hok.room
  have hr1 := hok.one
  clear hDx
  have hfl := len_used hT hi3
  have hz13_hF := hF.size
  have hn13_hB := hB.lt
  refine Ops_to (R_buildSlice0 TEc.el24) rfl rfl ?_
  rintro _ w13_ ⟨b13, rfl, hb13, hB13, hF13_⟩
  have hl13 := hB13.lt
  have hQ13 := OwnB.empty (B := w.heap.size) (by omega) hB13
  clear hB13
  replace hF := hF.fr0 hF13_
  replace hB := hB.fr0 hF13_
  replace hfil := hfil.fr0 hF13_
  clear hF13_
  refine Ops_step (R_move rfl) rfl rfl ?_
  refine Ops_step (R_move rfl) rfl rfl ?_
  refine Ops_step (R_nilCheck rfl) rfl rfl ?_
  refine Ops_step (R_fieldAddr TEc.fo40_0 rfl) rfl rfl ?_
  refine Ops_step (R_indexArr Try.underlying30 TEc.sz24 rfl rfl (by omega) (by omega)) rfl rfl ?_
  refine Ops_step (R_loadB TEc.ag24 rfl hB (dkC_f hp hT hi3)) rfl rfl ?_
  have hof := hQ13.off
  refine Ops_to (R_appendB TEc.el24 Try.underlying24 rfl rfl rfl rfl hQ13 (hfil.2 i hi3).1.rd (by rw [List.length_nil]; omega) hF.size (by decide)) rfl rfl ?_
  clear hQ13 hB hfil
  rintro _ w20_ ⟨A20, c20, rfl, hQ, hF20_⟩
  replace hF := hF.then hF20_ (fun i_ hi_ hj_ => absurd (hof i_ hi_) (by omega))
  clear hF20_
  refine Ops_step (R_assign rfl) rfl rfl ?_
  refine Ops_step (R_assign rfl) rfl rfl ?_
  refine Ops_nil ?_
  refine then_n (hK6_ _ _ ?_)
  clear hK6_ K6_
  refine W_keepB [4, 5] fun B7 hB7_ => ?_
  simp only [pickE, lookE, putE, zipE, args0, Nat.reduceAdd, Nat.zero_add, List.cons_append, List.nil_append, Nat.reduceBEq, cond_true, cond_false] at hB7_
  subst hB7_
  refine W_ret ?_
  refine ⟨_, ⟨_, _, rfl, rfl, ⟨_, _, rfl, rfl, rfl⟩⟩, ?_⟩
  exact ⟨_, _, rfl, hQ, hF⟩
set_option maxHeartbeats 4000000 in
theorem read_no (B : Nat → Prop) (d : Nat) (D : Dk) (f : Int) (hno : D.able f ≠ 0) (w : World) (hD : Dsk w B d D) : Calls Try.prog 17 #[.pointer (some ⟨d, 0, none⟩), vi f] w fun e w2 => e = .returned (.tuple #[.slice none 0 0, vi (D.able f)]) ∧ w2 = w := by
  refine calls_W 21 Try.func17 rfl Try.ntmps17 rfl [.tmp 4, .tmp 5] rfl ?_
  refine W_seq_k fun K1_ hK1_ => ?_
  refine W_region [some 4, some 5] rfl ?_
  refine Ops_step (R_assign rfl) rfl rfl ?_
  refine Ops_step (R_assign rfl) rfl rfl ?_
  refine Ops_nil ?_
  refine then_n (hK1_ _ _ ?_)
  clear hK1_ K1_
  refine W_seq_k fun K2_ hK2_ => ?_
  refine W_seq_k fun K3_ hK3_ => ?_
  refine W_region [some 7, some 8, some 9, some 6] rfl ?_
  refine Ops_step (R_move rfl) rfl rfl ?_
  refine Ops_step (R_move rfl) rfl rfl ?_
  refine Ops_call (C_func TEc.bd35 rfl) rfl rfl ?_
  refine (able_any _ _ _ f _ hD).mono ?_
  rintro _ wq9_ ⟨rfl, hq9_⟩
  replace hq9_ := hq9_.symm
  subst hq9_
  refine ⟨_, rfl, ?_⟩
  refine Ops_step (R_assign rfl) rfl rfl ?_
  refine Ops_nil ?_
  refine then_n (hK3_ _ _ ?_)
  clear hK3_ K3_
  refine W_seq_k fun K4_ hK4_ => ?_
  refine W_region [some 10, some 11] rfl ?_
  refine Ops_step (R_move rfl) rfl rfl ?_
  refine Ops_step (R_neq rfl rfl) rfl rfl ?_
  refine Ops_nil ?_
  refine then_n (hK4_ _ _ ?_)
  clear hK4_ K4_
  refine W_keepB [0, 1, 6, 11] fun B5 hB5_ => ?_
  simp only [pickE, lookE, putE, zipE, args0, Nat.reduceAdd, Nat.zero_add, List.cons_append, List.nil_append, Nat.reduceBEq, cond_true, cond_false] at hB5_
  subst hB5_
  refine W_if rfl (fun hc11 => ?_) (fun hc11 => ?_)
  · refine W_seq_k fun K6_ hK6_ => ?_
    refine W_region [some 12, some 4, some 5] rfl ?_
    refine Ops_step (R_move rfl) rfl rfl ?_
    refine Ops_step (R_assign rfl) rfl rfl ?_
    refine Ops_step (R_assign rfl) rfl rfl ?_
    refine Ops_nil ?_
    refine then_n (hK6_ _ _ ?_)
    clear hK6_ K6_
    refine W_ret ?_
    refine then_ret ?_
    clear hK2_ K2_
    refine ⟨_, ⟨_, _, rfl, rfl, ⟨_, _, rfl, rfl, rfl⟩⟩, ?_⟩
    exact ⟨rfl, rfl⟩
  · exact absurd (show D.able f = 0 by omega) hno
set_option maxHeartbeats 4000000 in
theorem new_any (r : Nat) (h1 : 1 ≤ r) (h2 : r ≤ 16777216) (w : World) : Calls Try.prog 21 #[vi r] w fun e w2 => ∃ d, e = .returned (.tuple #[.pointer (some ⟨d, 0, none⟩), vi 0]) ∧ w.heap.size ≤ d ∧ Dsk w2 (fun _ => True) d (Dk.new r) ∧ Fr [] w w2 := by
  have hF := Fr.refl [] w
  refine calls_W 13 Try.func21 rfl Try.ntmps21 rfl [.tmp 2, .tmp 3] rfl ?_
  refine W_seq_k fun K1_ hK1_ => ?_
  refine W_region [some 2, some 3] rfl ?_
  refine Ops_step (R_assign rfl) rfl rfl ?_
  refine Ops_step (R_assign rfl) rfl rfl ?_
  refine Ops_nil ?_
  refine then_n (hK1_ _ _ ?_)
  clear hK1_ K1_
  refine W_seq_k fun K2_ hK2_ => ?_
  refine W_seq_k fun K3_ hK3_ => ?_
  refine W_region [some 4, some 5, some 6, some 7, some 8, some 9] rfl ?_
  refine Ops_step (R_move rfl) rfl rfl ?_
  refine Ops_step (R_lss rfl rfl) rfl rfl ?_
  refine Ops_step (R_move rfl) rfl rfl ?_
  refine Ops_known (b := false) 6 rfl (decide_eq_false (by omega)) ?_
  refine Ops_step (R_move rfl) rfl rfl ?_
  refine Ops_step (R_gtr rfl rfl) rfl rfl ?_
  refine Ops_step (R_pick_false rfl rfl) rfl rfl ?_
  refine Ops_nil ?_
  refine then_n (hK3_ _ _ ?_)
  clear hK3_ K3_
  refine W_keepB [0, 9] fun B4 hB4_ => ?_
  simp only [pickE, lookE, putE, zipE, args0, Nat.reduceAdd, Nat.zero_add, List.cons_append, List.nil_append, Nat.reduceBEq, cond_true, cond_false] at hB4_
  subst hB4_
  refine W_no rfl (by omega) ?_
  refine W_skip ?_
  refine then_n (hK2_ _ _ ?_)
  clear hK2_ K2_
  refine W_seq_k fun K5_ hK5_ => ?_
  refine W_region [some 10, some 11, some 12, some 2, some 3] rfl ?_
  refine Ops_step (R_move rfl) rfl rfl ?_
  refine Ops_step (R_build (pl := [(3, 1)]) (cs := [.slice none 0 0, .slice none 0 0, .slice none 0 0, vi r, .bool false, .bool false, vi 0]) TEc.zr40 TEc.pl40 rfl rfl rfl) rfl rfl ?_
  have hz12_hF := hF.size
  refine Ops_to (R_box rfl) rfl rfl ?_
  rintro _ w12_ ⟨b12, rfl, hb12, hB12, hF12_⟩
  have hl12 := hB12.lt
  replace hF := hF.fr0 hF12_
  clear hF12_
  replace hB12 : Blk _ b12 40 [.slice none 0 0, .slice none 0 0, .slice none 0 0, vi r, .bool false, .bool false, vi 0] := hB12
  refine Ops_step (R_assign rfl) rfl rfl ?_
  refine Ops_step (R_assign rfl) rfl rfl ?_
  refine Ops_nil ?_
  refine then_n (hK5_ _ _ ?_)
  clear hK5_ K5_
  refine W_ret ?_
  refine ⟨_, ⟨_, _, rfl, rfl, ⟨_, _, rfl, rfl, rfl⟩⟩, ?_⟩
  exact ⟨_, rfl, by omega, new_dsk hB12 h1 h2, hF⟩

end Go.Proofs.Ytijckogioombdaa
