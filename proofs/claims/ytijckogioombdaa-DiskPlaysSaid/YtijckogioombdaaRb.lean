/- What the walks of this seat show of Rb. -/
import Derived.Test.YtijckogioombdaaRa
import Derived.Test.YtijckogioombdaaProg
set_option linter.unusedVariables false
set_option linter.unusedSimpArgs false
namespace Go.Proofs.Ytijckogioombdaa
open Go Go.Sx
namespace TRb
theorem hm : Try.prog.follows .mixedOrders = true := by kernel_rfl
theorem ag24 : aggB Try.prog 24 = some false := by kernel_rfl
theorem ag4 : aggB Try.prog 4 = some false := by kernel_rfl
theorem bd40 : bodied Try.prog 40 = true := by kernel_rfl
theorem bd41 : bodied Try.prog 41 = true := by kernel_rfl
theorem fo58_0 : offB Try.prog 58 0 = some 0 := by kernel_rfl
theorem fo58_2 : offB Try.prog 58 2 = some 4 := by kernel_rfl
theorem pl58 : partPl Try.prog 58 = some [(0, 3), (3, 1), (4, 1), (5, 1)] := by kernel_rfl
theorem sz24 : sz Try.prog 24 = some 1 := by kernel_rfl
theorem zr58 : zr Try.prog 58 = some (List.replicate 3 (.slice none 0 0) ++ [.int .i64 0] ++ [.bool false] ++ [.int .i64 0]) := by kernel_rfl
end TRb
set_option maxHeartbeats 4000000 in
theorem rread_ok (B : Nat → Prop) (d : Nat) (R : Rk) (i : Nat) (hi3 : i < 3) (hoff : R.off = false) (w : World) (hR : Rsk w B d R) : Calls Try.prog 31 #[.pointer (some ⟨d, 0, none⟩), vi i] w fun e w2 => ∃ A c, e = .returned (.tuple #[.slice A (R.F.getD i []).length c, vi 0]) ∧ Rd w A ((R.F.getD i []).map vb) ∧ w2 = w := by
  refine Exists.elim hR fun ps hRx => ?_
  have hB := hRx.1
  have hp := hRx.2.1
  have hfil := hRx.2.2.1
  have hT := hRx.2.2.2.1
  have hus := hRx.2.2.2.2.1
  have hrm := hRx.2.2.2.2.2.1
  have hlf := hRx.2.2.2.2.2.2
  clear hRx
  have hab : R.able (i : Int) = 0 := by rw [Rk.able, hoff, if_neg (by simp), if_neg (by omega)]
  refine calls_W 19 Try.func31 rfl Try.ntmps31 rfl [.tmp 4, .tmp 5] rfl ?_
  refine W_seq_k fun K1_ hK1_ => ?_
  refine W_region [some 4, some 5] rfl ?_
  refine Ops_step (R_assign rfl) rfl rfl ?_
  refine Ops_step (R_assign rfl) rfl rfl ?_
  refine Ops_nil ?_
  refine then_n (hK1_ _ _ ?_)
  clear hK1_ K1_
  refine W_seq_k fun K2_ hK2_ => ?_
  refine W_seq_k fun K3_ hK3_ => ?_
  refine W_region [some 7, some 8, some 9, some 6] rfl ?_
  refine Ops_step (R_move rfl) rfl rfl ?_
  refine Ops_step (R_move rfl) rfl rfl ?_
  refine Ops_call (C_func TRb.bd40 rfl) rfl rfl ?_
  refine (rmay_any _ _ _ (i : Int) _ hR).mono ?_
  rintro _ wq9_ ⟨rfl, hq9_⟩
  replace hq9_ := hq9_.symm
  subst hq9_
  refine ⟨_, rfl, ?_⟩
  refine Ops_step (R_assign rfl) rfl rfl ?_
  refine Ops_nil ?_
  refine then_n (hK3_ _ _ ?_)
  clear hK3_ K3_
  refine W_seq_k fun K4_ hK4_ => ?_
  refine W_region [some 10, some 11] rfl ?_
  refine Ops_step (R_move rfl) rfl rfl ?_
  refine Ops_step (R_neq rfl rfl) rfl rfl ?_
  refine Ops_nil ?_
  refine then_n (hK4_ _ _ ?_)
  clear hK4_ K4_
  refine W_keepB [0, 1, 6, 11] fun B5 hB5_ => ?_
  simp only [pickE, lookE, putE, zipE, args0, Nat.reduceAdd, Nat.zero_add, List.cons_append, List.nil_append, Nat.reduceBEq, cond_true, cond_false] at hB5_
  subst hB5_
  refine W_no rfl (by rw [hab]; decide) ?_
  refine W_skip ?_
  refine then_n (hK2_ _ _ ?_)
  clear hK2_ K2_
  refine W_seq_k fun K6_ hK6_ => ?_
  refine W_region [some 13, some 14, some 15, some 16, some 17, some 18, some 4, some 5] rfl ?_
  refine Ops_step (R_move rfl) rfl rfl ?_
  refine Ops_step (R_move rfl) rfl rfl ?_
  refine Ops_step (R_nilCheck rfl) rfl rfl ?_
  refine Ops_step (R_fieldAddr TRb.fo58_0 rfl) rfl rfl ?_
  refine Ops_step (R_indexArr Try.underlying30 TRb.sz24 rfl rfl (by omega) (by omega)) rfl rfl ?_
  refine Ops_step (R_loadB TRb.ag24 rfl hB (rkC_f hp hT hi3)) rfl rfl ?_
  refine Ops_step (R_assign rfl) rfl rfl ?_
  refine Ops_step (R_assign rfl) rfl rfl ?_
  refine Ops_nil ?_
  refine then_n (hK6_ _ _ ?_)
  clear hK6_ K6_
  refine W_keepB [4, 5] fun B7 hB7_ => ?_
  simp only [pickE, lookE, putE, zipE, args0, Nat.reduceAdd, Nat.zero_add, List.cons_append, List.nil_append, Nat.reduceBEq, cond_true, cond_false] at hB7_
  subst hB7_
  refine W_ret ?_
  refine ⟨_, ⟨_, _, rfl, rfl, ⟨_, _, rfl, rfl, rfl⟩⟩, ?_⟩
  exact ⟨_, _, rfl, (hfil.2 i hi3).1.rd, rfl⟩
set_option maxHeartbeats 4000000 in
theorem rread_no (B : Nat → Prop) (d : Nat) (R : Rk) (f : Int) (hno : R.able f ≠ 0) (w : World) (hR : Rsk w B d R) : Calls Try.prog 31 #[.pointer (some ⟨d, 0, none⟩), vi f] w fun e w2 => e = .returned (.tuple #[.slice none 0 0, vi (R.able f)]) ∧ w2 = w := by
  refine calls_W 19 Try.func31 rfl Try.ntmps31 rfl [.tmp 4, .tmp 5] rfl ?_
  refine W_seq_k fun K1_ hK1_ => ?_
  refine W_region [some 4, some 5] rfl ?_
  refine Ops_step (R_assign rfl) rfl rfl ?_
  refine Ops_step (R_assign rfl) rfl rfl ?_
  refine Ops_nil ?_
  refine then_n (hK1_ _ _ ?_)
  clear hK1_ K1_
  refine W_seq_k fun K2_ hK2_ => ?_
  refine W_seq_k fun K3_ hK3_ => ?_
  refine W_region [some 7, some 8, some 9, some 6] rfl ?_
  refine Ops_step (R_move rfl) rfl rfl ?_
  refine Ops_step (R_move rfl) rfl rfl ?_
  refine Ops_call (C_func TRb.bd40 rfl) rfl rfl ?_
  refine (rmay_any _ _ _ f _ hR).mono ?_
  rintro _ wq9_ ⟨rfl, hq9_⟩
  replace hq9_ := hq9_.symm
  subst hq9_
  refine ⟨_, rfl, ?_⟩
  refine Ops_step (R_assign rfl) rfl rfl ?_
  refine Ops_nil ?_
  refine then_n (hK3_ _ _ ?_)
  clear hK3_ K3_
  refine W_seq_k fun K4_ hK4_ => ?_
  refine W_region [some 10, some 11] rfl ?_
  refine Ops_step (R_move rfl) rfl rfl ?_
  refine Ops_step (R_neq rfl rfl) rfl rfl ?_
  refine Ops_nil ?_
  refine then_n (hK4_ _ _ ?_)
  clear hK4_ K4_
  refine W_keepB [0, 1, 6, 11] fun B5 hB5_ => ?_
  simp only [pickE, lookE, putE, zipE, args0, Nat.reduceAdd, Nat.zero_add, List.cons_append, List.nil_append, Nat.reduceBEq, cond_true, cond_false] at hB5_
  subst hB5_
  refine W_if rfl (fun hc11 => ?_) (fun hc11 => ?_)
  · refine W_seq_k fun K6_ hK6_ => ?_
    refine W_region [some 12, some 4, some 5] rfl ?_
    refine Ops_step (R_move rfl) rfl rfl ?_
    refine Ops_step (R_assign rfl) rfl rfl ?_
    refine Ops_step (R_assign rfl) rfl rfl ?_
    refine Ops_nil ?_
    refine then_n (hK6_ _ _ ?_)
    clear hK6_ K6_
    refine W_ret ?_
    refine then_ret ?_
    clear hK2_ K2_
    refine ⟨_, ⟨_, _, rfl, rfl, ⟨_, _, rfl, rfl, rfl⟩⟩, ?_⟩
    exact ⟨rfl, rfl⟩
  · exact absurd (show R.able f = 0 by omega) hno
set_option maxHeartbeats 4000000 in
theorem rnew_any (r : Nat) (h1 : 1 ≤ r) (h2 : r ≤ 16777216) (w : World) : Calls Try.prog 23 #[vi r] w fun e w2 => ∃ d, e = .returned (.tuple #[.pointer (some ⟨d, 0, none⟩), vi 0]) ∧ w.heap.size ≤ d ∧ Rsk w2 (fun _ => True) d ⟨[[], [], []], r, false, 0⟩ ∧ Fr [] w w2 := by
  have hF := Fr.refl [] w
  refine calls_W 13 Try.func23 rfl Try.ntmps23 rfl [.tmp 2, .tmp 3] rfl ?_
  refine W_seq_k fun K1_ hK1_ => ?_
  refine W_region [some 2, some 3] rfl ?_
  refine Ops_step (R_assign rfl) rfl rfl ?_
  refine Ops_step (R_assign rfl) rfl rfl ?_
  refine Ops_nil ?_
  refine then_n (hK1_ _ _ ?_)
  clear hK1_ K1_
  refine W_seq_k fun K2_ hK2_ => ?_
  refine W_seq_k fun K3_ hK3_ => ?_
  refine W_region [some 4, some 5, some 6, some 7, some 8, some 9] rfl ?_
  refine Ops_step (R_move rfl) rfl rfl ?_
  refine Ops_step (R_lss rfl rfl) rfl rfl ?_
  refine Ops_step (R_move rfl) rfl rfl ?_
  refine Ops_known (b := false) 6 rfl (decide_eq_false (by omega)) ?_
  refine Ops_step (R_move rfl) rfl rfl ?_
  refine Ops_step (R_gtr rfl rfl) rfl rfl ?_
  refine Ops_step (R_pick_false rfl rfl) rfl rfl ?_
  refine Ops_nil ?_
  refine then_n (hK3_ _ _ ?_)
  clear hK3_ K3_
  refine W_keepB [0, 9] fun B4 hB4_ => ?_
  simp only [pickE, lookE, putE, zipE, args0, Nat.reduceAdd, Nat.zero_add, List.cons_append, List.nil_append, Nat.reduceBEq, cond_true, cond_false] at hB4_
  subst hB4_
  refine W_no rfl (by omega) ?_
  refine W_skip ?_
  refine then_n (hK2_ _ _ ?_)
  clear hK2_ K2_
  refine W_seq_k fun K5_ hK5_ => ?_
  refine W_region [some 10, some 11, some 12, some 2, some 3] rfl ?_
  refine Ops_step (R_move rfl) rfl rfl ?_
  refine Ops_step (R_build (pl := [(3, 1)]) (cs := [.slice none 0 0, .slice none 0 0, .slice none 0 0, vi r, .bool false, vi 0]) TRb.zr58 TRb.pl58 rfl rfl rfl) rfl rfl ?_
  have hz12_hF := hF.size
  refine Ops_to (R_box rfl) rfl rfl ?_
  rintro _ w12_ ⟨b12, rfl, hb12, hB12, hF12_⟩
  have hl12 := hB12.lt
  replace hF := hF.fr0 hF12_
  clear hF12_
  replace hB12 : Blk _ b12 58 (rkC [(none, 0), (none, 0), (none, 0)] [[], [], []] r false 0) := hB12
  refine Ops_step (R_assign rfl) rfl rfl ?_
  refine Ops_step (R_assign rfl) rfl rfl ?_
  refine Ops_nil ?_
  refine then_n (hK5_ _ _ ?_)
  clear hK5_ K5_
  refine W_ret ?_
  refine ⟨_, ⟨_, _, rfl, rfl, ⟨_, _, rfl, rfl, rfl⟩⟩, ?_⟩
  exact ⟨_, rfl, by omega, ⟨_, hB12, rfl, ⟨trivial, fun i hi => by match i, hi with
      | 0, _ | 1, _ | 2, _ => exact ⟨Fil.nil _ _, Nat.le_refl _⟩⟩, rfl, Nat.zero_le _, h2, by show (0 : Nat) < _; decide⟩, hF⟩
set_option maxHeartbeats 4000000 in
theorem rwipe_any (B : Nat → Prop) (d : Nat) (R : Rk) (f : Int) (w : World) (hR : Rsk w B d R) : Calls Try.prog 25 #[.pointer (some ⟨d, 0, none⟩), vi f] w fun e w2 => e = .returned (vi (R.wipe f).1) ∧ Rsk w2 B d (R.wipe f).2 ∧ Fr [d] w w2 := by
  have hF := Fr.refl [d] w
  refine calls_W 23 Try.func25 rfl Try.ntmps25 rfl [.tmp 4] rfl ?_
  refine W_seq_k fun K1_ hK1_ => ?_
  refine W_region [some 4] rfl ?_
  refine Ops_step (R_assign rfl) rfl rfl ?_
  refine Ops_nil ?_
  refine then_n (hK1_ _ _ ?_)
  clear hK1_ K1_
  refine W_seq_k fun K2_ hK2_ => ?_
  refine W_seq_k fun K3_ hK3_ => ?_
  refine W_region [some 6, some 7, some 8, some 5] rfl ?_
  refine Ops_step (R_move rfl) rfl rfl ?_
  refine Ops_step (R_move rfl) rfl rfl ?_
  refine Ops_call (C_func TRb.bd40 rfl) rfl rfl ?_
  refine (rmay_any _ _ _ f _ hR).mono ?_
  rintro _ wq8_ ⟨rfl, hq8_⟩
  replace hq8_ := hq8_.symm
  subst hq8_
  refine ⟨_, rfl, ?_⟩
  refine Ops_step (R_assign rfl) rfl rfl ?_
  refine Ops_nil ?_
  refine then_n (hK3_ _ _ ?_)
  clear hK3_ K3_
  refine W_seq_k fun K4_ hK4_ => ?_
  refine W_region [some 9, some 10] rfl ?_
  refine Ops_step (R_move rfl) rfl rfl ?_
  refine Ops_step (R_neq rfl rfl) rfl rfl ?_
  refine Ops_nil ?_
  refine then_n (hK4_ _ _ ?_)
  clear hK4_ K4_
  refine W_if rfl (fun hc10 => ?_) (fun hc10 => ?_)
  · have hfin : R.wipe f = (R.able f, R) := by rw [Rk.wipe, if_pos (by omega)]
    refine W_seq_k fun K5_ hK5_ => ?_
    refine W_region [some 11, some 4] rfl ?_
    refine Ops_step (R_move rfl) rfl rfl ?_
    refine Ops_step (R_assign rfl) rfl rfl ?_
    refine Ops_nil ?_
    refine then_n (hK5_ _ _ ?_)
    clear hK5_ K5_
    refine W_keepB [4] fun B6 hB6_ => ?_
    simp only [pickE, lookE, putE, zipE, args0, Nat.reduceAdd, Nat.zero_add, List.cons_append, List.nil_append, Nat.reduceBEq, cond_true, cond_false] at hB6_
    subst hB6_
    refine W_ret ?_
    refine then_ret ?_
    clear hK2_ K2_
    refine ⟨_, ⟨_, _, rfl, rfl, rfl⟩, ?_⟩
    first | exact ⟨by rw [hfin]; rfl, by rw [hfin]; exact hR, hF⟩ | exact ⟨by rw [hfin]; show _ = Ending.returned (vi R2.done); rw [hdn]; rfl, by rw [hfin]; exact ⟨ps, hB, hp, hfil, hT, hus, hrm, hlf⟩, hF⟩
  · refine W_skip ?_
    refine then_n (hK2_ _ _ ?_)
    clear hK2_ K2_
    refine W_keepB [0, 1] fun B7 hB7_ => ?_
    simp only [pickE, lookE, putE, zipE, args0, Nat.reduceAdd, Nat.zero_add, List.cons_append, List.nil_append, Nat.reduceBEq, cond_true, cond_false] at hB7_
    subst hB7_
    refine W_seq_k fun K8_ hK8_ => ?_
    refine W_region [some 12, some 13, some 14, some 15, some 16, none] rfl ?_
    have hab : R.able f = 0 := by omega
    obtain ⟨i, rfl, hi3, hoff⟩ := rable_zero hab
    refine Exists.elim hR fun ps hRx => ?_
    have hB := hRx.1
    have hp := hRx.2.1
    have hfil := hRx.2.2.1
    have hT := hRx.2.2.2.1
    have hus := hRx.2.2.2.2.1
    have hrm := hRx.2.2.2.2.2.1
    have hlf := hRx.2.2.2.2.2.2
    clear hRx
    refine Ops_step (R_move rfl) rfl rfl ?_
    refine Ops_step (R_move rfl) rfl rfl ?_
    refine Ops_step (R_nilCheck rfl) rfl rfl ?_
    refine Ops_step (R_fieldAddr TRb.fo58_0 rfl) rfl rfl ?_
    refine Ops_step (R_indexArr Try.underlying30 TRb.sz24 rfl rfl (by omega) (by omega)) rfl rfl ?_
    have hT58 : ∃ cs, Blk _ d 58 cs := ⟨_, hB⟩
    refine Ops_to0 (R_store TRb.sz24 rfl rfl hB (by rw [rkC_len hp hT]; omega) rfl) rfl ?_
    clear hB
    rintro _ w9_ ⟨hB, hF9_⟩
    replace hF := hF.then hF9_ (by simp)
    replace hfil := hfil.fr hF9_ (one58 hT58)
    clear hF9_
    clear hT58
    replace hB := hB.to (rkC_sf hp hT hi3 none 0 [])
    replace hfil := hfil.put hp hT hi3 (Fil.nil _ _) (Nat.le_refl _)
    have hR : Rsk _ B d (R.put i []) := ⟨_, hB, by rw [List.length_set]; exact hp, hfil, by show (R.F.set i []).length = 3; rw [List.length_set]; exact hT, rput_used hT hi3 hus, hrm, hlf⟩
    clear hB hfil
    refine Ops_nil ?_
    refine then_n (hK8_ _ _ ?_)
    clear hK8_ K8_
    refine W_keepB [0] fun B10 hB10_ => ?_
    simp only [pickE, lookE, putE, zipE, args0, Nat.reduceAdd, Nat.zero_add, List.cons_append, List.nil_append, Nat.reduceBEq, cond_true, cond_false] at hB10_
    subst hB10_
    refine W_seq_k fun K11_ hK11_ => ?_
    refine W_region [some 17, some 18] rfl ?_
    refine Ops_step (R_move rfl) rfl rfl ?_
    refine Ops_call (C_func TRb.bd41 rfl) rfl rfl ?_
    refine (rburn_any _ _ _ _ hR).mono ?_
    rintro _ w18_ ⟨rfl, hR, hF18_⟩
    replace hF := hF.then hF18_ (by simp)
    clear hF18_
    refine ⟨_, rfl, ?_⟩
    refine Ops_nil ?_
    refine then_n (hK11_ _ _ ?_)
    clear hK11_ K11_
    refine W_seq_k fun K12_ hK12_ => ?_
    refine W_seq_k fun K13_ hK13_ => ?_
    refine W_region [some 19, some 20, some 21, some 22] rfl ?_
    refine named (R.put i []).burn fun R2 eR2 => ?_
    have hfin : R.wipe (i : Int) = (R2.done, R2) := by rw [eR2, Rk.wipe, if_neg (by omega)]; rfl
    rw [← eR2] at hR
    refine Exists.elim hR fun ps hRx => ?_
    have hB := hRx.1
    have hp := hRx.2.1
    have hfil := hRx.2.2.1
    have hT := hRx.2.2.2.1
    have hus := hRx.2.2.2.2.1
    have hrm := hRx.2.2.2.2.2.1
    have hlf := hRx.2.2.2.2.2.2
    clear hRx
    refine Ops_step (R_move rfl) rfl rfl ?_
    refine Ops_step (R_nilCheck rfl) rfl rfl ?_
    refine Ops_step (R_fieldAddr TRb.fo58_2 rfl) rfl rfl ?_
    refine Ops_step (R_loadB TRb.ag4 rfl hB (rkC_4 hp hT)) rfl rfl ?_
    refine Ops_nil ?_
    refine then_n (hK13_ _ _ ?_)
    clear hK13_ K13_
    refine W_keepB [22] fun B14 hB14_ => ?_
    simp only [pickE, lookE, putE, zipE, args0, Nat.reduceAdd, Nat.zero_add, List.cons_append, List.nil_append, Nat.reduceBEq, cond_true, cond_false] at hB14_
    subst hB14_
    refine W_cond rfl (fun hc22 => ?_) (fun hc22 => ?_)
    · have hdn : R2.done = 50 := by rw [Rk.done, if_pos hc22]
      refine W_seq_k fun K15_ hK15_ => ?_
      refine W_region [some 4] rfl ?_
      refine Ops_step (R_assign rfl) rfl rfl ?_
      refine Ops_nil ?_
      refine then_n (hK15_ _ _ ?_)
      clear hK15_ K15_
      refine W_ret ?_
      refine then_ret ?_
      clear hK12_ K12_
      refine ⟨_, ⟨_, _, rfl, rfl, rfl⟩, ?_⟩
      first | exact ⟨by rw [hfin]; rfl, by rw [hfin]; exact hR, hF⟩ | exact ⟨by rw [hfin]; show _ = Ending.returned (vi R2.done); rw [hdn]; rfl, by rw [hfin]; exact ⟨ps, hB, hp, hfil, hT, hus, hrm, hlf⟩, hF⟩
    · have hdn : R2.done = 0 := by rw [Rk.done, hc22]; rfl
      refine W_skip ?_
      refine then_n (hK12_ _ _ ?_)
      clear hK12_ K12_
      refine W_seq_k fun K16_ hK16_ => ?_
      refine W_region [some 4] rfl ?_
      refine Ops_step (R_assign rfl) rfl rfl ?_
      refine Ops_nil ?_
      refine then_n (hK16_ _ _ ?_)
      clear hK16_ K16_
      refine W_ret ?_
      refine ⟨_, ⟨_, _, rfl, rfl, rfl⟩, ?_⟩
      first | exact ⟨by rw [hfin]; rfl, by rw [hfin]; exact hR, hF⟩ | exact ⟨by rw [hfin]; show _ = Ending.returned (vi R2.done); rw [hdn]; rfl, by rw [hfin]; exact ⟨ps, hB, hp, hfil, hT, hus, hrm, hlf⟩, hF⟩

end Go.Proofs.Ytijckogioombdaa
