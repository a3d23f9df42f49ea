/- What the walks of this seat show of Ra. -/
import Derived.Test.YtijckogioombdaaGi
import Derived.Test.YtijckogioombdaaProg
set_option linter.unusedVariables false
set_option linter.unusedSimpArgs false
namespace Go.Proofs.Ytijckogioombdaa
open Go Go.Sx
namespace TRa
theorem hm : Try.prog.follows .mixedOrders = true := by kernel_rfl
theorem ag24 : aggB Try.prog 24 = some false := by kernel_rfl
theorem ag3 : aggB Try.prog 3 = some false := by kernel_rfl
theorem ag4 : aggB Try.prog 4 = some false := by kernel_rfl
theorem fo58_0 : offB Try.prog 58 0 = some 0 := by kernel_rfl
theorem fo58_2 : offB Try.prog 58 2 = some 4 := by kernel_rfl
theorem fo58_3 : offB Try.prog 58 3 = some 5 := by kernel_rfl
theorem sz24 : sz Try.prog 24 = some 1 := by kernel_rfl
theorem sz3 : sz Try.prog 3 = some 1 := by kernel_rfl
theorem sz4 : sz Try.prog 4 = some 1 := by kernel_rfl
end TRa
set_option maxHeartbeats 4000000 in
theorem rmay_any (B : Nat → Prop) (d : Nat) (R : Rk) (f : Int) (w : World) (hR : Rsk w B d R) : Calls Try.prog 40 #[.pointer (some ⟨d, 0, none⟩), vi f] w fun e w2 => e = .returned (vi (R.able f)) ∧ w2 = w := by
  obtain ⟨ps, hB, hp, hfil, hT, hus, hrm, hlf⟩ := hR
  refine calls_W 15 Try.func40 rfl Try.ntmps40 rfl [.tmp 4] rfl ?_
  refine W_seq_k fun K1_ hK1_ => ?_
  refine W_region [some 4] rfl ?_
  refine Ops_step (R_assign rfl) rfl rfl ?_
  refine Ops_nil ?_
  refine then_n (hK1_ _ _ ?_)
  clear hK1_ K1_
  refine W_seq_k fun K2_ hK2_ => ?_
  refine W_seq_k fun K3_ hK3_ => ?_
  refine W_region [some 5, some 6, some 7, some 8] rfl ?_
  refine Ops_step (R_move rfl) rfl rfl ?_
  refine Ops_step (R_nilCheck rfl) rfl rfl ?_
  refine Ops_step (R_fieldAddr TRa.fo58_2 rfl) rfl rfl ?_
  refine Ops_step (R_loadB TRa.ag4 rfl hB (rkC_4 hp hT)) rfl rfl ?_
  refine Ops_nil ?_
  refine then_n (hK3_ _ _ ?_)
  clear hK3_ K3_
  refine W_cond rfl (fun hc8 => ?_) (fun hc8 => ?_)
  · have hfin : R.able f = 50 := by rw [Rk.able, if_pos hc8]
    refine W_seq_k fun K4_ hK4_ => ?_
    refine W_region [some 4] rfl ?_
    refine Ops_step (R_assign rfl) rfl rfl ?_
    refine Ops_nil ?_
    refine then_n (hK4_ _ _ ?_)
    clear hK4_ K4_
    refine W_keepB [4] fun B5 hB5_ => ?_
    simp only [pickE, lookE, putE, zipE, args0, Nat.reduceAdd, Nat.zero_add, List.cons_append, List.nil_append, Nat.reduceBEq, cond_true, cond_false] at hB5_
    subst hB5_
    refine W_ret ?_
    refine then_ret ?_
    clear hK2_ K2_
    refine ⟨_, ⟨_, _, rfl, rfl, rfl⟩, ?_⟩
    exact ⟨by rw [hfin]; rfl, rfl⟩
  · refine W_skip ?_
    refine then_n (hK2_ _ _ ?_)
    clear hK2_ K2_
    refine W_keepB [1] fun B6 hB6_ => ?_
    simp only [pickE, lookE, putE, zipE, args0, Nat.reduceAdd, Nat.zero_add, List.cons_append, List.nil_append, Nat.reduceBEq, cond_true, cond_false] at hB6_
    subst hB6_
    refine W_seq_k fun K7_ hK7_ => ?_
    refine W_seq_k fun K8_ hK8_ => ?_
    refine W_region [some 9, some 10, some 11, some 12, some 13, some 14] rfl ?_
    refine Ops_step (R_move rfl) rfl rfl ?_
    refine Ops_step (R_lss rfl rfl) rfl rfl ?_
    refine Ops_step (R_move rfl) rfl rfl ?_
    refine Ops_split 11 rfl (fun hg11 => ?_) (fun hg11 => ?_)
    · have hfin : R.able f = 51 := by rw [Rk.able, hc8, if_neg (by simp), if_pos (by omega)]
      refine Ops_pass rfl rfl ?_
      refine Ops_pass rfl rfl ?_
      refine Ops_step (R_pick_true rfl rfl) rfl rfl ?_
      refine Ops_nil ?_
      refine then_n (hK8_ _ _ ?_)
      clear hK8_ K8_
      refine W_keepB [14] fun B9 hB9_ => ?_
      simp only [pickE, lookE, putE, zipE, args0, Nat.reduceAdd, Nat.zero_add, List.cons_append, List.nil_append, Nat.reduceBEq, cond_true, cond_false] at hB9_
      subst hB9_
      refine W_cond_true rfl ?_
      refine W_seq_k fun K10_ hK10_ => ?_
      refine W_region [some 4] rfl ?_
      refine Ops_step (R_assign rfl) rfl rfl ?_
      refine Ops_nil ?_
      refine then_n (hK10_ _ _ ?_)
      clear hK10_ K10_
      refine W_ret ?_
      refine then_ret ?_
      clear hK7_ K7_
      refine ⟨_, ⟨_, _, rfl, rfl, rfl⟩, ?_⟩
      exact ⟨by rw [hfin]; rfl, rfl⟩
    · refine Ops_step (R_move rfl) rfl rfl ?_
      refine Ops_step (R_gtr rfl rfl) rfl rfl ?_
      refine Ops_step (R_pick_false rfl rfl) rfl rfl ?_
      refine Ops_nil ?_
      refine then_n (hK8_ _ _ ?_)
      clear hK8_ K8_
      refine W_keepB [14] fun B11 hB11_ => ?_
      simp only [pickE, lookE, putE, zipE, args0, Nat.reduceAdd, Nat.zero_add, List.cons_append, List.nil_append, Nat.reduceBEq, cond_true, cond_false] at hB11_
      subst hB11_
      refine W_if rfl (fun hc14 => ?_) (fun hc14 => ?_)
      · have hfin : R.able f = 51 := by rw [Rk.able, hc8, if_neg (by simp), if_pos (by omega)]
        refine W_seq_k fun K12_ hK12_ => ?_
        refine W_region [some 4] rfl ?_
        refine Ops_step (R_assign rfl) rfl rfl ?_
        refine Ops_nil ?_
        refine then_n (hK12_ _ _ ?_)
        clear hK12_ K12_
        refine W_ret ?_
        refine then_ret ?_
        clear hK7_ K7_
        refine ⟨_, ⟨_, _, rfl, rfl, rfl⟩, ?_⟩
        exact ⟨by rw [hfin]; rfl, rfl⟩
      · have hfin : R.able f = 0 := by rw [Rk.able, hc8, if_neg (by simp), if_neg (by omega)]
        refine W_skip ?_
        refine then_n (hK7_ _ _ ?_)
        clear hK7_ K7_
        refine W_seq_k fun K13_ hK13_ => ?_
        refine W_region [some 4] rfl ?_
        refine Ops_step (R_assign rfl) rfl rfl ?_
        refine Ops_nil ?_
        refine then_n (hK13_ _ _ ?_)
        clear hK13_ K13_
        refine W_ret ?_
        refine ⟨_, ⟨_, _, rfl, rfl, rfl⟩, ?_⟩
        exact ⟨by rw [hfin]; rfl, rfl⟩
set_option maxHeartbeats 4000000 in
theorem rused_any (B : Nat → Prop) (d : Nat) (R : Rk) (w : World) (hR : Rsk w B d R) : Calls Try.prog 30 #[.pointer (some ⟨d, 0, none⟩)] w fun e w2 => e = .returned (vi R.used) ∧ Fr [] w w2 := by
  obtain ⟨ps, hB, hp, hfil, hT, hus, hrm, hlf⟩ := hR
  unfold Rk.used at hus
  have hF := Fr.refl [] w
  refine calls_W 23 Try.func30 rfl Try.ntmps30 rfl [.tmp 2] rfl ?_
  refine W_seq_k fun K1_ hK1_ => ?_
  refine W_region [some 2] rfl ?_
  refine Ops_step (R_assign rfl) rfl rfl ?_
  refine Ops_nil ?_
  refine then_n (hK1_ _ _ ?_)
  clear hK1_ K1_
  refine W_seq_k fun K2_ hK2_ => ?_
  refine W_drawF [some 3, some 4, some 5, some 6, some 7, some 8, some 9, some 10, some 11, some 12, some 13, some 14, some 15, some 16, some 17, some 18, some 19, some 20, some 21, some 22, some 2] [(0, true), (1, true), (2, true), (3, true), (4, true), (5, true), (6, true), (7, true), (8, true), (9, true), (10, true), (11, true), (12, true), (13, true), (14, true), (15, true), (16, true), (17, true), (18, true), (19, true), (20, true)] TRa.hm rfl (by kernel_rfl) fun ops3_ w3_ hops3_ hF3_ => ?_
  replace hF := hF.fr0 hF3_
  replace hB := hB.fr0 hF3_
  clear hF3_
  refine HS_pure (fun w_ => R_move rfl) rfl rfl ?_
  refine HS_pure (fun w_ => R_nilCheck rfl) rfl rfl ?_
  refine HS_pure (fun w_ => R_fieldAddr TRa.fo58_0 rfl) rfl rfl ?_
  refine HS_pure (fun w_ => R_indexArr Try.underlying30 TRa.sz24 rfl rfl (by omega) (by omega)) rfl rfl ?_
  refine HS_loadB TRa.ag24 rfl hB (rkC_f hp hT (i := 0) (by decide)) rfl rfl ?_
  refine HS_pure (fun w_ => R_len Try.underlying24 rfl rfl) rfl rfl ?_
  refine HS_pure (fun w_ => R_move rfl) rfl rfl ?_
  refine HS_pure (fun w_ => R_nilCheck rfl) rfl rfl ?_
  refine HS_pure (fun w_ => R_fieldAddr TRa.fo58_0 rfl) rfl rfl ?_
  refine HS_pure (fun w_ => R_indexArr Try.underlying30 TRa.sz24 rfl rfl (by omega) (by omega)) rfl rfl ?_
  refine HS_loadB TRa.ag24 rfl hB (rkC_f hp hT (i := 1) (by decide)) rfl rfl ?_
  refine HS_pure (fun w_ => R_len Try.underlying24 rfl rfl) rfl rfl ?_
  refine HS_pure (fun w_ => R_add rfl rfl (wIc (n := ((R.F.getD 0 []).length) + ((R.F.getD 1 []).length)) (by omega) (by omega))) rfl rfl ?_
  refine HS_pure (fun w_ => R_move rfl) rfl rfl ?_
  refine HS_pure (fun w_ => R_nilCheck rfl) rfl rfl ?_
  refine HS_pure (fun w_ => R_fieldAddr TRa.fo58_0 rfl) rfl rfl ?_
  refine HS_pure (fun w_ => R_indexArr Try.underlying30 TRa.sz24 rfl rfl (by omega) (by omega)) rfl rfl ?_
  refine HS_loadB TRa.ag24 rfl hB (rkC_f hp hT (i := 2) (by decide)) rfl rfl ?_
  refine HS_pure (fun w_ => R_len Try.underlying24 rfl rfl) rfl rfl ?_
  refine HS_pure (fun w_ => R_add rfl rfl (wIc (n := (((R.F.getD 0 []).length) + ((R.F.getD 1 []).length)) + ((R.F.getD 2 []).length)) (by omega) (by omega))) rfl rfl ?_
  refine HS_pure (fun w_ => R_assign rfl) rfl rfl ?_
  refine HS_nil ?_
  clear hops3_
  refine then_n (hK2_ _ _ ?_)
  clear hK2_ K2_
  refine W_keepB [2] fun B4 hB4_ => ?_
  simp only [pickE, lookE, putE, zipE, args0, Nat.reduceAdd, Nat.zero_add, List.cons_append, List.nil_append, Nat.reduceBEq, cond_true, cond_false] at hB4_
  subst hB4_
  refine W_ret ?_
  refine ⟨_, ⟨_, _, rfl, rfl, rfl⟩, ?_⟩
  exact ⟨rfl, hF⟩
set_option maxHeartbeats 4000000 in
theorem rburn_any (B : Nat → Prop) (d : Nat) (R : Rk) (w : World) (hR : Rsk w B d R) : Calls Try.prog 41 #[.pointer (some ⟨d, 0, none⟩)] w fun e w2 => e = .returned (.tuple #[]) ∧ Rsk w2 B d R.burn ∧ Fr [d] w w2 := by
  obtain ⟨ps, hB, hp, hfil, hT, hus, hrm, hlf⟩ := hR
  have hF := Fr.refl [d] w
  refine calls_W 22 Try.func41 rfl Try.ntmps41 rfl [] rfl ?_
  refine W_seq_k fun K1_ hK1_ => ?_
  refine W_seq_k fun K2_ hK2_ => ?_
  refine W_region [some 2, some 3, some 4, some 5, some 6] rfl ?_
  refine Ops_step (R_move rfl) rfl rfl ?_
  refine Ops_step (R_nilCheck rfl) rfl rfl ?_
  refine Ops_step (R_fieldAddr TRa.fo58_3 rfl) rfl rfl ?_
  refine Ops_step (R_loadB TRa.ag3 rfl hB (rkC_5 hp hT)) rfl rfl ?_
  refine Ops_step (R_eql rfl rfl) rfl rfl ?_
  refine Ops_nil ?_
  refine then_n (hK2_ _ _ ?_)
  clear hK2_ K2_
  refine W_if rfl (fun hc6 => ?_) (fun hc6 => ?_)
  · have hDD : R.burn = R := by rw [Rk.burn, if_pos (by omega)]
    refine W_ret ?_
    refine then_ret ?_
    clear hK1_ K1_
    refine ⟨_, rfl, ?_⟩
    exact ⟨rfl, by rw [hDD]; exact ⟨ps, hB, hp, hfil, hT, hus, hrm, by first | exact hlf | (show R.fuse - 1 < 9223372036854775808; omega)⟩, hF⟩
  · have hfz : R.fuse ≠ 0 := by omega
    refine W_skip ?_
    refine then_n (hK1_ _ _ ?_)
    clear hK1_ K1_
    refine W_seq_k fun K3_ hK3_ => ?_
    refine W_region [some 7, some 8, some 9, some 10, some 11, some 12, some 13, none] rfl ?_
    refine Ops_step (R_move rfl) rfl rfl ?_
    refine Ops_step (R_nilCheck rfl) rfl rfl ?_
    refine Ops_step (R_fieldAddr TRa.fo58_3 rfl) rfl rfl ?_
    refine Ops_step (R_loadB TRa.ag3 rfl hB (rkC_5 hp hT)) rfl rfl ?_
    refine Ops_step (R_sub rfl rfl (wIc (n := R.fuse - 1) (by omega) (by omega))) rfl rfl ?_
    refine Ops_step (R_nilCheck rfl) rfl rfl ?_
    refine Ops_step (R_fieldAddr TRa.fo58_3 rfl) rfl rfl ?_
    have hT58 : ∃ cs, Blk _ d 58 cs := ⟨_, hB⟩
    refine Ops_to0 (R_store TRa.sz3 rfl rfl hB (by rw [rkC_len hp hT]; decide) rfl) rfl ?_
    clear hB
    rintro _ w4_ ⟨hB, hF4_⟩
    replace hF := hF.then hF4_ (by simp)
    replace hfil := hfil.fr hF4_ (one58 hT58)
    clear hF4_
    clear hT58
    replace hB := hB.to (rkC_s5 hp hT (R.fuse - 1))
    refine Ops_nil ?_
    refine then_n (hK3_ _ _ ?_)
    clear hK3_ K3_
    refine W_keepB [0] fun B5 hB5_ => ?_
    simp only [pickE, lookE, putE, zipE, args0, Nat.reduceAdd, Nat.zero_add, List.cons_append, List.nil_append, Nat.reduceBEq, cond_true, cond_false] at hB5_
    subst hB5_
    refine W_seq_k fun K6_ hK6_ => ?_
    refine W_region [some 14, some 15, some 16, some 17, some 18] rfl ?_
    refine Ops_step (R_move rfl) rfl rfl ?_
    refine Ops_step (R_nilCheck rfl) rfl rfl ?_
    refine Ops_step (R_fieldAddr TRa.fo58_3 rfl) rfl rfl ?_
    refine Ops_step (R_loadB TRa.ag3 rfl hB (rkC_5 hp hT)) rfl rfl ?_
    refine Ops_step (R_eql rfl rfl) rfl rfl ?_
    refine Ops_nil ?_
    refine then_n (hK6_ _ _ ?_)
    clear hK6_ K6_
    refine W_if rfl (fun hc18 => ?_) (fun hc18 => ?_)
    · have hDD : R.burn = { R with off := true, fuse := R.fuse - 1 } := by rw [Rk.burn, if_neg hfz, show (R.fuse == 1) = true by simp; omega, Bool.or_true]
      refine W_region [some 19, some 20, some 21, none] rfl ?_
      refine Ops_step (R_move rfl) rfl rfl ?_
      refine Ops_step (R_nilCheck rfl) rfl rfl ?_
      refine Ops_step (R_fieldAddr TRa.fo58_2 rfl) rfl rfl ?_
      have hT58 : ∃ cs, Blk _ d 58 cs := ⟨_, hB⟩
      refine Ops_to0 (R_store TRa.sz4 rfl rfl hB (by rw [rkC_len hp hT]; decide) rfl) rfl ?_
      clear hB
      rintro _ w7_ ⟨hB, hF7_⟩
      replace hF := hF.then hF7_ (by simp)
      replace hfil := hfil.fr hF7_ (one58 hT58)
      clear hF7_
      clear hT58
      replace hB := hB.to (rkC_s4 hp hT true)
      refine Ops_nil ?_
      refine ⟨_, rfl, ?_⟩
      exact ⟨rfl, by rw [hDD]; exact ⟨ps, hB, hp, hfil, hT, hus, hrm, by first | exact hlf | (show R.fuse - 1 < 9223372036854775808; omega)⟩, hF⟩
    · have hDD : R.burn = { R with off := R.off, fuse := R.fuse - 1 } := by rw [Rk.burn, if_neg hfz, show (R.fuse == 1) = false by simp; omega, Bool.or_false]
      refine W_skip ?_
      refine ⟨_, rfl, ?_⟩
      exact ⟨rfl, by rw [hDD]; exact ⟨ps, hB, hp, hfil, hT, hus, hrm, by first | exact hlf | (show R.fuse - 1 < 9223372036854775808; omega)⟩, hF⟩
set_option maxHeartbeats 4000000 in
theorem rcrash_any (B : Nat → Prop) (d : Nat) (R : Rk) (w : World) (hR : Rsk w B d R) : Calls Try.prog 26 #[.pointer (some ⟨d, 0, none⟩)] w fun e w2 => e = .returned (vi (R.crash).1) ∧ Rsk w2 B d (R.crash).2 ∧ Fr [d] w w2 := by
  obtain ⟨ps, hB, hp, hfil, hT, hus, hrm, hlf⟩ := hR
  have hF := Fr.refl [d] w
  refine calls_W 13 Try.func26 rfl Try.ntmps26 rfl [.tmp 2] rfl ?_
  refine W_seq_k fun K1_ hK1_ => ?_
  refine W_region [some 2] rfl ?_
  refine Ops_step (R_assign rfl) rfl rfl ?_
  refine Ops_nil ?_
  refine then_n (hK1_ _ _ ?_)
  clear hK1_ K1_
  refine W_seq_k fun K2_ hK2_ => ?_
  refine W_seq_k fun K3_ hK3_ => ?_
  refine W_region [some 3, some 4, some 5, some 6] rfl ?_
  refine Ops_step (R_move rfl) rfl rfl ?_
  refine Ops_step (R_nilCheck rfl) rfl rfl ?_
  refine Ops_step (R_fieldAddr TRa.fo58_2 rfl) rfl rfl ?_
  refine Ops_step (R_loadB TRa.ag4 rfl hB (rkC_4 hp hT)) rfl rfl ?_
  refine Ops_nil ?_
  refine then_n (hK3_ _ _ ?_)
  clear hK3_ K3_
  refine W_cond rfl (fun hc6 => ?_) (fun hc6 => ?_)
  · have hfin : R.crash = (50, R) := by rw [Rk.crash, if_pos hc6]
    refine W_seq_k fun K4_ hK4_ => ?_
    refine W_region [some 2] rfl ?_
    refine Ops_step (R_assign rfl) rfl rfl ?_
    refine Ops_nil ?_
    refine then_n (hK4_ _ _ ?_)
    clear hK4_ K4_
    refine W_ret ?_
    refine then_ret ?_
    clear hK2_ K2_
    refine ⟨_, ⟨_, _, rfl, rfl, rfl⟩, ?_⟩
    exact ⟨by rw [hfin]; rfl, by rw [hfin]; exact ⟨ps, hB, hp, hfil, hT, hus, hrm, by first | exact hlf | (show (0 : Nat) < 9223372036854775808; decide) | (show m < 9223372036854775808; omega)⟩, hF⟩
  · have hfin : R.crash = (0, { R with off := true, fuse := 0 }) := by rw [Rk.crash, hc6]; rfl
    refine W_skip ?_
    refine then_n (hK2_ _ _ ?_)
    clear hK2_ K2_
    refine W_seq_k fun K5_ hK5_ => ?_
    refine W_region [some 7, some 8, some 9, none] rfl ?_
    refine Ops_step (R_move rfl) rfl rfl ?_
    refine Ops_step (R_nilCheck rfl) rfl rfl ?_
    refine Ops_step (R_fieldAddr TRa.fo58_2 rfl) rfl rfl ?_
    have hT58 : ∃ cs, Blk _ d 58 cs := ⟨_, hB⟩
    refine Ops_to0 (R_store TRa.sz4 rfl rfl hB (by rw [rkC_len hp hT]; decide) rfl) rfl ?_
    clear hB
    rintro _ w6_ ⟨hB, hF6_⟩
    replace hF := hF.then hF6_ (by simp)
    replace hfil := hfil.fr hF6_ (one58 hT58)
    clear hF6_
    clear hT58
    replace hB := hB.to (rkC_s4 hp hT true)
    refine Ops_nil ?_
    refine then_n (hK5_ _ _ ?_)
    clear hK5_ K5_
    refine W_keepB [0] fun B7 hB7_ => ?_
    simp only [pickE, lookE, putE, zipE, args0, Nat.reduceAdd, Nat.zero_add, List.cons_append, List.nil_append, Nat.reduceBEq, cond_true, cond_false] at hB7_
    subst hB7_
    refine W_seq_k fun K8_ hK8_ => ?_
    refine W_region [some 10, some 11, some 12, none] rfl ?_
    refine Ops_step (R_move rfl) rfl rfl ?_
    refine Ops_step (R_nilCheck rfl) rfl rfl ?_
    refine Ops_step (R_fieldAddr TRa.fo58_3 rfl) rfl rfl ?_
    have hT58 : ∃ cs, Blk _ d 58 cs := ⟨_, hB⟩
    refine Ops_to0 (R_store TRa.sz3 rfl rfl hB (by rw [rkC_len hp hT]; decide) rfl) rfl ?_
    clear hB
    rintro _ w9_ ⟨hB, hF9_⟩
    replace hF := hF.then hF9_ (by simp)
    replace hfil := hfil.fr hF9_ (one58 hT58)
    clear hF9_
    clear hT58
    replace hB := hB.to (rkC_s5 hp hT 0)
    refine Ops_nil ?_
    refine then_n (hK8_ _ _ ?_)
    clear hK8_ K8_
    refine W_seq_k fun K10_ hK10_ => ?_
    refine W_region [some 2] rfl ?_
    refine Ops_step (R_assign rfl) rfl rfl ?_
    refine Ops_nil ?_
    refine then_n (hK10_ _ _ ?_)
    clear hK10_ K10_
    refine W_ret ?_
    refine ⟨_, ⟨_, _, rfl, rfl, rfl⟩, ?_⟩
    exact ⟨by rw [hfin]; rfl, by rw [hfin]; exact ⟨ps, hB, hp, hfil, hT, hus, hrm, by first | exact hlf | (show (0 : Nat) < 9223372036854775808; decide) | (show m < 9223372036854775808; omega)⟩, hF⟩
set_option maxHeartbeats 4000000 in
theorem rdisarm_any (B : Nat → Prop) (d : Nat) (R : Rk) (w : World) (hR : Rsk w B d R) : Calls Try.prog 28 #[.pointer (some ⟨d, 0, none⟩)] w fun e w2 => e = .returned (vi (R.disarm).1) ∧ Rsk w2 B d (R.disarm).2 ∧ Fr [d] w w2 := by
  obtain ⟨ps, hB, hp, hfil, hT, hus, hrm, hlf⟩ := hR
  have hF := Fr.refl [d] w
  refine calls_W 10 Try.func28 rfl Try.ntmps28 rfl [.tmp 2] rfl ?_
  refine W_seq_k fun K1_ hK1_ => ?_
  refine W_region [some 2] rfl ?_
  refine Ops_step (R_assign rfl) rfl rfl ?_
  refine Ops_nil ?_
  refine then_n (hK1_ _ _ ?_)
  clear hK1_ K1_
  refine W_seq_k fun K2_ hK2_ => ?_
  refine W_seq_k fun K3_ hK3_ => ?_
  refine W_region [some 3, some 4, some 5, some 6] rfl ?_
  refine Ops_step (R_move rfl) rfl rfl ?_
  refine Ops_step (R_nilCheck rfl) rfl rfl ?_
  refine Ops_step (R_fieldAddr TRa.fo58_2 rfl) rfl rfl ?_
  refine Ops_step (R_loadB TRa.ag4 rfl hB (rkC_4 hp hT)) rfl rfl ?_
  refine Ops_nil ?_
  refine then_n (hK3_ _ _ ?_)
  clear hK3_ K3_
  refine W_cond rfl (fun hc6 => ?_) (fun hc6 => ?_)
  · have hfin : R.disarm = (50, R) := by rw [Rk.disarm, if_pos hc6]
    refine W_seq_k fun K4_ hK4_ => ?_
    refine W_region [some 2] rfl ?_
    refine Ops_step (R_assign rfl) rfl rfl ?_
    refine Ops_nil ?_
    refine then_n (hK4_ _ _ ?_)
    clear hK4_ K4_
    refine W_ret ?_
    refine then_ret ?_
    clear hK2_ K2_
    refine ⟨_, ⟨_, _, rfl, rfl, rfl⟩, ?_⟩
    exact ⟨by rw [hfin]; rfl, by rw [hfin]; exact ⟨ps, hB, hp, hfil, hT, hus, hrm, by first | exact hlf | (show (0 : Nat) < 9223372036854775808; decide) | (show m < 9223372036854775808; omega)⟩, hF⟩
  · have hfin : R.disarm = (0, { R with fuse := 0 }) := by rw [Rk.disarm, hc6]; rfl
    refine W_skip ?_
    refine then_n (hK2_ _ _ ?_)
    clear hK2_ K2_
    refine W_seq_k fun K5_ hK5_ => ?_
    refine W_region [some 7, some 8, some 9, none] rfl ?_
    refine Ops_step (R_move rfl) rfl rfl ?_
    refine Ops_step (R_nilCheck rfl) rfl rfl ?_
    refine Ops_step (R_fieldAddr TRa.fo58_3 rfl) rfl rfl ?_
    have hT58 : ∃ cs, Blk _ d 58 cs := ⟨_, hB⟩
    refine Ops_to0 (R_store TRa.sz3 rfl rfl hB (by rw [rkC_len hp hT]; decide) rfl) rfl ?_
    clear hB
    rintro _ w6_ ⟨hB, hF6_⟩
    replace hF := hF.then hF6_ (by simp)
    replace hfil := hfil.fr hF6_ (one58 hT58)
    clear hF6_
    clear hT58
    replace hB := hB.to (rkC_s5 hp hT 0)
    refine Ops_nil ?_
    refine then_n (hK5_ _ _ ?_)
    clear hK5_ K5_
    refine W_keepB [] fun B7 hB7_ => ?_
    simp only [pickE, lookE, putE, zipE, args0, Nat.reduceAdd, Nat.zero_add, List.cons_append, List.nil_append, Nat.reduceBEq, cond_true, cond_false] at hB7_
    subst hB7_
    refine W_seq_k fun K8_ hK8_ => ?_
    refine W_region [some 2] rfl ?_
    refine Ops_step (R_assign rfl) rfl rfl ?_
    refine Ops_nil ?_
    refine then_n (hK8_ _ _ ?_)
    clear hK8_ K8_
    refine W_ret ?_
    refine ⟨_, ⟨_, _, rfl, rfl, rfl⟩, ?_⟩
    exact ⟨by rw [hfin]; rfl, by rw [hfin]; exact ⟨ps, hB, hp, hfil, hT, hus, hrm, by first | exact hlf | (show (0 : Nat) < 9223372036854775808; decide) | (show m < 9223372036854775808; omega)⟩, hF⟩
set_option maxHeartbeats 4000000 in
theorem rarm_any (B : Nat → Prop) (d : Nat) (R : Rk) (n : Int) (hn : n ≤ 9223372036854775807) (w : World) (hR : Rsk w B d R) : Calls Try.prog 27 #[.pointer (some ⟨d, 0, none⟩), vi n] w fun e w2 => e = .returned (vi (R.arm n).1) ∧ Rsk w2 B d (R.arm n).2 ∧ Fr [d] w w2 := by
  obtain ⟨ps, hB, hp, hfil, hT, hus, hrm, hlf⟩ := hR
  have hF := Fr.refl [d] w
  refine calls_W 15 Try.func27 rfl Try.ntmps27 rfl [.tmp 4] rfl ?_
  refine W_seq_k fun K1_ hK1_ => ?_
  refine W_region [some 4] rfl ?_
  refine Ops_step (R_assign rfl) rfl rfl ?_
  refine Ops_nil ?_
  refine then_n (hK1_ _ _ ?_)
  clear hK1_ K1_
  refine W_seq_k fun K2_ hK2_ => ?_
  refine W_seq_k fun K3_ hK3_ => ?_
  refine W_region [some 5, some 6, some 7, some 8] rfl ?_
  refine Ops_step (R_move rfl) rfl rfl ?_
  refine Ops_step (R_nilCheck rfl) rfl rfl ?_
  refine Ops_step (R_fieldAddr TRa.fo58_2 rfl) rfl rfl ?_
  refine Ops_step (R_loadB TRa.ag4 rfl hB (rkC_4 hp hT)) rfl rfl ?_
  refine Ops_nil ?_
  refine then_n (hK3_ _ _ ?_)
  clear hK3_ K3_
  refine W_cond rfl (fun hc8 => ?_) (fun hc8 => ?_)
  · have hfin : R.arm n = (50, R) := by rw [Rk.arm, if_pos hc8]
    refine W_seq_k fun K4_ hK4_ => ?_
    refine W_region [some 4] rfl ?_
    refine Ops_step (R_assign rfl) rfl rfl ?_
    refine Ops_nil ?_
    refine then_n (hK4_ _ _ ?_)
    clear hK4_ K4_
    refine W_keepB [4] fun B5 hB5_ => ?_
    simp only [pickE, lookE, putE, zipE, args0, Nat.reduceAdd, Nat.zero_add, List.cons_append, List.nil_append, Nat.reduceBEq, cond_true, cond_false] at hB5_
    subst hB5_
    refine W_ret ?_
    refine then_ret ?_
    clear hK2_ K2_
    refine ⟨_, ⟨_, _, rfl, rfl, rfl⟩, ?_⟩
    exact ⟨by rw [hfin]; rfl, by rw [hfin]; exact ⟨ps, hB, hp, hfil, hT, hus, hrm, by first | exact hlf | (show (0 : Nat) < 9223372036854775808; decide) | (show m < 9223372036854775808; omega)⟩, hF⟩
  · refine W_skip ?_
    refine then_n (hK2_ _ _ ?_)
    clear hK2_ K2_
    refine W_seq_k fun K6_ hK6_ => ?_
    refine W_seq_k fun K7_ hK7_ => ?_
    refine W_region [some 9, some 10] rfl ?_
    refine Ops_step (R_move rfl) rfl rfl ?_
    refine Ops_step (R_lss rfl rfl) rfl rfl ?_
    refine Ops_nil ?_
    refine then_n (hK7_ _ _ ?_)
    clear hK7_ K7_
    refine W_keepB [0, 1, 10] fun B8 hB8_ => ?_
    simp only [pickE, lookE, putE, zipE, args0, Nat.reduceAdd, Nat.zero_add, List.cons_append, List.nil_append, Nat.reduceBEq, cond_true, cond_false] at hB8_
    subst hB8_
    refine W_if rfl (fun hc10 => ?_) (fun hc10 => ?_)
    · have hfin : R.arm n = (1, R) := by rw [Rk.arm, hc8, if_neg (by simp), if_pos (by omega)]
      refine W_seq_k fun K9_ hK9_ => ?_
      refine W_region [some 4] rfl ?_
      refine Ops_step (R_assign rfl) rfl rfl ?_
      refine Ops_nil ?_
      refine then_n (hK9_ _ _ ?_)
      clear hK9_ K9_
      refine W_ret ?_
      refine then_ret ?_
      clear hK6_ K6_
      refine ⟨_, ⟨_, _, rfl, rfl, rfl⟩, ?_⟩
      exact ⟨by rw [hfin]; rfl, by rw [hfin]; exact ⟨ps, hB, hp, hfil, hT, hus, hrm, by first | exact hlf | (show (0 : Nat) < 9223372036854775808; decide) | (show m < 9223372036854775808; omega)⟩, hF⟩
    · refine W_skip ?_
      refine then_n (hK6_ _ _ ?_)
      clear hK6_ K6_
      refine W_seq_k fun K10_ hK10_ => ?_
      refine W_region [some 11, some 12, some 13, some 14, none] rfl ?_
      have hn1 : ¬ n < 1 := by omega
      obtain ⟨m, rfl⟩ := Int.eq_ofNat_of_zero_le (show 0 ≤ n by omega)
      have hfin : R.arm (m : Int) = (0, { R with fuse := m }) := by rw [Rk.arm, hc8, if_neg (by simp), if_neg hn1]; rfl
      refine Ops_step (R_move rfl) rfl rfl ?_
      refine Ops_step (R_move rfl) rfl rfl ?_
      refine Ops_step (R_nilCheck rfl) rfl rfl ?_
      refine Ops_step (R_fieldAddr TRa.fo58_3 rfl) rfl rfl ?_
      have hT58 : ∃ cs, Blk _ d 58 cs := ⟨_, hB⟩
      refine Ops_to0 (R_store TRa.sz3 rfl rfl hB (by rw [rkC_len hp hT]; decide) rfl) rfl ?_
      clear hB
      rintro _ w11_ ⟨hB, hF11_⟩
      replace hF := hF.then hF11_ (by simp)
      replace hfil := hfil.fr hF11_ (one58 hT58)
      clear hF11_
      clear hT58
      replace hB := hB.to (rkC_s5 hp hT m)
      refine Ops_nil ?_
      refine then_n (hK10_ _ _ ?_)
      clear hK10_ K10_
      refine W_keepB [] fun B12 hB12_ => ?_
      simp only [pickE, lookE, putE, zipE, args0, Nat.reduceAdd, Nat.zero_add, List.cons_append, List.nil_append, Nat.reduceBEq, cond_true, cond_false] at hB12_
      subst hB12_
      refine W_seq_k fun K13_ hK13_ => ?_
      refine W_region [some 4] rfl ?_
      refine Ops_step (R_assign rfl) rfl rfl ?_
      refine Ops_nil ?_
      refine then_n (hK13_ _ _ ?_)
      clear hK13_ K13_
      refine W_ret ?_
      refine ⟨_, ⟨_, _, rfl, rfl, rfl⟩, ?_⟩
      exact ⟨by rw [hfin]; rfl, by rw [hfin]; exact ⟨ps, hB, hp, hfil, hT, hus, hrm, by first | exact hlf | (show (0 : Nat) < 9223372036854775808; decide) | (show m < 9223372036854775808; omega)⟩, hF⟩

end Go.Proofs.Ytijckogioombdaa
