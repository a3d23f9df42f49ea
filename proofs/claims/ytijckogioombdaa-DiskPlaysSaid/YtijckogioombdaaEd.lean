/- What the walks of this seat show of Ed. -/
import Derived.Test.YtijckogioombdaaEc
import Derived.Test.YtijckogioombdaaProg
set_option linter.unusedVariables false
set_option linter.unusedSimpArgs false
namespace Go.Proofs.Ytijckogioombdaa
open Go Go.Sx
namespace TEd
theorem hm : Try.prog.follows .mixedOrders = true := by kernel_rfl
theorem ag24 : aggB Try.prog 24 = some false := by kernel_rfl
theorem ag3 : aggB Try.prog 3 = some false := by kernel_rfl
theorem bd14 : bodied Try.prog 14 = true := by kernel_rfl
theorem bd15 : bodied Try.prog 15 = true := by kernel_rfl
theorem bd16 : bodied Try.prog 16 = true := by kernel_rfl
theorem bd34 : bodied Try.prog 34 = true := by kernel_rfl
theorem bd38 : bodied Try.prog 38 = true := by kernel_rfl
theorem bd39 : bodied Try.prog 39 = true := by kernel_rfl
theorem fo38_0 : offB Try.prog 38 0 = some 0 := by kernel_rfl
theorem fo38_1 : offB Try.prog 38 1 = some 1 := by kernel_rfl
theorem fo38_2 : offB Try.prog 38 2 = some 2 := by kernel_rfl
theorem fo38_3 : offB Try.prog 38 3 = some 3 := by kernel_rfl
end TEd
set_option maxHeartbeats 4000000 in
theorem does_any (B : Nat → Prop) (d : Nat) (D : Dk) (k : Do) (AB : Option Addr) (bc : Nat) (w : World) (hD : Dsk w B d D) (hb : RdY w [d] AB k.b) (hbc : k.b.length ≤ bc) (hbl : k.b.length ≤ 9223372036854775807) (hn : k.n ≤ 9223372036854775807) (hS : ∀ i, w.heap.size ≤ i → B i) : Calls Try.prog 18 #[.pointer (some ⟨d, 0, none⟩), .agg ([vi k.op, vi k.file, vi k.n, .slice AB k.b.length bc] : List Value).toArray] w fun e w2 => e = .returned (vi (D.does k).1) ∧ Dsk w2 B d (D.does k).2 ∧ Fr [d] w w2 := by
  have hF := Fr.refl [d] w
  refine calls_W 40 Try.func18 rfl Try.ntmps18 rfl [.tmp 4] rfl ?_
  refine W_seq_k fun K1_ hK1_ => ?_
  refine W_region [some 3, some 4] rfl ?_
  have hz3_hF := hF.size
  have hn3_hD := hD.lt
  refine Ops_to (R_box rfl) rfl rfl ?_
  rintro _ w3_ ⟨b3, rfl, hb3, hB3, hF3_⟩
  have hl3 := hB3.lt
  replace hF := hF.fr0 hF3_
  replace hD := hD.fr0 hF3_
  replace hb := hb.fr0 hF3_
  clear hF3_
  replace hB3 : Blk _ b3 38 [vi k.op, vi k.file, vi k.n, .slice AB k.b.length bc] := hB3
  refine Ops_step (R_assign rfl) rfl rfl ?_
  refine Ops_nil ?_
  refine then_n (hK1_ _ _ ?_)
  clear hK1_ K1_
  refine W_seq_k fun K2_ hK2_ => ?_
  refine W_seq_k fun K3_ hK3_ => ?_
  refine W_region [some 5, some 6, some 7, some 8, some 9] rfl ?_
  refine Ops_step (R_fieldAddr TEd.fo38_0 rfl) rfl rfl ?_
  refine Ops_step (R_loadB TEd.ag3 rfl hB3 rfl) rfl rfl ?_
  refine Ops_step (R_conv Try.underlying3 Try.underlying27 rfl (cI_64 _)) rfl rfl ?_
  refine Ops_step (R_rem rfl rfl (by decide) (remc _ 9)) rfl rfl ?_
  refine Ops_step (R_conv Try.underlying27 Try.underlying3 rfl (wI (by omega) (by omega))) rfl rfl ?_
  rw [show (((BitVec.ofInt 64 k.op).toNat % 9 : Nat) : Int) = ((opOf k.op : Nat) : Int) from rfl]
  refine Ops_nil ?_
  refine then_n (hK3_ _ _ ?_)
  clear hK3_ K3_
  refine W_keepB [0, 3, 9] fun B4 hB4_ => ?_
  simp only [pickE, lookE, putE, zipE, args0, Nat.reduceAdd, Nat.zero_add, List.cons_append, List.nil_append, Nat.reduceBEq, cond_true, cond_false] at hB4_
  subst hB4_
  refine W_block ?_
  refine W_seq_k fun K5_ hK5_ => ?_
  refine W_region [some 11, some 10] rfl ?_
  refine Ops_step (R_eql rfl rfl) rfl rfl ?_
  refine Ops_step (R_assign rfl) rfl rfl ?_
  refine Ops_nil ?_
  refine then_n (hK5_ _ _ ?_)
  clear hK5_ K5_
  refine W_if rfl (fun hc10 => ?_) (fun hc10 => ?_)
  · have hfin : D.does k = D.wipe k.file := by unfold Dk.does;  rw [if_pos (by omega)]
    refine W_seq_k fun K6_ hK6_ => ?_
    refine W_region [some 12, some 13, some 14, some 15, some 4] rfl ?_
    refine Ops_step (R_move rfl) rfl rfl ?_
    refine Ops_step (R_fieldAddr TEd.fo38_1 rfl) rfl rfl ?_
    refine Ops_step (R_loadB TEd.ag3 rfl hB3 rfl) rfl rfl ?_
    refine Ops_call (C_func TEd.bd38 rfl) rfl rfl ?_
    refine (wipe_any _ _ _ k.file _ hD).mono ?_
    rintro _ w15_ ⟨rfl, hD, hF15_⟩
    replace hF := hF.then hF15_ (by simp)
    replace hb := hb.fr hF15_ trivial
    replace hB3 := hB3.fr hF15_ (by simp only [List.mem_singleton]; omega)
    clear hF15_
    refine ⟨_, rfl, ?_⟩
    refine Ops_step (R_assign rfl) rfl rfl ?_
    refine Ops_nil ?_
    refine then_n (hK6_ _ _ ?_)
    clear hK6_ K6_
    refine W_keepB [4] fun B7 hB7_ => ?_
    simp only [pickE, lookE, putE, zipE, args0, Nat.reduceAdd, Nat.zero_add, List.cons_append, List.nil_append, Nat.reduceBEq, cond_true, cond_false] at hB7_
    subst hB7_
    refine W_ret ?_
    refine block_ret ?_
    refine then_ret ?_
    clear hK2_ K2_
    refine ⟨_, ⟨_, _, rfl, rfl, rfl⟩, ?_⟩
    exact ⟨by rw [hfin]; rfl, by rw [hfin]; exact hD, hF⟩
  · refine W_seq_k fun K8_ hK8_ => ?_
    refine W_region [some 17, some 16] rfl ?_
    refine Ops_step (R_eql rfl rfl) rfl rfl ?_
    refine Ops_step (R_assign rfl) rfl rfl ?_
    refine Ops_nil ?_
    refine then_n (hK8_ _ _ ?_)
    clear hK8_ K8_
    refine W_if rfl (fun hc16 => ?_) (fun hc16 => ?_)
    · have hfin : D.does k = D.crash := by unfold Dk.does; rw [if_neg (by omega)]; rw [if_pos (by omega)]
      refine W_seq_k fun K9_ hK9_ => ?_
      refine W_region [some 18, some 19, some 4] rfl ?_
      refine Ops_step (R_move rfl) rfl rfl ?_
      refine Ops_call (C_func TEd.bd39 rfl) rfl rfl ?_
      refine (crash_any _ _ _ _ hD).mono ?_
      rintro _ w19_ ⟨rfl, hD, hF19_⟩
      replace hF := hF.then hF19_ (by simp)
      replace hb := hb.fr hF19_ trivial
      replace hB3 := hB3.fr hF19_ (by simp only [List.mem_singleton]; omega)
      clear hF19_
      refine ⟨_, rfl, ?_⟩
      refine Ops_step (R_assign rfl) rfl rfl ?_
      refine Ops_nil ?_
      refine then_n (hK9_ _ _ ?_)
      clear hK9_ K9_
      refine W_keepB [4] fun B10 hB10_ => ?_
      simp only [pickE, lookE, putE, zipE, args0, Nat.reduceAdd, Nat.zero_add, List.cons_append, List.nil_append, Nat.reduceBEq, cond_true, cond_false] at hB10_
      subst hB10_
      refine W_ret ?_
      refine block_ret ?_
      refine then_ret ?_
      clear hK2_ K2_
      refine ⟨_, ⟨_, _, rfl, rfl, rfl⟩, ?_⟩
      exact ⟨by rw [hfin]; rfl, by rw [hfin]; exact hD, hF⟩
    · refine W_seq_k fun K11_ hK11_ => ?_
      refine W_region [some 21, some 20] rfl ?_
      refine Ops_step (R_eql rfl rfl) rfl rfl ?_
      refine Ops_step (R_assign rfl) rfl rfl ?_
      refine Ops_nil ?_
      refine then_n (hK11_ _ _ ?_)
      clear hK11_ K11_
      refine W_if rfl (fun hc20 => ?_) (fun hc20 => ?_)
      · have hfin : D.does k = D.start := by unfold Dk.does; rw [if_neg (by omega)]; rw [if_neg (by omega)]; rw [if_pos (by omega)]
        refine W_seq_k fun K12_ hK12_ => ?_
        refine W_region [some 22, some 23, some 4] rfl ?_
        refine Ops_step (R_move rfl) rfl rfl ?_
        refine Ops_call (C_func TEd.bd34 rfl) rfl rfl ?_
        refine (start_any _ _ _ _ hD).mono ?_
        rintro _ w23_ ⟨rfl, hD, hF23_⟩
        replace hF := hF.then hF23_ (by simp)
        replace hb := hb.fr hF23_ trivial
        replace hB3 := hB3.fr hF23_ (by simp only [List.mem_singleton]; omega)
        clear hF23_
        refine ⟨_, rfl, ?_⟩
        refine Ops_step (R_assign rfl) rfl rfl ?_
        refine Ops_nil ?_
        refine then_n (hK12_ _ _ ?_)
        clear hK12_ K12_
        refine W_keepB [4] fun B13 hB13_ => ?_
        simp only [pickE, lookE, putE, zipE, args0, Nat.reduceAdd, Nat.zero_add, List.cons_append, List.nil_append, Nat.reduceBEq, cond_true, cond_false] at hB13_
        subst hB13_
        refine W_ret ?_
        refine block_ret ?_
        refine then_ret ?_
        clear hK2_ K2_
        refine ⟨_, ⟨_, _, rfl, rfl, rfl⟩, ?_⟩
        exact ⟨by rw [hfin]; rfl, by rw [hfin]; exact hD, hF⟩
      · refine W_seq_k fun K14_ hK14_ => ?_
        refine W_region [some 25, some 24] rfl ?_
        refine Ops_step (R_eql rfl rfl) rfl rfl ?_
        refine Ops_step (R_assign rfl) rfl rfl ?_
        refine Ops_nil ?_
        refine then_n (hK14_ _ _ ?_)
        clear hK14_ K14_
        refine W_keepB [0, 3, 9, 24] fun B15 hB15_ => ?_
        simp only [pickE, lookE, putE, zipE, args0, Nat.reduceAdd, Nat.zero_add, List.cons_append, List.nil_append, Nat.reduceBEq, cond_true, cond_false] at hB15_
        subst hB15_
        refine W_if rfl (fun hc24 => ?_) (fun hc24 => ?_)
        · have hfin : D.does k = D.arm k.n := by unfold Dk.does; rw [if_neg (by omega)]; rw [if_neg (by omega)]; rw [if_neg (by omega)]; rw [if_pos (by omega)]
          refine W_seq_k fun K16_ hK16_ => ?_
          refine W_region [some 26, some 27, some 28, some 29, some 4] rfl ?_
          refine Ops_step (R_move rfl) rfl rfl ?_
          refine Ops_step (R_fieldAddr TEd.fo38_2 rfl) rfl rfl ?_
          refine Ops_step (R_loadB TEd.ag3 rfl hB3 rfl) rfl rfl ?_
          refine Ops_call (C_func TEd.bd15 rfl) rfl rfl ?_
          refine (arm_any _ _ _ k.n hn _ hD).mono ?_
          rintro _ w29_ ⟨rfl, hD, hF29_⟩
          replace hF := hF.then hF29_ (by simp)
          replace hb := hb.fr hF29_ trivial
          replace hB3 := hB3.fr hF29_ (by simp only [List.mem_singleton]; omega)
          clear hF29_
          refine ⟨_, rfl, ?_⟩
          refine Ops_step (R_assign rfl) rfl rfl ?_
          refine Ops_nil ?_
          refine then_n (hK16_ _ _ ?_)
          clear hK16_ K16_
          refine W_keepB [4] fun B17 hB17_ => ?_
          simp only [pickE, lookE, putE, zipE, args0, Nat.reduceAdd, Nat.zero_add, List.cons_append, List.nil_append, Nat.reduceBEq, cond_true, cond_false] at hB17_
          subst hB17_
          refine W_ret ?_
          refine block_ret ?_
          refine then_ret ?_
          clear hK2_ K2_
          refine ⟨_, ⟨_, _, rfl, rfl, rfl⟩, ?_⟩
          exact ⟨by rw [hfin]; rfl, by rw [hfin]; exact hD, hF⟩
        · refine W_seq_k fun K18_ hK18_ => ?_
          refine W_region [some 31, some 30] rfl ?_
          refine Ops_step (R_eql rfl rfl) rfl rfl ?_
          refine Ops_step (R_assign rfl) rfl rfl ?_
          refine Ops_nil ?_
          refine then_n (hK18_ _ _ ?_)
          clear hK18_ K18_
          refine W_if rfl (fun hc30 => ?_) (fun hc30 => ?_)
          · have hfin : D.does k = D.disarm := by unfold Dk.does; rw [if_neg (by omega)]; rw [if_neg (by omega)]; rw [if_neg (by omega)]; rw [if_neg (by omega)]; rw [if_pos (by omega)]
            refine W_seq_k fun K19_ hK19_ => ?_
            refine W_region [some 32, some 33, some 4] rfl ?_
            refine Ops_step (R_move rfl) rfl rfl ?_
            refine Ops_call (C_func TEd.bd14 rfl) rfl rfl ?_
            refine (disarm_any _ _ _ _ hD).mono ?_
            rintro _ w33_ ⟨rfl, hD, hF33_⟩
            replace hF := hF.then hF33_ (by simp)
            replace hb := hb.fr hF33_ trivial
            replace hB3 := hB3.fr hF33_ (by simp only [List.mem_singleton]; omega)
            clear hF33_
            refine ⟨_, rfl, ?_⟩
            refine Ops_step (R_assign rfl) rfl rfl ?_
            refine Ops_nil ?_
            refine then_n (hK19_ _ _ ?_)
            clear hK19_ K19_
            refine W_keepB [4] fun B20 hB20_ => ?_
            simp only [pickE, lookE, putE, zipE, args0, Nat.reduceAdd, Nat.zero_add, List.cons_append, List.nil_append, Nat.reduceBEq, cond_true, cond_false] at hB20_
            subst hB20_
            refine W_ret ?_
            refine block_ret ?_
            refine then_ret ?_
            clear hK2_ K2_
            refine ⟨_, ⟨_, _, rfl, rfl, rfl⟩, ?_⟩
            exact ⟨by rw [hfin]; rfl, by rw [hfin]; exact hD, hF⟩
          · have hfin : D.does k = D.append k.file k.b := by unfold Dk.does; rw [if_neg (by omega), if_neg (by omega), if_neg (by omega), if_neg (by omega), if_neg (by omega)]
            refine W_skip ?_
            refine block_n ?_
            refine then_n (hK2_ _ _ ?_)
            clear hK2_ K2_
            refine W_seq_k fun K21_ hK21_ => ?_
            refine W_region [some 34, some 35, some 36, some 37, some 38, some 39, some 4] rfl ?_
            refine Ops_step (R_move rfl) rfl rfl ?_
            refine Ops_step (R_fieldAddr TEd.fo38_1 rfl) rfl rfl ?_
            refine Ops_step (R_loadB TEd.ag3 rfl hB3 rfl) rfl rfl ?_
            refine Ops_step (R_fieldAddr TEd.fo38_3 rfl) rfl rfl ?_
            refine Ops_step (R_loadB TEd.ag24 rfl hB3 rfl) rfl rfl ?_
            refine Ops_call (C_func TEd.bd16 rfl) rfl rfl ?_
            refine (append_any _ _ _ k.file _ _ _ _ hD hb hbc hbl (fun i_ hi_ => hS i_ (Nat.le_trans hF.size hi_))).mono ?_
            rintro _ w39_ ⟨rfl, hD, hF39_⟩
            replace hF := hF.then hF39_ (by simp)
            replace hb := hb.fr hF39_ trivial
            replace hB3 := hB3.fr hF39_ (by simp only [List.mem_singleton]; omega)
            clear hF39_
            refine ⟨_, rfl, ?_⟩
            refine Ops_step (R_assign rfl) rfl rfl ?_
            refine Ops_nil ?_
            refine then_n (hK21_ _ _ ?_)
            clear hK21_ K21_
            refine W_keepB [4] fun B22 hB22_ => ?_
            simp only [pickE, lookE, putE, zipE, args0, Nat.reduceAdd, Nat.zero_add, List.cons_append, List.nil_append, Nat.reduceBEq, cond_true, cond_false] at hB22_
            subst hB22_
            refine W_ret ?_
            refine ⟨_, ⟨_, _, rfl, rfl, rfl⟩, ?_⟩
            exact ⟨by rw [hfin]; rfl, by rw [hfin]; exact hD, hF⟩

end Go.Proofs.Ytijckogioombdaa
