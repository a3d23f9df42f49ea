/- What the walks of this seat show of Rc. -/
import Derived.Test.YtijckogioombdaaRb
import Derived.Test.YtijckogioombdaaProg
set_option linter.unusedVariables false
set_option linter.unusedSimpArgs false
namespace Go.Proofs.Ytijckogioombdaa
open Go Go.Sx
namespace TRc
theorem hm : Try.prog.follows .mixedOrders = true := by kernel_rfl
theorem ag24 : aggB Try.prog 24 = some false := by kernel_rfl
theorem ag3 : aggB Try.prog 3 = some false := by kernel_rfl
theorem ag4 : aggB Try.prog 4 = some false := by kernel_rfl
theorem ag5 : aggB Try.prog 5 = some false := by kernel_rfl
theorem bd30 : bodied Try.prog 30 = true := by kernel_rfl
theorem bd40 : bodied Try.prog 40 = true := by kernel_rfl
theorem bd41 : bodied Try.prog 41 = true := by kernel_rfl
theorem el24 : Elem Try.prog 24 5 1 1 := Elem.of (by kernel_rfl)
theorem fo58_0 : offB Try.prog 58 0 = some 0 := by kernel_rfl
theorem fo58_1 : offB Try.prog 58 1 = some 3 := by kernel_rfl
theorem fo58_2 : offB Try.prog 58 2 = some 4 := by kernel_rfl
theorem sz24 : sz Try.prog 24 = some 1 := by kernel_rfl
theorem sz5 : sz Try.prog 5 = some 1 := by kernel_rfl
theorem zr5 : zr Try.prog 5 = some ([.int .u8 0]) := by kernel_rfl
end TRc
set_option maxHeartbeats 4000000 in
theorem rappend_any (B : Nat → Prop) (d : Nat) (R : Rk) (f : Int) (AB : Option Addr) (b : List UInt8) (bc : Nat) (w : World) (hR0 : Rsk w B d R) (hS : ∀ i, w.heap.size ≤ i → B i) (hb : RdY w [d] AB b) (hbl0 : b.length ≤ 140737488351232) : Calls Try.prog 29 #[.pointer (some ⟨d, 0, none⟩), vi f, .slice AB b.length bc] w fun e w2 => e = .returned (vi (R.append f b).1) ∧ Rsk w2 B d (R.append f b).2 ∧ Fr [d] w w2 := by
  have hF := Fr.refl [d] w
  have hdl := hR0.lt
  have hR : Rsk w (fun i => i < w.heap.size ∧ B i) d R := hR0.le fun i hi h => ⟨hi, h⟩
  clear hR0
  refine calls_W 62 Try.func29 rfl Try.ntmps29 rfl [.tmp 6] rfl ?_
  refine W_seq_k fun K1_ hK1_ => ?_
  refine W_region [some 6] rfl ?_
  refine Ops_step (R_assign rfl) rfl rfl ?_
  refine Ops_nil ?_
  refine then_n (hK1_ _ _ ?_)
  clear hK1_ K1_
  refine W_seq_k fun K2_ hK2_ => ?_
  refine W_seq_k fun K3_ hK3_ => ?_
  refine W_region [some 11, some 12, some 13, some 7] rfl ?_
  refine Ops_step (R_move rfl) rfl rfl ?_
  refine Ops_step (R_move rfl) rfl rfl ?_
  refine Ops_call (C_func TRc.bd40 rfl) rfl rfl ?_
  refine (rmay_any _ _ _ f _ hR).mono ?_
  rintro _ wq13_ ⟨rfl, hq13_⟩
  replace hq13_ := hq13_.symm
  subst hq13_
  refine ⟨_, rfl, ?_⟩
  refine Ops_step (R_assign rfl) rfl rfl ?_
  refine Ops_nil ?_
  refine then_n (hK3_ _ _ ?_)
  clear hK3_ K3_
  refine W_seq_k fun K4_ hK4_ => ?_
  refine W_region [some 14, some 15] rfl ?_
  refine Ops_step (R_move rfl) rfl rfl ?_
  refine Ops_step (R_neq rfl rfl) rfl rfl ?_
  refine Ops_nil ?_
  refine then_n (hK4_ _ _ ?_)
  clear hK4_ K4_
  refine W_if rfl (fun hc15 => ?_) (fun hc15 => ?_)
  · have hfin : R.append f b = (R.able f, R) := by rw [Rk.append, if_pos (by omega)]
    refine W_seq_k fun K5_ hK5_ => ?_
    refine W_region [some 16, some 6] rfl ?_
    refine Ops_step (R_move rfl) rfl rfl ?_
    refine Ops_step (R_assign rfl) rfl rfl ?_
    refine Ops_nil ?_
    refine then_n (hK5_ _ _ ?_)
    clear hK5_ K5_
    refine W_keepB [6] fun B6 hB6_ => ?_
    simp only [pickE, lookE, putE, zipE, args0, Nat.reduceAdd, Nat.zero_add, List.cons_append, List.nil_append, Nat.reduceBEq, cond_true, cond_false] at hB6_
    subst hB6_
    refine W_ret ?_
    refine then_ret ?_
    clear hK2_ K2_
    refine ⟨_, ⟨_, _, rfl, rfl, rfl⟩, ?_⟩
    first | exact ⟨by rw [hfin]; rfl, by rw [hfin]; exact hR.le fun _ _ h => h.2, hF⟩ | exact ⟨by rw [hfin]; show _ = Ending.returned (vi R2.done); rw [hdn]; rfl, by rw [hfin]; exact hR, hF⟩
  · refine W_skip ?_
    refine then_n (hK2_ _ _ ?_)
    clear hK2_ K2_
    refine W_keepB [0, 1, 2] fun B7 hB7_ => ?_
    simp only [pickE, lookE, putE, zipE, args0, Nat.reduceAdd, Nat.zero_add, List.cons_append, List.nil_append, Nat.reduceBEq, cond_true, cond_false] at hB7_
    subst hB7_
    refine W_seq_k fun K8_ hK8_ => ?_
    refine W_seq_k fun K9_ hK9_ => ?_
    refine W_drawF [some 17, some 18, some 19, some 20, some 21, some 22, some 23, some 24, some 25, some 26] [(0, true), (2, true), (3, true), (5, true), (6, true), (7, true), (8, true), (1, false), (4, true), (9, true)] TRc.hm rfl (by kernel_rfl) fun ops10_ w10_ hops10_ hF10_ => ?_
    replace hF := hF.fr0 hF10_
    replace hR := hR.fr0 hF10_
    clear hF10_
    refine Exists.elim hR fun ps hRx => ?_
    have hB := hRx.1
    have hp := hRx.2.1
    have hfil := hRx.2.2.1
    have hT := hRx.2.2.2.1
    have hus := hRx.2.2.2.2.1
    have hrm := hRx.2.2.2.2.2.1
    have hlf := hRx.2.2.2.2.2.2
    clear hRx
    have hRu := hR.rooms
    refine HS_pure (fun w_ => R_move rfl) rfl rfl ?_
    refine HS_pure (fun w_ => R_move rfl) rfl rfl ?_
    refine HS_pure (fun w_ => R_len Try.underlying24 rfl rfl) rfl rfl ?_
    refine HS_pure (fun w_ => R_move rfl) rfl rfl ?_
    refine HS_pure (fun w_ => R_nilCheck rfl) rfl rfl ?_
    refine HS_pure (fun w_ => R_fieldAddr TRc.fo58_1 rfl) rfl rfl ?_
    refine HS_loadB TRc.ag3 rfl hB (rkC_3 hp hT) rfl rfl ?_
    refine HS_call [8] _ rfl (by rw [hops10_]; kernel_rfl) (C_func TRc.bd30 rfl) rfl rfl ?_
    refine (rused_any _ _ _ _ hR).mono ?_
    rintro _ w18_ ⟨rfl, hF18_⟩
    replace hF := hF.fr0 hF18_
    replace hR := hR.fr0 hF18_
    replace hB := hB.fr0 hF18_
    clear hF18_
    refine ⟨_, rfl, ⟨(hB.at_ (rkC_3 hp hT)), trivial⟩, ?_⟩
    refine HS_pure (fun w_ => R_add rfl rfl (wI (by omega) (by omega))) rfl rfl ?_
    refine HS_pure (fun w_ => R_gtr rfl rfl) rfl rfl ?_
    refine HS_nil ?_
    clear hops10_
    refine then_n (hK9_ _ _ ?_)
    clear hK9_ K9_
    refine W_keepB [0, 1, 2, 26] fun B11 hB11_ => ?_
    simp only [pickE, lookE, putE, zipE, args0, Nat.reduceAdd, Nat.zero_add, List.cons_append, List.nil_append, Nat.reduceBEq, cond_true, cond_false] at hB11_
    subst hB11_
    refine W_if rfl (fun hc26 => ?_) (fun hc26 => ?_)
    · have hfin : R.append f b = (7, R) := by rw [Rk.append, if_neg (by omega), if_pos (by omega)]
      refine W_seq_k fun K12_ hK12_ => ?_
      refine W_region [some 6] rfl ?_
      refine Ops_step (R_assign rfl) rfl rfl ?_
      refine Ops_nil ?_
      refine then_n (hK12_ _ _ ?_)
      clear hK12_ K12_
      refine W_ret ?_
      refine then_ret ?_
      clear hK8_ K8_
      refine ⟨_, ⟨_, _, rfl, rfl, rfl⟩, ?_⟩
      first | exact ⟨by rw [hfin]; rfl, by rw [hfin]; exact hR.le fun _ _ h => h.2, hF⟩ | exact ⟨by rw [hfin]; show _ = Ending.returned (vi R2.done); rw [hdn]; rfl, by rw [hfin]; exact hR, hF⟩
    · refine W_skip ?_
      refine then_n (hK8_ _ _ ?_)
      clear hK8_ K8_
      refine W_seq_k fun K13_ hK13_ => ?_
      refine W_region [some 27, some 28, some 29, some 30, some 31, some 32, some 33, some 34, some 8] rfl ?_
      clear hB hp hfil hT hus hrm hlf
      have hab : R.able f = 0 := by omega
      obtain ⟨i0, rfl, hi3, hoff⟩ := rable_zero hab
      have hroom : R.used + b.length ≤ R.room := by omega
      refine Exists.elim hR fun ps hRx => ?_
      have hB := hRx.1
      have hp := hRx.2.1
      have hfil := hRx.2.2.1
      have hT := hRx.2.2.2.1
      have hus := hRx.2.2.2.2.1
      have hrm := hRx.2.2.2.2.2.1
      have hlf := hRx.2.2.2.2.2.2
      clear hRx
      have hfl := rlen_used (R := R) hi3
      have hz27_hF := hF.size
      have hn27_hR := hR.lt
      have hn27_hB := hB.lt
      refine Ops_to (R_buildSlice0 TRc.el24) rfl rfl ?_
      rintro _ w27_ ⟨b27, rfl, hb27, hB27, hF27_⟩
      have hl27 := hB27.lt
      have hQ27 := OwnB.empty (B := w.heap.size) (by omega) hB27
      clear hB27
      replace hF := hF.fr0 hF27_
      replace hR := hR.fr0 hF27_
      replace hB := hB.fr0 hF27_
      replace hfil := hfil.fr0 hF27_
      clear hF27_
      refine Ops_step (R_move rfl) rfl rfl ?_
      refine Ops_step (R_move rfl) rfl rfl ?_
      refine Ops_step (R_nilCheck rfl) rfl rfl ?_
      refine Ops_step (R_fieldAddr TRc.fo58_0 rfl) rfl rfl ?_
      refine Ops_step (R_indexArr Try.underlying30 TRc.sz24 rfl rfl (by omega) (by omega)) rfl rfl ?_
      refine Ops_step (R_loadB TRc.ag24 rfl hB (rkC_f hp hT hi3)) rfl rfl ?_
      have hof34 := hQ27.off
      refine Ops_to (R_appendB TRc.el24 Try.underlying24 rfl rfl rfl rfl hQ27 (hfil.2 i0 hi3).1.rd (by rw [List.length_nil]; omega) hF.size (by decide)) rfl rfl ?_
      clear hQ27 hB hfil
      rintro _ w34_ ⟨A34, c34, rfl, hQ, hF34_⟩
      replace hF := hF.then hF34_ (fun i_ hi_ hj_ => absurd (hof34 i_ hi_) (by omega))
      replace hR := hR.fr hF34_ (fun i_ hi_ => ⟨fun e_ => absurd (hof34 i_ hi_) (by omega), .inl fun h_ => absurd (hof34 i_ hi_) (Nat.not_le.2 h_.1)⟩)
      clear hF34_
      refine named (R.F.getD i0 []) fun F0 eF0 => ?_
      have hfl0 : F0.length ≤ R.used := by rw [eF0]; exact hfl
      replace hQ : OwnB w34_ w.heap.size 5 A34 c34 (F0 ++ []) := by rw [eF0, List.append_nil]; exact hQ
      rw [show (([] : List UInt8) ++ R.F.getD i0 []).length = (F0 ++ ([] : List UInt8)).length by rw [eF0, List.append_nil, List.nil_append]]
      refine Ops_step (R_assign rfl) rfl rfl ?_
      refine Ops_nil ?_
      refine then_n (hK13_ _ _ ?_)
      clear hK13_ K13_
      refine W_keepB [0, 1, 2, 8] fun B14 hB14_ => ?_
      simp only [pickE, lookE, putE, zipE, args0, Nat.reduceAdd, Nat.zero_add, List.cons_append, List.nil_append, Nat.reduceBEq, cond_true, cond_false] at hB14_
      subst hB14_
      refine W_seq_k fun K15_ hK15_ => ?_
      refine W_seq_k fun K16_ hK16_ => ?_
      refine W_region [some 35, some 36, some 37] rfl ?_
      refine Ops_step (R_move rfl) rfl rfl ?_
      refine Ops_step (R_len Try.underlying24 rfl rfl) rfl rfl ?_
      refine Ops_step (R_move rfl) rfl rfl ?_
      refine Ops_nil ?_
      refine then_n (hK16_ _ _ ?_)
      clear hK16_ K16_
      refine W_block ?_
      refine W_loopB [0, 1, 35, 36] [8, 37] (fun m vs w' => ∃ i A8 c8 acc Ri, i ≤ b.length ∧ m = b.length - i ∧ vs = [.slice A8 (F0 ++ acc).length c8, vi (i : Nat)] ∧ acc.length = i ∧ (R.eat b).1 = acc ++ (Rk.eat Ri (b.drop i)).1 ∧ (R.eat b).2 = (Rk.eat Ri (b.drop i)).2 ∧ Ri.F = R.F ∧ Ri.room = R.room ∧ OwnB w' w.heap.size 5 A8 c8 (F0 ++ acc) ∧ Rsk w' (fun i => i < w.heap.size ∧ B i) d Ri ∧ Fr [d] w w') (b.length) _ rfl (⟨0, A34, c34, [], R, by omega, rfl, rfl, rfl, rfl, rfl, rfl, rfl, hQ, hR, hF⟩) fun B17 hB17_ => ?_
      simp only [pickE, lookE, putE, zipE, args0, Nat.reduceAdd, Nat.zero_add, List.cons_append, List.nil_append, Nat.reduceBEq, cond_true, cond_false] at hB17_
      subst hB17_
      clear hQ hR hF
      rintro m_ vs_ w0_ ⟨i, A8, c8, acc, Ri, hi, rfl, rfl, hal, he1, he2, hRF, hRr, hQ, hR, hF⟩
      refine W_seq_k fun K18_ hK18_ => ?_
      refine W_region [some 38] rfl ?_
      refine Ops_step (R_lss rfl rfl) rfl rfl ?_
      refine Ops_nil ?_
      refine then_n (hK18_ _ _ ?_)
      clear hK18_ K18_
      refine W_seq_k fun K19_ hK19_ => ?_
      refine W_if rfl (fun hc38 => ?_) (fun hc38 => ?_)
      · have hi1 : i < b.length := by omega
        refine Exists.elim hR fun ps hRx => ?_
        have hB := hRx.1
        have hp := hRx.2.1
        have hfil := hRx.2.2.1
        have hT := hRx.2.2.2.1
        have hus := hRx.2.2.2.2.1
        have hrm := hRx.2.2.2.2.2.1
        have hlf := hRx.2.2.2.2.2.2
        clear hRx
        refine W_skip ?_
        refine then_n (hK19_ _ _ ?_)
        clear hK19_ K19_
        refine W_seq_k fun K20_ hK20_ => ?_
        refine W_block ?_
        refine W_seq_k fun K21_ hK21_ => ?_
        refine W_region [some 39, some 40, some 10] rfl ?_
        refine Ops_step (R_indexSl Try.underlying24 TRc.sz5 rfl rfl (by omega) (by omega) (Rd.some (hb.fr hF trivial).rd (by omega))) rfl rfl ?_
        refine Ops_step (R_load TRc.ag5 rfl (Rd.atB (hb.fr hF trivial).rd hi1)) rfl rfl ?_
        refine Ops_step (R_assign rfl) rfl rfl ?_
        refine Ops_nil ?_
        refine then_n (hK21_ _ _ ?_)
        clear hK21_ K21_
        refine W_seq_k fun K22_ hK22_ => ?_
        refine W_seq_k fun K23_ hK23_ => ?_
        refine W_region [some 41, some 42, some 43, some 44] rfl ?_
        refine Ops_step (R_move rfl) rfl rfl ?_
        refine Ops_step (R_nilCheck rfl) rfl rfl ?_
        refine Ops_step (R_fieldAddr TRc.fo58_2 rfl) rfl rfl ?_
        refine Ops_step (R_loadB TRc.ag4 rfl hB (rkC_4 hp hT)) rfl rfl ?_
        refine Ops_nil ?_
        refine then_n (hK23_ _ _ ?_)
        clear hK23_ K23_
        refine W_keepB [0, 1, 8, 10, 35, 36, 37, 44] fun B24 hB24_ => ?_
        simp only [pickE, lookE, putE, zipE, args0, Nat.reduceAdd, Nat.zero_add, List.cons_append, List.nil_append, Nat.reduceBEq, cond_true, cond_false] at hB24_
        subst hB24_
        refine W_cond rfl (fun hc44 => ?_) (fun hc44 => ?_)
        · rw [eat_stop (R := Ri) (l := b.drop i) (.inl hc44)] at he1 he2
          refine W_exit ?_
          refine then_exit ?_
          clear hK22_ K22_
          refine block_other rfl ?_
          refine then_exit ?_
          clear hK20_ K20_
          refine then_exit ?_
          refine block_exit ?_
          refine then_n (hK15_ _ _ ?_)
          clear hK15_ K15_
          refine W_seq_k fun K25_ hK25_ => ?_
          refine W_region [some 52, some 53, some 54, some 55, some 56, some 57, none] rfl ?_
          replace he1 : (R.eat b).1 = acc := by rw [he1]; simp
          replace he2 : (R.eat b).2 = Ri := he2
          have hu2 : Ri.used = R.used := by unfold Rk.used; rw [hRF]
          have hg2 : Ri.F.getD i0 [] = F0 := by rw [hRF, ← eF0]
          have hlap : (F0 ++ acc).length = F0.length + acc.length := List.length_append
          replace hR := hR.le (B' := B) fun _ _ h => h.2
          refine Exists.elim hR fun ps hRx => ?_
          have hB := hRx.1
          have hp := hRx.2.1
          have hfil := hRx.2.2.1
          have hT := hRx.2.2.2.1
          have hus := hRx.2.2.2.2.1
          have hrm := hRx.2.2.2.2.2.1
          have hlf := hRx.2.2.2.2.2.2
          clear hRx
          refine Ops_step (R_move rfl) rfl rfl ?_
          refine Ops_step (R_move rfl) rfl rfl ?_
          refine Ops_step (R_move rfl) rfl rfl ?_
          refine Ops_step (R_nilCheck rfl) rfl rfl ?_
          refine Ops_step (R_fieldAddr TRc.fo58_0 rfl) rfl rfl ?_
          refine Ops_step (R_indexArr Try.underlying30 TRc.sz24 rfl rfl (by omega) (by omega)) rfl rfl ?_
          have hof14 := hQ.off
          have hT58 : ∃ cs, Blk _ d 58 cs := ⟨_, hB⟩
          refine Ops_to0 (R_store TRc.sz24 rfl rfl hB (by rw [rkC_len hp hT]; omega) rfl) rfl ?_
          clear hB
          rintro _ w26_ ⟨hB, hF26_⟩
          replace hF := hF.then hF26_ (by simp)
          replace hQ := hQ.fr hF26_ (fun i_ hi_ hj_ => absurd (hof14 i_ hi_) (by rw [List.mem_singleton.1 hj_]; omega))
          replace hfil := hfil.fr hF26_ (one58 hT58)
          clear hF26_
          clear hT58 hR
          replace hB := hB.to (rkC_sf hp hT hi3 A8 c8 (F0 ++ acc))
          replace hfil := hfil.put hp hT hi3 (Fil.ofOwn hQ hS) (own_cap hQ)
          have hR : Rsk _ B d (Ri.put i0 (F0 ++ acc)) := ⟨_, hB, by rw [List.length_set]; exact hp, hfil, by show (Ri.F.set i0 _).length = 3; rw [List.length_set]; exact hT, rput_used2 hT hi3 (by rw [hg2]; omega), hrm, hlf⟩
          refine named (Ri.put i0 (F0 ++ acc)) fun R2 eR2 => ?_
          have hfin : R.append (i0 : Int) b = (R2.done, R2) := by
            rw [eR2, Rk.append, if_neg (by omega), if_neg (by omega)]
            simp only [Int.toNat_natCast, he1, he2, ← eF0]
          rw [← eR2] at hR
          clear hB hfil
          refine Ops_nil ?_
          refine then_n (hK25_ _ _ ?_)
          clear hK25_ K25_
          refine W_keepB [0] fun B27 hB27_ => ?_
          simp only [pickE, lookE, putE, zipE, args0, Nat.reduceAdd, Nat.zero_add, List.cons_append, List.nil_append, Nat.reduceBEq, cond_true, cond_false] at hB27_
          subst hB27_
          refine W_seq_k fun K28_ hK28_ => ?_
          refine W_seq_k fun K29_ hK29_ => ?_
          refine W_region [some 58, some 59, some 60, some 61] rfl ?_
          refine Exists.elim hR fun ps hRx => ?_
          have hB := hRx.1
          have hp := hRx.2.1
          have hfil := hRx.2.2.1
          have hT := hRx.2.2.2.1
          have hus := hRx.2.2.2.2.1
          have hrm := hRx.2.2.2.2.2.1
          have hlf := hRx.2.2.2.2.2.2
          clear hRx
          refine Ops_step (R_move rfl) rfl rfl ?_
          refine Ops_step (R_nilCheck rfl) rfl rfl ?_
          refine Ops_step (R_fieldAddr TRc.fo58_2 rfl) rfl rfl ?_
          refine Ops_step (R_loadB TRc.ag4 rfl hB (rkC_4 hp hT)) rfl rfl ?_
          refine Ops_nil ?_
          refine then_n (hK29_ _ _ ?_)
          clear hK29_ K29_
          refine W_cond rfl (fun hc61 => ?_) (fun hc61 => ?_)
          · have hdn : R2.done = 50 := by rw [Rk.done, if_pos hc61]
            refine W_seq_k fun K30_ hK30_ => ?_
            refine W_region [some 6] rfl ?_
            refine Ops_step (R_assign rfl) rfl rfl ?_
            refine Ops_nil ?_
            refine then_n (hK30_ _ _ ?_)
            clear hK30_ K30_
            refine W_ret ?_
            refine then_ret ?_
            clear hK28_ K28_
            refine ⟨_, ⟨_, _, rfl, rfl, rfl⟩, ?_⟩
            first | exact ⟨by rw [hfin]; rfl, by rw [hfin]; exact hR.le fun _ _ h => h.2, hF⟩ | exact ⟨by rw [hfin]; show _ = Ending.returned (vi R2.done); rw [hdn]; rfl, by rw [hfin]; exact hR, hF⟩
          · have hdn : R2.done = 0 := by rw [Rk.done, hc61]; rfl
            refine W_skip ?_
            refine then_n (hK28_ _ _ ?_)
            clear hK28_ K28_
            refine W_seq_k fun K31_ hK31_ => ?_
            refine W_region [some 6] rfl ?_
            refine Ops_step (R_assign rfl) rfl rfl ?_
            refine Ops_nil ?_
            refine then_n (hK31_ _ _ ?_)
            clear hK31_ K31_
            refine W_ret ?_
            refine ⟨_, ⟨_, _, rfl, rfl, rfl⟩, ?_⟩
            first | exact ⟨by rw [hfin]; rfl, by rw [hfin]; exact hR.le fun _ _ h => h.2, hF⟩ | exact ⟨by rw [hfin]; show _ = Ending.returned (vi R2.done); rw [hdn]; rfl, by rw [hfin]; exact hR, hF⟩
        · have hgo := eat_go (R := Ri) (i := i) hi1 hc44
          refine W_skip ?_
          refine then_n (hK22_ _ _ ?_)
          clear hK22_ K22_
          refine W_seq_k fun K32_ hK32_ => ?_
          refine W_region [some 45, some 46, some 47, some 48, some 8] rfl ?_
          clear hB
          refine Ops_step (R_move rfl) rfl rfl ?_
          refine Ops_step (R_move rfl) rfl rfl ?_
          have hz47_hF := hF.size
          have hn47_hR := hR.lt
          have hn47_hQ := hQ.lt
          refine Ops_to (R_buildSlice TRc.el24 TRc.zr5 (by decide) (by decide) rfl rfl) rfl rfl ?_
          rintro _ w47_ ⟨b47, rfl, hb47, hB47, hF47_⟩
          have hl47 := hB47.lt
          replace hF := hF.fr0 hF47_
          replace hR := hR.fr0 hF47_
          replace hQ := hQ.fr0 hF47_
          clear hF47_
          replace hB47 : Blk _ b47 5 ([b.getD i 0].map vb) := hB47
          have hof48 := hQ.off
          refine Ops_to (R_appendB TRc.el24 Try.underlying24 rfl rfl rfl rfl hQ (Rd.ofBlk0 hB47) (by rw [List.length_append, List.length_singleton]; omega) hF.size (by decide)) rfl rfl ?_
          clear hQ hB47
          rintro _ w48_ ⟨A48, c48, rfl, hQ, hF48_⟩
          replace hF := hF.then hF48_ (fun i_ hi_ hj_ => absurd (hof48 i_ hi_) (by omega))
          replace hR := hR.fr hF48_ (fun i_ hi_ => ⟨fun e_ => absurd (hof48 i_ hi_) (by omega), .inl fun h_ => absurd (hof48 i_ hi_) (Nat.not_le.2 h_.1)⟩)
          clear hF48_
          replace hQ : OwnB w48_ w.heap.size 5 A48 c48 (F0 ++ (acc ++ [b.getD i 0])) := by rw [← List.append_assoc]; exact hQ
          rw [show ((F0 ++ acc) ++ [b.getD i 0]).length = (F0 ++ (acc ++ [b.getD i 0])).length by rw [List.append_assoc]]
          refine Ops_step (R_assign rfl) rfl rfl ?_
          refine Ops_nil ?_
          refine then_n (hK32_ _ _ ?_)
          clear hK32_ K32_
          refine W_keepB [0, 1, 8, 35, 36, 37] fun B33 hB33_ => ?_
          simp only [pickE, lookE, putE, zipE, args0, Nat.reduceAdd, Nat.zero_add, List.cons_append, List.nil_append, Nat.reduceBEq, cond_true, cond_false] at hB33_
          subst hB33_
          refine W_region [some 49, some 50] rfl ?_
          refine Ops_step (R_move rfl) rfl rfl ?_
          have hofb := hQ.off
          refine Ops_call (C_func TRc.bd41 rfl) rfl rfl ?_
          refine (rburn_any _ _ _ _ hR).mono ?_
          rintro _ w50_ ⟨rfl, hR, hF50_⟩
          replace hF := hF.then hF50_ (by simp)
          replace hQ := hQ.fr hF50_ (fun i_ hi_ hj_ => absurd (hofb i_ hi_) (by rw [List.mem_singleton.1 hj_]; omega))
          clear hF50_
          refine ⟨_, rfl, ?_⟩
          refine Ops_nil ?_
          refine block_n ?_
          refine then_n (hK20_ _ _ ?_)
          clear hK20_ K20_
          refine W_region [some 51, some 37] rfl ?_
          refine Ops_step (R_add rfl rfl (wIc (n := i + 1) (by omega) (by omega))) rfl rfl ?_
          refine Ops_step (R_move rfl) rfl rfl ?_
          refine Ops_nil ?_
          exact ⟨b.length - (i + 1), _, by omega, rfl, ⟨i + 1, _, _, acc ++ [b.getD i 0], Ri.burn, by omega, rfl, rfl, by simp [hal], by rw [he1, hgo]; simp, by rw [he2, hgo], by rw [(burn_F Ri).1, hRF], by rw [(burn_F Ri).2, hRr], hQ, hR, hF⟩, ⟨rfl, rfl, rfl, rfl, trivial⟩⟩
      · have hil : i = b.length := by omega
        rw [eat_stop (R := Ri) (l := b.drop i) (.inr (by rw [hil, List.drop_length]))] at he1 he2
        refine W_exit ?_
        refine then_exit ?_
        clear hK19_ K19_
        refine then_exit ?_
        refine block_exit ?_
        refine then_n (hK15_ _ _ ?_)
        clear hK15_ K15_
        refine W_seq_k fun K34_ hK34_ => ?_
        refine W_region [some 52, some 53, some 54, some 55, some 56, some 57, none] rfl ?_
        replace he1 : (R.eat b).1 = acc := by rw [he1]; simp
        replace he2 : (R.eat b).2 = Ri := he2
        have hu2 : Ri.used = R.used := by unfold Rk.used; rw [hRF]
        have hg2 : Ri.F.getD i0 [] = F0 := by rw [hRF, ← eF0]
        have hlap : (F0 ++ acc).length = F0.length + acc.length := List.length_append
        replace hR := hR.le (B' := B) fun _ _ h => h.2
        refine Exists.elim hR fun ps hRx => ?_
        have hB := hRx.1
        have hp := hRx.2.1
        have hfil := hRx.2.2.1
        have hT := hRx.2.2.2.1
        have hus := hRx.2.2.2.2.1
        have hrm := hRx.2.2.2.2.2.1
        have hlf := hRx.2.2.2.2.2.2
        clear hRx
        refine Ops_step (R_move rfl) rfl rfl ?_
        refine Ops_step (R_move rfl) rfl rfl ?_
        refine Ops_step (R_move rfl) rfl rfl ?_
        refine Ops_step (R_nilCheck rfl) rfl rfl ?_
        refine Ops_step (R_fieldAddr TRc.fo58_0 rfl) rfl rfl ?_
        refine Ops_step (R_indexArr Try.underlying30 TRc.sz24 rfl rfl (by omega) (by omega)) rfl rfl ?_
        have hof14 := hQ.off
        have hT58 : ∃ cs, Blk _ d 58 cs := ⟨_, hB⟩
        refine Ops_to0 (R_store TRc.sz24 rfl rfl hB (by rw [rkC_len hp hT]; omega) rfl) rfl ?_
        clear hB
        rintro _ w35_ ⟨hB, hF35_⟩
        replace hF := hF.then hF35_ (by simp)
        replace hQ := hQ.fr hF35_ (fun i_ hi_ hj_ => absurd (hof14 i_ hi_) (by rw [List.mem_singleton.1 hj_]; omega))
        replace hfil := hfil.fr hF35_ (one58 hT58)
        clear hF35_
        clear hT58 hR
        replace hB := hB.to (rkC_sf hp hT hi3 A8 c8 (F0 ++ acc))
        replace hfil := hfil.put hp hT hi3 (Fil.ofOwn hQ hS) (own_cap hQ)
        have hR : Rsk _ B d (Ri.put i0 (F0 ++ acc)) := ⟨_, hB, by rw [List.length_set]; exact hp, hfil, by show (Ri.F.set i0 _).length = 3; rw [List.length_set]; exact hT, rput_used2 hT hi3 (by rw [hg2]; omega), hrm, hlf⟩
        refine named (Ri.put i0 (F0 ++ acc)) fun R2 eR2 => ?_
        have hfin : R.append (i0 : Int) b = (R2.done, R2) := by
          rw [eR2, Rk.append, if_neg (by omega), if_neg (by omega)]
          simp only [Int.toNat_natCast, he1, he2, ← eF0]
        rw [← eR2] at hR
        clear hB hfil
        refine Ops_nil ?_
        refine then_n (hK34_ _ _ ?_)
        clear hK34_ K34_
        refine W_keepB [0] fun B36 hB36_ => ?_
        simp only [pickE, lookE, putE, zipE, args0, Nat.reduceAdd, Nat.zero_add, List.cons_append, List.nil_append, Nat.reduceBEq, cond_true, cond_false] at hB36_
        subst hB36_
        refine W_seq_k fun K37_ hK37_ => ?_
        refine W_seq_k fun K38_ hK38_ => ?_
        refine W_region [some 58, some 59, some 60, some 61] rfl ?_
        refine Exists.elim hR fun ps hRx => ?_
        have hB := hRx.1
        have hp := hRx.2.1
        have hfil := hRx.2.2.1
        have hT := hRx.2.2.2.1
        have hus := hRx.2.2.2.2.1
        have hrm := hRx.2.2.2.2.2.1
        have hlf := hRx.2.2.2.2.2.2
        clear hRx
        refine Ops_step (R_move rfl) rfl rfl ?_
        refine Ops_step (R_nilCheck rfl) rfl rfl ?_
        refine Ops_step (R_fieldAddr TRc.fo58_2 rfl) rfl rfl ?_
        refine Ops_step (R_loadB TRc.ag4 rfl hB (rkC_4 hp hT)) rfl rfl ?_
        refine Ops_nil ?_
        refine then_n (hK38_ _ _ ?_)
        clear hK38_ K38_
        refine W_cond rfl (fun hc61 => ?_) (fun hc61 => ?_)
        · have hdn : R2.done = 50 := by rw [Rk.done, if_pos hc61]
          refine W_seq_k fun K39_ hK39_ => ?_
          refine W_region [some 6] rfl ?_
          refine Ops_step (R_assign rfl) rfl rfl ?_
          refine Ops_nil ?_
          refine then_n (hK39_ _ _ ?_)
          clear hK39_ K39_
          refine W_ret ?_
          refine then_ret ?_
          clear hK37_ K37_
          refine ⟨_, ⟨_, _, rfl, rfl, rfl⟩, ?_⟩
          first | exact ⟨by rw [hfin]; rfl, by rw [hfin]; exact hR.le fun _ _ h => h.2, hF⟩ | exact ⟨by rw [hfin]; show _ = Ending.returned (vi R2.done); rw [hdn]; rfl, by rw [hfin]; exact hR, hF⟩
        · have hdn : R2.done = 0 := by rw [Rk.done, hc61]; rfl
          refine W_skip ?_
          refine then_n (hK37_ _ _ ?_)
          clear hK37_ K37_
          refine W_seq_k fun K40_ hK40_ => ?_
          refine W_region [some 6] rfl ?_
          refine Ops_step (R_assign rfl) rfl rfl ?_
          refine Ops_nil ?_
          refine then_n (hK40_ _ _ ?_)
          clear hK40_ K40_
          refine W_ret ?_
          refine ⟨_, ⟨_, _, rfl, rfl, rfl⟩, ?_⟩
          first | exact ⟨by rw [hfin]; rfl, by rw [hfin]; exact hR.le fun _ _ h => h.2, hF⟩ | exact ⟨by rw [hfin]; show _ = Ending.returned (vi R2.done); rw [hdn]; rfl, by rw [hfin]; exact hR, hF⟩

end Go.Proofs.Ytijckogioombdaa
