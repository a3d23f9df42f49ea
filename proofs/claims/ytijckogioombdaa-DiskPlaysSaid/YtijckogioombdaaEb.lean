/- What the walks of this seat show of Eb. -/
import Derived.Test.YtijckogioombdaaEa
import Derived.Test.YtijckogioombdaaProg
set_option linter.unusedVariables false
set_option linter.unusedSimpArgs false
namespace Go.Proofs.Ytijckogioombdaa
open Go Go.Sx
namespace TEb
theorem hm : Try.prog.follows .mixedOrders = true := by kernel_rfl
theorem ag24 : aggB Try.prog 24 = some false := by kernel_rfl
theorem ag3 : aggB Try.prog 3 = some false := by kernel_rfl
theorem bd19 : bodied Try.prog 19 = true := by kernel_rfl
theorem bd35 : bodied Try.prog 35 = true := by kernel_rfl
theorem bd36 : bodied Try.prog 36 = true := by kernel_rfl
theorem bd37 : bodied Try.prog 37 = true := by kernel_rfl
theorem el24 : Elem Try.prog 24 5 1 1 := Elem.of (by kernel_rfl)
theorem fo40_0 : offB Try.prog 40 0 = some 0 := by kernel_rfl
theorem fo40_1 : offB Try.prog 40 1 = some 3 := by kernel_rfl
theorem sz24 : sz Try.prog 24 = some 1 := by kernel_rfl
theorem sz5 : sz Try.prog 5 = some 1 := by kernel_rfl
end TEb
set_option maxHeartbeats 4000000 in
theorem append_any (B : Nat → Prop) (d : Nat) (D : Dk) (f : Int) (AB : Option Addr) (b : List UInt8) (bc : Nat) (w : World) (hD : Dsk w B d D) (hb : RdY w [d] AB b) (hbc : b.length ≤ bc) (hbl0 : b.length ≤ 9223372036854775807) (hS : ∀ i, w.heap.size ≤ i → B i) : Calls Try.prog 16 #[.pointer (some ⟨d, 0, none⟩), vi f, .slice AB b.length bc] w fun e w2 => e = .returned (vi (D.append f b).1) ∧ Dsk w2 B d (D.append f b).2 ∧ Fr [d] w w2 := by
  have hF := Fr.refl [d] w
  refine calls_W 55 Try.func16 rfl Try.ntmps16 rfl [.tmp 6] rfl ?_
  refine W_seq_k fun K1_ hK1_ => ?_
  refine W_region [some 6] rfl ?_
  refine Ops_step (R_assign rfl) rfl rfl ?_
  refine Ops_nil ?_
  refine then_n (hK1_ _ _ ?_)
  clear hK1_ K1_
  refine W_seq_k fun K2_ hK2_ => ?_
  refine W_region [some 10, some 11, some 12, some 7] rfl ?_
  refine Ops_step (R_move rfl) rfl rfl ?_
  refine Ops_step (R_move rfl) rfl rfl ?_
  refine Ops_call (C_func TEb.bd35 rfl) rfl rfl ?_
  refine (able_any _ _ _ f _ hD).mono ?_
  rintro _ wq12_ ⟨rfl, hq12_⟩
  replace hq12_ := hq12_.symm
  subst hq12_
  refine ⟨_, rfl, ?_⟩
  refine Ops_step (R_assign rfl) rfl rfl ?_
  refine Ops_nil ?_
  refine then_n (hK2_ _ _ ?_)
  clear hK2_ K2_
  refine W_seq_k fun K3_ hK3_ => ?_
  refine W_block ?_
  refine W_seq_k fun K4_ hK4_ => ?_
  refine W_region [some 14, some 15, some 13] rfl ?_
  refine Ops_step (R_move rfl) rfl rfl ?_
  refine Ops_step (R_neq rfl rfl) rfl rfl ?_
  refine Ops_step (R_assign rfl) rfl rfl ?_
  refine Ops_nil ?_
  refine then_n (hK4_ _ _ ?_)
  clear hK4_ K4_
  refine W_keepB [0, 1, 2, 7, 13] fun B5 hB5_ => ?_
  simp only [pickE, lookE, putE, zipE, args0, Nat.reduceAdd, Nat.zero_add, List.cons_append, List.nil_append, Nat.reduceBEq, cond_true, cond_false] at hB5_
  subst hB5_
  refine W_if rfl (fun hc13 => ?_) (fun hc13 => ?_)
  · have hfin : D.append f b = (D.able f, D) := by rw [Dk.append, if_pos (by omega)]
    refine W_seq_k fun K6_ hK6_ => ?_
    refine W_region [some 16, some 6] rfl ?_
    refine Ops_step (R_move rfl) rfl rfl ?_
    refine Ops_step (R_assign rfl) rfl rfl ?_
    refine Ops_nil ?_
    refine then_n (hK6_ _ _ ?_)
    clear hK6_ K6_
    refine W_keepB [6] fun B7 hB7_ => ?_
    simp only [pickE, lookE, putE, zipE, args0, Nat.reduceAdd, Nat.zero_add, List.cons_append, List.nil_append, Nat.reduceBEq, cond_true, cond_false] at hB7_
    subst hB7_
    refine W_ret ?_
    refine block_ret ?_
    refine then_ret ?_
    clear hK3_ K3_
    refine ⟨_, ⟨_, _, rfl, rfl, rfl⟩, ?_⟩
    exact ⟨by rw [hfin]; rfl, by rw [hfin]; exact hD, hF⟩
  · refine W_seq_k fun K8_ hK8_ => ?_
    refine W_drawF [some 18, some 19, some 20, some 21, some 22, some 23, some 24, some 25, some 26, some 27, some 17] [(0, true), (1, true), (2, true), (3, true), (4, true), (5, true), (6, true), (7, false), (8, true), (9, true), (10, true)] TEb.hm rfl (by kernel_rfl) fun ops9_ w9_ hops9_ hF9_ => ?_
    replace hF := hF.fr0 hF9_
    replace hb := hb.fr0 hF9_
    replace hD := hD.fr0 hF9_
    clear hF9_
    refine Exists.elim hD fun ps hDx => ?_
    have hB := hDx.1
    have hp := hDx.2.1
    have hd := hDx.2.2.1
    have hfil := Fils.mk hDx.2.2.2.1
    have hok := hDx.2.2.2.2
    have hT := hok.three
    have hus := hok.used
    have hrm := hok.room
    have hr1 := hok.one
    clear hDx
    refine HS_pure (fun w_ => R_move rfl) rfl rfl ?_
    refine HS_pure (fun w_ => R_len Try.underlying24 rfl rfl) rfl rfl ?_
    refine HS_pure (fun w_ => R_move rfl) rfl rfl ?_
    refine HS_pure (fun w_ => R_nilCheck rfl) rfl rfl ?_
    refine HS_pure (fun w_ => R_fieldAddr TEb.fo40_1 rfl) rfl rfl ?_
    refine HS_loadB TEb.ag3 rfl hB (dkC_3 hp hT) rfl rfl ?_
    refine HS_pure (fun w_ => R_move rfl) rfl rfl ?_
    refine HS_call [5] _ rfl (by rw [hops9_]; kernel_rfl) (C_func TEb.bd19 rfl) rfl rfl ?_
    refine (used_any _ _ _ _ hD).mono ?_
    rintro _ wq25_ ⟨rfl, hq25_⟩
    replace hq25_ := hq25_.symm
    subst hq25_
    refine ⟨_, rfl, ⟨(hB.at_ (dkC_3 hp hT)), trivial⟩, ?_⟩
    refine HS_pure (fun w_ => R_sub rfl rfl (wIc (n := D.room - D.used) (by omega) (by omega))) rfl rfl ?_
    refine HS_pure (fun w_ => R_gtr rfl rfl) rfl rfl ?_
    refine HS_pure (fun w_ => R_assign rfl) rfl rfl ?_
    refine HS_nil ?_
    clear hops9_
    refine then_n (hK8_ _ _ ?_)
    clear hK8_ K8_
    refine W_keepB [0, 1, 2, 17] fun B10 hB10_ => ?_
    simp only [pickE, lookE, putE, zipE, args0, Nat.reduceAdd, Nat.zero_add, List.cons_append, List.nil_append, Nat.reduceBEq, cond_true, cond_false] at hB10_
    subst hB10_
    refine W_if rfl (fun hc17 => ?_) (fun hc17 => ?_)
    · have hfin : D.append f b = (7, D) := by rw [Dk.append, if_neg (by omega), if_pos (by omega)]
      refine W_seq_k fun K11_ hK11_ => ?_
      refine W_region [some 6] rfl ?_
      refine Ops_step (R_assign rfl) rfl rfl ?_
      refine Ops_nil ?_
      refine then_n (hK11_ _ _ ?_)
      clear hK11_ K11_
      refine W_ret ?_
      refine block_ret ?_
      refine then_ret ?_
      clear hK3_ K3_
      refine ⟨_, ⟨_, _, rfl, rfl, rfl⟩, ?_⟩
      exact ⟨by rw [hfin]; rfl, by rw [hfin]; exact hD, hF⟩
    · refine W_skip ?_
      refine block_n ?_
      refine then_n (hK3_ _ _ ?_)
      clear hK3_ K3_
      refine W_seq_k fun K12_ hK12_ => ?_
      refine W_region [some 28, some 29, some 30, some 31, some 32, some 33, some 8] rfl ?_
      have hab : D.able f = 0 := by omega
      obtain ⟨i, rfl, hi3, hoff⟩ := able_zero hab
      have hbl : b.length ≤ D.room - D.used := by omega
      have hA := (hfil.2 i hi3).1
      have hcp := (hfil.2 i hi3).2
      clear hfil
      have hfin := append_put (D := D) (b := b) hi3 hoff (by omega)
      refine Ops_step (R_move rfl) rfl rfl ?_
      refine Ops_step (R_move rfl) rfl rfl ?_
      refine Ops_step (R_nilCheck rfl) rfl rfl ?_
      refine Ops_step (R_fieldAddr TEb.fo40_0 rfl) rfl rfl ?_
      refine Ops_step (R_indexArr Try.underlying30 TEb.sz24 rfl rfl (by omega) (by omega)) rfl rfl ?_
      refine Ops_step (R_loadB TEb.ag24 rfl hB (dkC_f hp hT hi3)) rfl rfl ?_
      refine Ops_step (R_assign rfl) rfl rfl ?_
      refine Ops_nil ?_
      refine then_n (hK12_ _ _ ?_)
      clear hK12_ K12_
      refine W_keepB [0, 1, 2, 8] fun B13 hB13_ => ?_
      simp only [pickE, lookE, putE, zipE, args0, Nat.reduceAdd, Nat.zero_add, List.cons_append, List.nil_append, Nat.reduceBEq, cond_true, cond_false] at hB13_
      subst hB13_
      refine W_seq_k fun K14_ hK14_ => ?_
      refine W_region [some 34, some 35, some 36, some 37, some 9] rfl ?_
      refine Ops_step (R_move rfl) rfl rfl ?_
      refine Ops_step (R_move rfl) rfl rfl ?_
      refine Ops_step (R_len Try.underlying24 rfl rfl) rfl rfl ?_
      have hfl := len_used hT hi3
      have hbn := burn_le D b.length
      have hT40 : ∃ cs, Blk _ d 40 cs := ⟨_, hB⟩
      clear hB
      refine Ops_call (C_func TEb.bd36 rfl) rfl rfl ?_
      refine (burn_any _ _ _ b.length _ (by omega) hD).mono ?_
      rintro _ w37_ ⟨rfl, hD, hF37_⟩
      replace hF := hF.then hF37_ (by simp)
      replace hb := hb.fr hF37_ trivial
      replace hA := hA.fr hF37_ (one40 hT40)
      clear hF37_
      refine ⟨_, rfl, ?_⟩
      clear hT40
      refine Ops_step (R_assign rfl) rfl rfl ?_
      refine Ops_nil ?_
      refine then_n (hK14_ _ _ ?_)
      clear hK14_ K14_
      refine W_seq_k fun K15_ hK15_ => ?_
      refine W_drawF [some 38, some 39, some 40, some 41, some 42, some 43, some 44, some 45, some 46, some 47, some 48, some 49, some 50, some 51, some 52, none] [(0, true), (1, true), (2, true), (3, true), (4, true), (5, true), (6, true), (7, true), (8, true), (9, true), (10, true), (12, true), (13, true), (11, false), (14, true), (15, false)] TEb.hm rfl (by kernel_rfl) fun ops16_ w16_ hops16_ hF16_ => ?_
      replace hF := hF.fr0 hF16_
      replace hb := hb.fr0 hF16_
      replace hD := hD.fr0 hF16_
      replace hA := hA.fr0 hF16_
      clear hF16_
      obtain ⟨ps2, hB, hp2, hd2, hfil, hok2⟩ := hD
      replace hfil := Fils.mk hfil
      have hT2 := hok2.three
      refine HS_pure (fun w_ => R_move rfl) rfl rfl ?_
      refine HS_pure (fun w_ => R_move rfl) rfl rfl ?_
      refine HS_pure (fun w_ => R_move rfl) rfl rfl ?_
      refine HS_pure (fun w_ => R_move rfl) rfl rfl ?_
      refine HS_pure (fun w_ => R_len Try.underlying24 rfl rfl) rfl rfl ?_
      refine HS_pure (fun w_ => R_move rfl) rfl rfl ?_
      refine HS_pure (fun w_ => R_len Try.underlying24 rfl rfl) rfl rfl ?_
      refine HS_pure (fun w_ => R_sliceTo (h := (D.F.getD i []).length) (m := (D.F.getD i []).length) Try.underlying24 TEb.sz5 rfl ⟨_, _, rfl, rfl⟩ ⟨_, _, rfl, rfl⟩ (by decide) (by omega) (by omega)) rfl rfl ?_
      refine HS_pure (fun w_ => R_move rfl) rfl rfl ?_
      refine HS_pure (fun w_ => R_move rfl) rfl rfl ?_
      refine HS_pure (fun w_ => R_sliceTo (h := D.burnN b.length) Try.underlying24 TEb.sz5 rfl ⟨_, _, rfl, rfl⟩ rfl (by decide) (by omega) (by omega)) rfl rfl ?_
      refine HS_pure (fun w_ => R_nilCheck rfl) rfl rfl ?_
      refine HS_pure (fun w_ => R_fieldAddr TEb.fo40_0 rfl) rfl rfl ?_
      refine HS_to [] _ rfl (by rw [hops16_]; kernel_rfl) (R_appendFil (B := B) TEb.el24 Try.underlying24 rfl rfl rfl (by rw [List.length_take]; omega) hA (hb.rd.takeB (D.burnN b.length)) (by rw [List.length_take]; omega) (fun i_ hi_ => hS i_ (Nat.le_trans hF.size hi_)) (by decide)) rfl rfl ?_
      rintro _ w49_ ⟨A49, c49, rfl, hA49, hc49, hF49_⟩
      replace hF := hF.fr0 hF49_
      replace hb := hb.fr0 hF49_
      replace hA := hA.fr0 hF49_
      replace hB := hB.fr0 hF49_
      replace hfil := hfil.fr0 hF49_
      clear hF49_
      refine ⟨trivial, ?_⟩
      refine HS_pure (fun w_ => R_indexArr Try.underlying30 TEb.sz24 rfl rfl (by omega) (by omega)) rfl rfl ?_
      have hT40 : ∃ cs, Blk _ d 40 cs := ⟨_, hB⟩
      refine HS_to0 [] _ rfl (by rw [hops16_]; kernel_rfl) (R_store TEb.sz24 rfl rfl hB (by rw [dkC_len hp2 hT2]; omega) rfl) rfl ?_
      clear hB
      rintro _ w17_ ⟨hB, hF17_⟩
      replace hF := hF.then hF17_ (by simp)
      replace hb := hb.fr hF17_ trivial
      replace hfil := hfil.fr hF17_ (one40 hT40)
      replace hA49 := hA49.fr hF17_ (one40 hT40)
      clear hF17_
      clear hT40
      replace hB := hB.to (dkC_sf hp2 hT2 hi3 _ _ _)
      replace hfil := hfil.put hp2 hT2 hi3 hA49 hc49
      have hD : Dsk _ B d ((D.burnD b.length).put i (D.F.getD i [] ++ b.take (D.burnN b.length))) := ⟨_, hB, by rw [List.length_set]; exact hp2, hd2, hfil.2, put_ok hok2 hi3 (by rw [burnD_room, burnD_F, burnD_used, List.length_append, List.length_take]; omega)⟩
      clear hB hfil hA49
      refine ⟨trivial, ?_⟩
      refine HS_nil ?_
      clear hops16_
      refine then_n (hK15_ _ _ ?_)
      clear hK15_ K15_
      refine W_keepB [0] fun B18 hB18_ => ?_
      simp only [pickE, lookE, putE, zipE, args0, Nat.reduceAdd, Nat.zero_add, List.cons_append, List.nil_append, Nat.reduceBEq, cond_true, cond_false] at hB18_
      subst hB18_
      refine W_seq_k fun K19_ hK19_ => ?_
      refine W_region [some 53, some 54, some 6] rfl ?_
      refine Ops_step (R_move rfl) rfl rfl ?_
      refine Ops_call (C_func TEb.bd37 rfl) rfl rfl ?_
      refine (done_any _ _ _ _ hD).mono ?_
      rintro _ wq54_ ⟨rfl, hq54_⟩
      replace hq54_ := hq54_.symm
      subst hq54_
      refine ⟨_, rfl, ?_⟩
      refine Ops_step (R_assign rfl) rfl rfl ?_
      refine Ops_nil ?_
      refine then_n (hK19_ _ _ ?_)
      clear hK19_ K19_
      refine W_ret ?_
      refine ⟨_, ⟨_, _, rfl, rfl, rfl⟩, ?_⟩
      exact ⟨by rw [hfin]; rfl, by rw [hfin]; exact hD, hF⟩

end Go.Proofs.Ytijckogioombdaa
