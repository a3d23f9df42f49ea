/- What is shown of the program on the way to the law. -/
import Derived.Test.YtkmljjhjojolcaaZp3
import Derived.Test.YtkmljjhjojolcaaZp4
import Derived.Test.YtkmljjhjojolcaaZp5
import Derived.Test.YtkmljjhjojolcaaZp9
import Derived.Test.YtkmljjhjojolcaaZp10
import Derived.Test.YtkmljjhjojolcaaZp11
import Derived.Test.YtkmljjhjojolcaaZp14
import Derived.Test.YtkmljjhjojolcaaZp15
import Derived.Test.YtkmljjhjojolcaaZp16
import Derived.Test.YtkmljjhjojolcaaZp18
import Derived.Test.YtkmljjhjojolcaaProg
set_option linter.unusedVariables false
set_option linter.unusedSimpArgs false
set_option maxHeartbeats 4000000
namespace Go.Proofs.Ytkmljjhjojolcaa
open Go Go.Sx Go.Lx
namespace TJmPlays
theorem hm : Try.prog.follows .mixedOrders = true := by kernel_rfl
theorem ag29 : aggB Try.prog 29 = some false := by kernel_rfl
theorem ag3 : aggB Try.prog 3 = some false := by kernel_rfl
theorem ag31 : aggB Try.prog 31 = some true := by kernel_rfl
theorem ag36 : aggB Try.prog 36 = some false := by kernel_rfl
theorem ag4 : aggB Try.prog 4 = some false := by kernel_rfl
theorem ag5 : aggB Try.prog 5 = some false := by kernel_rfl
theorem bd11 : bodied Try.prog 11 = true := by kernel_rfl
theorem bd12 : bodied Try.prog 12 = true := by kernel_rfl
theorem bd14 : bodied Try.prog 14 = true := by kernel_rfl
theorem bd15 : bodied Try.prog 15 = true := by kernel_rfl
theorem bd16 : bodied Try.prog 16 = true := by kernel_rfl
theorem bd17 : bodied Try.prog 17 = true := by kernel_rfl
theorem bd20 : bodied Try.prog 20 = true := by kernel_rfl
theorem bd21 : bodied Try.prog 21 = true := by kernel_rfl
theorem bd22 : bodied Try.prog 22 = true := by kernel_rfl
theorem bd23 : bodied Try.prog 23 = true := by kernel_rfl
theorem bd24 : bodied Try.prog 24 = true := by kernel_rfl
theorem bd25 : bodied Try.prog 25 = true := by kernel_rfl
theorem bd28 : bodied Try.prog 28 = true := by kernel_rfl
theorem bd29 : bodied Try.prog 29 = true := by kernel_rfl
theorem bd32 : bodied Try.prog 32 = true := by kernel_rfl
theorem bd33 : bodied Try.prog 33 = true := by kernel_rfl
theorem bd34 : bodied Try.prog 34 = true := by kernel_rfl
theorem bd35 : bodied Try.prog 35 = true := by kernel_rfl
theorem bd36 : bodied Try.prog 36 = true := by kernel_rfl
theorem bd37 : bodied Try.prog 37 = true := by kernel_rfl
theorem bd38 : bodied Try.prog 38 = true := by kernel_rfl
theorem fo31_0 : offB Try.prog 31 0 = some 0 := by kernel_rfl
theorem fo31_1 : offB Try.prog 31 1 = some 1 := by kernel_rfl
theorem fo31_2 : offB Try.prog 31 2 = some 2 := by kernel_rfl
theorem fo31_3 : offB Try.prog 31 3 = some 3 := by kernel_rfl
theorem fo73_0 : offB Try.prog 73 0 = some 0 := by kernel_rfl
theorem fo81_2 : offB Try.prog 81 2 = some 4 := by kernel_rfl
theorem sz31 : sz Try.prog 31 = some 4 := by kernel_rfl
theorem sz4 : sz Try.prog 4 = some 1 := by kernel_rfl
theorem sz5 : sz Try.prog 5 = some 1 := by kernel_rfl
theorem zr31 : zr Try.prog 31 = some ([.int .i64 0] ++ [.int .i64 0] ++ [.int .i64 0] ++ [.slice none 0 0]) := by kernel_rfl
end TJmPlays
open TJmPlays
theorem sealskinlaw06_JournalPlays_ok {G : Gh} {w : World} (hS : St G w) (hg : GL G) {x0 : Int} {A1 : Option Addr} {c1 : Nat} {x1 : List sealskinlaw06_Do} (hc1 : x1.length ≤ c1) (hs1 : Sl G A1 x1) {Q : Bool → Prop} (h : sealskinlaw06_JournalPlays x0 x1 Q) : Calls Try.prog 10 #[vi x0, .slice A1 x1.length c1] w fun e w2 => ∃ (r0 : Bool) (L H : Gh), e = .returned (.bool r0) ∧ Inv [] G w L H w2 ∧ Q r0 := by
 unfold sealskinlaw06_JournalPlays at h
 have hI := Inv.start (M := []) hS
 refine calls_W 179 Try.func10 rfl Try.ntmps10 rfl [.tmp 4] rfl ?_
 refine W_seq_k fun K1 k1 => ?_
 refine W_region [4] rfl (Ops_step (R_assign rfl) rfl rfl ?_)
 refine Ops_nil ?_
 refine then_n (k1 _ _ ?_)
 clear k1 K1
 refine W_seq_k fun K2 k2 => ?_
 refine W_seq_k fun K3 k3 => ?_
 refine W_region [17, 18, 19] rfl (Ops_step (R_move rfl) rfl rfl ?_)
 refine Ops_call (C_func bd11 rfl) rfl rfl ?_
 refine (sealskinlaw06_short_ok (x0 := x1) hI.st (hg.up hI.le) hc1 hs1 h).mono ?_
 rintro _ aq8 ⟨apb, aq9, ara, rfl, air, h⟩
 refine Exists.elim (hI.call air (by simp)) fun apc aj5 => ?_
 have apd := hI.size
 replace hI := aj5.1
 have aml := aj5.2.1
 have akn := aj5.2.2
 clear aj5
 replace hs1 := hs1.up aml.hh
 clear air aml akn
 refine ⟨_, rfl, ?_⟩
 refine Ops_step (R_not rfl) rfl rfl ?_
 refine Ops_nil ?_
 refine then_n (k3 _ _ ?_)
 clear k3 K3
 refine W_cond rfl (fun ae4 => ?_) (fun ae4 => ?_)
 ·
  replace h := h.1 ae4
  refine W_seq_k fun K6 k6 => ?_
  refine W_region [20, 4] rfl ?_
  refine Ops_call (C_func bd12 rfl) rfl rfl ?_
  refine (sealskinlaw06_awake_ok  hI.st (hg.up hI.le)  h).mono ?_
  rintro _ arb ⟨ako, arc, ard, rfl, ais, h⟩
  refine Exists.elim (hI.call ais (by simp)) fun ape aj6 => ?_
  have apf := hI.size
  replace hI := aj6.1
  have apg := aj6.2.1
  have akp := aj6.2.2
  clear aj6
  clear ais apg akp
  refine ⟨_, rfl, ?_⟩
  refine Ops_step (R_assign rfl) rfl rfl ?_
  refine Ops_nil ?_
  refine then_n (k6 _ _ ?_)
  clear k6 K6
  refine W_keepB [4] fun B_ b_ => ?_
  simp only [e_, Nat.reduceAdd, Nat.reduceBEq] at b_
  subst b_
  refine W_ret ?_
  refine then_ret ?_
  clear k2 K2
  refine ⟨_, ⟨_, _, rfl, rfl, rfl⟩, ?_⟩
  exact ⟨ako, _, _, rfl, hI, h⟩
 ·
  replace h := h.2 ae4
  refine W_skip ?_
  refine then_n (k2 _ _ ?_)
  clear k2 K2
  refine W_seq_k fun K9 k9 => ?_
  refine W_region [21, 22, 23, 24, 25, 0] rfl (Ops_step (R_move rfl) rfl rfl (Ops_step (R_conv Try.underlying3 Try.underlying59 rfl (cI_64 _)) rfl rfl (Ops_step (R_rem rfl rfl (by decide) (rem64 (BitVec.ofInt 64 x0) (4194304#64))) rfl rfl ?_)))
  have ait := h.1
  replace h := h.2
  refine Ops_step (R_conv Try.underlying59 Try.underlying3 rfl (c64_I _ ait)) rfl rfl ?_
  have ada := h.1
  replace h := h.2
  refine Ops_step (R_add rfl rfl (wI ada.1 ada.2)) rfl rfl (Ops_step (R_assign rfl) rfl rfl ?_)
  refine Ops_nil ?_
  refine then_n (k9 _ _ ?_)
  clear k9 K9
  refine W_keepB [0, 1] fun B_ b_ => ?_
  simp only [e_, Nat.reduceAdd, Nat.reduceBEq] at b_
  subst b_
  refine W_seq_k fun K13 k13 => ?_
  refine W_region [27, 28, 26, 29, 30, 5, 6] rfl (Ops_step (R_move rfl) rfl rfl ?_)
  refine Ops_call (C_func bd24 rfl) rfl rfl ?_
  refine (disk_New_ok (x0 := (1 + (((BitVec.ofInt 64 x0) % (4194304#64)).toNat : Int))) hI.st (hg.up hI.le)  h).mono ?_
  rintro _ aph (⟨akq, amm, amn, rfl, akr, h⟩ | ⟨ae5, ce, ace, ahs, aht, ahu, ahv, ahw, ahx, amo, amp, rfl, x7, cl, jp, t5, fv, t6, fw, t7, fx, h⟩)
  ·
   exact h.elim
  ·
   have adb := cl
   replace cl := Nat.le_trans hI.size cl
   refine Exists.elim (hI.call x7 (by simp)) fun L14b0_ vp => ?_
   have aks := hI.size
   replace hI := vp.1
   have adc := vp.2.1
   have ae6 := vp.2.2
   clear vp
   replace hs1 := hs1.up adc.hh
   clear x7 adc ae6
   refine ⟨_, rfl, ?_⟩
   refine Ops_step (R_move rfl) rfl rfl ?_
   refine Ops_step (R_extract (v := .pointer (some ⟨ce, 0, none⟩)) rfl rfl) rfl rfl ?_
   refine Ops_step (R_extract (v := vi ae5) rfl rfl) rfl rfl ?_
   refine Ops_step (R_assign rfl) rfl rfl (Ops_step (R_assign rfl) rfl rfl ?_)
   refine Ops_nil ?_
   refine then_n (k13 _ _ ?_)
   clear k13 K13
   refine W_keepB [0, 1, 5] fun B_ b_ => ?_
   simp only [e_, Nat.reduceAdd, Nat.reduceBEq] at b_
   subst b_
   refine W_seq_k fun K16 k16 => ?_
   refine W_region [32, 33, 31, 34, 35, 7, 8] rfl (Ops_step (R_move rfl) rfl rfl ?_)
   refine Ops_call (C_func bd25 rfl) rfl rfl ?_
   refine (sealskinref05_New_ok (x0 := (1 + (((BitVec.ofInt 64 x0) % (4194304#64)).toNat : Int))) hI.st (hg.up hI.le)  h).mono ?_
   rintro _ api (⟨akt, amq, amr, rfl, aku, h⟩ | ⟨ae7, cd, vq, ahy, ahz, ah0, ah1, ah2, ah3, ams, amt, rfl, x8, cm, c8, oy, db, oz, dc, o4, dd, h⟩)
   ·
    exact h.elim
   ·
    have ade := cm
    replace cm := Nat.le_trans hI.size cm
    refine Exists.elim (hI.call x8 (by simp)) fun L17b0_ vr => ?_
    have akv := hI.size
    replace hI := vr.1
    have rb := vr.2.1
    have ae8 := vr.2.2
    clear vr
    replace hs1 := hs1.up rb.hh
    replace jp := jp.up rb (by simp)
    replace fv := fv.up rb.hh
    replace fw := fw.up rb.hh
    replace fx := fx.up rb.hh
    clear x8 rb ae8
    refine ⟨_, rfl, ?_⟩
    refine Ops_step (R_move rfl) rfl rfl ?_
    refine Ops_step (R_extract (v := .pointer (some ⟨cd, 0, none⟩)) rfl rfl) rfl rfl ?_
    refine Ops_step (R_extract (v := vi ae7) rfl rfl) rfl rfl ?_
    refine Ops_step (R_assign rfl) rfl rfl (Ops_step (R_assign rfl) rfl rfl ?_)
    refine Ops_nil ?_
    refine then_n (k16 _ _ ?_)
    clear k16 K16
    refine W_keepB [1, 5, 7] fun B_ b_ => ?_
    simp only [e_, Nat.reduceAdd, Nat.reduceBEq] at b_
    subst b_
    refine W_seq_k fun K19 k19 => ?_
    refine W_region [37, 38, 36, 39, 40, 9, 10] rfl (Ops_step (R_move rfl) rfl rfl ?_)
    refine Ops_call (C_func bd20 rfl) rfl rfl ?_
    refine (journal_Open_ok (z0 := ace) hI.st (hg.up hI.le) jp t5 fv t6 fw t7 fx h).mono ?_
    rintro _ apj (⟨ae9, dy, rc, re, rf, rg, rh, ri, amu, amv, rfl, x9, cu, afa, gp, afb, gq, afc, gr, h⟩ | ⟨afd, j3, rj, rk, rl, rm, rn, ro, t8, oo, rp, rq, t9, vt, amw, amx, rfl, ya, iu, ua, jq, ub, jr, uc, js, lp, iv, ud, jt, lq, iw, h⟩)
    ·
     refine Exists.elim (hI.call x9 (new1 cl)) fun L20a0_ vu => ?_
     have akw := hI.size
     replace hI := vu.1
     have ng := vu.2.1
     have afe := vu.2.2
     clear vu
     replace hs1 := hs1.up ng.hh
     replace fv := fv.up ng.hh
     replace fw := fw.up ng.hh
     replace fx := fx.up ng.hh
     replace c8 := c8.up ng (c8.apart jp (by decide))
     replace db := db.up ng.hh
     replace dc := dc.up ng.hh
     replace dd := dd.up ng.hh
     clear jp
     clear x9 ng afe
     refine ⟨_, rfl, ?_⟩
     refine Ops_step (R_move rfl) rfl rfl ?_
     refine Ops_step (R_extract (v := .pointer none) rfl rfl) rfl rfl ?_
     refine Ops_step (R_extract (v := vi ae9) rfl rfl) rfl rfl ?_
     refine Ops_step (R_assign rfl) rfl rfl (Ops_step (R_assign rfl) rfl rfl ?_)
     refine Ops_nil ?_
     refine then_n (k19 _ _ ?_)
     clear k19 K19
     refine W_seq_k fun K21 k21 => ?_
     refine W_region [42, 43, 41, 44, 45, 11, 12] rfl (Ops_step (R_move rfl) rfl rfl ?_)
     refine Ops_call (C_func bd28 rfl) rfl rfl ?_
     refine (sealskinref06_Open_ok (z0 := vq) hI.st (hg.up hI.le) c8 oy db oz dc o4 dd h).mono ?_
     rintro _ apk (⟨aff, fm, rr, rt, ru, rv, rx, ry, amy, adf, rfl, yb, dx, afg, lr, afh, ls, afi, lu, h⟩ | ⟨akx, aj7, ah4, ah5, ah6, ah7, ah8, ah9, aky, aj8, aia, aib, amz, am0, rfl, akz, aiu, afj, afk, afl, afm, afn, afo, afp, aiv, afq, afr, h⟩)
     ·
      refine Exists.elim (hI.call yb (new1 cm)) fun L22a0_ vv => ?_
      have ak0 := hI.size
      replace hI := vv.1
      have nh := vv.2.1
      have afs := vv.2.2
      clear vv
      replace hs1 := hs1.up nh.hh
      replace db := db.up nh.hh
      replace dc := dc.up nh.hh
      replace dd := dd.up nh.hh
      replace cu := cu.up nh (cu.apart c8 (by decide))
      replace gp := gp.up nh.hh
      replace gq := gq.up nh.hh
      replace gr := gr.up nh.hh
      clear c8
      clear yb nh afs
      refine ⟨_, rfl, ?_⟩
      refine Ops_step (R_move rfl) rfl rfl ?_
      refine Ops_step (R_extract (v := .pointer none) rfl rfl) rfl rfl ?_
      refine Ops_step (R_extract (v := vi aff) rfl rfl) rfl rfl ?_
      refine Ops_step (R_assign rfl) rfl rfl (Ops_step (R_assign rfl) rfl rfl ?_)
      refine Ops_nil ?_
      refine then_n (k21 _ _ ?_)
      clear k21 K21
      refine W_keepB [1, 5, 7, 9, 10, 11, 12] fun B_ b_ => ?_
      simp only [e_, Nat.reduceAdd, Nat.reduceBEq] at b_
      subst b_
      refine W_seq_k fun K24 k24 => ?_
      refine ex_ h fun ak1 yc h => ?_
      refine W_seq_join [1, 5, 7, 9, 11] [55] (fun vals_ w2 => ∃ (sf : Bool) (L H : Gh), vals_ = [.bool sf] ∧ ak1 sf ∧ Inv [] G w L H w2 ∧ Le L22a0_ L ∧ Le adf H ∧ Tok H w2 ce 53 ([.slice rc dy.files_.e0_.length re, .slice rf dy.files_.e1_.length rg, .slice rh dy.files_.e2_.length ri, vi dy.room_, .bool dy.off_, .bool dy.armed_, vi dy.left_]) ∧ Tok H w2 cd 81 ([.slice rr fm.F_.e0_.length rt, .slice ru fm.F_.e1_.length rv, .slice rx fm.F_.e2_.length ry, vi fm.Room_, .bool fm.Off_, vi fm.Fuse_]) ∧ True) (fun B_ b_ => ?_) (fun B_ b_ => ?_)
      ·
       simp only [e_, Nat.reduceAdd, Nat.reduceBEq] at b_
       subst b_
       clear yc
       have ue := Le.refl L22a0_
       have j8 := Le.refl adf
       refine W_region [46, 47, 48, 49, 50, 51, 52, 53, 54, 55] rfl (Ops_step (R_move rfl) rfl rfl (Ops_step (R_move rfl) rfl rfl (Ops_step (R_neq rfl rfl) rfl rfl (Ops_step (R_move rfl) rfl rfl ?_))))
       refine Ops_split 49 rfl (fun yd => ?_) (fun yd => ?_)
       ·
        replace h := h.1 yd
        refine Ops_pass rfl rfl (Ops_pass rfl rfl (Ops_pass rfl rfl (Ops_pass rfl rfl (Ops_pass rfl rfl ?_))))
        refine Ops_step (R_pick_true rfl rfl) rfl rfl ?_
        refine Ops_nil ?_
        refine then_n ?_
        exact ⟨_, rfl, ⟨true, _, _, rfl, h, hI, ue, j8, cu, dx, trivial⟩, ⟨rfl, rfl, rfl, rfl, rfl, trivial⟩⟩
       ·
        replace h := h.2 yd
        refine Ops_step (R_move rfl) rfl rfl (Ops_step (R_ptrNil Try.underlying26 rfl rfl) rfl rfl (Ops_step (R_move rfl) rfl rfl (Ops_step (R_ptrNil Try.underlying68 rfl rfl) rfl rfl (Ops_step (R_boolNe Try.underlying4 rfl rfl) rfl rfl ?_))))
        refine Ops_step (R_pick_false rfl rfl) rfl rfl ?_
        refine Ops_nil ?_
        refine then_n ?_
        exact ⟨_, rfl, ⟨(!(true == true)), _, _, rfl, h, hI, ue, j8, cu, dx, trivial⟩, ⟨rfl, rfl, rfl, rfl, rfl, trivial⟩⟩
      ·
       simp only [e_, Nat.reduceAdd, Nat.reduceBEq] at b_
       subst b_
       clear h
       clear cu
       clear dx
       rintro _ apl ⟨sf, aft, afu, rfl, adg, adh, ue, j8, cu, dx, -⟩
       replace hI := adh
       clear adh
       have h := yc sf adg
       clear yc adg
       replace hs1 := hs1.up j8
       replace gp := gp.up j8
       replace gq := gq.up j8
       replace gr := gr.up j8
       replace lr := lr.up j8
       replace ls := ls.up j8
       replace lu := lu.up j8
       refine W_cond rfl (fun ye => ?_) (fun ye => ?_)
       ·
        replace h := h.1 ye
        refine W_seq_k fun K28 k28 => ?_
        refine W_region [4] rfl (Ops_step (R_assign rfl) rfl rfl ?_)
        refine Ops_nil ?_
        refine then_n (k28 _ _ ?_)
        clear k28 K28
        refine W_keepB [4] fun B_ b_ => ?_
        simp only [e_, Nat.reduceAdd, Nat.reduceBEq] at b_
        subst b_
        refine W_ret ?_
        refine then_ret ?_
        clear k24 K24
        refine ⟨_, ⟨_, _, rfl, rfl, rfl⟩, ?_⟩
        exact ⟨false, _, _, rfl, hI, h⟩
       ·
        replace h := h.2 ye
        refine W_skip ?_
        refine then_n (k24 _ _ ?_)
        clear k24 K24
        refine ex_ h fun ak2 yf h => ?_
        refine W_seq_join [] [] (fun vals_ w2 => ∃  (L H : Gh), vals_ = [] ∧ ak2 ∧ Inv [] G w L H w2 ∧ Le aft L ∧ Le afu H ∧ True) (fun B_ b_ => ?_) (fun B_ b_ => ?_)
        ·
         simp only [e_, Nat.reduceAdd, Nat.reduceBEq] at b_
         subst b_
         clear yf
         have n0 := Le.refl aft
         have n2 := Le.refl afu
         refine W_seq_k fun K31 k31 => ?_
         refine W_region [56, 57, 58] rfl (Ops_step (R_move rfl) rfl rfl (Ops_step (R_len Try.underlying22 rfl rfl) rfl rfl (Ops_step (R_move rfl) rfl rfl ?_)))
         refine Ops_nil ?_
         refine then_n (k31 _ _ ?_)
         clear k31 K31
         refine W_block ?_
         refine Exists.elim h fun ak3 h => Exists.elim h fun ak4 h => ?_
         have adi := h.1
         have adj := h.2
         clear h
         refine W_loopB [5, 7, 56, 57] [9, 11, 58] (fun m vals_ w2 => ∃ (sg : Int) (L H : Gh), vals_ = [.pointer none, .pointer none, vi sg] ∧ ak3 m sg ∧ Inv [] G w L H w2 ∧ Le aft L ∧ Le afu H ∧ Tok H w2 ce 53 ([.slice rc dy.files_.e0_.length re, .slice rf dy.files_.e1_.length rg, .slice rh dy.files_.e2_.length ri, vi dy.room_, .bool dy.off_, .bool dy.armed_, vi dy.left_]) ∧ Tok H w2 cd 81 ([.slice rr fm.F_.e0_.length rt, .slice ru fm.F_.e1_.length rv, .slice rx fm.F_.e2_.length ry, vi fm.Room_, .bool fm.Off_, vi fm.Fuse_]) ∧ True) ak4 _ rfl ⟨0, _, _, rfl, adi, hI, Le.refl _, Le.refl _, cu, dx, trivial⟩ fun B_ b_ => ?_
         clear adi
         simp only [e_, Nat.reduceAdd, Nat.reduceBEq] at b_
         subst b_
         clear cu
         clear dx
         rintro ak5 _ apm ⟨sg, apn, aiw, rfl, adk, adl, uf, j9, cu, dx, -⟩
         replace hI := adl
         clear adl
         have h := adj ak5 sg adk
         clear adj adk
         replace hs1 := hs1.up j9
         replace gp := gp.up j9
         replace gq := gq.up j9
         replace gr := gr.up j9
         replace lr := lr.up j9
         replace ls := ls.up j9
         replace lu := lu.up j9
         replace n0 := n0.trans uf
         replace n2 := n2.trans j9
         refine W_seq_k fun K33 k33 => ?_
         refine W_region [59] rfl (Ops_step (R_lss rfl rfl) rfl rfl ?_)
         refine Ops_nil ?_
         refine then_n (k33 _ _ ?_)
         clear k33 K33
         refine W_seq_k fun K34 k34 => ?_
         refine W_if rfl (fun yg => ?_) (fun yg => ?_)
         ·
          replace h := h.1 yg
          refine W_skip ?_
          refine then_n (k34 _ _ ?_)
          clear k34 K34
          refine W_seq_k fun K36 k36 => ?_
          refine W_block ?_
          refine W_seq_k fun K37 k37 => ?_
          refine W_region [60, 61, 14, none] rfl ?_
          refine ex_ h fun s6 vw h => ?_
          have aix := (Sl.atN (n := 4) rfl (by decide) hs1 vw).1
          refine Exists.elim (Sl.atN (n := 4) rfl (by decide) hs1 vw).2 fun apo yh => ?_
          have aiy := yh.1
          have aiz := yh.2
          clear yh
          refine Ops_step (R_indexSl Try.underlying22 sz31 rfl rfl vw.1 vw.lt aix) rfl rfl ?_
          obtain ⟨adm, adn, rfl, ⟨ak6, ak7⟩⟩ := aiy
          refine Ops_step (R_loadCs (cs := [vi s6.Op_, vi s6.Label_, vi s6.N_, .slice adm s6.B_.length adn]) ag31 sz31 rfl (fun j_ v_ hv_ => hI.st _ _ (aiz j_ v_ hv_))) rfl rfl ?_
          have o5 := hI
          refine Ops_to (R_alloc zr31) rfl rfl ?_
          rintro _ apq ⟨afv, rfl, yi, ado, vx⟩
          replace hI := hI.fr0 vx
          replace cu := cu.fr0 vx
          replace dx := dx.fr0 vx
          have rz : Tok aiw _ afv 31 ([vi 0, vi 0, vi 0, .slice none 0 0]) := ⟨ado.to rfl, Out.ge o5.st (Nat.le_of_eq yi.symm)⟩
          have yj : w.heap.size ≤ afv := yi ▸ o5.size
          clear ado yi o5 vx
          refine Ops_to0 (R_storeN sz31 rfl rfl rfl rz.blk (Nat.le_of_ble_eq_true rfl) rfl) rfl ?_
          rintro _ apr ⟨adp, vy⟩
          replace hI := hI.tok vy (out1 rz.out) (new1 yj)
          replace cu := cu.fr vy (cu.apart rz (by decide))
          replace dx := dx.fr vy (dx.apart rz (by decide))
          replace rz : Tok aiw _ afv 31 ([vi s6.Op_, vi s6.Label_, vi s6.N_, .slice adm s6.B_.length adn]) := ⟨adp, rz.out⟩
          clear vy adp
          refine Ops_nil ?_
          refine then_n (k37 _ _ ?_)
          clear k37 K37
          refine W_seq_k fun K41 k41 => ?_
          refine W_seq_k fun K42 k42 => ?_
          refine W_region [62, 63] rfl (Ops_step (R_move rfl) rfl rfl (Ops_step (R_ptrNil Try.underlying68 rfl rfl) rfl rfl ?_))
          refine Ops_nil ?_
          refine then_n (k42 _ _ ?_)
          clear k42 K42
          refine W_cond_true rfl ?_
          refine W_seq_k fun K43 k43 => ?_
          refine W_region [64, 4] rfl ?_
          refine Ops_call (C_func bd12 rfl) rfl rfl ?_
          refine (sealskinlaw06_awake_ok  hI.st (hg.up hI.le)  h).mono ?_
          rintro _ aps ⟨ai0, apt, apu, rfl, adq, h⟩
          refine Exists.elim (hI.call adq (by simp)) fun am1 acf => ?_
          have am2 := hI.size
          replace hI := acf.1
          have yk := acf.2.1
          have ai1 := acf.2.2
          clear acf
          replace n0 := n0.trans yk.ll
          replace n2 := n2.trans yk.hh
          replace uf := uf.trans yk.ll
          replace j9 := j9.trans yk.hh
          clear adq yk ai1
          refine ⟨_, rfl, ?_⟩
          refine Ops_step (R_assign rfl) rfl rfl ?_
          refine Ops_nil ?_
          refine then_n (k43 _ _ ?_)
          clear k43 K43
          refine W_keepB [4] fun B_ b_ => ?_
          simp only [e_, Nat.reduceAdd, Nat.reduceBEq] at b_
          subst b_
          refine W_ret ?_
          refine then_ret ?_
          clear k41 K41
          refine block_ret ?_
          refine then_ret ?_
          clear k36 K36
          refine then_ret ?_
          refine block_ret ?_
          refine then_ret ?_
          refine ⟨_, ⟨_, _, rfl, rfl, rfl⟩, ?_⟩
          exact ⟨ai0, _, _, rfl, hI, h⟩
         ·
          replace h := h.2 yg
          refine W_exit ?_
          refine then_exit ?_
          clear k34 K34
          refine then_exit ?_
          refine block_exit ?_
          refine then_n ?_
          exact ⟨_, rfl, ⟨_, _, rfl, h, hI, n0, n2, trivial⟩, trivial⟩
        ·
         simp only [e_, Nat.reduceAdd, Nat.reduceBEq] at b_
         subst b_
         clear h
         rintro _ apv ⟨apw, apx, rfl, ads, adt, n0, n2, -⟩
         replace hI := adt
         clear adt
         have h := yf ads
         clear yf ads
         refine W_seq_k fun K46 k46 => ?_
         refine W_region [178, 4] rfl ?_
         refine Ops_call (C_func bd12 rfl) rfl rfl ?_
         refine (sealskinlaw06_awake_ok  hI.st (hg.up hI.le)  h).mono ?_
         rintro _ apy ⟨ai2, apz, ap0, rfl, adu, h⟩
         refine Exists.elim (hI.call adu (by simp)) fun am3 acg => ?_
         have am4 := hI.size
         replace hI := acg.1
         have ak8 := acg.2.1
         have ai3 := acg.2.2
         clear acg
         clear adu ak8 ai3
         refine ⟨_, rfl, ?_⟩
         refine Ops_step (R_assign rfl) rfl rfl ?_
         refine Ops_nil ?_
         refine then_n (k46 _ _ ?_)
         clear k46 K46
         refine W_ret ?_
         refine ⟨_, ⟨_, _, rfl, rfl, rfl⟩, ?_⟩
         exact ⟨ai2, _, _, rfl, hI, h⟩
     ·
      exact h.elim
    ·
     have adv := lp
     replace lp := Nat.le_trans hI.size lp
     have adw := lq
     replace lq := Nat.le_trans hI.size lq
     refine Exists.elim (hI.call ya (new1 cl)) fun L20b0_ vz => ?_
     have ak9 := hI.size
     replace hI := vz.1
     have ni := vz.2.1
     have afw := vz.2.2
     clear vz
     replace hs1 := hs1.up ni.hh
     replace fv := fv.up ni.hh
     replace fw := fw.up ni.hh
     replace fx := fx.up ni.hh
     replace c8 := c8.up ni (c8.apart jp (by decide))
     replace db := db.up ni.hh
     replace dc := dc.up ni.hh
     replace dd := dd.up ni.hh
     clear jp
     clear ya ni afw
     refine ⟨_, rfl, ?_⟩
     refine Ops_step (R_move rfl) rfl rfl ?_
     refine Ops_step (R_extract (v := .pointer (some ⟨t8, 0, none⟩)) rfl rfl) rfl rfl ?_
     refine Ops_step (R_extract (v := vi afd) rfl rfl) rfl rfl ?_
     refine Ops_step (R_assign rfl) rfl rfl (Ops_step (R_assign rfl) rfl rfl ?_)
     refine Ops_nil ?_
     refine then_n (k19 _ _ ?_)
     clear k19 K19
     refine W_seq_k fun K48 k48 => ?_
     refine W_region [42, 43, 41, 44, 45, 11, 12] rfl (Ops_step (R_move rfl) rfl rfl ?_)
     refine Ops_call (C_func bd28 rfl) rfl rfl ?_
     refine (sealskinref06_Open_ok (z0 := vq) hI.st (hg.up hI.le) c8 oy db oz dc o4 dd h).mono ?_
     rintro _ ap1 (⟨ala, aj9, aic, aid, aie, aif, aig, aih, am5, am6, rfl, alb, ai4, afx, afy, afz, af0, af1, af2, h⟩ | ⟨af3, lv, r5, r6, r7, r8, r9, sa, ug, oq, sb, sd, am7, adx, rfl, yl, mc, uh, m7, ui, m8, uj, m9, lw, md, uk, na, h⟩)
     ·
      exact h.elim
     ·
      have ady := lw
      replace lw := Nat.le_trans hI.size lw
      refine Exists.elim (hI.call yl (new1 cm)) fun L49b0_ v4 => ?_
      have alc := hI.size
      replace hI := v4.1
      have lf := v4.2.1
      have af4 := v4.2.2
      clear v4
      replace hs1 := hs1.up lf.hh
      replace db := db.up lf.hh
      replace dc := dc.up lf.hh
      replace dd := dd.up lf.hh
      replace iu := iu.up lf (iu.apart c8 (by decide))
      replace jq := jq.up lf.hh
      replace jr := jr.up lf.hh
      replace js := js.up lf.hh
      replace iv := iv.up lf (iv.apart c8 (by decide))
      replace jt := jt.up lf.hh
      replace iw := iw.up lf.hh lf (iw.neT c8)
      clear c8
      clear yl lf af4
      refine ⟨_, rfl, ?_⟩
      refine Ops_step (R_move rfl) rfl rfl ?_
      refine Ops_step (R_extract (v := .pointer (some ⟨ug, 0, none⟩)) rfl rfl) rfl rfl ?_
      refine Ops_step (R_extract (v := vi af3) rfl rfl) rfl rfl ?_
      refine Ops_step (R_assign rfl) rfl rfl (Ops_step (R_assign rfl) rfl rfl ?_)
      refine Ops_nil ?_
      refine then_n (k48 _ _ ?_)
      clear k48 K48
      refine W_keepB [1, 5, 7, 9, 10, 11, 12] fun B_ b_ => ?_
      simp only [e_, Nat.reduceAdd, Nat.reduceBEq] at b_
      subst b_
      refine W_seq_k fun K51 k51 => ?_
      refine ex_ h fun ald ym h => ?_
      refine W_seq_join [1, 5, 7, 9, 11] [55] (fun vals_ w2 => ∃ (sh : Bool) (L H : Gh), vals_ = [.bool sh] ∧ ald sh ∧ Inv [] G w L H w2 ∧ Le L49b0_ L ∧ Le adx H ∧ Tok H w2 ce 53 ([.slice rj j3.files_.e0_.length rk, .slice rl j3.files_.e1_.length rm, .slice rn j3.files_.e2_.length ro, vi j3.room_, .bool j3.off_, .bool j3.armed_, vi j3.left_]) ∧ Tok H w2 t8 46 ([.slice rp oo.book_.l_.length rq, .map (some t9), .pointer (some ⟨ce, 0, none⟩), vi oo.gen_, vi oo.place_]) ∧ MTok H H w2 t9 vt ∧ Tok H w2 cd 81 ([.slice r5 lv.F_.e0_.length r6, .slice r7 lv.F_.e1_.length r8, .slice r9 lv.F_.e2_.length sa, vi lv.Room_, .bool lv.Off_, vi lv.Fuse_]) ∧ Tok H w2 ug 73 ([.slice sb oq.L_.length sd, .pointer (some ⟨cd, 0, none⟩), vi oq.Gen_, vi oq.File_]) ∧ True) (fun B_ b_ => ?_) (fun B_ b_ => ?_)
      ·
       simp only [e_, Nat.reduceAdd, Nat.reduceBEq] at b_
       subst b_
       clear ym
       have ul := Le.refl L49b0_
       have jc := Le.refl adx
       refine W_region [46, 47, 48, 49, 50, 51, 52, 53, 54, 55] rfl (Ops_step (R_move rfl) rfl rfl (Ops_step (R_move rfl) rfl rfl (Ops_step (R_neq rfl rfl) rfl rfl (Ops_step (R_move rfl) rfl rfl ?_))))
       refine Ops_split 49 rfl (fun yn => ?_) (fun yn => ?_)
       ·
        replace h := h.1 yn
        refine Ops_pass rfl rfl (Ops_pass rfl rfl (Ops_pass rfl rfl (Ops_pass rfl rfl (Ops_pass rfl rfl ?_))))
        refine Ops_step (R_pick_true rfl rfl) rfl rfl ?_
        refine Ops_nil ?_
        refine then_n ?_
        exact ⟨_, rfl, ⟨true, _, _, rfl, h, hI, ul, jc, iu, iv, iw, mc, md, trivial⟩, ⟨rfl, rfl, rfl, rfl, rfl, trivial⟩⟩
       ·
        replace h := h.2 yn
        refine Ops_step (R_move rfl) rfl rfl (Ops_step (R_ptrNil Try.underlying26 rfl rfl) rfl rfl (Ops_step (R_move rfl) rfl rfl (Ops_step (R_ptrNil Try.underlying68 rfl rfl) rfl rfl (Ops_step (R_boolNe Try.underlying4 rfl rfl) rfl rfl ?_))))
        refine Ops_step (R_pick_false rfl rfl) rfl rfl ?_
        refine Ops_nil ?_
        refine then_n ?_
        exact ⟨_, rfl, ⟨(!(false == false)), _, _, rfl, h, hI, ul, jc, iu, iv, iw, mc, md, trivial⟩, ⟨rfl, rfl, rfl, rfl, rfl, trivial⟩⟩
      ·
       simp only [e_, Nat.reduceAdd, Nat.reduceBEq] at b_
       subst b_
       clear h
       clear iu
       clear iv
       clear iw
       clear mc
       clear md
       rintro _ ap2 ⟨sh, ach, aci, rfl, adz, ad0, ul, jc, iu, iv, iw, mc, md, -⟩
       replace hI := ad0
       clear ad0
       have h := ym sh adz
       clear ym adz
       replace hs1 := hs1.up jc
       replace jq := jq.up jc
       replace jr := jr.up jc
       replace js := js.up jc
       replace jt := jt.up jc
       replace m7 := m7.up jc
       replace m8 := m8.up jc
       replace m9 := m9.up jc
       replace na := na.up jc
       refine W_cond rfl (fun yo => ?_) (fun yo => ?_)
       ·
        replace h := h.1 yo
        refine W_seq_k fun K55 k55 => ?_
        refine W_region [4] rfl (Ops_step (R_assign rfl) rfl rfl ?_)
        refine Ops_nil ?_
        refine then_n (k55 _ _ ?_)
        clear k55 K55
        refine W_keepB [4] fun B_ b_ => ?_
        simp only [e_, Nat.reduceAdd, Nat.reduceBEq] at b_
        subst b_
        refine W_ret ?_
        refine then_ret ?_
        clear k51 K51
        refine ⟨_, ⟨_, _, rfl, rfl, rfl⟩, ?_⟩
        exact ⟨false, _, _, rfl, hI, h⟩
       ·
        replace h := h.2 yo
        refine W_skip ?_
        refine then_n (k51 _ _ ?_)
        clear k51 K51
        refine ex_ h fun ale yp h => ?_
        refine W_seq_join [] [] (fun vals_ w2 => ∃  (L H : Gh), vals_ = [] ∧ ale ∧ Inv [] G w L H w2 ∧ Le ach L ∧ Le aci H ∧ True) (fun B_ b_ => ?_) (fun B_ b_ => ?_)
        ·
         simp only [e_, Nat.reduceAdd, Nat.reduceBEq] at b_
         subst b_
         clear yp
         have af := Le.refl ach
         have ag := Le.refl aci
         refine W_seq_k fun K58 k58 => ?_
         refine W_region [56, 57, 58] rfl (Ops_step (R_move rfl) rfl rfl (Ops_step (R_len Try.underlying22 rfl rfl) rfl rfl (Ops_step (R_move rfl) rfl rfl ?_)))
         refine Ops_nil ?_
         refine then_n (k58 _ _ ?_)
         clear k58 K58
         refine W_block ?_
         refine Exists.elim h fun ai5 h => Exists.elim h fun ai6 h => Exists.elim h fun alf h => ?_
         have adi := h.1
         replace h := h.2
         have um := h.1
         replace h := h.2
         have un := h
         clear h
         refine W_loopB [5, 7, 56, 57] [9, 11, 58] (fun m vals_ w2 => (∃ (mw : Int) (bf : disk_Disk) (ka : Option Addr) (kb : Nat) (kc : Option Addr) (ke : Nat) (kf : Option Addr) (kg : Nat) (bh : sealskinref05_Disk) (kh : Option Addr) (ki : Nat) (kj : Option Addr) (kk : Nat) (kl : Option Addr) (km : Nat) (me : Nat) (fo : journal_Journal) (lg : Option Addr) (lh : Nat) (ju : Nat) (jk : List (Int × Int)) (mf : Nat) (fp : sealskinref06_Journal) (li : Option Addr) (lj : Nat) (L H : Gh), vals_ = [.pointer (some ⟨me, 0, none⟩), .pointer (some ⟨mf, 0, none⟩), vi mw] ∧ ai5 m mw bf bh fo jk fp ∧ Inv [] G w L H w2 ∧ Le ach L ∧ Le aci H ∧ Tok H w2 ce 53 ([.slice ka bf.files_.e0_.length kb, .slice kc bf.files_.e1_.length ke, .slice kf bf.files_.e2_.length kg, vi bf.room_, .bool bf.off_, .bool bf.armed_, vi bf.left_]) ∧ bf.files_.e0_.length ≤ kb ∧ Sl H ka bf.files_.e0_ ∧ bf.files_.e1_.length ≤ ke ∧ Sl H kc bf.files_.e1_ ∧ bf.files_.e2_.length ≤ kg ∧ Sl H kf bf.files_.e2_ ∧ Tok H w2 cd 81 ([.slice kh bh.F_.e0_.length ki, .slice kj bh.F_.e1_.length kk, .slice kl bh.F_.e2_.length km, vi bh.Room_, .bool bh.Off_, vi bh.Fuse_]) ∧ bh.F_.e0_.length ≤ ki ∧ Sl H kh bh.F_.e0_ ∧ bh.F_.e1_.length ≤ kk ∧ Sl H kj bh.F_.e1_ ∧ bh.F_.e2_.length ≤ km ∧ Sl H kl bh.F_.e2_ ∧ w.heap.size ≤ me ∧ Tok H w2 me 46 ([.slice lg fo.book_.l_.length lh, .map (some ju), .pointer (some ⟨ce, 0, none⟩), vi fo.gen_, vi fo.place_]) ∧ fo.book_.l_.length ≤ lh ∧ Sl H lg fo.book_.l_ ∧ w.heap.size ≤ ju ∧ MTok H H w2 ju jk ∧ w.heap.size ≤ mf ∧ Tok H w2 mf 73 ([.slice li fp.L_.length lj, .pointer (some ⟨cd, 0, none⟩), vi fp.Gen_, vi fp.File_]) ∧ fp.L_.length ≤ lj ∧ Sl H li fp.L_ ∧ True) ∨ (∃ (ot : Int) (bv : disk_Disk) (ko : Option Addr) (kp : Nat) (kq : Option Addr) (kr : Nat) (kt : Option Addr) (ku : Nat) (b6 : sealskinref05_Disk) (kv : Option Addr) (kw : Nat) (kx : Option Addr) (ky : Nat) (kz : Option Addr) (la : Nat) (L H : Gh), vals_ = [.pointer none, .pointer none, vi ot] ∧ ai6 m ot bv b6 ∧ Inv [] G w L H w2 ∧ Le ach L ∧ Le aci H ∧ Tok H w2 ce 53 ([.slice ko bv.files_.e0_.length kp, .slice kq bv.files_.e1_.length kr, .slice kt bv.files_.e2_.length ku, vi bv.room_, .bool bv.off_, .bool bv.armed_, vi bv.left_]) ∧ bv.files_.e0_.length ≤ kp ∧ Sl H ko bv.files_.e0_ ∧ bv.files_.e1_.length ≤ kr ∧ Sl H kq bv.files_.e1_ ∧ bv.files_.e2_.length ≤ ku ∧ Sl H kt bv.files_.e2_ ∧ Tok H w2 cd 81 ([.slice kv b6.F_.e0_.length kw, .slice kx b6.F_.e1_.length ky, .slice kz b6.F_.e2_.length la, vi b6.Room_, .bool b6.Off_, vi b6.Fuse_]) ∧ b6.F_.e0_.length ≤ kw ∧ Sl H kv b6.F_.e0_ ∧ b6.F_.e1_.length ≤ ky ∧ Sl H kx b6.F_.e1_ ∧ b6.F_.e2_.length ≤ la ∧ Sl H kz b6.F_.e2_ ∧ True)) alf _ rfl (.inl ⟨0, j3, rj, rk, rl, rm, rn, ro, lv, r5, r6, r7, r8, r9, sa, t8, oo, rp, rq, t9, vt, ug, oq, sb, sd, _, _, rfl, adi, hI, Le.refl _, Le.refl _, iu, ua, jq, ub, jr, uc, js, mc, uh, m7, ui, m8, uj, m9, lp, iv, ud, jt, lq, iw, lw, md, uk, na, trivial⟩) fun B_ b_ => ?_
         clear adi
         simp only [e_, Nat.reduceAdd, Nat.reduceBEq] at b_
         subst b_
         rintro ai7 _ ap3 (⟨mw, bf, ka, kb, kc, ke, kf, kg, bh, kh, ki, kj, kk, kl, km, me, fo, lg, lh, ju, jk, mf, fp, li, lj, yq, s7, rfl, s8, s9, aj, ah, ab, gf, bi, gg, bj, gh, bl, aa, gi, am, gj, an, gk, ao, nb, a7, lx, bz, o6, aw, nc, ai, ly, bg, -⟩ | ⟨ot, bv, ko, kp, kq, kr, kt, ku, b6, kv, kw, kx, ky, kz, la, am8, ad1, rfl, s8, s9, aj, ah, gl, yr, yt, yu, yv, yw, yx, gm, yz, y4, y5, y6, y7, y8, -⟩)
         ·
          replace hI := s9
          clear s9
          have h := um ai7 mw bf bh fo jk fp s8
          clear um un s8
          replace hs1 := hs1.up ah
          replace af := af.trans aj
          replace ag := ag.trans ah
          refine W_seq_k fun K60 k60 => ?_
          refine W_region [59] rfl (Ops_step (R_lss rfl rfl) rfl rfl ?_)
          refine Ops_nil ?_
          refine then_n (k60 _ _ ?_)
          clear k60 K60
          refine W_seq_k fun K61 k61 => ?_
          refine W_if rfl (fun y9 => ?_) (fun y9 => ?_)
          ·
           replace h := h.1 y9
           refine W_skip ?_
           refine then_n (k61 _ _ ?_)
           clear k61 K61
           refine Exists.elim h fun ai8 h => Exists.elim h fun ai9 h => ?_
           have ou := h.1
           replace h := h.2
           have ov := h.1
           replace h := h.2
           refine W_seq_join [5, 7, 56, 57, 58] [9, 11] (fun vals_ w2 => (∃ (bq : disk_Disk) (gv : Option Addr) (gw : Nat) (gx : Option Addr) (gy : Nat) (gz : Option Addr) (g6 : Nat) (bw : sealskinref05_Disk) (g7 : Option Addr) (g8 : Nat) (g9 : Option Addr) (ia : Nat) (ib : Option Addr) (ic : Nat) (L H : Gh), vals_ = [.pointer none, .pointer none] ∧ ai8 bq bw ∧ Inv [] G w L H w2 ∧ Le yq L ∧ Le s7 H ∧ Tok H w2 ce 53 ([.slice gv bq.files_.e0_.length gw, .slice gx bq.files_.e1_.length gy, .slice gz bq.files_.e2_.length g6, vi bq.room_, .bool bq.off_, .bool bq.armed_, vi bq.left_]) ∧ bq.files_.e0_.length ≤ gw ∧ Sl H gv bq.files_.e0_ ∧ bq.files_.e1_.length ≤ gy ∧ Sl H gx bq.files_.e1_ ∧ bq.files_.e2_.length ≤ g6 ∧ Sl H gz bq.files_.e2_ ∧ Tok H w2 cd 81 ([.slice g7 bw.F_.e0_.length g8, .slice g9 bw.F_.e1_.length ia, .slice ib bw.F_.e2_.length ic, vi bw.Room_, .bool bw.Off_, vi bw.Fuse_]) ∧ bw.F_.e0_.length ≤ g8 ∧ Sl H g7 bw.F_.e0_ ∧ bw.F_.e1_.length ≤ ia ∧ Sl H g9 bw.F_.e1_ ∧ bw.F_.e2_.length ≤ ic ∧ Sl H ib bw.F_.e2_ ∧ True) ∨ (∃ (br : disk_Disk) (ie : Option Addr) (ig : Nat) (ii : Option Addr) (ij : Nat) (ik : Option Addr) (il : Nat) (bx : sealskinref05_Disk) (im : Option Addr) (io : Nat) (ip : Option Addr) (iq : Nat) (ir : Option Addr) (it : Nat) (o7 : Nat) (jl : journal_Journal) (my : Option Addr) (mz : Nat) (o8 : Nat) (nj : List (Int × Int)) (o9 : Nat) (jm : sealskinref06_Journal) (m0 : Option Addr) (m1 : Nat) (L H : Gh), vals_ = [.pointer (some ⟨o7, 0, none⟩), .pointer (some ⟨o9, 0, none⟩)] ∧ ai9 br bx jl nj jm ∧ Inv [] G w L H w2 ∧ Le yq L ∧ Le s7 H ∧ Tok H w2 ce 53 ([.slice ie br.files_.e0_.length ig, .slice ii br.files_.e1_.length ij, .slice ik br.files_.e2_.length il, vi br.room_, .bool br.off_, .bool br.armed_, vi br.left_]) ∧ br.files_.e0_.length ≤ ig ∧ Sl H ie br.files_.e0_ ∧ br.files_.e1_.length ≤ ij ∧ Sl H ii br.files_.e1_ ∧ br.files_.e2_.length ≤ il ∧ Sl H ik br.files_.e2_ ∧ Tok H w2 cd 81 ([.slice im bx.F_.e0_.length io, .slice ip bx.F_.e1_.length iq, .slice ir bx.F_.e2_.length it, vi bx.Room_, .bool bx.Off_, vi bx.Fuse_]) ∧ bx.F_.e0_.length ≤ io ∧ Sl H im bx.F_.e0_ ∧ bx.F_.e1_.length ≤ iq ∧ Sl H ip bx.F_.e1_ ∧ bx.F_.e2_.length ≤ it ∧ Sl H ir bx.F_.e2_ ∧ w.heap.size ≤ o7 ∧ Tok H w2 o7 46 ([.slice my jl.book_.l_.length mz, .map (some o8), .pointer (some ⟨ce, 0, none⟩), vi jl.gen_, vi jl.place_]) ∧ jl.book_.l_.length ≤ mz ∧ Sl H my jl.book_.l_ ∧ w.heap.size ≤ o8 ∧ MTok H H w2 o8 nj ∧ w.heap.size ≤ o9 ∧ Tok H w2 o9 73 ([.slice m0 jm.L_.length m1, .pointer (some ⟨cd, 0, none⟩), vi jm.Gen_, vi jm.File_]) ∧ jm.L_.length ≤ m1 ∧ Sl H m0 jm.L_ ∧ True)) (fun B_ b_ => ?_) (fun B_ b_ => ?_)
           ·
            simp only [e_, Nat.reduceAdd, Nat.reduceBEq] at b_
            subst b_
            clear ou ov
            have ap := Le.refl yq
            have ak := Le.refl s7
            refine W_block ?_
            refine W_seq_k fun K64 k64 => ?_
            refine W_region [60, 61, 14, none] rfl ?_
            refine ex_ h fun cf v5 h => ?_
            have aja := (Sl.atN (n := 4) rfl (by decide) hs1 v5).1
            refine Exists.elim (Sl.atN (n := 4) rfl (by decide) hs1 v5).2 fun ap4 za => ?_
            have ajb := za.1
            have ajc := za.2
            clear za
            refine Ops_step (R_indexSl Try.underlying22 sz31 rfl rfl v5.1 v5.lt aja) rfl rfl ?_
            obtain ⟨mg, mh, rfl, ⟨zb, a6⟩⟩ := ajb
            refine Ops_step (R_loadCs (cs := [vi cf.Op_, vi cf.Label_, vi cf.N_, .slice mg cf.B_.length mh]) ag31 sz31 rfl (fun j_ v_ hv_ => hI.st _ _ (ajc j_ v_ hv_))) rfl rfl ?_
            have o5 := hI
            refine Ops_to (R_alloc zr31) rfl rfl ?_
            rintro _ ap5 ⟨q8, rfl, zc, ad2, pa⟩
            replace hI := hI.fr0 pa
            replace ab := ab.fr0 pa
            replace aa := aa.fr0 pa
            replace a7 := a7.fr0 pa
            replace aw := aw.fr0 pa
            replace ai := ai.fr0 pa
            have ac : Tok s7 _ q8 31 ([vi 0, vi 0, vi 0, .slice none 0 0]) := ⟨ad2.to rfl, Out.ge o5.st (Nat.le_of_eq zc.symm)⟩
            have zd : w.heap.size ≤ q8 := zc ▸ o5.size
            clear ad2 zc o5 pa
            refine Ops_to0 (R_storeN sz31 rfl rfl rfl ac.blk (Nat.le_of_ble_eq_true rfl) rfl) rfl ?_
            rintro _ ap6 ⟨ad3, pb⟩
            replace hI := hI.tok pb (out1 ac.out) (new1 zd)
            replace ab := ab.fr pb (ab.apart ac (by decide))
            replace aa := aa.fr pb (aa.apart ac (by decide))
            replace a7 := a7.fr pb (a7.apart ac (by decide))
            replace aw := aw.fr pb (aw.neT ac)
            replace ai := ai.fr pb (ai.apart ac (by decide))
            replace ac : Tok s7 _ q8 31 ([vi cf.Op_, vi cf.Label_, vi cf.N_, .slice mg cf.B_.length mh]) := ⟨ad3, ac.out⟩
            clear pb ad3
            refine Ops_nil ?_
            refine then_n (k64 _ _ ?_)
            clear k64 K64
            refine W_seq_k fun K68 k68 => ?_
            refine W_seq_k fun K69 k69 => ?_
            refine W_region [62, 63] rfl (Ops_step (R_move rfl) rfl rfl (Ops_step (R_ptrNil Try.underlying68 rfl rfl) rfl rfl ?_))
            refine Ops_nil ?_
            refine then_n (k69 _ _ ?_)
            clear k69 K69
            refine W_cond_false rfl ?_
            refine W_skip ?_
            refine then_n (k68 _ _ ?_)
            clear k68 K68
            refine W_seq_k fun K70 k70 => ?_
            refine W_region [65, 66, 67, 15] rfl (Ops_step (R_fieldAddr fo31_3 rfl) rfl rfl ?_)
            refine Ops_step (R_loadB (v := .slice mg cf.B_.length mh) ag29 rfl ac.blk rfl) rfl rfl ?_
            refine Ops_call (C_func bd32 rfl) rfl rfl ?_
            refine (slices_Clone_sl_byte_byte_ok (x0 := cf.B_) hI.st (hg.up hI.le) zb a6 h).mono ?_
            rintro _ ap7 ⟨ad4, ad5, ze, ap8, ajd, rfl, ad6, bm, h⟩
            refine Exists.elim (hI.call ad6 (by simp)) fun ad7 acj => ?_
            have aje := hI.size
            replace hI := acj.1
            have jn := acj.2.1
            have ajf := acj.2.2
            clear acj
            replace hs1 := hs1.up jn.hh
            replace af := af.trans jn.ll
            replace ag := ag.trans jn.hh
            replace ab := ab.up jn (by simp)
            replace bi := bi.up jn.hh
            replace bj := bj.up jn.hh
            replace bl := bl.up jn.hh
            replace aa := aa.up jn (by simp)
            replace am := am.up jn.hh
            replace an := an.up jn.hh
            replace ao := ao.up jn.hh
            replace a7 := a7.up jn (by simp)
            replace bz := bz.up jn.hh
            replace aw := aw.up jn.hh jn (by simp)
            replace ai := ai.up jn (by simp)
            replace bg := bg.up jn.hh
            replace aj := aj.trans jn.ll
            replace ah := ah.trans jn.hh
            replace ap := ap.trans jn.ll
            replace ak := ak.trans jn.hh
            replace a6 := a6.up jn.hh
            replace ac := ac.up jn (by simp)
            replace bm := OwnS.backS bm aje (Le.refl _)
            clear ad6 jn ajf
            refine ⟨_, rfl, ?_⟩
            refine Ops_step (R_assign rfl) rfl rfl ?_
            refine Ops_nil ?_
            refine then_n (k70 _ _ ?_)
            clear k70 K70
            refine W_keepB [5, 7, 9, 11, 14, 15, 56, 57, 58] fun B_ b_ => ?_
            simp only [e_, Nat.reduceAdd, Nat.reduceBEq] at b_
            subst b_
            refine ex_ h fun alg zf h => ?_
            refine W_seq_join [5, 7, 9, 11, 14, 15, 56, 57, 58] [10, 12] (fun vals_ w2 => ∃ (si : Int) (sj : Int) (ar : disk_Disk) (e5 : Option Addr) (e8 : Nat) (e9 : Option Addr) (fa : Nat) (fb : Option Addr) (fc : Nat) (ae : sealskinref05_Disk) (dk : Option Addr) (dl : Nat) (dm : Option Addr) (dn : Nat) (dp : Option Addr) (dq : Nat) (b9 : journal_Journal) (fd : Option Addr) (fe : Nat) (fy : List (Int × Int)) (ca : sealskinref06_Journal) (ff : Option Addr) (fg : Nat) (L H : Gh), vals_ = [vi si, vi sj] ∧ alg si sj ar ae b9 fy ca ∧ Inv [] G w L H w2 ∧ Le ad7 L ∧ Le ajd H ∧ Tok H w2 ce 53 ([.slice e5 ar.files_.e0_.length e8, .slice e9 ar.files_.e1_.length fa, .slice fb ar.files_.e2_.length fc, vi ar.room_, .bool ar.off_, .bool ar.armed_, vi ar.left_]) ∧ ar.files_.e0_.length ≤ e8 ∧ Sl H e5 ar.files_.e0_ ∧ ar.files_.e1_.length ≤ fa ∧ Sl H e9 ar.files_.e1_ ∧ ar.files_.e2_.length ≤ fc ∧ Sl H fb ar.files_.e2_ ∧ Tok H w2 cd 81 ([.slice dk ae.F_.e0_.length dl, .slice dm ae.F_.e1_.length dn, .slice dp ae.F_.e2_.length dq, vi ae.Room_, .bool ae.Off_, vi ae.Fuse_]) ∧ ae.F_.e0_.length ≤ dl ∧ Sl H dk ae.F_.e0_ ∧ ae.F_.e1_.length ≤ dn ∧ Sl H dm ae.F_.e1_ ∧ ae.F_.e2_.length ≤ dq ∧ Sl H dp ae.F_.e2_ ∧ Tok H w2 me 46 ([.slice fd b9.book_.l_.length fe, .map (some ju), .pointer (some ⟨ce, 0, none⟩), vi b9.gen_, vi b9.place_]) ∧ b9.book_.l_.length ≤ fe ∧ Sl H fd b9.book_.l_ ∧ MTok H H w2 ju fy ∧ Tok H w2 mf 73 ([.slice ff ca.L_.length fg, .pointer (some ⟨cd, 0, none⟩), vi ca.Gen_, vi ca.File_]) ∧ ca.L_.length ≤ fg ∧ Sl H ff ca.L_ ∧ Tok H w2 q8 31 ([vi cf.Op_, vi cf.Label_, vi cf.N_, .slice mg cf.B_.length mh]) ∧ OwnS w.heap.size 5 Gh.no H w2 ad4 ad5 ze ∧ True) (fun B_ b_ => ?_) (fun B_ b_ => ?_)
            ·
             simp only [e_, Nat.reduceAdd, Nat.reduceBEq] at b_
             subst b_
             clear zf
             have co := Le.refl ad7
             have cg := Le.refl ajd
             refine W_seq_k fun K74 k74 => ?_
             refine W_region [68, 69, 70] rfl (Ops_step (R_fieldAddr fo31_0 rfl) rfl rfl ?_)
             refine Ops_step (R_loadB (v := vi cf.Op_) ag3 rfl ac.blk rfl) rfl rfl ?_
             refine Ops_step (R_and rfl rfl (andI_wrap _ _)) rfl rfl ?_
             refine Ops_nil ?_
             refine then_n (k74 _ _ ?_)
             clear k74 K74
             refine W_block ?_
             refine W_seq_k fun K75 k75 => ?_
             refine W_region [83, 82] rfl (Ops_step (R_eql rfl rfl) rfl rfl (Ops_step (R_assign rfl) rfl rfl ?_))
             refine Ops_nil ?_
             refine then_n (k75 _ _ ?_)
             clear k75 K75
             refine W_if rfl (fun zg => ?_) (fun zg => ?_)
             ·
              replace h := h.1 zg
              refine W_region [84, 85, 86, 87, 10, 12] rfl (Ops_step (R_move rfl) rfl rfl ?_)
              refine Ops_call (C_func bd14 rfl) rfl rfl ?_
              refine (journal_Journal_Check_ok (z0 := fo) (z1 := jk) (z2 := bf) hI.st (hg.up hI.le) aw ab gf bi gg bj gh bl a7 lx bz h).mono ?_
              rintro _ ap9 ⟨ajg, af5, zh, zi, af6, zj, zk, zl, zm, zn, zo, aqa, aqb, rfl, ad8, nk, wl, n3, nl, wm, n4, wn, n5, wo, n6, h⟩
              refine Exists.elim (hI.call ad8 (memG nb (memG cl memN))) fun am9 ack => ?_
              have ana := hI.size
              replace hI := ack.1
              have jd := ack.2.1
              have ajh := ack.2.2
              clear ack
              replace hs1 := hs1.up jd.hh
              replace af := af.trans jd.ll
              replace ag := ag.trans jd.hh
              replace bi := bi.up jd.hh
              replace bj := bj.up jd.hh
              replace bl := bl.up jd.hh
              replace aa := aa.up jd (niA (aa.apart a7 (by decide)) (niA (aa.apart ab (by decide)) List.not_mem_nil))
              replace am := am.up jd.hh
              replace an := an.up jd.hh
              replace ao := ao.up jd.hh
              replace bz := bz.up jd.hh
              replace aw := aw.up jd.hh jd (niA (aw.neT a7) (niA (aw.neT ab) List.not_mem_nil))
              replace ai := ai.up jd (niA (ai.apart a7 (by decide)) (niA (ai.apart ab (by decide)) List.not_mem_nil))
              replace bg := bg.up jd.hh
              replace aj := aj.trans jd.ll
              replace ah := ah.trans jd.hh
              replace ap := ap.trans jd.ll
              replace ak := ak.trans jd.hh
              replace a6 := a6.up jd.hh
              replace ac := ac.up jd (niA (ac.apart a7 (by decide)) (niA (ac.apart ab (by decide)) List.not_mem_nil))
              replace bm := bm.up (Le.refl _) jd (niB (bm.ne a7.blk (by decide)) (niB (bm.ne ab.blk (by decide)) (fun _ _ => by simp)))
              replace co := co.trans jd.ll
              replace cg := cg.trans jd.hh
              clear a7
              clear ab
              clear ad8 jd ajh
              refine ⟨_, rfl, ?_⟩
              refine Ops_step (R_move rfl) rfl rfl ?_
              refine Ops_call (C_func bd33 rfl) rfl rfl ?_
              refine (sealskinref06_Journal_Check_ok (z0 := fp) (z1 := bh) hI.st (hg.up hI.le) aa gi am gj an gk ao ai ly bg h).mono ?_
              rintro _ aqc ⟨aji, af7, zp, zq, af8, zt, zu, zw, zx, zy, zz, aqd, aqe, rfl, ad9, acl, wq, wr, acm, ws, wt, wu, wv, ww, wx, h⟩
              refine Exists.elim (hI.call ad9 (memG nc (memG cm memN))) fun anb acn => ?_
              have anc := hI.size
              replace hI := acn.1
              have je := acn.2.1
              have ajj := acn.2.2
              clear acn
              replace hs1 := hs1.up je.hh
              replace af := af.trans je.ll
              replace ag := ag.trans je.hh
              replace am := am.up je.hh
              replace an := an.up je.hh
              replace ao := ao.up je.hh
              replace aw := aw.up je.hh je (niA (aw.neT ai) (niA (aw.neT aa) List.not_mem_nil))
              replace bg := bg.up je.hh
              replace aj := aj.trans je.ll
              replace ah := ah.trans je.hh
              replace ap := ap.trans je.ll
              replace ak := ak.trans je.hh
              replace a6 := a6.up je.hh
              replace ac := ac.up je (niA (ac.apart ai (by decide)) (niA (ac.apart aa (by decide)) List.not_mem_nil))
              replace bm := bm.up (Le.refl _) je (niB (bm.ne ai.blk (by decide)) (niB (bm.ne aa.blk (by decide)) (fun _ _ => by simp)))
              replace co := co.trans je.ll
              replace cg := cg.trans je.hh
              replace nk := nk.up je (niA (nk.apart ai (by decide)) (niA (nk.apart aa (by decide)) List.not_mem_nil))
              replace n3 := n3.up je.hh
              replace nl := nl.up je (niA (nl.apart ai (by decide)) (niA (nl.apart aa (by decide)) List.not_mem_nil))
              replace n4 := n4.up je.hh
              replace n5 := n5.up je.hh
              replace n6 := n6.up je.hh
              clear ai
              clear aa
              clear ad9 je ajj
              refine ⟨_, rfl, ?_⟩
              refine Ops_step (R_assign rfl) rfl rfl (Ops_step (R_assign rfl) rfl rfl ?_)
              refine Ops_nil ?_
              refine block_n ?_
              refine then_n ?_
              exact ⟨_, rfl, ⟨ajg, aji, af6, zj, zk, zl, zm, zn, zo, af8, zt, zu, zw, zx, zy, zz, af5, zh, zi, jk, af7, zp, zq, _, _, rfl, h, hI, co, cg, nl, wm, n4, wn, n5, wo, n6, acm, ws, wt, wu, wv, ww, wx, nk, wl, n3, aw, acl, wq, wr, ac, bm, trivial⟩, ⟨rfl, rfl, rfl, rfl, rfl, rfl, rfl, rfl, rfl, trivial⟩⟩
             ·
              replace h := h.2 zg
              refine W_seq_k fun K79 k79 => ?_
              refine W_region [89, 88] rfl (Ops_step (R_eql rfl rfl) rfl rfl (Ops_step (R_assign rfl) rfl rfl ?_))
              refine Ops_nil ?_
              refine then_n (k79 _ _ ?_)
              clear k79 K79
              refine W_if rfl (fun z5 => ?_) (fun z5 => ?_)
              ·
               replace h := h.1 z5
               refine W_region [90, 91, 92, 93, 10, 12] rfl (Ops_step (R_move rfl) rfl rfl ?_)
               refine Ops_call (C_func bd34 rfl) rfl rfl ?_
               refine (disk_Disk_Crash_ok (z0 := bf) hI.st (hg.up hI.le) ab gf bi gg bj gh bl h).mono ?_
               rintro _ aqf ⟨ajk, af9, z6, z7, z8, z9, aaa, aab, aqg, aqh, rfl, aea, ow, wy, n7, w4, n8, w5, n9, h⟩
               refine Exists.elim (hI.call aea (new1 cl)) fun ane aco => ?_
               have anf := hI.size
               replace hI := aco.1
               have ix := aco.2.1
               have ajl := aco.2.2
               clear aco
               replace hs1 := hs1.up ix.hh
               replace af := af.trans ix.ll
               replace ag := ag.trans ix.hh
               replace bi := bi.up ix.hh
               replace bj := bj.up ix.hh
               replace bl := bl.up ix.hh
               replace aa := aa.up ix (aa.apart ab (by decide))
               replace am := am.up ix.hh
               replace an := an.up ix.hh
               replace ao := ao.up ix.hh
               replace a7 := a7.up ix (a7.apart ab (by decide))
               replace bz := bz.up ix.hh
               replace aw := aw.up ix.hh ix (aw.neT ab)
               replace ai := ai.up ix (ai.apart ab (by decide))
               replace bg := bg.up ix.hh
               replace aj := aj.trans ix.ll
               replace ah := ah.trans ix.hh
               replace ap := ap.trans ix.ll
               replace ak := ak.trans ix.hh
               replace a6 := a6.up ix.hh
               replace ac := ac.up ix (ac.apart ab (by decide))
               replace bm := bm.up (Le.refl _) ix (bm.ne ab.blk (by decide))
               replace co := co.trans ix.ll
               replace cg := cg.trans ix.hh
               clear ab
               clear aea ix ajl
               refine ⟨_, rfl, ?_⟩
               refine Ops_step (R_move rfl) rfl rfl ?_
               refine Ops_call (C_func bd35 rfl) rfl rfl ?_
               refine (sealskinref05_Disk_Crash_ok (z0 := bh) hI.st (hg.up hI.le) aa gi am gj an gk ao h).mono ?_
               rintro _ aqi ⟨ajm, aga, aac, aad, aae, aaf, aag, aah, aqj, aqk, rfl, aeb, acp, w6, w7, w8, w9, xa, xb, h⟩
               refine Exists.elim (hI.call aeb (new1 cm)) fun ang acq => ?_
               have anh := hI.size
               replace hI := acq.1
               have iy := acq.2.1
               have ajn := acq.2.2
               clear acq
               replace hs1 := hs1.up iy.hh
               replace af := af.trans iy.ll
               replace ag := ag.trans iy.hh
               replace am := am.up iy.hh
               replace an := an.up iy.hh
               replace ao := ao.up iy.hh
               replace a7 := a7.up iy (a7.apart aa (by decide))
               replace bz := bz.up iy.hh
               replace aw := aw.up iy.hh iy (aw.neT aa)
               replace ai := ai.up iy (ai.apart aa (by decide))
               replace bg := bg.up iy.hh
               replace aj := aj.trans iy.ll
               replace ah := ah.trans iy.hh
               replace ap := ap.trans iy.ll
               replace ak := ak.trans iy.hh
               replace a6 := a6.up iy.hh
               replace ac := ac.up iy (ac.apart aa (by decide))
               replace bm := bm.up (Le.refl _) iy (bm.ne aa.blk (by decide))
               replace co := co.trans iy.ll
               replace cg := cg.trans iy.hh
               replace ow := ow.up iy (ow.apart aa (by decide))
               replace n7 := n7.up iy.hh
               replace n8 := n8.up iy.hh
               replace n9 := n9.up iy.hh
               clear aa
               clear aeb iy ajn
               refine ⟨_, rfl, ?_⟩
               refine Ops_step (R_assign rfl) rfl rfl (Ops_step (R_assign rfl) rfl rfl ?_)
               refine Ops_nil ?_
               refine block_n ?_
               refine then_n ?_
               exact ⟨_, rfl, ⟨ajk, ajm, af9, z6, z7, z8, z9, aaa, aab, aga, aac, aad, aae, aaf, aag, aah, fo, lg, lh, jk, fp, li, lj, _, _, rfl, h, hI, co, cg, ow, wy, n7, w4, n8, w5, n9, acp, w6, w7, w8, w9, xa, xb, a7, lx, bz, aw, ai, ly, bg, ac, bm, trivial⟩, ⟨rfl, rfl, rfl, rfl, rfl, rfl, rfl, rfl, rfl, trivial⟩⟩
              ·
               replace h := h.2 z5
               refine W_seq_k fun K83 k83 => ?_
               refine W_region [95, 94] rfl (Ops_step (R_eql rfl rfl) rfl rfl (Ops_step (R_assign rfl) rfl rfl ?_))
               refine Ops_nil ?_
               refine then_n (k83 _ _ ?_)
               clear k83 K83
               refine W_keepB [5, 7, 9, 11, 14, 15, 56, 57, 58, 94] fun B_ b_ => ?_
               simp only [e_, Nat.reduceAdd, Nat.reduceBEq] at b_
               subst b_
               refine W_if rfl (fun aai => ?_) (fun aai => ?_)
               ·
                replace h := h.1 aai
                refine W_drawF [96, 97, 98, 99, 100, 101, 102, 103, 10, 12] [(0, true), (1, true), (2, true), (4, true), (5, true), (6, true), (3, false), (7, false), (8, true), (9, true)] TJmPlays.hm rfl (by kernel_rfl) fun alh aql sk nm => ?_
                replace hI := hI.fr0 nm
                replace ab := ab.fr0 nm
                replace aa := aa.fr0 nm
                replace a7 := a7.fr0 nm
                replace aw := aw.fr0 nm
                replace ai := ai.fr0 nm
                replace ac := ac.fr0 nm
                replace bm := bm.fr0 nm
                clear nm
                refine HSp (R_move rfl) rfl rfl (HSp (R_fieldAddr fo31_2 rfl) rfl rfl ?_)
                refine HS_loadB (v := vi cf.N_) ag3 rfl ac.blk rfl rfl rfl ?_
                refine HSp (R_move rfl) rfl rfl (HSp (R_fieldAddr fo31_2 rfl) rfl rfl ?_)
                refine HS_loadB (v := vi cf.N_) ag3 rfl ac.blk rfl rfl rfl ?_
                refine HS_call [6] _ rfl (by rw [sk]; kernel_rfl) (C_func bd21 rfl) rfl rfl ?_
                refine (disk_Disk_Arm_ok (x1 := cf.N_) (z0 := bf) hI.st (hg.up hI.le) ab gf bi gg bj gh bl h).mono ?_
                rintro _ aqm ⟨ajo, agb, aaj, aak, aal, aam, aan, aao, aqn, aqo, rfl, aec, ox, xc, oa, xd, ob, xe, oc, h⟩
                refine Exists.elim (hI.call aec (new1 cl)) fun ani acr => ?_
                have anj := hI.size
                replace hI := acr.1
                have iz := acr.2.1
                have ajp := acr.2.2
                clear acr
                replace hs1 := hs1.up iz.hh
                replace af := af.trans iz.ll
                replace ag := ag.trans iz.hh
                replace bi := bi.up iz.hh
                replace bj := bj.up iz.hh
                replace bl := bl.up iz.hh
                replace aa := aa.up iz (aa.apart ab (by decide))
                replace am := am.up iz.hh
                replace an := an.up iz.hh
                replace ao := ao.up iz.hh
                replace a7 := a7.up iz (a7.apart ab (by decide))
                replace bz := bz.up iz.hh
                replace aw := aw.up iz.hh iz (aw.neT ab)
                replace ai := ai.up iz (ai.apart ab (by decide))
                replace bg := bg.up iz.hh
                replace aj := aj.trans iz.ll
                replace ah := ah.trans iz.hh
                replace ap := ap.trans iz.ll
                replace ak := ak.trans iz.hh
                replace a6 := a6.up iz.hh
                replace ac := ac.up iz (ac.apart ab (by decide))
                replace bm := bm.up (Le.refl _) iz (bm.ne ab.blk (by decide))
                replace co := co.trans iz.ll
                replace cg := cg.trans iz.hh
                clear ab
                clear aec iz ajp
                refine ⟨_, rfl, ⟨(ac.blk.at_ rfl), trivial⟩, ?_⟩
                refine HS_call [] _ rfl (by rw [sk]; kernel_rfl) (C_func bd36 rfl) rfl rfl ?_
                refine (sealskinref05_Disk_Arm_ok (x1 := cf.N_) (z0 := bh) hI.st (hg.up hI.le) aa gi am gj an gk ao h).mono ?_
                rintro _ aqp ⟨ajq, agc, aap, aaq, aar, aas, aat, aau, aqq, aqr, rfl, aed, acs, xf, xg, xh, xi, xj, xk, h⟩
                refine Exists.elim (hI.call aed (new1 cm)) fun ank act => ?_
                have anl := hI.size
                replace hI := act.1
                have i0 := act.2.1
                have ajr := act.2.2
                clear act
                replace hs1 := hs1.up i0.hh
                replace af := af.trans i0.ll
                replace ag := ag.trans i0.hh
                replace am := am.up i0.hh
                replace an := an.up i0.hh
                replace ao := ao.up i0.hh
                replace a7 := a7.up i0 (a7.apart aa (by decide))
                replace bz := bz.up i0.hh
                replace aw := aw.up i0.hh i0 (aw.neT aa)
                replace ai := ai.up i0 (ai.apart aa (by decide))
                replace bg := bg.up i0.hh
                replace aj := aj.trans i0.ll
                replace ah := ah.trans i0.hh
                replace ap := ap.trans i0.ll
                replace ak := ak.trans i0.hh
                replace a6 := a6.up i0.hh
                replace ac := ac.up i0 (ac.apart aa (by decide))
                replace bm := bm.up (Le.refl _) i0 (bm.ne aa.blk (by decide))
                replace co := co.trans i0.ll
                replace cg := cg.trans i0.hh
                replace ox := ox.up i0 (ox.apart aa (by decide))
                replace oa := oa.up i0.hh
                replace ob := ob.up i0.hh
                replace oc := oc.up i0.hh
                clear aa
                clear aed i0 ajr
                refine ⟨_, rfl, trivial, ?_⟩
                refine HSp (R_assign rfl) rfl rfl (HSp (R_assign rfl) rfl rfl ?_)
                refine HS_nil ?_
                clear sk
                refine block_n ?_
                refine then_n ?_
                exact ⟨_, rfl, ⟨ajo, ajq, agb, aaj, aak, aal, aam, aan, aao, agc, aap, aaq, aar, aas, aat, aau, fo, lg, lh, jk, fp, li, lj, _, _, rfl, h, hI, co, cg, ox, xc, oa, xd, ob, xe, oc, acs, xf, xg, xh, xi, xj, xk, a7, lx, bz, aw, ai, ly, bg, ac, bm, trivial⟩, ⟨rfl, rfl, rfl, rfl, rfl, rfl, rfl, rfl, rfl, trivial⟩⟩
               ·
                replace h := h.2 aai
                refine W_drawF [71, 72, 73, 74, 75, 76, 77, 78, 79, 80, 81, 10, 12] [(0, true), (1, true), (2, true), (3, true), (5, true), (6, true), (7, true), (8, true), (9, true), (4, false), (10, false), (11, true), (12, true)] TJmPlays.hm rfl (by kernel_rfl) fun ali aqs sl nn => ?_
                replace hI := hI.fr0 nn
                replace ab := ab.fr0 nn
                replace aa := aa.fr0 nn
                replace a7 := a7.fr0 nn
                replace aw := aw.fr0 nn
                replace ai := ai.fr0 nn
                replace ac := ac.fr0 nn
                replace bm := bm.fr0 nn
                clear nn
                refine HSp (R_move rfl) rfl rfl (HSp (R_fieldAddr fo31_1 rfl) rfl rfl ?_)
                refine HS_loadB (v := vi cf.Label_) ag3 rfl ac.blk rfl rfl rfl ?_
                refine HSp (R_move rfl) rfl rfl (HSp (R_move rfl) rfl rfl (HSp (R_fieldAddr fo31_1 rfl) rfl rfl ?_))
                refine HS_loadB (v := vi cf.Label_) ag3 rfl ac.blk rfl rfl rfl ?_
                refine HSp (R_fieldAddr fo31_3 rfl) rfl rfl ?_
                refine HS_loadB (v := .slice mg cf.B_.length mh) ag29 rfl ac.blk rfl rfl rfl ?_
                refine HS_call [9, 7] _ rfl (by rw [sl]; kernel_rfl) (C_func bd15 rfl) rfl rfl ?_
                refine (journal_Journal_Put_v3_ok (x1 := cf.Label_) (x2 := ze) (z0 := fo) (z1 := jk) (z2 := bf) hI.st (hg.up hI.le) aw ab gf bi gg bj gh bl a7 lx bz bm h).mono ?_
                rintro _ aqt ⟨ajs, agd, aav, aaw, age, agf, aax, aay, aaz, aa0, aa1, aa2, aqu, aqv, rfl, aee, np, xl, od, nq, nr, xm, oe, xn, og, xo, oh, h⟩
                refine Exists.elim (hI.call aee (memG nb (memG o6 (memG cl memN)))) fun anm acu => ?_
                have ann := hI.size
                replace hI := acu.1
                have jv := acu.2.1
                have ajt := acu.2.2
                clear acu
                replace hs1 := hs1.up jv.hh
                replace af := af.trans jv.ll
                replace ag := ag.trans jv.hh
                replace bi := bi.up jv.hh
                replace bj := bj.up jv.hh
                replace bl := bl.up jv.hh
                replace aa := aa.up jv (niA (aa.apart a7 (by decide)) (niA (aa.neM aw) (niA (aa.apart ab (by decide)) List.not_mem_nil)))
                replace am := am.up jv.hh
                replace an := an.up jv.hh
                replace ao := ao.up jv.hh
                replace bz := bz.up jv.hh
                replace ai := ai.up jv (niA (ai.apart a7 (by decide)) (niA (ai.neM aw) (niA (ai.apart ab (by decide)) List.not_mem_nil)))
                replace bg := bg.up jv.hh
                replace aj := aj.trans jv.ll
                replace ah := ah.trans jv.hh
                replace ap := ap.trans jv.ll
                replace ak := ak.trans jv.hh
                replace a6 := a6.up jv.hh
                replace ac := ac.up jv (niA (ac.apart a7 (by decide)) (niA (ac.neM aw) (niA (ac.apart ab (by decide)) List.not_mem_nil)))
                replace bm := bm.up (Le.refl _) jv (niB (bm.ne a7.blk (by decide)) (niB (bm.neM aw) (niB (bm.ne ab.blk (by decide)) (fun _ _ => by simp))))
                replace co := co.trans jv.ll
                replace cg := cg.trans jv.hh
                clear a7
                clear aw
                clear ab
                clear aee jv ajt
                refine ⟨_, rfl, ⟨(ac.blk.at_ rfl), (ac.blk.at_ rfl), trivial⟩, ?_⟩
                refine HS_call [] _ rfl (by rw [sl]; kernel_rfl) (C_func bd37 rfl) rfl rfl ?_
                refine (sealskinref06_Journal_Put_ok (x1 := cf.Label_) (x2 := cf.B_) (z0 := fp) (z1 := bh) hI.st (hg.up hI.le) aa gi am gj an gk ao ai ly bg zb a6 h).mono ?_
                rintro _ aqw ⟨aju, agh, aa3, aa4, agi, aa5, aa6, aa7, aa8, aa9, aba, aqx, aqy, rfl, aef, acv, xp, xq, acw, xr, xt, xu, xv, xw, xy, h⟩
                refine Exists.elim (hI.call aef (memG nc (memG cm memN))) fun ano acx => ?_
                have anp := hI.size
                replace hI := acx.1
                have jf := acx.2.1
                have ajv := acx.2.2
                clear acx
                replace hs1 := hs1.up jf.hh
                replace af := af.trans jf.ll
                replace ag := ag.trans jf.hh
                replace am := am.up jf.hh
                replace an := an.up jf.hh
                replace ao := ao.up jf.hh
                replace bg := bg.up jf.hh
                replace aj := aj.trans jf.ll
                replace ah := ah.trans jf.hh
                replace ap := ap.trans jf.ll
                replace ak := ak.trans jf.hh
                replace a6 := a6.up jf.hh
                replace ac := ac.up jf (niA (ac.apart ai (by decide)) (niA (ac.apart aa (by decide)) List.not_mem_nil))
                replace bm := bm.up (Le.refl _) jf (niB (bm.ne ai.blk (by decide)) (niB (bm.ne aa.blk (by decide)) (fun _ _ => by simp)))
                replace co := co.trans jf.ll
                replace cg := cg.trans jf.hh
                replace np := np.up jf (niA (np.apart ai (by decide)) (niA (np.apart aa (by decide)) List.not_mem_nil))
                replace od := od.up jf.hh
                replace nq := nq.up jf.hh jf (niA (nq.neT ai) (niA (nq.neT aa) List.not_mem_nil))
                replace nr := nr.up jf (niA (nr.apart ai (by decide)) (niA (nr.apart aa (by decide)) List.not_mem_nil))
                replace oe := oe.up jf.hh
                replace og := og.up jf.hh
                replace oh := oh.up jf.hh
                clear ai
                clear aa
                clear aef jf ajv
                refine ⟨_, rfl, trivial, ?_⟩
                refine HSp (R_assign rfl) rfl rfl (HSp (R_assign rfl) rfl rfl ?_)
                refine HS_nil ?_
                clear sl
                refine block_n ?_
                refine then_n ?_
                exact ⟨_, rfl, ⟨ajs, aju, agf, aax, aay, aaz, aa0, aa1, aa2, agi, aa5, aa6, aa7, aa8, aa9, aba, agd, aav, aaw, age, agh, aa3, aa4, _, _, rfl, h, hI, co, cg, nr, xm, oe, xn, og, xo, oh, acw, xr, xt, xu, xv, xw, xy, np, xl, od, nq, acv, xp, xq, ac, bm, trivial⟩, ⟨rfl, rfl, rfl, rfl, rfl, rfl, rfl, rfl, rfl, trivial⟩⟩
            ·
             simp only [e_, Nat.reduceAdd, Nat.reduceBEq] at b_
             subst b_
             clear h
             clear bm
             clear ac
             rintro _ aqz ⟨si, sj, ar, e5, e8, e9, fa, fb, fc, ae, dk, dl, dm, dn, dp, dq, b9, fd, fe, fy, ca, ff, fg, agj, agk, rfl, aeg, aeh, co, cg, b7, m4, cq, m5, cr, m6, ct, ad, lb, bc, lc, bd, ld, be, ci, q9, fi, cj, ck, ra, fj, ac, bm, -⟩
             replace hI := aeh
             clear aeh
             have h := zf si sj ar ae b9 fy ca aeg
             clear zf aeg
             replace hs1 := hs1.up cg
             replace af := af.trans co
             replace ag := ag.trans cg
             replace aj := aj.trans co
             replace ah := ah.trans cg
             replace ap := ap.trans co
             replace ak := ak.trans cg
             replace a6 := a6.up cg
             refine ex_ h fun alj abb h => ?_
             refine W_seq_join [5, 7, 9, 10, 11, 12, 14, 56, 57, 58] [] (fun vals_ w2 => ∃  (L H : Gh), vals_ = [] ∧ alj ∧ Inv [] G w L H w2 ∧ Le agj L ∧ Le agk H ∧ Tok H w2 q8 31 ([vi cf.Op_, vi cf.Label_, vi cf.N_, .slice mg cf.B_.length mh]) ∧ Tok H w2 ce 53 ([.slice e5 ar.files_.e0_.length e8, .slice e9 ar.files_.e1_.length fa, .slice fb ar.files_.e2_.length fc, vi ar.room_, .bool ar.off_, .bool ar.armed_, vi ar.left_]) ∧ Tok H w2 cd 81 ([.slice dk ae.F_.e0_.length dl, .slice dm ae.F_.e1_.length dn, .slice dp ae.F_.e2_.length dq, vi ae.Room_, .bool ae.Off_, vi ae.Fuse_]) ∧ Tok H w2 me 46 ([.slice fd b9.book_.l_.length fe, .map (some ju), .pointer (some ⟨ce, 0, none⟩), vi b9.gen_, vi b9.place_]) ∧ MTok H H w2 ju fy ∧ Tok H w2 mf 73 ([.slice ff ca.L_.length fg, .pointer (some ⟨cd, 0, none⟩), vi ca.Gen_, vi ca.File_]) ∧ True) (fun B_ b_ => ?_) (fun B_ b_ => ?_)
             ·
              simp only [e_, Nat.reduceAdd, Nat.reduceBEq] at b_
              subst b_
              clear abb
              have nd := Le.refl agj
              have dz := Le.refl agk
              refine W_seq_k fun K93 k93 => ?_
              refine W_region [104, 105, 106] rfl (Ops_step (R_move rfl) rfl rfl (Ops_step (R_len Try.underlying29 rfl rfl) rfl rfl (Ops_step (R_move rfl) rfl rfl ?_)))
              refine Ops_nil ?_
              refine then_n (k93 _ _ ?_)
              clear k93 K93
              refine W_block ?_
              refine Exists.elim h fun alk h => Exists.elim h fun alm h => ?_
              have adi := h.1
              have aei := h.2
              clear h
              refine W_loopB [5, 7, 9, 10, 11, 12, 14, 56, 57, 58, 105] [15, 106] (fun m vals_ w2 => ∃ (jg : List UInt8) (mi : Option Addr) (mj : Nat) (jo : Int) (L H : Gh), vals_ = [.slice mi jg.length mj, vi jo] ∧ alk m jg jo ∧ Inv [] G w L H w2 ∧ Le agj L ∧ Le agk H ∧ OwnS w.heap.size 5 Gh.no H w2 mi mj jg ∧ Tok H w2 q8 31 ([vi cf.Op_, vi cf.Label_, vi cf.N_, .slice mg cf.B_.length mh]) ∧ Tok H w2 ce 53 ([.slice e5 ar.files_.e0_.length e8, .slice e9 ar.files_.e1_.length fa, .slice fb ar.files_.e2_.length fc, vi ar.room_, .bool ar.off_, .bool ar.armed_, vi ar.left_]) ∧ Tok H w2 cd 81 ([.slice dk ae.F_.e0_.length dl, .slice dm ae.F_.e1_.length dn, .slice dp ae.F_.e2_.length dq, vi ae.Room_, .bool ae.Off_, vi ae.Fuse_]) ∧ Tok H w2 me 46 ([.slice fd b9.book_.l_.length fe, .map (some ju), .pointer (some ⟨ce, 0, none⟩), vi b9.gen_, vi b9.place_]) ∧ MTok H H w2 ju fy ∧ Tok H w2 mf 73 ([.slice ff ca.L_.length fg, .pointer (some ⟨cd, 0, none⟩), vi ca.Gen_, vi ca.File_]) ∧ True) alm _ rfl ⟨ze, ad4, ad5, 0, _, _, rfl, adi, hI, Le.refl _, Le.refl _, bm, ac, b7, ad, ci, cj, ck, trivial⟩ fun B_ b_ => ?_
              clear adi
              simp only [e_, Nat.reduceAdd, Nat.reduceBEq] at b_
              subst b_
              clear ac
              clear b7
              clear ad
              clear ci
              clear cj
              clear ck
              rintro aln _ aq0 ⟨jg, mi, mj, jo, aq1, aq2, rfl, aej, aek, pc, f0, fh, ac, b7, ad, ci, cj, ck, -⟩
              replace hI := aek
              clear aek
              have h := aei aln jg jo aej
              clear aei aej
              replace hs1 := hs1.up f0
              replace af := af.trans pc
              replace ag := ag.trans f0
              replace aj := aj.trans pc
              replace ah := ah.trans f0
              replace ap := ap.trans pc
              replace ak := ak.trans f0
              replace a6 := a6.up f0
              replace cq := cq.up f0
              replace cr := cr.up f0
              replace ct := ct.up f0
              replace bc := bc.up f0
              replace bd := bd.up f0
              replace be := be.up f0
              replace fi := fi.up f0
              replace fj := fj.up f0
              replace nd := nd.trans pc
              replace dz := dz.trans f0
              refine W_seq_k fun K95 k95 => ?_
              refine W_region [107] rfl (Ops_step (R_lss rfl rfl) rfl rfl ?_)
              refine Ops_nil ?_
              refine then_n (k95 _ _ ?_)
              clear k95 K95
              refine W_seq_k fun K96 k96 => ?_
              refine W_if rfl (fun abc => ?_) (fun abc => ?_)
              ·
               replace h := h.1 abc
               refine W_skip ?_
               refine then_n (k96 _ _ ?_)
               clear k96 K96
               refine W_seq_k fun K98 k98 => ?_
               refine W_block ?_
               refine W_seq_k fun K99 k99 => ?_
               refine W_region [108, 16] rfl (Ops_step (R_move rfl) rfl rfl (Ops_step (R_assign rfl) rfl rfl ?_))
               refine Ops_nil ?_
               refine then_n (k99 _ _ ?_)
               clear k99 K99
               refine W_region [109, 110, 111, 112, 113, 114, none] rfl (Ops_step (R_move rfl) rfl rfl (Ops_step (R_move rfl) rfl rfl ?_))
               refine ex_ h fun ta sm h => ?_
               have agl := (fh.atS sm).1
               refine Ops_step (R_indexSl Try.underlying29 sz5 rfl rfl sm.1 sm.lt agl) rfl rfl (Ops_step (R_load ag5 rfl (fh.atS sm).2) rfl rfl (Ops_step (R_xor rfl rfl (xor8 ta (255 : UInt8))) rfl rfl ?_))
               refine ex_ h fun anq sn h => ?_
               have agm := (fh.atS sn).1
               refine Ops_step (R_indexSl Try.underlying29 sz5 rfl rfl sn.1 sn.lt agm) rfl rfl ?_
               refine Ops_to0 (X_storeOwn sz5 rfl rfl fh sn) rfl ?_
               rintro _ anr ⟨agn, ml⟩
               replace hI := hI.tok ml fh.out (fh.new (Nat.le_refl _))
               replace ac := ac.fr ml (ac.sep fh (by decide))
               replace b7 := b7.fr ml (b7.sep fh (by decide))
               replace ad := ad.fr ml (ad.sep fh (by decide))
               replace ci := ci.fr ml (ci.sep fh (by decide))
               replace cj := cj.fr ml (cj.neO fh)
               replace ck := ck.fr ml (ck.sep fh (by decide))
               clear ml fh
               have v6 : (put jg jo (ta ^^^ (255 : UInt8))).length = jg.length := by simp only [put, List.length_set]
               refine Ops_re 15 (v := .slice mi jg.length mj) (v' := .slice mi (put jg jo (ta ^^^ (255 : UInt8))).length mj) rfl (by rw [v6]) ?_
               refine Ops_re 109 (v := .slice mi jg.length mj) (v' := .slice mi (put jg jo (ta ^^^ (255 : UInt8))).length mj) rfl (by rw [v6]) ?_
               refine Ops_nil ?_
               refine block_n ?_
               refine then_n (k98 _ _ ?_)
               clear k98 K98
               refine W_keepB [5, 7, 9, 10, 11, 12, 14, 15, 56, 57, 58, 105, 106] fun B_ b_ => ?_
               simp only [e_, Nat.reduceAdd, Nat.reduceBEq] at b_
               subst b_
               refine W_region [115, 106] rfl ?_
               have abd := h.1
               replace h := h.2
               refine Ops_step (R_add rfl rfl (wI abd.1 abd.2)) rfl rfl (Ops_step (R_move rfl) rfl rfl ?_)
               refine Ops_nil ?_
               refine then_n ?_
               exact h.elim fun m_ h => ⟨m_, _, h.1, rfl, ⟨(put jg jo (ta ^^^ (255 : UInt8))), mi, mj, (jo + 1), _, _, rfl, h.2, hI, pc, f0, agn, ac, b7, ad, ci, cj, ck, trivial⟩, ⟨rfl, rfl, rfl, rfl, rfl, rfl, rfl, rfl, rfl, rfl, rfl, trivial⟩⟩
              ·
               replace h := h.2 abc
               refine W_exit ?_
               refine then_exit ?_
               clear k96 K96
               refine then_exit ?_
               refine block_exit ?_
               refine then_n ?_
               exact ⟨_, rfl, ⟨_, _, rfl, h, hI, nd, dz, ac, b7, ad, ci, cj, ck, trivial⟩, ⟨rfl, rfl, rfl, rfl, rfl, rfl, rfl, rfl, rfl, rfl, trivial⟩⟩
             ·
              simp only [e_, Nat.reduceAdd, Nat.reduceBEq] at b_
              subst b_
              clear h
              clear ac
              clear b7
              clear ad
              clear ci
              clear cj
              clear ck
              rintro _ aq3 ⟨ago, agp, rfl, ael, aem, nd, dz, ac, b7, ad, ci, cj, ck, -⟩
              replace hI := aem
              clear aem
              have h := abb ael
              clear abb ael
              replace hs1 := hs1.up dz
              replace af := af.trans nd
              replace ag := ag.trans dz
              replace aj := aj.trans nd
              replace ah := ah.trans dz
              replace ap := ap.trans nd
              replace ak := ak.trans dz
              replace a6 := a6.up dz
              replace cq := cq.up dz
              replace cr := cr.up dz
              replace ct := ct.up dz
              replace bc := bc.up dz
              replace bd := bd.up dz
              replace be := be.up dz
              replace fi := fi.up dz
              replace fj := fj.up dz
              refine W_seq_k fun K105 k105 => ?_
              refine W_seq_k fun K106 k106 => ?_
              refine W_region [116, 117, 118] rfl (Ops_step (R_move rfl) rfl rfl (Ops_step (R_move rfl) rfl rfl (Ops_step (R_neq rfl rfl) rfl rfl ?_)))
              refine Ops_nil ?_
              refine then_n (k106 _ _ ?_)
              clear k106 K106
              refine W_if rfl (fun uo => ?_) (fun uo => ?_)
              ·
               replace h := h.1 uo
               refine W_seq_k fun K108 k108 => ?_
               refine W_region [4] rfl (Ops_step (R_assign rfl) rfl rfl ?_)
               refine Ops_nil ?_
               refine then_n (k108 _ _ ?_)
               clear k108 K108
               refine W_keepB [4] fun B_ b_ => ?_
               simp only [e_, Nat.reduceAdd, Nat.reduceBEq] at b_
               subst b_
               refine W_ret ?_
               refine then_ret ?_
               clear k105 K105
               refine block_ret ?_
               refine then_ret ?_
               refine then_ret ?_
               refine block_ret ?_
               refine then_ret ?_
               refine ⟨_, ⟨_, _, rfl, rfl, rfl⟩, ?_⟩
               exact ⟨false, _, _, rfl, hI, h⟩
              ·
               replace h := h.2 uo
               refine W_skip ?_
               refine then_n (k105 _ _ ?_)
               clear k105 K105
               refine Exists.elim h fun agq h => Exists.elim h fun agr h => ?_
               have ns := h.1
               replace h := h.2
               have nt := h.1
               replace h := h.2
               refine W_seq_join [5, 7, 14, 56, 57, 58] [9, 11] (fun vals_ w2 => (∃ (av : disk_Disk) (d5 : Option Addr) (d6 : Nat) (d7 : Option Addr) (d8 : Nat) (d9 : Option Addr) (ea : Nat) (a5 : sealskinref05_Disk) (eb : Option Addr) (ec : Nat) (ee : Option Addr) (eg : Nat) (eh : Option Addr) (ei : Nat) (L H : Gh), vals_ = [.pointer none, .pointer none] ∧ agq av a5 ∧ Inv [] G w L H w2 ∧ Le ago L ∧ Le agp H ∧ Tok H w2 ce 53 ([.slice d5 av.files_.e0_.length d6, .slice d7 av.files_.e1_.length d8, .slice d9 av.files_.e2_.length ea, vi av.room_, .bool av.off_, .bool av.armed_, vi av.left_]) ∧ av.files_.e0_.length ≤ d6 ∧ Sl H d5 av.files_.e0_ ∧ av.files_.e1_.length ≤ d8 ∧ Sl H d7 av.files_.e1_ ∧ av.files_.e2_.length ≤ ea ∧ Sl H d9 av.files_.e2_ ∧ Tok H w2 cd 81 ([.slice eb a5.F_.e0_.length ec, .slice ee a5.F_.e1_.length eg, .slice eh a5.F_.e2_.length ei, vi a5.Room_, .bool a5.Off_, vi a5.Fuse_]) ∧ a5.F_.e0_.length ≤ ec ∧ Sl H eb a5.F_.e0_ ∧ a5.F_.e1_.length ≤ eg ∧ Sl H ee a5.F_.e1_ ∧ a5.F_.e2_.length ≤ ei ∧ Sl H eh a5.F_.e2_ ∧ Tok H w2 q8 31 ([vi cf.Op_, vi cf.Label_, vi cf.N_, .slice mg cf.B_.length mh]) ∧ True) ∨ (∃ (al : disk_Disk) (ej : Option Addr) (ek : Nat) (en : Option Addr) (eo : Nat) (ep : Option Addr) (eq : Nat) (ax : sealskinref05_Disk) (et : Option Addr) (eu : Nat) (ew : Option Addr) (ex : Nat) (ey : Option Addr) (ez : Nat) (m2 : Nat) (c9 : journal_Journal) (jw : Option Addr) (jx : Nat) (lz : Nat) (i1 : List (Int × Int)) (m3 : Nat) (cv : sealskinref06_Journal) (gt : Option Addr) (gu : Nat) (L H : Gh), vals_ = [.pointer (some ⟨m2, 0, none⟩), .pointer (some ⟨m3, 0, none⟩)] ∧ agr al ax c9 i1 cv ∧ Inv [] G w L H w2 ∧ Le ago L ∧ Le agp H ∧ Tok H w2 ce 53 ([.slice ej al.files_.e0_.length ek, .slice en al.files_.e1_.length eo, .slice ep al.files_.e2_.length eq, vi al.room_, .bool al.off_, .bool al.armed_, vi al.left_]) ∧ al.files_.e0_.length ≤ ek ∧ Sl H ej al.files_.e0_ ∧ al.files_.e1_.length ≤ eo ∧ Sl H en al.files_.e1_ ∧ al.files_.e2_.length ≤ eq ∧ Sl H ep al.files_.e2_ ∧ Tok H w2 cd 81 ([.slice et ax.F_.e0_.length eu, .slice ew ax.F_.e1_.length ex, .slice ey ax.F_.e2_.length ez, vi ax.Room_, .bool ax.Off_, vi ax.Fuse_]) ∧ ax.F_.e0_.length ≤ eu ∧ Sl H et ax.F_.e0_ ∧ ax.F_.e1_.length ≤ ex ∧ Sl H ew ax.F_.e1_ ∧ ax.F_.e2_.length ≤ ez ∧ Sl H ey ax.F_.e2_ ∧ w.heap.size ≤ m2 ∧ Tok H w2 m2 46 ([.slice jw c9.book_.l_.length jx, .map (some lz), .pointer (some ⟨ce, 0, none⟩), vi c9.gen_, vi c9.place_]) ∧ c9.book_.l_.length ≤ jx ∧ Sl H jw c9.book_.l_ ∧ w.heap.size ≤ lz ∧ MTok H H w2 lz i1 ∧ w.heap.size ≤ m3 ∧ Tok H w2 m3 73 ([.slice gt cv.L_.length gu, .pointer (some ⟨cd, 0, none⟩), vi cv.Gen_, vi cv.File_]) ∧ cv.L_.length ≤ gu ∧ Sl H gt cv.L_ ∧ Tok H w2 q8 31 ([vi cf.Op_, vi cf.Label_, vi cf.N_, .slice mg cf.B_.length mh]) ∧ True)) (fun B_ b_ => ?_) (fun B_ b_ => ?_)
               ·
                simp only [e_, Nat.reduceAdd, Nat.reduceBEq] at b_
                subst b_
                clear ns nt
                have b8 := Le.refl ago
                have b4 := Le.refl agp
                refine W_seq_k fun K111 k111 => ?_
                refine W_region [119, 120, 121, 122] rfl (Ops_step (R_move rfl) rfl rfl (Ops_step (R_nilCheck rfl) rfl rfl (Ops_step (R_fieldAddr fo81_2 rfl) rfl rfl ?_)))
                refine Ops_step (R_loadB (v := .bool ae.Off_) ag4 rfl ad.blk rfl) rfl rfl ?_
                refine Ops_nil ?_
                refine then_n (k111 _ _ ?_)
                clear k111 K111
                refine W_keepB [5, 7, 9, 11, 14, 56, 57, 58, 122] fun B_ b_ => ?_
                simp only [e_, Nat.reduceAdd, Nat.reduceBEq] at b_
                subst b_
                refine W_cond rfl (fun uq => ?_) (fun uq => ?_)
                ·
                 replace h := h.1 uq
                 refine W_seq_k fun K114 k114 => ?_
                 refine W_region [123, 124] rfl (Ops_step (R_move rfl) rfl rfl ?_)
                 refine Ops_call (C_func bd22 rfl) rfl rfl ?_
                 refine (disk_Disk_Start_ok (z0 := ar) hI.st (hg.up hI.le) b7 m4 cq m5 cr m6 ct h).mono ?_
                 rintro _ ans ⟨alo, acy, aii, aij, aik, ail, aim, ain, ant, ajw, rfl, abe, fk, ur, jy, ut, jz, uu, j0, h⟩
                 refine Exists.elim (hI.call abe (new1 cl)) fun alp v7 => ?_
                 have alq := hI.size
                 replace hI := v7.1
                 have gn := v7.2.1
                 have ags := v7.2.2
                 clear v7
                 replace hs1 := hs1.up gn.hh
                 replace af := af.trans gn.ll
                 replace ag := ag.trans gn.hh
                 replace aj := aj.trans gn.ll
                 replace ah := ah.trans gn.hh
                 replace ap := ap.trans gn.ll
                 replace ak := ak.trans gn.hh
                 replace a6 := a6.up gn.hh
                 replace cq := cq.up gn.hh
                 replace cr := cr.up gn.hh
                 replace ct := ct.up gn.hh
                 replace bc := bc.up gn.hh
                 replace bd := bd.up gn.hh
                 replace be := be.up gn.hh
                 replace ac := ac.up gn (ac.apart b7 (by decide))
                 replace ad := ad.up gn (ad.apart b7 (by decide))
                 replace b8 := b8.trans gn.ll
                 replace b4 := b4.trans gn.hh
                 clear b7
                 clear abe gn ags
                 refine ⟨_, rfl, ?_⟩
                 refine Ops_nil ?_
                 refine then_n (k114 _ _ ?_)
                 clear k114 K114
                 refine W_seq_k fun K116 k116 => ?_
                 refine W_region [125, 126, 127, none] rfl (Ops_step (R_move rfl) rfl rfl (Ops_step (R_nilCheck rfl) rfl rfl (Ops_step (R_fieldAddr fo81_2 rfl) rfl rfl ?_)))
                 refine Ops_to0 (R_store sz4 rfl rfl ad.blk (by show 4 < 6; decide) rfl) rfl ?_
                 rintro _ anu ⟨abf, so⟩
                 replace hI := hI.tok so (out1 ad.out) (new1 cm)
                 replace ac := ac.fr so (ac.apart ad (by decide))
                 replace fk := fk.fr so (fk.apart ad (by decide))
                 replace ad : Tok ajw _ cd 81 ([.slice dk ae.F_.e0_.length dl, .slice dm ae.F_.e1_.length dn, .slice dp ae.F_.e2_.length dq, vi ae.Room_, .bool false, vi ae.Fuse_]) := ⟨abf, ad.out⟩
                 clear so abf
                 refine Ops_nil ?_
                 refine then_n (k116 _ _ ?_)
                 clear k116 K116
                 refine W_keepB [5, 7, 14, 56, 57, 58] fun B_ b_ => ?_
                 simp only [e_, Nat.reduceAdd, Nat.reduceBEq] at b_
                 subst b_
                 refine W_seq_k fun K119 k119 => ?_
                 refine W_region [129, 130, 128, 131, 132, 9, 10] rfl (Ops_step (R_move rfl) rfl rfl ?_)
                 refine Ops_call (C_func bd20 rfl) rfl rfl ?_
                 refine (journal_Open_ok (z0 := acy) hI.st (hg.up hI.le) fk ur jy ut jz uu j0 h).mono ?_
                 rintro _ anv (⟨acz, i2, pd, pe, pf, pg, ph, pi, alr, als, rfl, v8, f8, tb, i3, tc, i4, tf, i5, h⟩ | ⟨ac0, i6, pj, pk, pm, pn, po, pp, sp, nu, pq, pr, sq, tg, alt, alu, rfl, v9, f9, th, i7, ti, i8, tj, i9, j4, ga, tl, ja, j5, gb, h⟩)
                 ·
                  refine Exists.elim (hI.call v8 (new1 cl)) fun L120a0_ sr => ?_
                  have aka := hI.size
                  replace hI := sr.1
                  have dr := sr.2.1
                  have ac1 := sr.2.2
                  clear sr
                  replace hs1 := hs1.up dr.hh
                  replace af := af.trans dr.ll
                  replace ag := ag.trans dr.hh
                  replace aj := aj.trans dr.ll
                  replace ah := ah.trans dr.hh
                  replace ap := ap.trans dr.ll
                  replace ak := ak.trans dr.hh
                  replace a6 := a6.up dr.hh
                  replace bc := bc.up dr.hh
                  replace bd := bd.up dr.hh
                  replace be := be.up dr.hh
                  replace ac := ac.up dr (ac.apart fk (by decide))
                  replace ad := ad.up dr (ad.apart fk (by decide))
                  replace b8 := b8.trans dr.ll
                  replace b4 := b4.trans dr.hh
                  replace jy := jy.up dr.hh
                  replace jz := jz.up dr.hh
                  replace j0 := j0.up dr.hh
                  clear fk
                  clear v8 dr ac1
                  refine ⟨_, rfl, ?_⟩
                  refine Ops_step (R_move rfl) rfl rfl ?_
                  refine Ops_step (R_extract (v := .pointer none) rfl rfl) rfl rfl ?_
                  refine Ops_step (R_extract (v := vi acz) rfl rfl) rfl rfl ?_
                  refine Ops_step (R_assign rfl) rfl rfl (Ops_step (R_assign rfl) rfl rfl ?_)
                  refine Ops_nil ?_
                  refine then_n (k119 _ _ ?_)
                  clear k119 K119
                  refine W_seq_k fun K121 k121 => ?_
                  refine W_region [134, 135, 133, 136, 137, 11, 12] rfl (Ops_step (R_move rfl) rfl rfl ?_)
                  refine Ops_call (C_func bd28 rfl) rfl rfl ?_
                  refine (sealskinref06_Open_ok (z0 := (sealskinref05_Disk.mk ae.F_ ae.Room_ false ae.Fuse_)) hI.st (hg.up hI.le) ad lb bc lc bd ld be h).mono ?_
                  rintro _ anw (⟨ac2, j1, pt, pu, pv, pw, pz, p2, alv, abg, rfl, wa, lk, tm, mm, tp, mn, tq, mo, h⟩ | ⟨akb, ajx, agt, agu, agv, agw, agx, agy, akc, ajy, agz, ag0, alw, alx, rfl, akd, aio, aen, aeo, aep, aeq, aer, aes, aet, aip, aeu, aev, h⟩)
                  ·
                   refine Exists.elim (hI.call wa (new1 cm)) fun L122a0_ ss => ?_
                   have ake := hI.size
                   replace hI := ss.1
                   have dt := ss.2.1
                   have ac3 := ss.2.2
                   clear ss
                   replace hs1 := hs1.up dt.hh
                   replace af := af.trans dt.ll
                   replace ag := ag.trans dt.hh
                   replace aj := aj.trans dt.ll
                   replace ah := ah.trans dt.hh
                   replace ap := ap.trans dt.ll
                   replace ak := ak.trans dt.hh
                   replace a6 := a6.up dt.hh
                   replace bc := bc.up dt.hh
                   replace bd := bd.up dt.hh
                   replace be := be.up dt.hh
                   replace ac := ac.up dt (ac.apart ad (by decide))
                   replace b8 := b8.trans dt.ll
                   replace b4 := b4.trans dt.hh
                   replace f8 := f8.up dt (f8.apart ad (by decide))
                   replace i3 := i3.up dt.hh
                   replace i4 := i4.up dt.hh
                   replace i5 := i5.up dt.hh
                   clear ad
                   clear wa dt ac3
                   refine ⟨_, rfl, ?_⟩
                   refine Ops_step (R_move rfl) rfl rfl ?_
                   refine Ops_step (R_extract (v := .pointer none) rfl rfl) rfl rfl ?_
                   refine Ops_step (R_extract (v := vi ac2) rfl rfl) rfl rfl ?_
                   refine Ops_step (R_assign rfl) rfl rfl (Ops_step (R_assign rfl) rfl rfl ?_)
                   refine Ops_nil ?_
                   refine then_n (k121 _ _ ?_)
                   clear k121 K121
                   refine W_keepB [5, 7, 9, 10, 11, 12, 14, 56, 57, 58] fun B_ b_ => ?_
                   simp only [e_, Nat.reduceAdd, Nat.reduceBEq] at b_
                   subst b_
                   refine ex_ h fun ajz uv h => ?_
                   refine W_seq_join [5, 7, 9, 11, 14, 56, 57, 58] [147] (fun vals_ w2 => ∃ (nv : Bool) (L H : Gh), vals_ = [.bool nv] ∧ ajz nv ∧ Inv [] G w L H w2 ∧ Le L122a0_ L ∧ Le abg H ∧ Tok H w2 q8 31 ([vi cf.Op_, vi cf.Label_, vi cf.N_, .slice mg cf.B_.length mh]) ∧ Tok H w2 ce 53 ([.slice pd i2.files_.e0_.length pe, .slice pf i2.files_.e1_.length pg, .slice ph i2.files_.e2_.length pi, vi i2.room_, .bool i2.off_, .bool i2.armed_, vi i2.left_]) ∧ Tok H w2 cd 81 ([.slice pt j1.F_.e0_.length pu, .slice pv j1.F_.e1_.length pw, .slice pz j1.F_.e2_.length p2, vi j1.Room_, .bool j1.Off_, vi j1.Fuse_]) ∧ True) (fun B_ b_ => ?_) (fun B_ b_ => ?_)
                   ·
                    simp only [e_, Nat.reduceAdd, Nat.reduceBEq] at b_
                    subst b_
                    clear uv
                    have l4 := Le.refl L122a0_
                    have du := Le.refl abg
                    refine W_region [138, 139, 140, 141, 142, 143, 144, 145, 146, 147] rfl (Ops_step (R_move rfl) rfl rfl (Ops_step (R_move rfl) rfl rfl (Ops_step (R_neq rfl rfl) rfl rfl (Ops_step (R_move rfl) rfl rfl ?_))))
                    refine Ops_split 141 rfl (fun uw => ?_) (fun uw => ?_)
                    ·
                     replace h := h.1 uw
                     refine Ops_pass rfl rfl (Ops_pass rfl rfl (Ops_pass rfl rfl (Ops_pass rfl rfl (Ops_pass rfl rfl ?_))))
                     refine Ops_step (R_pick_true rfl rfl) rfl rfl ?_
                     refine Ops_nil ?_
                     refine then_n ?_
                     exact ⟨_, rfl, ⟨true, _, _, rfl, h, hI, l4, du, ac, f8, lk, trivial⟩, ⟨rfl, rfl, rfl, rfl, rfl, rfl, rfl, rfl, trivial⟩⟩
                    ·
                     replace h := h.2 uw
                     refine Ops_step (R_move rfl) rfl rfl (Ops_step (R_ptrNil Try.underlying26 rfl rfl) rfl rfl (Ops_step (R_move rfl) rfl rfl (Ops_step (R_ptrNil Try.underlying68 rfl rfl) rfl rfl (Ops_step (R_boolNe Try.underlying4 rfl rfl) rfl rfl ?_))))
                     refine Ops_step (R_pick_false rfl rfl) rfl rfl ?_
                     refine Ops_nil ?_
                     refine then_n ?_
                     exact ⟨_, rfl, ⟨(!(true == true)), _, _, rfl, h, hI, l4, du, ac, f8, lk, trivial⟩, ⟨rfl, rfl, rfl, rfl, rfl, rfl, rfl, rfl, trivial⟩⟩
                   ·
                    simp only [e_, Nat.reduceAdd, Nat.reduceBEq] at b_
                    subst b_
                    clear h
                    clear f8
                    clear lk
                    clear ac
                    rintro _ anx ⟨nv, anz, an0, rfl, abh, abi, l4, du, ac, f8, lk, -⟩
                    replace hI := abi
                    clear abi
                    have h := uv nv abh
                    clear uv abh
                    replace hs1 := hs1.up du
                    replace af := af.trans l4
                    replace ag := ag.trans du
                    replace aj := aj.trans l4
                    replace ah := ah.trans du
                    replace ap := ap.trans l4
                    replace ak := ak.trans du
                    replace a6 := a6.up du
                    replace b8 := b8.trans l4
                    replace b4 := b4.trans du
                    replace i3 := i3.up du
                    replace i4 := i4.up du
                    replace i5 := i5.up du
                    replace mm := mm.up du
                    replace mn := mn.up du
                    replace mo := mo.up du
                    refine W_cond rfl (fun ux => ?_) (fun ux => ?_)
                    ·
                     replace h := h.1 ux
                     refine W_seq_k fun K127 k127 => ?_
                     refine W_region [4] rfl (Ops_step (R_assign rfl) rfl rfl ?_)
                     refine Ops_nil ?_
                     refine then_n (k127 _ _ ?_)
                     clear k127 K127
                     refine W_keepB [4] fun B_ b_ => ?_
                     simp only [e_, Nat.reduceAdd, Nat.reduceBEq] at b_
                     subst b_
                     refine W_ret ?_
                     refine then_ret ?_
                     refine block_ret ?_
                     refine then_ret ?_
                     refine then_ret ?_
                     refine block_ret ?_
                     refine then_ret ?_
                     refine ⟨_, ⟨_, _, rfl, rfl, rfl⟩, ?_⟩
                     exact ⟨false, _, _, rfl, hI, h⟩
                    ·
                     replace h := h.2 ux
                     refine W_skip ?_
                     refine then_n ?_
                     exact ⟨_, rfl, .inl ⟨i2, pd, pe, pf, pg, ph, pi, j1, pt, pu, pv, pw, pz, p2, _, _, rfl, h, hI, b8, b4, f8, tb, i3, tc, i4, tf, i5, lk, tm, mm, tp, mn, tq, mo, ac, trivial⟩, ⟨rfl, rfl, rfl, rfl, rfl, rfl, trivial⟩⟩
                  ·
                   exact h.elim
                 ·
                  have ac4 := j4
                  replace j4 := Nat.le_trans hI.size j4
                  have ac5 := j5
                  replace j5 := Nat.le_trans hI.size j5
                  refine Exists.elim (hI.call v9 (new1 cl)) fun L120b0_ su => ?_
                  have akf := hI.size
                  replace hI := su.1
                  have dv := su.2.1
                  have ac6 := su.2.2
                  clear su
                  replace hs1 := hs1.up dv.hh
                  replace af := af.trans dv.ll
                  replace ag := ag.trans dv.hh
                  replace aj := aj.trans dv.ll
                  replace ah := ah.trans dv.hh
                  replace ap := ap.trans dv.ll
                  replace ak := ak.trans dv.hh
                  replace a6 := a6.up dv.hh
                  replace bc := bc.up dv.hh
                  replace bd := bd.up dv.hh
                  replace be := be.up dv.hh
                  replace ac := ac.up dv (ac.apart fk (by decide))
                  replace ad := ad.up dv (ad.apart fk (by decide))
                  replace b8 := b8.trans dv.ll
                  replace b4 := b4.trans dv.hh
                  replace jy := jy.up dv.hh
                  replace jz := jz.up dv.hh
                  replace j0 := j0.up dv.hh
                  clear fk
                  clear v9 dv ac6
                  refine ⟨_, rfl, ?_⟩
                  refine Ops_step (R_move rfl) rfl rfl ?_
                  refine Ops_step (R_extract (v := .pointer (some ⟨sp, 0, none⟩)) rfl rfl) rfl rfl ?_
                  refine Ops_step (R_extract (v := vi ac0) rfl rfl) rfl rfl ?_
                  refine Ops_step (R_assign rfl) rfl rfl (Ops_step (R_assign rfl) rfl rfl ?_)
                  refine Ops_nil ?_
                  refine then_n (k119 _ _ ?_)
                  clear k119 K119
                  refine W_seq_k fun K129 k129 => ?_
                  refine W_region [134, 135, 133, 136, 137, 11, 12] rfl (Ops_step (R_move rfl) rfl rfl ?_)
                  refine Ops_call (C_func bd28 rfl) rfl rfl ?_
                  refine (sealskinref06_Open_ok (z0 := (sealskinref05_Disk.mk ae.F_ ae.Room_ false ae.Fuse_)) hI.st (hg.up hI.le) ad lb bc lc bd ld be h).mono ?_
                  rintro _ an1 (⟨akg, aj0, ag1, ag2, ag6, ag7, ag8, aha, aly, alz, rfl, akh, aiq, aew, aex, aey, aez, ae0, ae1, h⟩ | ⟨ac7, j2, p3, p4, p5, p6, p7, p8, sv, nw, p9, qa, al0, abj, rfl, wb, lm, tr, mp, tt, mq, tv, mr, j6, ln, tw, ms, h⟩)
                  ·
                   exact h.elim
                  ·
                   have ac8 := j6
                   replace j6 := Nat.le_trans hI.size j6
                   refine Exists.elim (hI.call wb (new1 cm)) fun L130b0_ sw => ?_
                   have aki := hI.size
                   replace hI := sw.1
                   have cw := sw.2.1
                   have ac9 := sw.2.2
                   clear sw
                   replace hs1 := hs1.up cw.hh
                   replace af := af.trans cw.ll
                   replace ag := ag.trans cw.hh
                   replace aj := aj.trans cw.ll
                   replace ah := ah.trans cw.hh
                   replace ap := ap.trans cw.ll
                   replace ak := ak.trans cw.hh
                   replace a6 := a6.up cw.hh
                   replace bc := bc.up cw.hh
                   replace bd := bd.up cw.hh
                   replace be := be.up cw.hh
                   replace ac := ac.up cw (ac.apart ad (by decide))
                   replace b8 := b8.trans cw.ll
                   replace b4 := b4.trans cw.hh
                   replace f9 := f9.up cw (f9.apart ad (by decide))
                   replace i7 := i7.up cw.hh
                   replace i8 := i8.up cw.hh
                   replace i9 := i9.up cw.hh
                   replace ga := ga.up cw (ga.apart ad (by decide))
                   replace ja := ja.up cw.hh
                   replace gb := gb.up cw.hh cw (gb.neT ad)
                   clear ad
                   clear wb cw ac9
                   refine ⟨_, rfl, ?_⟩
                   refine Ops_step (R_move rfl) rfl rfl ?_
                   refine Ops_step (R_extract (v := .pointer (some ⟨sv, 0, none⟩)) rfl rfl) rfl rfl ?_
                   refine Ops_step (R_extract (v := vi ac7) rfl rfl) rfl rfl ?_
                   refine Ops_step (R_assign rfl) rfl rfl (Ops_step (R_assign rfl) rfl rfl ?_)
                   refine Ops_nil ?_
                   refine then_n (k129 _ _ ?_)
                   clear k129 K129
                   refine W_keepB [5, 7, 9, 10, 11, 12, 14, 56, 57, 58] fun B_ b_ => ?_
                   simp only [e_, Nat.reduceAdd, Nat.reduceBEq] at b_
                   subst b_
                   refine ex_ h fun aj1 uy h => ?_
                   refine W_seq_join [5, 7, 9, 11, 14, 56, 57, 58] [147] (fun vals_ w2 => ∃ (nx : Bool) (L H : Gh), vals_ = [.bool nx] ∧ aj1 nx ∧ Inv [] G w L H w2 ∧ Le L130b0_ L ∧ Le abj H ∧ Tok H w2 q8 31 ([vi cf.Op_, vi cf.Label_, vi cf.N_, .slice mg cf.B_.length mh]) ∧ Tok H w2 ce 53 ([.slice pj i6.files_.e0_.length pk, .slice pm i6.files_.e1_.length pn, .slice po i6.files_.e2_.length pp, vi i6.room_, .bool i6.off_, .bool i6.armed_, vi i6.left_]) ∧ Tok H w2 sp 46 ([.slice pq nu.book_.l_.length pr, .map (some sq), .pointer (some ⟨ce, 0, none⟩), vi nu.gen_, vi nu.place_]) ∧ MTok H H w2 sq tg ∧ Tok H w2 cd 81 ([.slice p3 j2.F_.e0_.length p4, .slice p5 j2.F_.e1_.length p6, .slice p7 j2.F_.e2_.length p8, vi j2.Room_, .bool j2.Off_, vi j2.Fuse_]) ∧ Tok H w2 sv 73 ([.slice p9 nw.L_.length qa, .pointer (some ⟨cd, 0, none⟩), vi nw.Gen_, vi nw.File_]) ∧ True) (fun B_ b_ => ?_) (fun B_ b_ => ?_)
                   ·
                    simp only [e_, Nat.reduceAdd, Nat.reduceBEq] at b_
                    subst b_
                    clear uy
                    have l5 := Le.refl L130b0_
                    have da := Le.refl abj
                    refine W_region [138, 139, 140, 141, 142, 143, 144, 145, 146, 147] rfl (Ops_step (R_move rfl) rfl rfl (Ops_step (R_move rfl) rfl rfl (Ops_step (R_neq rfl rfl) rfl rfl (Ops_step (R_move rfl) rfl rfl ?_))))
                    refine Ops_split 141 rfl (fun uz => ?_) (fun uz => ?_)
                    ·
                     replace h := h.1 uz
                     refine Ops_pass rfl rfl (Ops_pass rfl rfl (Ops_pass rfl rfl (Ops_pass rfl rfl (Ops_pass rfl rfl ?_))))
                     refine Ops_step (R_pick_true rfl rfl) rfl rfl ?_
                     refine Ops_nil ?_
                     refine then_n ?_
                     exact ⟨_, rfl, ⟨true, _, _, rfl, h, hI, l5, da, ac, f9, ga, gb, lm, ln, trivial⟩, ⟨rfl, rfl, rfl, rfl, rfl, rfl, rfl, rfl, trivial⟩⟩
                    ·
                     replace h := h.2 uz
                     refine Ops_step (R_move rfl) rfl rfl (Ops_step (R_ptrNil Try.underlying26 rfl rfl) rfl rfl (Ops_step (R_move rfl) rfl rfl (Ops_step (R_ptrNil Try.underlying68 rfl rfl) rfl rfl (Ops_step (R_boolNe Try.underlying4 rfl rfl) rfl rfl ?_))))
                     refine Ops_step (R_pick_false rfl rfl) rfl rfl ?_
                     refine Ops_nil ?_
                     refine then_n ?_
                     exact ⟨_, rfl, ⟨(!(false == false)), _, _, rfl, h, hI, l5, da, ac, f9, ga, gb, lm, ln, trivial⟩, ⟨rfl, rfl, rfl, rfl, rfl, rfl, rfl, rfl, trivial⟩⟩
                   ·
                    simp only [e_, Nat.reduceAdd, Nat.reduceBEq] at b_
                    subst b_
                    clear h
                    clear f9
                    clear ga
                    clear gb
                    clear lm
                    clear ln
                    clear ac
                    rintro _ an2 ⟨nx, an3, an4, rfl, abk, abl, l5, da, ac, f9, ga, gb, lm, ln, -⟩
                    replace hI := abl
                    clear abl
                    have h := uy nx abk
                    clear uy abk
                    replace hs1 := hs1.up da
                    replace af := af.trans l5
                    replace ag := ag.trans da
                    replace aj := aj.trans l5
                    replace ah := ah.trans da
                    replace ap := ap.trans l5
                    replace ak := ak.trans da
                    replace a6 := a6.up da
                    replace b8 := b8.trans l5
                    replace b4 := b4.trans da
                    replace i7 := i7.up da
                    replace i8 := i8.up da
                    replace i9 := i9.up da
                    replace ja := ja.up da
                    replace mp := mp.up da
                    replace mq := mq.up da
                    replace mr := mr.up da
                    replace ms := ms.up da
                    refine W_cond rfl (fun u4 => ?_) (fun u4 => ?_)
                    ·
                     replace h := h.1 u4
                     refine W_seq_k fun K135 k135 => ?_
                     refine W_region [4] rfl (Ops_step (R_assign rfl) rfl rfl ?_)
                     refine Ops_nil ?_
                     refine then_n (k135 _ _ ?_)
                     clear k135 K135
                     refine W_keepB [4] fun B_ b_ => ?_
                     simp only [e_, Nat.reduceAdd, Nat.reduceBEq] at b_
                     subst b_
                     refine W_ret ?_
                     refine then_ret ?_
                     refine block_ret ?_
                     refine then_ret ?_
                     refine then_ret ?_
                     refine block_ret ?_
                     refine then_ret ?_
                     refine ⟨_, ⟨_, _, rfl, rfl, rfl⟩, ?_⟩
                     exact ⟨false, _, _, rfl, hI, h⟩
                    ·
                     replace h := h.2 u4
                     refine W_skip ?_
                     refine then_n ?_
                     exact ⟨_, rfl, .inr ⟨i6, pj, pk, pm, pn, po, pp, j2, p3, p4, p5, p6, p7, p8, sp, nu, pq, pr, sq, tg, sv, nw, p9, qa, _, _, rfl, h, hI, b8, b4, f9, th, i7, ti, i8, tj, i9, lm, tr, mp, tt, mq, tv, mr, j4, ga, tl, ja, j5, gb, j6, ln, tw, ms, ac, trivial⟩, ⟨rfl, rfl, rfl, rfl, rfl, rfl, trivial⟩⟩
                ·
                 replace h := h.2 uq
                 refine W_skip ?_
                 refine then_n ?_
                 exact ⟨_, rfl, .inr ⟨ar, e5, e8, e9, fa, fb, fc, ae, dk, dl, dm, dn, dp, dq, me, b9, fd, fe, ju, fy, mf, ca, ff, fg, _, _, rfl, h, hI, b8, b4, b7, m4, cq, m5, cr, m6, ct, ad, lb, bc, lc, bd, ld, be, nb, ci, q9, fi, o6, cj, nc, ck, ra, fj, ac, trivial⟩, ⟨rfl, rfl, rfl, rfl, rfl, rfl, trivial⟩⟩
               ·
                simp only [e_, Nat.reduceAdd, Nat.reduceBEq] at b_
                subst b_
                clear h
                clear ac
                rintro _ an5 (⟨av, d5, d6, d7, d8, d9, ea, a5, eb, ec, ee, eg, eh, ei, abm, abn, rfl, qb, qc, b8, b4, cb, l6, cx, l7, cy, l8, cz, cc, l9, c5, ma, c6, mb, c7, ac, -⟩ | ⟨al, ej, ek, en, eo, ep, eq, ax, et, eu, ew, ex, ey, ez, m2, c9, jw, jx, lz, i1, m3, cv, gt, gu, abo, abp, rfl, qb, qc, b8, b4, aq, fq, ay, ft, az, fu, a4, au, jh, a8, ji, a9, jj, ba, tz, bo, mt, bt, t0, bp, t1, bn, mu, bu, ac, -⟩)
                ·
                 replace hI := qc
                 clear qc
                 have h := ns av a5 qb
                 clear ns nt qb
                 replace hs1 := hs1.up b4
                 replace af := af.trans b8
                 replace ag := ag.trans b4
                 replace aj := aj.trans b8
                 replace ah := ah.trans b4
                 replace ap := ap.trans b8
                 replace ak := ak.trans b4
                 replace a6 := a6.up b4
                 refine ex_ h fun aj2 u5 h => ?_
                 refine W_seq_join [5, 7, 9, 11, 56, 57, 58] [176] (fun vals_ w2 => ∃ (ny : Bool) (L H : Gh), vals_ = [.bool ny] ∧ aj2 ny ∧ Inv [] G w L H w2 ∧ Le abm L ∧ Le abn H ∧ Tok H w2 ce 53 ([.slice d5 av.files_.e0_.length d6, .slice d7 av.files_.e1_.length d8, .slice d9 av.files_.e2_.length ea, vi av.room_, .bool av.off_, .bool av.armed_, vi av.left_]) ∧ Tok H w2 cd 81 ([.slice eb a5.F_.e0_.length ec, .slice ee a5.F_.e1_.length eg, .slice eh a5.F_.e2_.length ei, vi a5.Room_, .bool a5.Off_, vi a5.Fuse_]) ∧ True) (fun B_ b_ => ?_) (fun B_ b_ => ?_)
                 ·
                  simp only [e_, Nat.reduceAdd, Nat.reduceBEq] at b_
                  subst b_
                  clear u5
                  have j7 := Le.refl abm
                  have dw := Le.refl abn
                  refine W_drawF [148, 149, 150, 151, 152, 153, 154, 155, 156, 157, 158, 159, 160, 161, 162, 163, 164, 165, 166, 167, 168, 169, 170, 171, 172, 173, 174, 175, 176] [(0, true), (1, true), (2, false), (3, true), (4, true), (5, true), (6, true), (7, true), (8, true), (10, true), (11, true), (12, true), (13, true), (9, false), (14, false), (15, true), (16, true), (17, true), (18, true), (19, true), (21, true), (22, true), (23, true), (20, false), (24, false), (25, true), (26, true), (27, true), (28, true)] TJmPlays.hm rfl (by kernel_rfl) fun akj an6 qd qe => ?_
                  replace hI := hI.fr0 qe
                  replace ac := ac.fr0 qe
                  replace cb := cb.fr0 qe
                  replace cc := cc.fr0 qe
                  clear qe
                  refine HSp (R_move rfl) rfl rfl (HSp (R_move rfl) rfl rfl ?_)
                  refine HS_call [] _ rfl (by rw [qd]; kernel_rfl) (C_func bd29 rfl) rfl rfl ?_
                  refine (sealskinlaw06_face_ok (z0 := av) (z1 := a5) hI.st (hg.up hI.le) cb l6 cx l7 cy l8 cz cc l9 c5 ma c6 mb c7 h).mono ?_
                  rintro _ an7 ⟨al1, an8, an9, rfl, abq, h⟩
                  refine Exists.elim (hI.call abq (by simp)) fun al2 wc => ?_
                  have al3 := hI.size
                  replace hI := wc.1
                  have gc := wc.2.1
                  have ahb := wc.2.2
                  clear wc
                  replace hs1 := hs1.up gc.hh
                  replace af := af.trans gc.ll
                  replace ag := ag.trans gc.hh
                  replace aj := aj.trans gc.ll
                  replace ah := ah.trans gc.hh
                  replace ap := ap.trans gc.ll
                  replace ak := ak.trans gc.hh
                  replace a6 := a6.up gc.hh
                  replace ac := ac.up gc (by simp)
                  replace cb := cb.up gc (by simp)
                  replace cx := cx.up gc.hh
                  replace cy := cy.up gc.hh
                  replace cz := cz.up gc.hh
                  replace cc := cc.up gc (by simp)
                  replace c5 := c5.up gc.hh
                  replace c6 := c6.up gc.hh
                  replace c7 := c7.up gc.hh
                  replace j7 := j7.trans gc.ll
                  replace dw := dw.trans gc.hh
                  clear abq gc ahb
                  refine ⟨_, rfl, trivial, ?_⟩
                  refine HSp (R_not rfl) rfl rfl (HSp (R_move rfl) rfl rfl ?_)
                  refine HS_splitB 152 rfl (fun u6 => ?_) (fun u6 => ?_)
                  ·
                   replace h := h.1 u6
                   refine HS_pass rfl rfl ?_
                   refine HS_pass rfl rfl ?_
                   refine HS_pass rfl rfl ?_
                   refine HS_passU rfl rfl ?_
                   refine HS_passU rfl rfl ?_
                   refine HS_passU rfl rfl ?_
                   refine HS_passU rfl rfl ?_
                   refine HS_passU rfl rfl ?_
                   refine HS_passLU rfl rfl ?_
                   refine HS_passLU rfl rfl ?_
                   refine HS_passU rfl rfl ?_
                   refine HS_passU rfl rfl ?_
                   refine HS_passU rfl rfl ?_
                   refine HS_passU rfl rfl ?_
                   refine HS_passU rfl rfl ?_
                   refine HS_passU rfl rfl ?_
                   refine HS_passU rfl rfl ?_
                   refine HS_passU rfl rfl ?_
                   refine HS_passLU rfl rfl ?_
                   refine HS_passLU rfl rfl ?_
                   refine HS_passU rfl rfl ?_
                   refine HS_passU rfl rfl ?_
                   refine HS_pass rfl rfl ?_
                   refine HSp (R_pick_true rfl rfl) rfl rfl ?_
                   refine HS_nil ?_
                   clear qd
                   refine then_n ?_
                   exact ⟨_, rfl, ⟨true, _, _, rfl, h, hI, j7, dw, cb, cc, trivial⟩, ⟨rfl, rfl, rfl, rfl, rfl, rfl, rfl, trivial⟩⟩
                  ·
                   replace h := h.2 u6
                   refine HSp (R_move rfl) rfl rfl (HSp (R_ptrNotNil Try.underlying68 rfl rfl) rfl rfl (HSp (R_move rfl) rfl rfl ?_))
                   refine HS_pass rfl rfl ?_
                   refine HS_pass rfl rfl ?_
                   refine HS_pass rfl rfl ?_
                   refine HS_pass rfl rfl ?_
                   refine HS_pass rfl rfl ?_
                   refine HS_passL rfl rfl ?_
                   refine HS_passL rfl rfl ?_
                   refine HS_pass rfl rfl ?_
                   refine HS_pass rfl rfl ?_
                   refine HS_passU rfl rfl ?_
                   refine HS_passU rfl rfl ?_
                   refine HS_passU rfl rfl ?_
                   refine HS_passU rfl rfl ?_
                   refine HS_passU rfl rfl ?_
                   refine HS_passU rfl rfl ?_
                   refine HS_passLU rfl rfl ?_
                   refine HS_passLU rfl rfl ?_
                   refine HS_passU rfl rfl ?_
                   refine HS_pass rfl rfl ?_
                   refine HSp (R_pick_false rfl rfl) rfl rfl (HSp (R_pick_false rfl rfl) rfl rfl ?_)
                   refine HS_nil ?_
                   clear qd
                   refine then_n ?_
                   exact ⟨_, rfl, ⟨false, _, _, rfl, h, hI, j7, dw, cb, cc, trivial⟩, ⟨rfl, rfl, rfl, rfl, rfl, rfl, rfl, trivial⟩⟩
                 ·
                  simp only [e_, Nat.reduceAdd, Nat.reduceBEq] at b_
                  subst b_
                  clear h
                  clear cb
                  clear cc
                  rintro _ aoa ⟨ny, aob, aoc, rfl, abr, abs, j7, dw, cb, cc, -⟩
                  replace hI := abs
                  clear abs
                  have h := u5 ny abr
                  clear u5 abr
                  replace hs1 := hs1.up dw
                  replace af := af.trans j7
                  replace ag := ag.trans dw
                  replace aj := aj.trans j7
                  replace ah := ah.trans dw
                  replace ap := ap.trans j7
                  replace ak := ak.trans dw
                  replace cx := cx.up dw
                  replace cy := cy.up dw
                  replace cz := cz.up dw
                  replace c5 := c5.up dw
                  replace c6 := c6.up dw
                  replace c7 := c7.up dw
                  refine W_cond rfl (fun u7 => ?_) (fun u7 => ?_)
                  ·
                   replace h := h.1 u7
                   refine W_seq_k fun K142 k142 => ?_
                   refine W_region [4] rfl (Ops_step (R_assign rfl) rfl rfl ?_)
                   refine Ops_nil ?_
                   refine then_n (k142 _ _ ?_)
                   clear k142 K142
                   refine W_keepB [4] fun B_ b_ => ?_
                   simp only [e_, Nat.reduceAdd, Nat.reduceBEq] at b_
                   subst b_
                   refine W_ret ?_
                   refine block_ret ?_
                   refine then_ret ?_
                   refine then_ret ?_
                   refine block_ret ?_
                   refine then_ret ?_
                   refine ⟨_, ⟨_, _, rfl, rfl, rfl⟩, ?_⟩
                   exact ⟨false, _, _, rfl, hI, h⟩
                  ·
                   replace h := h.2 u7
                   refine W_skip ?_
                   refine block_n ?_
                   refine then_n ?_
                   exact ⟨_, rfl, .inl ⟨av, d5, d6, d7, d8, d9, ea, a5, eb, ec, ee, eg, eh, ei, _, _, rfl, h, hI, ap, ak, cb, l6, cx, l7, cy, l8, cz, cc, l9, c5, ma, c6, mb, c7, trivial⟩, ⟨rfl, rfl, rfl, rfl, rfl, trivial⟩⟩
                ·
                 replace hI := qc
                 clear qc
                 have h := nt al ax c9 i1 cv qb
                 clear ns nt qb
                 replace hs1 := hs1.up b4
                 replace af := af.trans b8
                 replace ag := ag.trans b4
                 replace aj := aj.trans b8
                 replace ah := ah.trans b4
                 replace ap := ap.trans b8
                 replace ak := ak.trans b4
                 replace a6 := a6.up b4
                 refine ex_ h fun aj3 u9 h => ?_
                 refine W_seq_join [5, 7, 9, 11, 56, 57, 58] [176] (fun vals_ w2 => ∃ (nz : Bool) (L H : Gh), vals_ = [.bool nz] ∧ aj3 nz ∧ Inv [] G w L H w2 ∧ Le abo L ∧ Le abp H ∧ Tok H w2 ce 53 ([.slice ej al.files_.e0_.length ek, .slice en al.files_.e1_.length eo, .slice ep al.files_.e2_.length eq, vi al.room_, .bool al.off_, .bool al.armed_, vi al.left_]) ∧ Tok H w2 cd 81 ([.slice et ax.F_.e0_.length eu, .slice ew ax.F_.e1_.length ex, .slice ey ax.F_.e2_.length ez, vi ax.Room_, .bool ax.Off_, vi ax.Fuse_]) ∧ Tok H w2 m2 46 ([.slice jw c9.book_.l_.length jx, .map (some lz), .pointer (some ⟨ce, 0, none⟩), vi c9.gen_, vi c9.place_]) ∧ MTok H H w2 lz i1 ∧ Tok H w2 m3 73 ([.slice gt cv.L_.length gu, .pointer (some ⟨cd, 0, none⟩), vi cv.Gen_, vi cv.File_]) ∧ True) (fun B_ b_ => ?_) (fun B_ b_ => ?_)
                 ·
                  simp only [e_, Nat.reduceAdd, Nat.reduceBEq] at b_
                  subst b_
                  clear u9
                  have cp := Le.refl abo
                  have b5 := Le.refl abp
                  refine W_drawF [148, 149, 150, 151, 152, 153, 154, 155, 156, 157, 158, 159, 160, 161, 162, 163, 164, 165, 166, 167, 168, 169, 170, 171, 172, 173, 174, 175, 176] [(0, true), (1, true), (2, false), (3, true), (4, true), (5, true), (6, true), (7, true), (8, true), (10, true), (11, true), (12, true), (13, true), (9, false), (14, false), (15, true), (16, true), (17, true), (18, true), (19, true), (21, true), (22, true), (23, true), (20, false), (24, false), (25, true), (26, true), (27, true), (28, true)] TJmPlays.hm rfl (by kernel_rfl) fun akk aod jb mv => ?_
                  replace hI := hI.fr0 mv
                  replace ac := ac.fr0 mv
                  replace aq := aq.fr0 mv
                  replace au := au.fr0 mv
                  replace bo := bo.fr0 mv
                  replace bp := bp.fr0 mv
                  replace bn := bn.fr0 mv
                  clear mv
                  refine HSp (R_move rfl) rfl rfl (HSp (R_move rfl) rfl rfl ?_)
                  refine HS_call [] _ rfl (by rw [jb]; kernel_rfl) (C_func bd29 rfl) rfl rfl ?_
                  refine (sealskinlaw06_face_ok (z0 := al) (z1 := ax) hI.st (hg.up hI.le) aq fq ay ft az fu a4 au jh a8 ji a9 jj ba h).mono ?_
                  rintro _ aoe ⟨al4, aof, aog, rfl, abt, h⟩
                  refine Exists.elim (hI.call abt (by simp)) fun al5 wd => ?_
                  have al6 := hI.size
                  replace hI := wd.1
                  have dh := wd.2.1
                  have ahc := wd.2.2
                  clear wd
                  replace hs1 := hs1.up dh.hh
                  replace af := af.trans dh.ll
                  replace ag := ag.trans dh.hh
                  replace aj := aj.trans dh.ll
                  replace ah := ah.trans dh.hh
                  replace ap := ap.trans dh.ll
                  replace ak := ak.trans dh.hh
                  replace a6 := a6.up dh.hh
                  replace ac := ac.up dh (by simp)
                  replace aq := aq.up dh (by simp)
                  replace ay := ay.up dh.hh
                  replace az := az.up dh.hh
                  replace a4 := a4.up dh.hh
                  replace au := au.up dh (by simp)
                  replace a8 := a8.up dh.hh
                  replace a9 := a9.up dh.hh
                  replace ba := ba.up dh.hh
                  replace bo := bo.up dh (by simp)
                  replace bt := bt.up dh.hh
                  replace bp := bp.up dh.hh dh (by simp)
                  replace bn := bn.up dh (by simp)
                  replace bu := bu.up dh.hh
                  replace cp := cp.trans dh.ll
                  replace b5 := b5.trans dh.hh
                  clear abt dh ahc
                  refine ⟨_, rfl, trivial, ?_⟩
                  refine HSp (R_not rfl) rfl rfl (HSp (R_move rfl) rfl rfl ?_)
                  refine HS_splitB 152 rfl (fun va => ?_) (fun va => ?_)
                  ·
                   replace h := h.1 va
                   refine HS_pass rfl rfl ?_
                   refine HS_pass rfl rfl ?_
                   refine HS_pass rfl rfl ?_
                   refine HS_passU rfl rfl ?_
                   refine HS_passU rfl rfl ?_
                   refine HS_passU rfl rfl ?_
                   refine HS_passU rfl rfl ?_
                   refine HS_passU rfl rfl ?_
                   refine HS_passLU rfl rfl ?_
                   refine HS_passLU rfl rfl ?_
                   refine HS_passU rfl rfl ?_
                   refine HS_passU rfl rfl ?_
                   refine HS_passU rfl rfl ?_
                   refine HS_passU rfl rfl ?_
                   refine HS_passU rfl rfl ?_
                   refine HS_passU rfl rfl ?_
                   refine HS_passU rfl rfl ?_
                   refine HS_passU rfl rfl ?_
                   refine HS_passLU rfl rfl ?_
                   refine HS_passLU rfl rfl ?_
                   refine HS_passU rfl rfl ?_
                   refine HS_passU rfl rfl ?_
                   refine HS_pass rfl rfl ?_
                   refine HSp (R_pick_true rfl rfl) rfl rfl ?_
                   refine HS_nil ?_
                   clear jb
                   refine then_n ?_
                   exact ⟨_, rfl, ⟨true, _, _, rfl, h, hI, cp, b5, aq, au, bo, bp, bn, trivial⟩, ⟨rfl, rfl, rfl, rfl, rfl, rfl, rfl, trivial⟩⟩
                  ·
                   replace h := h.2 va
                   refine HSp (R_move rfl) rfl rfl (HSp (R_ptrNotNil Try.underlying68 rfl rfl) rfl rfl (HSp (R_move rfl) rfl rfl (HSp (R_move rfl) rfl rfl (HSp (R_move rfl) rfl rfl ?_))))
                   refine HSp (R_nilCheck rfl) rfl rfl (HSp (R_fieldAddr fo73_0 rfl) rfl rfl ?_)
                   refine HS_loadB (v := .slice gt cv.L_.length gu) ag36 rfl bn.blk rfl rfl rfl ?_
                   refine HS_call [13] _ rfl (by rw [jb]; kernel_rfl) (C_func bd16 rfl) rfl rfl ?_
                   refine (sealskinlaw06_records_ok (z0 := c9) (z1 := i1) (z2 := al) hI.st (hg.up hI.le) bp aq fq ay ft az fu a4 bo mt bt h).mono ?_
                   rintro _ aoh ⟨al7, al8, ahd, aoi, aoj, rfl, abu, go, h⟩
                   refine Exists.elim (hI.call abu (by simp)) fun al9 we => ?_
                   have ahe := hI.size
                   replace hI := we.1
                   have di := we.2.1
                   have abv := we.2.2
                   clear we
                   replace hs1 := hs1.up di.hh
                   replace af := af.trans di.ll
                   replace ag := ag.trans di.hh
                   replace aj := aj.trans di.ll
                   replace ah := ah.trans di.hh
                   replace ap := ap.trans di.ll
                   replace ak := ak.trans di.hh
                   replace a6 := a6.up di.hh
                   replace ac := ac.up di (by simp)
                   replace aq := aq.up di (by simp)
                   replace ay := ay.up di.hh
                   replace az := az.up di.hh
                   replace a4 := a4.up di.hh
                   replace au := au.up di (by simp)
                   replace a8 := a8.up di.hh
                   replace a9 := a9.up di.hh
                   replace ba := ba.up di.hh
                   replace bo := bo.up di (by simp)
                   replace bt := bt.up di.hh
                   replace bp := bp.up di.hh di (by simp)
                   replace bn := bn.up di (by simp)
                   replace bu := bu.up di.hh
                   replace cp := cp.trans di.ll
                   replace b5 := b5.trans di.hh
                   replace go := OwnS.back go ahe abv (Le.refl _)
                   clear abu di abv
                   refine ⟨_, rfl, ⟨(bn.blk.at_ rfl), trivial⟩, ?_⟩
                   refine Exists.elim (go.freeze hI) fun aok se => Exists.elim se fun aol se => ?_
                   replace hI := se.1
                   have dj := se.2.1
                   have nf := se.2.2.1 (Le.refl _)
                   have ahf := go.cap
                   replace hs1 := hs1.up dj.hh
                   replace af := af.trans dj.ll
                   replace ag := ag.trans dj.hh
                   replace aj := aj.trans dj.ll
                   replace ah := ah.trans dj.hh
                   replace ap := ap.trans dj.ll
                   replace ak := ak.trans dj.hh
                   replace a6 := a6.up dj.hh
                   replace ac := ac.up dj (ac.sep go (by decide))
                   replace aq := aq.up dj (aq.sep go (by decide))
                   replace ay := ay.up dj.hh
                   replace az := az.up dj.hh
                   replace a4 := a4.up dj.hh
                   replace au := au.up dj (au.sep go (by decide))
                   replace a8 := a8.up dj.hh
                   replace a9 := a9.up dj.hh
                   replace ba := ba.up dj.hh
                   replace bo := bo.up dj (bo.sep go (by decide))
                   replace bt := bt.up dj.hh
                   replace bp := bp.up dj.hh dj (bp.neO go)
                   replace bn := bn.up dj (bn.sep go (by decide))
                   replace bu := bu.up dj.hh
                   replace cp := cp.trans dj.ll
                   replace b5 := b5.trans dj.hh
                   clear se dj go
                   refine HS_call [] _ rfl (by rw [jb]; kernel_rfl) (C_func bd23 rfl) rfl rfl ?_
                   refine (slices_Equal_sealskinref06_Record_sealskinref06_Record_ok (x0 := ahd) (x1 := cv.L_) hI.st (hg.up hI.le) ahf (nf.up hI.sub) mu bu h).mono ?_
                   rintro _ aom ⟨ama, aon, aoo, rfl, abw, h⟩
                   refine Exists.elim (hI.call abw (by simp)) fun amb wg => ?_
                   have amc := hI.size
                   replace hI := wg.1
                   have de := wg.2.1
                   have ahg := wg.2.2
                   clear wg
                   replace hs1 := hs1.up de.hh
                   replace af := af.trans de.ll
                   replace ag := ag.trans de.hh
                   replace aj := aj.trans de.ll
                   replace ah := ah.trans de.hh
                   replace ap := ap.trans de.ll
                   replace ak := ak.trans de.hh
                   replace a6 := a6.up de.hh
                   replace ac := ac.up de (by simp)
                   replace aq := aq.up de (by simp)
                   replace ay := ay.up de.hh
                   replace az := az.up de.hh
                   replace a4 := a4.up de.hh
                   replace au := au.up de (by simp)
                   replace a8 := a8.up de.hh
                   replace a9 := a9.up de.hh
                   replace ba := ba.up de.hh
                   replace bo := bo.up de (by simp)
                   replace bt := bt.up de.hh
                   replace bp := bp.up de.hh de (by simp)
                   replace bn := bn.up de (by simp)
                   replace bu := bu.up de.hh
                   replace cp := cp.trans de.ll
                   replace b5 := b5.trans de.hh
                   replace nf := nf.up de.ll
                   clear abw de ahg
                   refine ⟨_, rfl, trivial, ?_⟩
                   refine HSp (R_not rfl) rfl rfl (HSp (R_move rfl) rfl rfl ?_)
                   refine HS_splitB 164 rfl (fun vc => ?_) (fun vc => ?_)
                   ·
                    replace h := h.1 vc
                    refine HS_pass rfl rfl ?_
                    refine HS_pass rfl rfl ?_
                    refine HS_pass rfl rfl ?_
                    refine HS_pass rfl rfl ?_
                    refine HS_pass rfl rfl ?_
                    refine HS_pass rfl rfl ?_
                    refine HS_passL rfl rfl ?_
                    refine HS_passL rfl rfl ?_
                    refine HS_pass rfl rfl ?_
                    refine HSp (R_pick_true rfl rfl) rfl rfl (HSp (R_pick_true rfl rfl) rfl rfl (HSp (R_pick_false rfl rfl) rfl rfl ?_))
                    refine HS_nil ?_
                    clear jb
                    refine then_n ?_
                    exact ⟨_, rfl, ⟨true, _, _, rfl, h, hI, cp, b5, aq, au, bo, bp, bn, trivial⟩, ⟨rfl, rfl, rfl, rfl, rfl, rfl, rfl, trivial⟩⟩
                   ·
                    replace h := h.2 vc
                    refine HSp (R_move rfl) rfl rfl (HSp (R_fieldAddr fo31_1 rfl) rfl rfl ?_)
                    refine HS_loadB (v := vi cf.Label_) ag3 rfl ac.blk rfl rfl rfl ?_
                    refine HSp (R_move rfl) rfl rfl (HSp (R_fieldAddr fo31_1 rfl) rfl rfl ?_)
                    refine HS_loadB (v := vi cf.Label_) ag3 rfl ac.blk rfl rfl rfl ?_
                    refine HS_call [23] _ rfl (by rw [jb]; kernel_rfl) (C_func bd17 rfl) rfl rfl ?_
                    refine (journal_Journal_Bytes_ok (x1 := cf.Label_) (z0 := c9) (z1 := i1) (z2 := al) hI.st (hg.up hI.le) bp aq fq ay ft az fu a4 bo mt bt h).mono ?_
                    rintro _ aop ⟨ahh, aoq, aor, rfl, abx, h⟩
                    refine Exists.elim (hI.call abx (by simp)) fun amd wh => ?_
                    have ame := hI.size
                    replace hI := wh.1
                    have df := wh.2.1
                    have ahi := wh.2.2
                    clear wh
                    replace hs1 := hs1.up df.hh
                    replace af := af.trans df.ll
                    replace ag := ag.trans df.hh
                    replace aj := aj.trans df.ll
                    replace ah := ah.trans df.hh
                    replace ap := ap.trans df.ll
                    replace ak := ak.trans df.hh
                    replace a6 := a6.up df.hh
                    replace ac := ac.up df (by simp)
                    replace aq := aq.up df (by simp)
                    replace ay := ay.up df.hh
                    replace az := az.up df.hh
                    replace a4 := a4.up df.hh
                    replace au := au.up df (by simp)
                    replace a8 := a8.up df.hh
                    replace a9 := a9.up df.hh
                    replace ba := ba.up df.hh
                    replace bo := bo.up df (by simp)
                    replace bt := bt.up df.hh
                    replace bp := bp.up df.hh df (by simp)
                    replace bn := bn.up df (by simp)
                    replace bu := bu.up df.hh
                    replace cp := cp.trans df.ll
                    replace b5 := b5.trans df.hh
                    replace nf := nf.up df.ll
                    clear abx df ahi
                    refine ⟨_, rfl, ⟨(ac.blk.at_ rfl), trivial⟩, ?_⟩
                    refine HS_call [] _ rfl (by rw [jb]; kernel_rfl) (C_func bd38 rfl) rfl rfl ?_
                    refine (sealskinref06_Journal_Bytes_ok (x1 := cf.Label_) (z0 := cv) (z1 := ax) hI.st (hg.up hI.le) au jh a8 ji a9 jj ba bn mu bu h).mono ?_
                    rintro _ aos ⟨ahj, aot, aou, rfl, aby, h⟩
                    refine Exists.elim (hI.call aby (by simp)) fun amf wi => ?_
                    have amg := hI.size
                    replace hI := wi.1
                    have dg := wi.2.1
                    have ahk := wi.2.2
                    clear wi
                    replace hs1 := hs1.up dg.hh
                    replace af := af.trans dg.ll
                    replace ag := ag.trans dg.hh
                    replace aj := aj.trans dg.ll
                    replace ah := ah.trans dg.hh
                    replace ap := ap.trans dg.ll
                    replace ak := ak.trans dg.hh
                    replace a6 := a6.up dg.hh
                    replace ac := ac.up dg (by simp)
                    replace aq := aq.up dg (by simp)
                    replace ay := ay.up dg.hh
                    replace az := az.up dg.hh
                    replace a4 := a4.up dg.hh
                    replace au := au.up dg (by simp)
                    replace a8 := a8.up dg.hh
                    replace a9 := a9.up dg.hh
                    replace ba := ba.up dg.hh
                    replace bo := bo.up dg (by simp)
                    replace bt := bt.up dg.hh
                    replace bp := bp.up dg.hh dg (by simp)
                    replace bn := bn.up dg (by simp)
                    replace bu := bu.up dg.hh
                    replace cp := cp.trans dg.ll
                    replace b5 := b5.trans dg.hh
                    replace nf := nf.up dg.ll
                    clear aby dg ahk
                    refine ⟨_, rfl, trivial, ?_⟩
                    refine HSp (R_neq rfl rfl) rfl rfl (HSp (R_pick_false rfl rfl) rfl rfl (HSp (R_pick_true rfl rfl) rfl rfl (HSp (R_pick_false rfl rfl) rfl rfl ?_)))
                    refine HS_nil ?_
                    clear jb
                    refine then_n ?_
                    exact ⟨_, rfl, ⟨(decide (ahh ≠ ahj)), _, _, rfl, h, hI, cp, b5, aq, au, bo, bp, bn, trivial⟩, ⟨rfl, rfl, rfl, rfl, rfl, rfl, rfl, trivial⟩⟩
                 ·
                  simp only [e_, Nat.reduceAdd, Nat.reduceBEq] at b_
                  subst b_
                  clear h
                  clear aq
                  clear au
                  clear bo
                  clear bp
                  clear bn
                  rintro _ aov ⟨nz, aow, aox, rfl, abz, ab0, cp, b5, aq, au, bo, bp, bn, -⟩
                  replace hI := ab0
                  clear ab0
                  have h := u9 nz abz
                  clear u9 abz
                  replace hs1 := hs1.up b5
                  replace af := af.trans cp
                  replace ag := ag.trans b5
                  replace aj := aj.trans cp
                  replace ah := ah.trans b5
                  replace ap := ap.trans cp
                  replace ak := ak.trans b5
                  replace ay := ay.up b5
                  replace az := az.up b5
                  replace a4 := a4.up b5
                  replace a8 := a8.up b5
                  replace a9 := a9.up b5
                  replace ba := ba.up b5
                  replace bt := bt.up b5
                  replace bu := bu.up b5
                  refine W_cond rfl (fun vd => ?_) (fun vd => ?_)
                  ·
                   replace h := h.1 vd
                   refine W_seq_k fun K155 k155 => ?_
                   refine W_region [4] rfl (Ops_step (R_assign rfl) rfl rfl ?_)
                   refine Ops_nil ?_
                   refine then_n (k155 _ _ ?_)
                   clear k155 K155
                   refine W_keepB [4] fun B_ b_ => ?_
                   simp only [e_, Nat.reduceAdd, Nat.reduceBEq] at b_
                   subst b_
                   refine W_ret ?_
                   refine block_ret ?_
                   refine then_ret ?_
                   refine then_ret ?_
                   refine block_ret ?_
                   refine then_ret ?_
                   refine ⟨_, ⟨_, _, rfl, rfl, rfl⟩, ?_⟩
                   exact ⟨false, _, _, rfl, hI, h⟩
                  ·
                   replace h := h.2 vd
                   refine W_skip ?_
                   refine block_n ?_
                   refine then_n ?_
                   exact ⟨_, rfl, .inr ⟨al, ej, ek, en, eo, ep, eq, ax, et, eu, ew, ex, ey, ez, m2, c9, jw, jx, lz, i1, m3, cv, gt, gu, _, _, rfl, h, hI, ap, ak, aq, fq, ay, ft, az, fu, a4, au, jh, a8, ji, a9, jj, ba, tz, bo, mt, bt, t0, bp, t1, bn, mu, bu, trivial⟩, ⟨rfl, rfl, rfl, rfl, rfl, trivial⟩⟩
           ·
            simp only [e_, Nat.reduceAdd, Nat.reduceBEq] at b_
            subst b_
            clear h
            rintro _ aq4 (⟨bq, gv, gw, gx, gy, gz, g6, bw, g7, g8, g9, ia, ib, ic, aoy, aoz, rfl, t2, t3, ap, ak, sx, qf, qg, qh, qi, qj, qk, sy, ql, qm, qn, qo, qp, qq, -⟩ | ⟨br, ie, ig, ii, ij, ik, il, bx, im, io, ip, iq, ir, it, o7, jl, my, mz, o8, nj, o9, jm, m0, m1, ao0, ao1, rfl, t2, t3, ap, ak, s0, qr, qs, qt, qu, qv, qw, s1, qx, qy, qz, q5, q6, q7, ve, ab1, vf, vg, vh, ab2, vj, ab3, vk, vl, -⟩)
            ·
             replace hI := t3
             clear t3
             have h := ou bq bw t2
             clear ou ov t2
             replace hs1 := hs1.up ak
             replace af := af.trans ap
             replace ag := ag.trans ak
             replace aj := aj.trans ap
             replace ah := ah.trans ak
             refine W_region [177, 58] rfl ?_
             have ab4 := h.1
             replace h := h.2
             refine Ops_step (R_add rfl rfl (wI ab4.1 ab4.2)) rfl rfl (Ops_step (R_move rfl) rfl rfl ?_)
             refine Ops_nil ?_
             refine then_n ?_
             exact h.elim fun m_ h => ⟨m_, _, h.1, rfl, .inr ⟨(mw + 1), bq, gv, gw, gx, gy, gz, g6, bw, g7, g8, g9, ia, ib, ic, _, _, rfl, h.2, hI, aj, ah, sx, qf, qg, qh, qi, qj, qk, sy, ql, qm, qn, qo, qp, qq, trivial⟩, ⟨rfl, rfl, rfl, rfl, trivial⟩⟩
            ·
             replace hI := t3
             clear t3
             have h := ov br bx jl nj jm t2
             clear ou ov t2
             replace hs1 := hs1.up ak
             replace af := af.trans ap
             replace ag := ag.trans ak
             replace aj := aj.trans ap
             replace ah := ah.trans ak
             refine W_region [177, 58] rfl ?_
             have ab5 := h.1
             replace h := h.2
             refine Ops_step (R_add rfl rfl (wI ab5.1 ab5.2)) rfl rfl (Ops_step (R_move rfl) rfl rfl ?_)
             refine Ops_nil ?_
             refine then_n ?_
             exact h.elim fun m_ h => ⟨m_, _, h.1, rfl, .inl ⟨(mw + 1), br, ie, ig, ii, ij, ik, il, bx, im, io, ip, iq, ir, it, o7, jl, my, mz, o8, nj, o9, jm, m0, m1, _, _, rfl, h.2, hI, aj, ah, s0, qr, qs, qt, qu, qv, qw, s1, qx, qy, qz, q5, q6, q7, ve, ab1, vf, vg, vh, ab2, vj, ab3, vk, vl, trivial⟩, ⟨rfl, rfl, rfl, rfl, trivial⟩⟩
          ·
           replace h := h.2 y9
           refine W_exit ?_
           refine then_exit ?_
           clear k61 K61
           refine then_exit ?_
           refine block_exit ?_
           refine then_n ?_
           exact ⟨_, rfl, ⟨_, _, rfl, h, hI, af, ag, trivial⟩, trivial⟩
         ·
          replace hI := s9
          clear s9
          have h := un ai7 ot bv b6 s8
          clear um un s8
          replace hs1 := hs1.up ah
          replace af := af.trans aj
          replace ag := ag.trans ah
          refine W_seq_k fun K159 k159 => ?_
          refine W_region [59] rfl (Ops_step (R_lss rfl rfl) rfl rfl ?_)
          refine Ops_nil ?_
          refine then_n (k159 _ _ ?_)
          clear k159 K159
          refine W_seq_k fun K160 k160 => ?_
          refine W_if rfl (fun vm => ?_) (fun vm => ?_)
          ·
           replace h := h.1 vm
           refine W_skip ?_
           refine then_n (k160 _ _ ?_)
           clear k160 K160
           refine W_seq_k fun K162 k162 => ?_
           refine W_block ?_
           refine W_seq_k fun K163 k163 => ?_
           refine W_region [60, 61, 14, none] rfl ?_
           refine ex_ h fun om s3 h => ?_
           have ahl := (Sl.atN (n := 4) rfl (by decide) hs1 s3).1
           refine Exists.elim (Sl.atN (n := 4) rfl (by decide) hs1 s3).2 fun ao2 vn => ?_
           have ahm := vn.1
           have ahn := vn.2
           clear vn
           refine Ops_step (R_indexSl Try.underlying22 sz31 rfl rfl s3.1 s3.lt ahl) rfl rfl ?_
           obtain ⟨ab6, ab7, rfl, ⟨akl, akm⟩⟩ := ahm
           refine Ops_step (R_loadCs (cs := [vi om.Op_, vi om.Label_, vi om.N_, .slice ab6 om.B_.length ab7]) ag31 sz31 rfl (fun j_ v_ hv_ => hI.st _ _ (ahn j_ v_ hv_))) rfl rfl ?_
           have o5 := hI
           refine Ops_to (R_alloc zr31) rfl rfl ?_
           rintro _ ao3 ⟨ab8, rfl, vo, ab9, s4⟩
           replace hI := hI.fr0 s4
           replace gl := gl.fr0 s4
           replace gm := gm.fr0 s4
           have ol : Tok ad1 _ ab8 31 ([vi 0, vi 0, vi 0, .slice none 0 0]) := ⟨ab9.to rfl, Out.ge o5.st (Nat.le_of_eq vo.symm)⟩
           have xz : w.heap.size ≤ ab8 := vo ▸ o5.size
           clear ab9 vo o5 s4
           refine Ops_to0 (R_storeN sz31 rfl rfl rfl ol.blk (Nat.le_of_ble_eq_true rfl) rfl) rfl ?_
           rintro _ ao4 ⟨aca, s5⟩
           replace hI := hI.tok s5 (out1 ol.out) (new1 xz)
           replace gl := gl.fr s5 (gl.apart ol (by decide))
           replace gm := gm.fr s5 (gm.apart ol (by decide))
           replace ol : Tok ad1 _ ab8 31 ([vi om.Op_, vi om.Label_, vi om.N_, .slice ab6 om.B_.length ab7]) := ⟨aca, ol.out⟩
           clear s5 aca
           refine Ops_nil ?_
           refine then_n (k163 _ _ ?_)
           clear k163 K163
           refine W_seq_k fun K167 k167 => ?_
           refine W_seq_k fun K168 k168 => ?_
           refine W_region [62, 63] rfl (Ops_step (R_move rfl) rfl rfl (Ops_step (R_ptrNil Try.underlying68 rfl rfl) rfl rfl ?_))
           refine Ops_nil ?_
           refine then_n (k168 _ _ ?_)
           clear k168 K168
           refine W_cond_true rfl ?_
           refine W_seq_k fun K169 k169 => ?_
           refine W_region [64, 4] rfl ?_
           refine Ops_call (C_func bd12 rfl) rfl rfl ?_
           refine (sealskinlaw06_awake_ok  hI.st (hg.up hI.le)  h).mono ?_
           rintro _ ao5 ⟨aho, ao6, ao7, rfl, acb, h⟩
           refine Exists.elim (hI.call acb (by simp)) fun amh wj => ?_
           have ami := hI.size
           replace hI := wj.1
           have t4 := wj.2.1
           have ahp := wj.2.2
           clear wj
           replace af := af.trans t4.ll
           replace ag := ag.trans t4.hh
           replace aj := aj.trans t4.ll
           replace ah := ah.trans t4.hh
           clear acb t4 ahp
           refine ⟨_, rfl, ?_⟩
           refine Ops_step (R_assign rfl) rfl rfl ?_
           refine Ops_nil ?_
           refine then_n (k169 _ _ ?_)
           clear k169 K169
           refine W_keepB [4] fun B_ b_ => ?_
           simp only [e_, Nat.reduceAdd, Nat.reduceBEq] at b_
           subst b_
           refine W_ret ?_
           refine then_ret ?_
           clear k167 K167
           refine block_ret ?_
           refine then_ret ?_
           clear k162 K162
           refine then_ret ?_
           refine block_ret ?_
           refine then_ret ?_
           refine ⟨_, ⟨_, _, rfl, rfl, rfl⟩, ?_⟩
           exact ⟨aho, _, _, rfl, hI, h⟩
          ·
           replace h := h.2 vm
           refine W_exit ?_
           refine then_exit ?_
           clear k160 K160
           refine then_exit ?_
           refine block_exit ?_
           refine then_n ?_
           exact ⟨_, rfl, ⟨_, _, rfl, h, hI, af, ag, trivial⟩, trivial⟩
        ·
         simp only [e_, Nat.reduceAdd, Nat.reduceBEq] at b_
         subst b_
         clear h
         rintro _ aq5 ⟨aq6, aq7, rfl, ae2, ae3, af, ag, -⟩
         replace hI := ae3
         clear ae3
         have h := yp ae2
         clear yp ae2
         refine W_seq_k fun K172 k172 => ?_
         refine W_region [178, 4] rfl ?_
         refine Ops_call (C_func bd12 rfl) rfl rfl ?_
         refine (sealskinlaw06_awake_ok  hI.st (hg.up hI.le)  h).mono ?_
         rintro _ ao8 ⟨ahq, ao9, apa, rfl, acd, h⟩
         refine Exists.elim (hI.call acd (by simp)) fun amj wk => ?_
         have amk := hI.size
         replace hI := wk.1
         have aj4 := wk.2.1
         have ahr := wk.2.2
         clear wk
         clear acd aj4 ahr
         refine ⟨_, rfl, ?_⟩
         refine Ops_step (R_assign rfl) rfl rfl ?_
         refine Ops_nil ?_
         refine then_n (k172 _ _ ?_)
         clear k172 K172
         refine W_ret ?_
         refine ⟨_, ⟨_, _, rfl, rfl, rfl⟩, ?_⟩
         exact ⟨ahq, _, _, rfl, hI, h⟩

end Go.Proofs.Ytkmljjhjojolcaa

