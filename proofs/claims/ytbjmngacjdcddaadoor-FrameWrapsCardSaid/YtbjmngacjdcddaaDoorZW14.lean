/- What is shown of the program on the way to the law. -/
import Derived.Test.YtbjmngacjdcddaaDoorZW1
import Derived.Test.YtbjmngacjdcddaaDoorZW2
import Derived.Test.YtbjmngacjdcddaaDoorZW11
import Derived.Test.YtbjmngacjdcddaaDoorProg
set_option linter.unusedVariables false
set_option linter.unusedSimpArgs false
set_option maxHeartbeats 4000000
namespace Go.Lx
open Go Go.Sx
instance : Rp api_Part where
 n := 3
 cs := fun G x l => l = [vi x.Kind_, vi x.N_, vs x.Text_]
 mono := fun hl e => e
 len := fun e => by rw [e]; rfl
 one := fun e => by rw [e]; rfl
instance : Rp api_Msg where
 n := 9
 cs := fun G x l => ∃ A1 c1, l = [vi x.Kind_, vi x.Who_, vi x.Seq_, vi x.Rev_, vi x.At_, vi x.N_, vi x.Target_, vi x.Err_, .slice A1 x.Edit_.length c1] ∧ (x.Edit_.length ≤ c1 ∧ Sl G A1 x.Edit_)
 mono := fun hl ⟨A1, c1, e, ⟨a0, b0⟩⟩ => ⟨A1, c1, e, ⟨a0, b0.up hl⟩⟩
 len := fun ⟨A1, c1, e, _⟩ => by rw [e]; rfl
 one := fun ⟨A1, c1, e, _⟩ => by rw [e]; rfl
end Go.Lx
namespace Go.Proofs.YtbjmngacjdcddaaDoor
open Go Go.Sx Go.Lx
namespace TFtE
theorem hm : Tryd.prog.follows .mixedOrders = true := by kernel_rfl
theorem ag22 : aggB Tryd.prog 22 = some false := by kernel_rfl
theorem ag23 : aggB Tryd.prog 23 = some false := by kernel_rfl
theorem ag25 : aggB Tryd.prog 25 = some true := by kernel_rfl
theorem ag3 : aggB Tryd.prog 3 = some false := by kernel_rfl
theorem ag5 : aggB Tryd.prog 5 = some false := by kernel_rfl
theorem ag54 : aggB Tryd.prog 54 = some true := by kernel_rfl
theorem ag9 : aggB Tryd.prog 9 = some false := by kernel_rfl
theorem bd16 : bodied Tryd.prog 16 = true := by kernel_rfl
theorem bd36 : bodied Tryd.prog 36 = true := by kernel_rfl
theorem bd37 : bodied Tryd.prog 37 = true := by kernel_rfl
theorem bd40 : bodied Tryd.prog 40 = true := by kernel_rfl
theorem bd41 : bodied Tryd.prog 41 = true := by kernel_rfl
theorem bd67 : bodied Tryd.prog 67 = true := by kernel_rfl
theorem bd68 : bodied Tryd.prog 68 = true := by kernel_rfl
theorem bd83 : bodied Tryd.prog 83 = true := by kernel_rfl
theorem bd84 : bodied Tryd.prog 84 = true := by kernel_rfl
theorem el30 : Elem Tryd.prog 30 5 1 1 := Elem.of (by kernel_rfl)
theorem el56 : Elem Tryd.prog 56 3 1 8 := Elem.of (by kernel_rfl)
theorem fo25_0 : offB Tryd.prog 25 0 = some 0 := by kernel_rfl
theorem fo25_1 : offB Tryd.prog 25 1 = some 1 := by kernel_rfl
theorem fo25_2 : offB Tryd.prog 25 2 = some 2 := by kernel_rfl
theorem fo25_3 : offB Tryd.prog 25 3 = some 3 := by kernel_rfl
theorem fo25_4 : offB Tryd.prog 25 4 = some 4 := by kernel_rfl
theorem fo25_5 : offB Tryd.prog 25 5 = some 5 := by kernel_rfl
theorem fo25_6 : offB Tryd.prog 25 6 = some 6 := by kernel_rfl
theorem fo25_7 : offB Tryd.prog 25 7 = some 7 := by kernel_rfl
theorem fo25_8 : offB Tryd.prog 25 8 = some 8 := by kernel_rfl
theorem fo54_0 : offB Tryd.prog 54 0 = some 0 := by kernel_rfl
theorem fo54_1 : offB Tryd.prog 54 1 = some 1 := by kernel_rfl
theorem fo54_2 : offB Tryd.prog 54 2 = some 2 := by kernel_rfl
theorem pl25 : partPl Tryd.prog 25 = some [(0, 1), (1, 1), (2, 1), (3, 1), (4, 1), (5, 1), (6, 1), (7, 1), (8, 1)] := by kernel_rfl
theorem sz22 : sz Tryd.prog 22 = some 1 := by kernel_rfl
theorem sz23 : sz Tryd.prog 23 = some 1 := by kernel_rfl
theorem sz25 : sz Tryd.prog 25 = some 9 := by kernel_rfl
theorem sz3 : sz Tryd.prog 3 = some 1 := by kernel_rfl
theorem sz5 : sz Tryd.prog 5 = some 1 := by kernel_rfl
theorem sz54 : sz Tryd.prog 54 = some 3 := by kernel_rfl
theorem zr25 : zr Tryd.prog 25 = some ([.int .i64 0] ++ [.int .i64 0] ++ [.int .i64 0] ++ [.int .i64 0] ++ [.int .i64 0] ++ [.int .i64 0] ++ [.int .i64 0] ++ [.int .i64 0] ++ [.slice none 0 0]) := by kernel_rfl
theorem zr3 : zr Tryd.prog 3 = some ([.int .i64 0]) := by kernel_rfl
theorem zr5 : zr Tryd.prog 5 = some ([.int .u8 0]) := by kernel_rfl
theorem zr54 : zr Tryd.prog 54 = some ([.int .i64 0] ++ [.int .i64 0] ++ [.string ByteArray.empty]) := by kernel_rfl
end TFtE
open TFtE
theorem edit_fits_ok {G : Gh} {w : World} (hS : St G w) (hg : GL G) {l0 : List Value} {x0 : api_Part} (hr0 : Rp.cs G x0 l0) {Q : Bool → Prop} (h : edit_fits x0 Q) : Calls Tryd.prog 68 #[.agg l0.toArray] w fun e w2 => ∃ (r0 : Bool) (L H : Gh), e = .returned (.bool r0) ∧ Inv [] G w L H w2 ∧ Q r0 := by
 unfold edit_fits at h
 have hI := Inv.start (M := []) hS
 refine calls_W 35 Tryd.func68 rfl Tryd.ntmps68 rfl [.tmp 2] rfl ?_
 replace hr0 : l0 = [vi x0.Kind_, vi x0.N_, vs x0.Text_] := hr0
 subst hr0
 refine W_seq_k fun K1 k1 => ?_
 refine W_region [1, 2] rfl ?_
 have hI0_ := hI
 refine Ops_to (R_box rfl) rfl rfl ?_
 rintro _ w2_ ⟨b2_, rfl, hb2_, hB2_, hF2_⟩
 replace hI := hI.fr0 hF2_
 have ht2_ : Tok G _ b2_ 54 ([vi x0.Kind_, vi x0.N_, vs x0.Text_]) := ⟨hB2_.to rfl, Out.ge hI0_.st (Nat.le_of_eq hb2_.symm)⟩
 have hge_b2_ : w.heap.size ≤ b2_ := hb2_ ▸ hI0_.size
 clear hB2_ hb2_ hI0_ hF2_
 refine Ops_step (R_assign rfl) rfl rfl ?_
 refine Ops_nil ?_
 refine then_n (k1 _ _ ?_)
 clear k1 K1
 refine W_seq_k fun K3 k3 => ?_
 refine ex_ h fun J4_ hr4_ h => ?_
 refine W_seq_join [1] [10] (fun vals_ w2 => ∃ (x10_4 : Bool) (L H : Gh), vals_ = [.bool x10_4] ∧ J4_ x10_4 ∧ Inv [] G w L H w2 ∧ Le Gh.no L ∧ Le G H ∧ Tok H w2 b2_ 54 ([vi x0.Kind_, vi x0.N_, vs x0.Text_]) ∧ True) (fun B_ b_ => ?_) (fun B_ b_ => ?_)
 ·
  simp only [e_, Nat.reduceAdd, Nat.reduceBEq] at b_
  subst b_
  clear hr4_
  have hll4_ := Le.refl Gh.no
  have hhh4_ := Le.refl G
  refine W_region [3, 4, 5, 6, 7, 8, 9, 10] rfl (Ops_step (R_fieldAddr fo54_1 rfl) rfl rfl ?_)
  refine Ops_step (R_loadB (v := vi x0.N_) ag3 rfl ht2_.blk rfl) rfl rfl ?_
  refine Ops_step (R_lss rfl rfl) rfl rfl (Ops_step (R_move rfl) rfl rfl ?_)
  refine Ops_split 6 rfl (fun hg5_ => ?_) (fun hg5_ => ?_)
  ·
   replace h := h.1 hg5_
   refine Ops_pass rfl rfl (Ops_pass rfl rfl (Ops_pass rfl rfl (Ops_step (R_pick_true rfl rfl) rfl rfl ?_)))
   refine Ops_nil ?_
   refine then_n ?_
   exact ⟨_, rfl, ⟨true, _, _, rfl, h, hI, hll4_, hhh4_, ht2_, trivial⟩, ⟨rfl, trivial⟩⟩
  ·
   replace h := h.2 hg5_
   refine Ops_step (R_fieldAddr fo54_1 rfl) rfl rfl ?_
   refine Ops_step (R_loadB (v := vi x0.N_) ag3 rfl ht2_.blk rfl) rfl rfl ?_
   refine Ops_step (R_gtr rfl rfl) rfl rfl (Ops_step (R_pick_false rfl rfl) rfl rfl ?_)
   refine Ops_nil ?_
   refine then_n ?_
   exact ⟨_, rfl, ⟨(decide (x0.N_ > 1099511627776)), _, _, rfl, h, hI, hll4_, hhh4_, ht2_, trivial⟩, ⟨rfl, trivial⟩⟩
 ·
  simp only [e_, Nat.reduceAdd, Nat.reduceBEq] at b_
  subst b_
  clear h
  clear ht2_
  rintro _ w4_ ⟨x10_4, L4_, H4_, rfl, hJ4_, hI4_, hll4_, hhh4_, ht2_, -⟩
  replace hI := hI4_
  clear hI4_
  have h := hr4_ x10_4 hJ4_
  clear hr4_ hJ4_
  refine W_cond rfl (fun hc6_ => ?_) (fun hc6_ => ?_)
  ·
   replace h := h.1 hc6_
   refine W_seq_k fun K7 k7 => ?_
   refine W_region [2] rfl (Ops_step (R_assign rfl) rfl rfl ?_)
   refine Ops_nil ?_
   refine then_n (k7 _ _ ?_)
   clear k7 K7
   refine W_ret ?_
   refine then_ret ?_
   clear k3 K3
   refine ⟨_, ⟨_, _, rfl, rfl, rfl⟩, ?_⟩
   exact ⟨false, _, _, rfl, hI, h⟩
  ·
   replace h := h.2 hc6_
   refine W_skip ?_
   refine then_n (k3 _ _ ?_)
   clear k3 K3
   refine W_seq_k fun K8 k8 => ?_
   refine W_seq_k fun K9 k9 => ?_
   refine W_region [11, 12] rfl (Ops_step (R_fieldAddr fo54_0 rfl) rfl rfl ?_)
   refine Ops_step (R_loadB (v := vi x0.Kind_) ag3 rfl ht2_.blk rfl) rfl rfl ?_
   refine Ops_nil ?_
   refine then_n (k9 _ _ ?_)
   clear k9 K9
   refine W_block ?_
   refine ex_ h fun J10_ hr10_ h => ?_
   refine W_seq_join [1] [13] (fun vals_ w2 => ∃ (x13_10 : Bool) (L H : Gh), vals_ = [.bool x13_10] ∧ J10_ x13_10 ∧ Inv [] G w L H w2 ∧ Le L4_ L ∧ Le H4_ H ∧ Tok H w2 b2_ 54 ([vi x0.Kind_, vi x0.N_, vs x0.Text_]) ∧ True) (fun B_ b_ => ?_) (fun B_ b_ => ?_)
   ·
    simp only [e_, Nat.reduceAdd, Nat.reduceBEq] at b_
    subst b_
    clear hr10_
    have hll10_ := Le.refl L4_
    have hhh10_ := Le.refl H4_
    refine W_seq_k fun K11 k11 => ?_
    refine W_region [14, 13] rfl (Ops_step (R_eql rfl rfl) rfl rfl (Ops_step (R_assign rfl) rfl rfl ?_))
    refine Ops_nil ?_
    refine then_n (k11 _ _ ?_)
    clear k11 K11
    refine W_if rfl (fun hc12_ => ?_) (fun hc12_ => ?_)
    ·
     replace h := h.1 hc12_
     refine W_skip ?_
     refine then_n ?_
     exact ⟨_, rfl, ⟨(decide (x0.Kind_ = 1)), _, _, rfl, h, hI, hll10_, hhh10_, ht2_, trivial⟩, ⟨rfl, trivial⟩⟩
    ·
     replace h := h.2 hc12_
     refine W_region [15, 13] rfl (Ops_step (R_eql rfl rfl) rfl rfl (Ops_step (R_assign rfl) rfl rfl ?_))
     refine Ops_nil ?_
     refine then_n ?_
     exact ⟨_, rfl, ⟨(decide (x0.Kind_ = 3)), _, _, rfl, h, hI, hll10_, hhh10_, ht2_, trivial⟩, ⟨rfl, trivial⟩⟩
   ·
    simp only [e_, Nat.reduceAdd, Nat.reduceBEq] at b_
    subst b_
    clear h
    clear ht2_
    rintro _ w10_ ⟨x13_10, L10_, H10_, rfl, hJ10_, hI10_, hll10_, hhh10_, ht2_, -⟩
    replace hI := hI10_
    clear hI10_
    have h := hr10_ x13_10 hJ10_
    clear hr10_ hJ10_
    refine W_cond rfl (fun hc13_ => ?_) (fun hc13_ => ?_)
    ·
     replace h := h.1 hc13_
     refine W_seq_k fun K14 k14 => ?_
     refine W_region [16, 17, 18, 2] rfl (Ops_step (R_fieldAddr fo54_2 rfl) rfl rfl ?_)
     refine Ops_step (R_loadB (v := vs x0.Text_) ag9 rfl ht2_.blk rfl) rfl rfl ?_
     refine Ops_step (R_strEqB rfl rfl) rfl rfl (Ops_step (R_assign rfl) rfl rfl ?_)
     refine Ops_nil ?_
     refine then_n (k14 _ _ ?_)
     clear k14 K14
     refine W_ret ?_
     refine block_ret ?_
     refine then_ret ?_
     clear k8 K8
     refine ⟨_, ⟨_, _, rfl, rfl, rfl⟩, ?_⟩
     exact ⟨(decide (x0.Text_.b = (Str.mk []).b)), _, _, rfl, hI, h⟩
    ·
     replace h := h.2 hc13_
     refine W_skip ?_
     refine block_n ?_
     refine then_n (k8 _ _ ?_)
     clear k8 K8
     refine W_seq_k fun K15 k15 => ?_
     refine W_drawF [19, 20, 21, 22, 23, 24, 25, 26, 27, 28, 29, 30, 31, 32, 33, 34, 2] [(0, true), (1, true), (2, true), (3, true), (4, true), (5, true), (6, false), (7, true), (8, true), (9, true), (10, true), (12, true), (13, true), (11, false), (14, true), (15, true), (16, true)] TFtE.hm rfl (by kernel_rfl) fun ops16_ w16_ hops16_ hF16_ => ?_
     replace hI := hI.fr0 hF16_
     replace ht2_ := ht2_.fr0 hF16_
     clear hF16_
     refine HSp (R_fieldAddr fo54_0 rfl) rfl rfl ?_
     refine HS_loadB (v := vi x0.Kind_) ag3 rfl ht2_.blk rfl rfl rfl ?_
     refine HSp (R_eql rfl rfl) rfl rfl (HSp (R_move rfl) rfl rfl ?_)
     refine HS_split 22 rfl (fun hg17_ => ?_) (fun hg17_ => ?_)
     ·
      replace h := h.1 hg17_
      refine HSp (R_fieldAddr fo54_2 rfl) rfl rfl ?_
      refine HS_loadB (v := vs x0.Text_) ag9 rfl ht2_.blk rfl rfl rfl ?_
      refine HS_call [] _ rfl (by rw [hops16_]; kernel_rfl) (C_func bd83 rfl) rfl rfl ?_
      refine (utf8_ValidString_ok (x0 := x0.Text_) hI.st (hg.up hI.le)  h).mono ?_
      rintro _ w18_ ⟨r18_0, L18_, H18_, rfl, hI18_, h⟩
      refine Exists.elim (hI.call hI18_ (by simp)) fun L180_ h18_ => ?_
      have hz18_ := hI.size
      replace hI := h18_.1
      have u18_ := h18_.2.1
      have hl18_ := h18_.2.2
      clear h18_
      replace ht2_ := ht2_.up u18_ (by simp)
      clear hI18_ u18_ hl18_
      refine ⟨_, rfl, trivial, ?_⟩
      refine HSp (R_pick_true rfl rfl) rfl rfl (HSp (R_move rfl) rfl rfl ?_)
      refine HS_splitB 27 rfl (fun hg19_ => ?_) (fun hg19_ => ?_)
      ·
       replace h := h.1 hg19_
       refine HSp (R_fieldAddr fo54_2 rfl) rfl rfl ?_
       refine HS_loadB (v := vs x0.Text_) ag9 rfl ht2_.blk rfl rfl rfl ?_
       refine HSp (R_fieldAddr fo54_1 rfl) rfl rfl ?_
       refine HS_loadB (v := vi x0.N_) ag3 rfl ht2_.blk rfl rfl rfl ?_
       refine HS_call [13] _ rfl (by rw [hops16_]; kernel_rfl) (C_func bd84 rfl) rfl rfl ?_
       refine (utf8_RuneCountInString_ok (x0 := x0.Text_) hI.st (hg.up hI.le)  h).mono ?_
       rintro _ w20_ ⟨r20_0, L20_, H20_, rfl, hI20_, h⟩
       refine Exists.elim (hI.call hI20_ (by simp)) fun L200_ h20_ => ?_
       have hz20_ := hI.size
       replace hI := h20_.1
       have u20_ := h20_.2.1
       have hl20_ := h20_.2.2
       clear h20_
       replace ht2_ := ht2_.up u20_ (by simp)
       clear hI20_ u20_ hl20_
       refine ⟨_, rfl, ⟨(ht2_.blk.at_ rfl), trivial⟩, ?_⟩
       refine HSp (R_eql rfl rfl) rfl rfl (HSp (R_pick_true rfl rfl) rfl rfl (HSp (R_assign rfl) rfl rfl ?_))
       refine HS_nil ?_
       clear hops16_
       refine then_n (k15 _ _ ?_)
       clear k15 K15
       refine W_keepB [2] fun B_ b_ => ?_
       simp only [e_, Nat.reduceAdd, Nat.reduceBEq] at b_
       subst b_
       refine W_ret ?_
       refine ⟨_, ⟨_, _, rfl, rfl, rfl⟩, ?_⟩
       exact ⟨(decide (r20_0 = x0.N_)), _, _, rfl, hI, h⟩
      ·
       replace h := h.2 hg19_
       refine HS_pass rfl rfl ?_
       refine HS_pass rfl rfl ?_
       refine HS_pass rfl rfl ?_
       refine HS_pass rfl rfl ?_
       refine HS_passL rfl rfl ?_
       refine HS_pass rfl rfl ?_
       refine HSp (R_pick_false rfl rfl) rfl rfl (HSp (R_assign rfl) rfl rfl ?_)
       refine HS_nil ?_
       clear hops16_
       refine then_n (k15 _ _ ?_)
       clear k15 K15
       refine W_keepB [2] fun B_ b_ => ?_
       simp only [e_, Nat.reduceAdd, Nat.reduceBEq] at b_
       subst b_
       refine W_ret ?_
       refine ⟨_, ⟨_, _, rfl, rfl, rfl⟩, ?_⟩
       exact ⟨false, _, _, rfl, hI, h⟩
     ·
      replace h := h.2 hg17_
      refine HS_pass rfl rfl ?_
      refine HS_pass rfl rfl ?_
      refine HS_passL rfl rfl ?_
      refine HSp (R_pick_false rfl rfl) rfl rfl (HSp (R_move rfl) rfl rfl ?_)
      refine HS_pass rfl rfl ?_
      refine HS_pass rfl rfl ?_
      refine HS_pass rfl rfl ?_
      refine HS_pass rfl rfl ?_
      refine HS_passL rfl rfl ?_
      refine HS_pass rfl rfl ?_
      refine HSp (R_pick_false rfl rfl) rfl rfl (HSp (R_assign rfl) rfl rfl ?_)
      refine HS_nil ?_
      clear hops16_
      refine then_n (k15 _ _ ?_)
      clear k15 K15
      refine W_keepB [2] fun B_ b_ => ?_
      simp only [e_, Nat.reduceAdd, Nat.reduceBEq] at b_
      subst b_
      refine W_ret ?_
      refine ⟨_, ⟨_, _, rfl, rfl, rfl⟩, ?_⟩
      exact ⟨false, _, _, rfl, hI, h⟩

theorem edit_sizes_ok {G : Gh} {w : World} (hS : St G w) (hg : GL G) {A0 : Option Addr} {c0 : Nat} {x0 : List api_Part} (hc0 : x0.length ≤ c0) (hs0 : Sl G A0 x0) {Q : Int → Int → Bool → Prop} (h : edit_sizes x0 Q) : Calls Tryd.prog 67 #[.slice A0 x0.length c0] w fun e w2 => ∃ (r0 : Int) (r1 : Int) (r2 : Bool) (L H : Gh), e = .returned (.tuple #[vi r0, vi r1, .bool r2]) ∧ Inv [] G w L H w2 ∧ Q r0 r1 r2 := by
 unfold edit_sizes at h
 have hI := Inv.start (M := []) hS
 refine calls_W 69 Tryd.func67 rfl Tryd.ntmps67 rfl [.tmp 2, .tmp 3, .tmp 4] rfl ?_
 refine W_seq_k fun K1 k1 => ?_
 refine W_region [2, 3, 4] rfl (Ops_step (R_assign rfl) rfl rfl (Ops_step (R_assign rfl) rfl rfl (Ops_step (R_assign rfl) rfl rfl ?_)))
 refine Ops_nil ?_
 refine then_n (k1 _ _ ?_)
 clear k1 K1
 refine ex_ h fun J2_ hr2_ h => ?_
 refine W_seq_join [] [2, 3] (fun vals_ w2 => ∃ (x2_2 : Int) (x3_2 : Int) (L H : Gh), vals_ = [vi x2_2, vi x3_2] ∧ J2_ x2_2 x3_2 ∧ Inv [] G w L H w2 ∧ Le Gh.no L ∧ Le G H ∧ True) (fun B_ b_ => ?_) (fun B_ b_ => ?_)
 ·
  simp only [e_, Nat.reduceAdd, Nat.reduceBEq] at b_
  subst b_
  clear hr2_
  have hll2_ := Le.refl Gh.no
  have hhh2_ := Le.refl G
  refine W_seq_k fun K3 k3 => ?_
  refine W_region [7, 8, 9] rfl (Ops_step (R_move rfl) rfl rfl (Ops_step (R_len Tryd.underlying23 rfl rfl) rfl rfl (Ops_step (R_move rfl) rfl rfl ?_)))
  refine Ops_nil ?_
  refine then_n (k3 _ _ ?_)
  clear k3 K3
  refine W_block ?_
  refine Exists.elim h fun I4_ h => Exists.elim h fun n4_ h => ?_
  have h0_ := h.1
  have hs4_ := h.2
  clear h
  refine W_loopB [0, 7, 8] [2, 3, 9] (fun m vals_ w2 => ∃ (x2_4 : Int) (x3_4 : Int) (x9_4 : Int) (L H : Gh), vals_ = [vi x2_4, vi x3_4, vi x9_4] ∧ I4_ m x2_4 x3_4 x9_4 ∧ Inv [] G w L H w2 ∧ Le Gh.no L ∧ Le G H ∧ True) n4_ _ rfl ⟨0, 0, 0, _, _, rfl, h0_, hI, Le.refl _, Le.refl _, trivial⟩ fun B_ b_ => ?_
  clear h0_
  simp only [e_, Nat.reduceAdd, Nat.reduceBEq] at b_
  subst b_
  rintro m4_ _ w4_ ⟨x2_4, x3_4, x9_4, L4_, H4_, rfl, hJ4_, hI4_, hll4_, hhh4_, -⟩
  replace hI := hI4_
  clear hI4_
  have h := hs4_ m4_ x2_4 x3_4 x9_4 hJ4_
  clear hs4_ hJ4_
  replace hs0 := hs0.up hhh4_
  replace hll2_ := hll2_.trans hll4_
  replace hhh2_ := hhh2_.trans hhh4_
  refine W_seq_k fun K5 k5 => ?_
  refine W_region [10] rfl (Ops_step (R_lss rfl rfl) rfl rfl ?_)
  refine Ops_nil ?_
  refine then_n (k5 _ _ ?_)
  clear k5 K5
  refine W_seq_k fun K6 k6 => ?_
  refine W_if rfl (fun hc7_ => ?_) (fun hc7_ => ?_)
  ·
   replace h := h.1 hc7_
   refine W_skip ?_
   refine then_n (k6 _ _ ?_)
   clear k6 K6
   refine W_seq_k fun K8 k8 => ?_
   refine W_block ?_
   refine W_seq_k fun K9 k9 => ?_
   refine W_region [11, 12, 13, 6, 5, none] rfl (Ops_step (R_move rfl) rfl rfl ?_)
   refine ex_ h fun x10_ hx10_ h => ?_
   have ha10_ := (Sl.atN (n := 3) rfl (by decide) hs0 hx10_).1
   refine Exists.elim (Sl.atN (n := 3) rfl (by decide) hs0 hx10_).2 fun l10_ hA10_ => ?_
   have hr10_ := hA10_.1
   have hg10_ := hA10_.2
   clear hA10_
   refine Ops_step (R_indexSl Tryd.underlying23 sz54 rfl rfl hx10_.1 hx10_.lt ha10_) rfl rfl ?_
   replace hr10_ : l10_ = [vi x10_.Kind_, vi x10_.N_, vs x10_.Text_] := hr10_
   subst hr10_
   refine Ops_step (R_loadCs (cs := [vi x10_.Kind_, vi x10_.N_, vs x10_.Text_]) ag54 sz54 rfl (fun j_ v_ hv_ => hI.st _ _ (hg10_ j_ v_ hv_))) rfl rfl ?_
   have hI0_ := hI
   refine Ops_to (R_alloc zr54) rfl rfl ?_
   rintro _ w11_ ⟨b11_, rfl, hb11_, hB11_, hF11_⟩
   replace hI := hI.fr0 hF11_
   have ht11_ : Tok H4_ _ b11_ 54 ([vi 0, vi 0, vs (Str.mk [])]) := ⟨hB11_.to rfl, Out.ge hI0_.st (Nat.le_of_eq hb11_.symm)⟩
   have hge_b11_ : w.heap.size ≤ b11_ := hb11_ ▸ hI0_.size
   clear hB11_ hb11_ hI0_ hF11_
   refine Ops_step (R_assign rfl) rfl rfl ?_
   refine Ops_to0 (R_storeN sz54 rfl rfl rfl ht11_.blk (Nat.le_of_ble_eq_true rfl) rfl) rfl ?_
   rintro _ w12_ ⟨hB12_, hF12_⟩
   replace hI := hI.tok hF12_ (out1 ht11_.out) (new1 hge_b11_)
   replace ht11_ : Tok H4_ _ b11_ 54 ([vi x10_.Kind_, vi x10_.N_, vs x10_.Text_]) := ⟨hB12_, ht11_.out⟩
   clear hF12_ hB12_
   refine Ops_nil ?_
   refine then_n (k9 _ _ ?_)
   clear k9 K9
   refine W_seq_k fun K13 k13 => ?_
   refine ex_ h fun J14_ hr14_ h => ?_
   refine W_seq_join [0, 2, 3, 6, 7, 8, 9] [45] (fun vals_ w2 => ∃ (x45_14 : Bool) (L H : Gh), vals_ = [.bool x45_14] ∧ J14_ x45_14 ∧ Inv [] G w L H w2 ∧ Le L4_ L ∧ Le H4_ H ∧ Tok H w2 b11_ 54 ([vi x10_.Kind_, vi x10_.N_, vs x10_.Text_]) ∧ True) (fun B_ b_ => ?_) (fun B_ b_ => ?_)
   ·
    simp only [e_, Nat.reduceAdd, Nat.reduceBEq] at b_
    subst b_
    clear hr14_
    have hll14_ := Le.refl L4_
    have hhh14_ := Le.refl H4_
    refine W_drawF [14, 15, 16, 17, 18, 19, 20, 21, 22, 23, 24, 25, 26, 27, 28, 29, 30, 31, 32, 33, 34, 35, 36, 37, 38, 39, 40, 41, 42, 43, 44, 45] [(0, true), (1, false), (2, true), (3, true), (4, true), (5, true), (6, true), (7, true), (8, true), (9, true), (10, true), (11, true), (12, true), (13, true), (14, true), (15, true), (16, true), (17, true), (18, true), (19, true), (20, true), (21, true), (22, true), (23, true), (24, true), (25, true), (26, true), (27, true), (28, true), (29, true), (30, true), (31, true)] TFtE.hm rfl (by kernel_rfl) fun ops15_ w15_ hops15_ hF15_ => ?_
    replace hI := hI.fr0 hF15_
    replace ht11_ := ht11_.fr0 hF15_
    clear hF15_
    refine HS_loadN ag54 sz54 rfl ht11_.blk (Nat.le_of_ble_eq_true rfl) rfl rfl ?_
    refine HS_call [] _ rfl (by rw [hops15_]; kernel_rfl) (C_func bd68 rfl) rfl rfl ?_
    refine (edit_fits_ok (x0 := x10_) hI.st (hg.up hI.le) rfl h).mono ?_
    rintro _ w16_ ⟨r16_0, L16_, H16_, rfl, hI16_, h⟩
    refine Exists.elim (hI.call hI16_ (by simp)) fun L160_ h16_ => ?_
    have hz16_ := hI.size
    replace hI := h16_.1
    have u16_ := h16_.2.1
    have hl16_ := h16_.2.2
    clear h16_
    replace hs0 := hs0.up u16_.hh
    replace hll2_ := hll2_.trans u16_.ll
    replace hhh2_ := hhh2_.trans u16_.hh
    replace hll4_ := hll4_.trans u16_.ll
    replace hhh4_ := hhh4_.trans u16_.hh
    replace ht11_ := ht11_.up u16_ (by simp)
    replace hll14_ := hll14_.trans u16_.ll
    replace hhh14_ := hhh14_.trans u16_.hh
    clear hI16_ u16_ hl16_
    refine ⟨_, rfl, trivial, ?_⟩
    refine HSp (R_not rfl) rfl rfl (HSp (R_move rfl) rfl rfl ?_)
    refine HS_splitB 17 rfl (fun hg17_ => ?_) (fun hg17_ => ?_)
    ·
     replace h := h.1 hg17_
     refine HS_pass rfl rfl ?_
     refine HS_pass rfl rfl ?_
     refine HS_pass rfl rfl ?_
     refine HS_passU rfl rfl ?_
     refine HS_passU rfl rfl ?_
     refine HS_passU rfl rfl ?_
     refine HS_passU rfl rfl ?_
     refine HS_passU rfl rfl ?_
     refine HS_passU rfl rfl ?_
     refine HS_passU rfl rfl ?_
     refine HS_passU rfl rfl ?_
     refine HS_passU rfl rfl ?_
     refine HS_passU rfl rfl ?_
     refine HS_passU rfl rfl ?_
     refine HS_passU rfl rfl ?_
     refine HS_passU rfl rfl ?_
     refine HS_passU rfl rfl ?_
     refine HS_passU rfl rfl ?_
     refine HS_passU rfl rfl ?_
     refine HS_passU rfl rfl ?_
     refine HS_passU rfl rfl ?_
     refine HS_passU rfl rfl ?_
     refine HS_passU rfl rfl ?_
     refine HS_passU rfl rfl ?_
     refine HS_passU rfl rfl ?_
     refine HS_passU rfl rfl ?_
     refine HS_pass rfl rfl ?_
     refine HSp (R_pick_true rfl rfl) rfl rfl ?_
     refine HS_nil ?_
     clear hops15_
     refine then_n ?_
     exact ⟨_, rfl, ⟨true, _, _, rfl, h, hI, hll14_, hhh14_, ht11_, trivial⟩, ⟨rfl, rfl, rfl, rfl, rfl, rfl, rfl, trivial⟩⟩
    ·
     replace h := h.2 hg17_
     refine HSp (R_move rfl) rfl rfl (HSp (R_gtr rfl rfl) rfl rfl (HSp (R_move rfl) rfl rfl ?_))
     refine HS_split 20 rfl (fun hg18_ => ?_) (fun hg18_ => ?_)
     ·
      replace h := h.1 hg18_
      refine HSp (R_move rfl) rfl rfl (HSp (R_move rfl) rfl rfl ?_)
      have hk19_ := h.1
      replace h := h.2
      refine HSp (R_sub rfl rfl (wI hk19_.1 hk19_.2)) rfl rfl ?_
      refine ex_ h fun x20_ hx20_ h => ?_
      have ha20_ := (Sl.atN (n := 3) rfl (by decide) hs0 hx20_).1
      refine Exists.elim (Sl.atN (n := 3) rfl (by decide) hs0 hx20_).2 fun l20_ hA20_ => ?_
      have hr20_ := hA20_.1
      have hg20_ := hA20_.2
      clear hA20_
      refine HSp (R_indexSl Tryd.underlying23 sz54 rfl rfl hx20_.1 hx20_.lt ha20_) rfl rfl ?_
      replace hr20_ : l20_ = [vi x20_.Kind_, vi x20_.N_, vs x20_.Text_] := hr20_
      subst hr20_
      refine HSp (R_fieldAddr' fo54_0 rfl) rfl rfl ?_
      refine HS_load (v := vi x20_.Kind_) ag3 rfl (hI.st _ _ (hg20_ 0 _ rfl)) rfl rfl ?_
      refine HSp (R_fieldAddr fo54_0 rfl) rfl rfl ?_
      refine HS_loadB (v := vi x10_.Kind_) ag3 rfl ht11_.blk rfl rfl rfl ?_
      refine HSp (R_eql rfl rfl) rfl rfl (HSp (R_move rfl) rfl rfl ?_)
      refine HS_split 30 rfl (fun hg21_ => ?_) (fun hg21_ => ?_)
      ·
       replace h := h.1 hg21_
       refine HS_pass rfl rfl ?_
       refine HS_pass rfl rfl ?_
       refine HS_pass rfl rfl ?_
       refine HS_pass rfl rfl ?_
       refine HS_pass rfl rfl ?_
       refine HS_pass rfl rfl ?_
       refine HS_pass rfl rfl ?_
       refine HS_pass rfl rfl ?_
       refine HS_passU rfl rfl ?_
       refine HS_passU rfl rfl ?_
       refine HS_passU rfl rfl ?_
       refine HS_pass rfl rfl ?_
       refine HSp (R_pick_true rfl rfl) rfl rfl (HSp (R_pick_true rfl rfl) rfl rfl (HSp (R_pick_false rfl rfl) rfl rfl ?_))
       refine HS_nil ?_
       clear hops15_
       refine then_n ?_
       exact ⟨_, rfl, ⟨true, _, _, rfl, h, hI, hll14_, hhh14_, ht11_, trivial⟩, ⟨rfl, rfl, rfl, rfl, rfl, rfl, rfl, trivial⟩⟩
      ·
       replace h := h.2 hg21_
       refine HSp (R_move rfl) rfl rfl (HSp (R_move rfl) rfl rfl ?_)
       have hk22_ := h.1
       replace h := h.2
       refine HSp (R_sub rfl rfl (wI hk22_.1 hk22_.2)) rfl rfl ?_
       refine ex_ h fun x23_ hx23_ h => ?_
       have ha23_ := (Sl.atN (n := 3) rfl (by decide) hs0 hx23_).1
       refine Exists.elim (Sl.atN (n := 3) rfl (by decide) hs0 hx23_).2 fun l23_ hA23_ => ?_
       have hr23_ := hA23_.1
       have hg23_ := hA23_.2
       clear hA23_
       refine HSp (R_indexSl Tryd.underlying23 sz54 rfl rfl hx23_.1 hx23_.lt ha23_) rfl rfl ?_
       replace hr23_ : l23_ = [vi x23_.Kind_, vi x23_.N_, vs x23_.Text_] := hr23_
       subst hr23_
       refine HSp (R_fieldAddr' fo54_0 rfl) rfl rfl ?_
       refine HS_load (v := vi x23_.Kind_) ag3 rfl (hI.st _ _ (hg23_ 0 _ rfl)) rfl rfl ?_
       refine HSp (R_eql rfl rfl) rfl rfl (HSp (R_move rfl) rfl rfl ?_)
       refine HS_split 38 rfl (fun hg24_ => ?_) (fun hg24_ => ?_)
       ·
        replace h := h.1 hg24_
        refine HSp (R_fieldAddr fo54_0 rfl) rfl rfl ?_
        refine HS_loadB (v := vi x10_.Kind_) ag3 rfl ht11_.blk rfl rfl rfl ?_
        refine HSp (R_eql rfl rfl) rfl rfl (HSp (R_pick_true rfl rfl) rfl rfl (HSp (R_pick_false rfl rfl) rfl rfl (HSp (R_pick_true rfl rfl) rfl rfl (HSp (R_pick_false rfl rfl) rfl rfl ?_))))
        refine HS_nil ?_
        clear hops15_
        refine then_n ?_
        exact ⟨_, rfl, ⟨(decide (x10_.Kind_ = 2)), _, _, rfl, h, hI, hll14_, hhh14_, ht11_, trivial⟩, ⟨rfl, rfl, rfl, rfl, rfl, rfl, rfl, trivial⟩⟩
       ·
        replace h := h.2 hg24_
        refine HS_pass rfl rfl ?_
        refine HS_pass rfl rfl ?_
        refine HS_pass rfl rfl ?_
        refine HSp (R_pick_false rfl rfl) rfl rfl (HSp (R_pick_false rfl rfl) rfl rfl (HSp (R_pick_true rfl rfl) rfl rfl (HSp (R_pick_false rfl rfl) rfl rfl ?_)))
        refine HS_nil ?_
        clear hops15_
        refine then_n ?_
        exact ⟨_, rfl, ⟨false, _, _, rfl, h, hI, hll14_, hhh14_, ht11_, trivial⟩, ⟨rfl, rfl, rfl, rfl, rfl, rfl, rfl, trivial⟩⟩
     ·
      replace h := h.2 hg18_
      refine HS_pass rfl rfl ?_
      refine HS_pass rfl rfl ?_
      refine HS_pass rfl rfl ?_
      refine HS_pass rfl rfl ?_
      refine HS_pass rfl rfl ?_
      refine HS_pass rfl rfl ?_
      refine HS_pass rfl rfl ?_
      refine HS_pass rfl rfl ?_
      refine HS_pass rfl rfl ?_
      refine HS_pass rfl rfl ?_
      refine HS_passU rfl rfl ?_
      refine HS_passU rfl rfl ?_
      refine HS_passU rfl rfl ?_
      refine HS_passU rfl rfl ?_
      refine HS_passU rfl rfl ?_
      refine HS_passU rfl rfl ?_
      refine HS_passU rfl rfl ?_
      refine HS_passU rfl rfl ?_
      refine HS_passU rfl rfl ?_
      refine HS_passU rfl rfl ?_
      refine HS_passU rfl rfl ?_
      refine HS_passU rfl rfl ?_
      refine HS_pass rfl rfl ?_
      refine HSp (R_pick_false rfl rfl) rfl rfl (HSp (R_pick_false rfl rfl) rfl rfl ?_)
      refine HS_nil ?_
      clear hops15_
      refine then_n ?_
      exact ⟨_, rfl, ⟨false, _, _, rfl, h, hI, hll14_, hhh14_, ht11_, trivial⟩, ⟨rfl, rfl, rfl, rfl, rfl, rfl, rfl, trivial⟩⟩
   ·
    simp only [e_, Nat.reduceAdd, Nat.reduceBEq] at b_
    subst b_
    clear h
    clear ht11_
    rintro _ w14_ ⟨x45_14, L14_, H14_, rfl, hJ14_, hI14_, hll14_, hhh14_, ht11_, -⟩
    replace hI := hI14_
    clear hI14_
    have h := hr14_ x45_14 hJ14_
    clear hr14_ hJ14_
    replace hs0 := hs0.up hhh14_
    replace hll2_ := hll2_.trans hll14_
    replace hhh2_ := hhh2_.trans hhh14_
    replace hll4_ := hll4_.trans hll14_
    replace hhh4_ := hhh4_.trans hhh14_
    refine W_cond rfl (fun hc25_ => ?_) (fun hc25_ => ?_)
    ·
     replace h := h.1 hc25_
     refine W_seq_k fun K26 k26 => ?_
     refine W_region [2, 3, 4] rfl (Ops_step (R_assign rfl) rfl rfl (Ops_step (R_assign rfl) rfl rfl (Ops_step (R_assign rfl) rfl rfl ?_)))
     refine Ops_nil ?_
     refine then_n (k26 _ _ ?_)
     clear k26 K26
     refine W_keepB [2, 3, 4] fun B_ b_ => ?_
     simp only [e_, Nat.reduceAdd, Nat.reduceBEq] at b_
     subst b_
     refine W_ret ?_
     refine then_ret ?_
     clear k13 K13
     refine block_ret ?_
     refine then_ret ?_
     clear k8 K8
     refine then_ret ?_
     refine block_ret ?_
     refine then_ret ?_
     refine ⟨_, ⟨_, _, rfl, rfl, ⟨_, _, rfl, rfl, ⟨_, _, rfl, rfl, rfl⟩⟩⟩, ?_⟩
     exact ⟨0, 0, false, _, _, rfl, hI, h⟩
    ·
     replace h := h.2 hc25_
     refine W_skip ?_
     refine then_n (k13 _ _ ?_)
     clear k13 K13
     refine ex_ h fun J28_ hr28_ h => ?_
     refine W_seq_join [0, 3, 6, 7, 8, 9] [2] (fun vals_ w2 => ∃ (x2_28 : Int) (L H : Gh), vals_ = [vi x2_28] ∧ J28_ x2_28 ∧ Inv [] G w L H w2 ∧ Le L14_ L ∧ Le H14_ H ∧ Tok H w2 b11_ 54 ([vi x10_.Kind_, vi x10_.N_, vs x10_.Text_]) ∧ True) (fun B_ b_ => ?_) (fun B_ b_ => ?_)
     ·
      simp only [e_, Nat.reduceAdd, Nat.reduceBEq] at b_
      subst b_
      clear hr28_
      have hll28_ := Le.refl L14_
      have hhh28_ := Le.refl H14_
      refine W_seq_k fun K29 k29 => ?_
      refine W_region [46, 47, 48] rfl (Ops_step (R_fieldAddr fo54_0 rfl) rfl rfl ?_)
      refine Ops_step (R_loadB (v := vi x10_.Kind_) ag3 rfl ht11_.blk rfl) rfl rfl ?_
      refine Ops_step (R_neq rfl rfl) rfl rfl ?_
      refine Ops_nil ?_
      refine then_n (k29 _ _ ?_)
      clear k29 K29
      refine W_if rfl (fun hc30_ => ?_) (fun hc30_ => ?_)
      ·
       replace h := h.1 hc30_
       refine W_region [49, 50, 51, 52, 2] rfl (Ops_step (R_move rfl) rfl rfl (Ops_step (R_fieldAddr fo54_1 rfl) rfl rfl ?_))
       refine Ops_step (R_loadB (v := vi x10_.N_) ag3 rfl ht11_.blk rfl) rfl rfl ?_
       have hk31_ := h.1
       replace h := h.2
       refine Ops_step (R_add rfl rfl (wI hk31_.1 hk31_.2)) rfl rfl (Ops_step (R_assign rfl) rfl rfl ?_)
       refine Ops_nil ?_
       refine then_n ?_
       exact ⟨_, rfl, ⟨(x2_4 + x10_.N_), _, _, rfl, h, hI, hll28_, hhh28_, ht11_, trivial⟩, ⟨rfl, rfl, rfl, rfl, rfl, rfl, trivial⟩⟩
      ·
       replace h := h.2 hc30_
       refine W_skip ?_
       refine then_n ?_
       exact ⟨_, rfl, ⟨x2_4, _, _, rfl, h, hI, hll28_, hhh28_, ht11_, trivial⟩, ⟨rfl, rfl, rfl, rfl, rfl, rfl, trivial⟩⟩
     ·
      simp only [e_, Nat.reduceAdd, Nat.reduceBEq] at b_
      subst b_
      clear h
      clear ht11_
      rintro _ w28_ ⟨x2_28, L28_, H28_, rfl, hJ28_, hI28_, hll28_, hhh28_, ht11_, -⟩
      replace hI := hI28_
      clear hI28_
      have h := hr28_ x2_28 hJ28_
      clear hr28_ hJ28_
      replace hs0 := hs0.up hhh28_
      replace hll2_ := hll2_.trans hll28_
      replace hhh2_ := hhh2_.trans hhh28_
      replace hll4_ := hll4_.trans hll28_
      replace hhh4_ := hhh4_.trans hhh28_
      refine ex_ h fun J32_ hr32_ h => ?_
      refine W_seq_join [0, 2, 7, 8, 9] [3] (fun vals_ w2 => ∃ (x3_32 : Int) (L H : Gh), vals_ = [vi x3_32] ∧ J32_ x3_32 ∧ Inv [] G w L H w2 ∧ Le L28_ L ∧ Le H28_ H ∧ True) (fun B_ b_ => ?_) (fun B_ b_ => ?_)
      ·
       simp only [e_, Nat.reduceAdd, Nat.reduceBEq] at b_
       subst b_
       clear hr32_
       have hll32_ := Le.refl L28_
       have hhh32_ := Le.refl H28_
       refine W_seq_k fun K33 k33 => ?_
       refine W_region [53, 54, 55] rfl (Ops_step (R_fieldAddr fo54_0 rfl) rfl rfl ?_)
       refine Ops_step (R_loadB (v := vi x10_.Kind_) ag3 rfl ht11_.blk rfl) rfl rfl ?_
       refine Ops_step (R_neq rfl rfl) rfl rfl ?_
       refine Ops_nil ?_
       refine then_n (k33 _ _ ?_)
       clear k33 K33
       refine W_if rfl (fun hc34_ => ?_) (fun hc34_ => ?_)
       ·
        replace h := h.1 hc34_
        refine W_region [56, 57, 58, 59, 3] rfl (Ops_step (R_move rfl) rfl rfl (Ops_step (R_fieldAddr fo54_1 rfl) rfl rfl ?_))
        refine Ops_step (R_loadB (v := vi x10_.N_) ag3 rfl ht11_.blk rfl) rfl rfl ?_
        have hk35_ := h.1
        replace h := h.2
        refine Ops_step (R_add rfl rfl (wI hk35_.1 hk35_.2)) rfl rfl (Ops_step (R_assign rfl) rfl rfl ?_)
        refine Ops_nil ?_
        refine then_n ?_
        exact ⟨_, rfl, ⟨(x3_4 + x10_.N_), _, _, rfl, h, hI, hll32_, hhh32_, trivial⟩, ⟨rfl, rfl, rfl, rfl, rfl, trivial⟩⟩
       ·
        replace h := h.2 hc34_
        refine W_skip ?_
        refine then_n ?_
        exact ⟨_, rfl, ⟨x3_4, _, _, rfl, h, hI, hll32_, hhh32_, trivial⟩, ⟨rfl, rfl, rfl, rfl, rfl, trivial⟩⟩
      ·
       simp only [e_, Nat.reduceAdd, Nat.reduceBEq] at b_
       subst b_
       clear h
       rintro _ w32_ ⟨x3_32, L32_, H32_, rfl, hJ32_, hI32_, hll32_, hhh32_, -⟩
       replace hI := hI32_
       clear hI32_
       have h := hr32_ x3_32 hJ32_
       clear hr32_ hJ32_
       replace hs0 := hs0.up hhh32_
       replace hll2_ := hll2_.trans hll32_
       replace hhh2_ := hhh2_.trans hhh32_
       replace hll4_ := hll4_.trans hll32_
       replace hhh4_ := hhh4_.trans hhh32_
       refine ex_ h fun J36_ hr36_ h => ?_
       refine W_seq_join [0, 2, 3, 7, 8, 9] [65] (fun vals_ w2 => ∃ (x65_36 : Bool) (L H : Gh), vals_ = [.bool x65_36] ∧ J36_ x65_36 ∧ Inv [] G w L H w2 ∧ Le L32_ L ∧ Le H32_ H ∧ True) (fun B_ b_ => ?_) (fun B_ b_ => ?_)
       ·
        simp only [e_, Nat.reduceAdd, Nat.reduceBEq] at b_
        subst b_
        clear hr36_
        have hll36_ := Le.refl L32_
        have hhh36_ := Le.refl H32_
        refine W_region [60, 61, 62, 63, 64, 65] rfl (Ops_step (R_move rfl) rfl rfl (Ops_step (R_gtr rfl rfl) rfl rfl (Ops_step (R_move rfl) rfl rfl ?_)))
        refine Ops_split 62 rfl (fun hg37_ => ?_) (fun hg37_ => ?_)
        ·
         replace h := h.1 hg37_
         refine Ops_pass rfl rfl (Ops_pass rfl rfl (Ops_step (R_pick_true rfl rfl) rfl rfl ?_))
         refine Ops_nil ?_
         refine then_n ?_
         exact ⟨_, rfl, ⟨true, _, _, rfl, h, hI, hll36_, hhh36_, trivial⟩, ⟨rfl, rfl, rfl, rfl, rfl, rfl, trivial⟩⟩
        ·
         replace h := h.2 hg37_
         refine Ops_step (R_move rfl) rfl rfl (Ops_step (R_gtr rfl rfl) rfl rfl (Ops_step (R_pick_false rfl rfl) rfl rfl ?_))
         refine Ops_nil ?_
         refine then_n ?_
         exact ⟨_, rfl, ⟨(decide (x3_32 > 1099511627776)), _, _, rfl, h, hI, hll36_, hhh36_, trivial⟩, ⟨rfl, rfl, rfl, rfl, rfl, rfl, trivial⟩⟩
       ·
        simp only [e_, Nat.reduceAdd, Nat.reduceBEq] at b_
        subst b_
        clear h
        rintro _ w36_ ⟨x65_36, L36_, H36_, rfl, hJ36_, hI36_, hll36_, hhh36_, -⟩
        replace hI := hI36_
        clear hI36_
        have h := hr36_ x65_36 hJ36_
        clear hr36_ hJ36_
        replace hs0 := hs0.up hhh36_
        replace hll2_ := hll2_.trans hll36_
        replace hhh2_ := hhh2_.trans hhh36_
        replace hll4_ := hll4_.trans hll36_
        replace hhh4_ := hhh4_.trans hhh36_
        refine W_cond rfl (fun hc38_ => ?_) (fun hc38_ => ?_)
        ·
         replace h := h.1 hc38_
         refine W_seq_k fun K39 k39 => ?_
         refine W_region [2, 3, 4] rfl (Ops_step (R_assign rfl) rfl rfl (Ops_step (R_assign rfl) rfl rfl (Ops_step (R_assign rfl) rfl rfl ?_)))
         refine Ops_nil ?_
         refine then_n (k39 _ _ ?_)
         clear k39 K39
         refine W_ret ?_
         refine block_ret ?_
         refine then_ret ?_
         clear k8 K8
         refine then_ret ?_
         refine block_ret ?_
         refine then_ret ?_
         refine ⟨_, ⟨_, _, rfl, rfl, ⟨_, _, rfl, rfl, ⟨_, _, rfl, rfl, rfl⟩⟩⟩, ?_⟩
         exact ⟨0, 0, false, _, _, rfl, hI, h⟩
        ·
         replace h := h.2 hc38_
         refine W_skip ?_
         refine block_n ?_
         refine then_n (k8 _ _ ?_)
         clear k8 K8
         refine W_region [66, 9] rfl ?_
         have hk40_ := h.1
         replace h := h.2
         refine Ops_step (R_add rfl rfl (wI hk40_.1 hk40_.2)) rfl rfl (Ops_step (R_move rfl) rfl rfl ?_)
         refine Ops_nil ?_
         refine then_n ?_
         exact h.elim fun m_ h => ⟨m_, _, h.1, rfl, ⟨x2_28, x3_32, (x9_4 + 1), _, _, rfl, h.2, hI, hll4_, hhh4_, trivial⟩, ⟨rfl, rfl, rfl, trivial⟩⟩
  ·
   replace h := h.2 hc7_
   refine W_exit ?_
   refine then_exit ?_
   clear k6 K6
   refine then_exit ?_
   refine block_exit ?_
   refine then_n ?_
   exact ⟨_, rfl, ⟨x2_4, x3_4, _, _, rfl, h, hI, hll2_, hhh2_, trivial⟩, trivial⟩
 ·
  simp only [e_, Nat.reduceAdd, Nat.reduceBEq] at b_
  subst b_
  clear h
  rintro _ w2_ ⟨x2_2, x3_2, L2_, H2_, rfl, hJ2_, hI2_, hll2_, hhh2_, -⟩
  replace hI := hI2_
  clear hI2_
  have h := hr2_ x2_2 x3_2 hJ2_
  clear hr2_ hJ2_
  refine W_seq_k fun K41 k41 => ?_
  refine W_region [67, 68, 2, 3, 4] rfl (Ops_step (R_move rfl) rfl rfl (Ops_step (R_move rfl) rfl rfl (Ops_step (R_assign rfl) rfl rfl (Ops_step (R_assign rfl) rfl rfl ?_))))
  refine Ops_step (R_assign rfl) rfl rfl ?_
  refine Ops_nil ?_
  refine then_n (k41 _ _ ?_)
  clear k41 K41
  refine W_ret ?_
  refine ⟨_, ⟨_, _, rfl, rfl, ⟨_, _, rfl, rfl, ⟨_, _, rfl, rfl, rfl⟩⟩⟩, ?_⟩
  exact ⟨x2_2, x3_2, true, _, _, rfl, hI, h⟩

theorem edit_Size_ok {G : Gh} {w : World} (hS : St G w) (hg : GL G) {A0 : Option Addr} {c0 : Nat} {x0 : List api_Part} (hc0 : x0.length ≤ c0) (hs0 : Sl G A0 x0) {Q : Int → Int → Int → Prop} (h : edit_Size x0 Q) : Calls Tryd.prog 40 #[.slice A0 x0.length c0] w fun e w2 => ∃ (r0 : Int) (r1 : Int) (r2 : Int) (L H : Gh), e = .returned (.tuple #[vi r0, vi r1, vi r2]) ∧ Inv [] G w L H w2 ∧ Q r0 r1 r2 := by
 unfold edit_Size at h
 have hI := Inv.start (M := []) hS
 refine calls_W 16 Tryd.func40 rfl Tryd.ntmps40 rfl [.tmp 2, .tmp 3, .tmp 4] rfl ?_
 refine W_seq_k fun K1 k1 => ?_
 refine W_region [2, 3, 4] rfl (Ops_step (R_assign rfl) rfl rfl (Ops_step (R_assign rfl) rfl rfl (Ops_step (R_assign rfl) rfl rfl ?_)))
 refine Ops_nil ?_
 refine then_n (k1 _ _ ?_)
 clear k1 K1
 refine W_seq_k fun K2 k2 => ?_
 refine W_region [7, 8, 6, 9, 10, 11, 2, 3, 5] rfl (Ops_step (R_move rfl) rfl rfl ?_)
 refine Ops_call (C_func bd67 rfl) rfl rfl ?_
 refine (edit_sizes_ok (x0 := x0) hI.st (hg.up hI.le) hc0 hs0 h).mono ?_
 rintro _ w3_ ⟨r3_0, r3_1, r3_2, L3_, H3_, rfl, hI3_, h⟩
 refine Exists.elim (hI.call hI3_ (by simp)) fun L30_ h3_ => ?_
 have hz3_ := hI.size
 replace hI := h3_.1
 have u3_ := h3_.2.1
 have hl3_ := h3_.2.2
 clear h3_
 clear hI3_ u3_ hl3_
 refine ⟨_, rfl, ?_⟩
 refine Ops_step (R_move rfl) rfl rfl ?_
 refine Ops_step (R_extract (v := vi r3_0) rfl rfl) rfl rfl ?_
 refine Ops_step (R_extract (v := vi r3_1) rfl rfl) rfl rfl ?_
 refine Ops_step (R_extract (v := .bool r3_2) rfl rfl) rfl rfl ?_
 refine Ops_step (R_assign rfl) rfl rfl (Ops_step (R_assign rfl) rfl rfl (Ops_step (R_assign rfl) rfl rfl ?_))
 refine Ops_nil ?_
 refine then_n (k2 _ _ ?_)
 clear k2 K2
 refine W_keepB [2, 3, 5] fun B_ b_ => ?_
 simp only [e_, Nat.reduceAdd, Nat.reduceBEq] at b_
 subst b_
 refine W_seq_k fun K5 k5 => ?_
 refine W_seq_k fun K6 k6 => ?_
 refine W_region [12, 13] rfl (Ops_step (R_move rfl) rfl rfl (Ops_step (R_not rfl) rfl rfl ?_))
 refine Ops_nil ?_
 refine then_n (k6 _ _ ?_)
 clear k6 K6
 refine W_cond rfl (fun hc7_ => ?_) (fun hc7_ => ?_)
 ·
  replace h := h.1 hc7_
  refine W_seq_k fun K8 k8 => ?_
  refine W_region [2, 3, 4] rfl (Ops_step (R_assign rfl) rfl rfl (Ops_step (R_assign rfl) rfl rfl (Ops_step (R_assign rfl) rfl rfl ?_)))
  refine Ops_nil ?_
  refine then_n (k8 _ _ ?_)
  clear k8 K8
  refine W_ret ?_
  refine then_ret ?_
  clear k5 K5
  refine ⟨_, ⟨_, _, rfl, rfl, ⟨_, _, rfl, rfl, ⟨_, _, rfl, rfl, rfl⟩⟩⟩, ?_⟩
  exact ⟨0, 0, 30, _, _, rfl, hI, h⟩
 ·
  replace h := h.2 hc7_
  refine W_skip ?_
  refine then_n (k5 _ _ ?_)
  clear k5 K5
  refine W_seq_k fun K9 k9 => ?_
  refine W_region [14, 15, 2, 3, 4] rfl (Ops_step (R_move rfl) rfl rfl (Ops_step (R_move rfl) rfl rfl (Ops_step (R_assign rfl) rfl rfl (Ops_step (R_assign rfl) rfl rfl ?_))))
  refine Ops_step (R_assign rfl) rfl rfl ?_
  refine Ops_nil ?_
  refine then_n (k9 _ _ ?_)
  clear k9 K9
  refine W_ret ?_
  refine ⟨_, ⟨_, _, rfl, rfl, ⟨_, _, rfl, rfl, ⟨_, _, rfl, rfl, rfl⟩⟩⟩, ?_⟩
  exact ⟨r3_0, r3_1, 0, _, _, rfl, hI, h⟩

theorem edit_Weight_ok {G : Gh} {w : World} (hS : St G w) (hg : GL G) {A0 : Option Addr} {c0 : Nat} {x0 : List api_Part} (hc0 : x0.length ≤ c0) (hs0 : Sl G A0 x0) {Q : Int → Int → Prop} (h : edit_Weight x0 Q) : Calls Tryd.prog 41 #[.slice A0 x0.length c0] w fun e w2 => ∃ (r0 : Int) (r1 : Int) (L H : Gh), e = .returned (.tuple #[vi r0, vi r1]) ∧ Inv [] G w L H w2 ∧ Q r0 r1 := by
 unfold edit_Weight at h
 have hI := Inv.start (M := []) hS
 refine calls_W 32 Tryd.func41 rfl Tryd.ntmps41 rfl [.tmp 2, .tmp 3] rfl ?_
 refine W_seq_k fun K1 k1 => ?_
 refine W_region [2, 3] rfl (Ops_step (R_assign rfl) rfl rfl (Ops_step (R_assign rfl) rfl rfl ?_))
 refine Ops_nil ?_
 refine then_n (k1 _ _ ?_)
 clear k1 K1
 refine ex_ h fun J2_ hr2_ h => ?_
 refine W_seq_join [] [2, 3] (fun vals_ w2 => ∃ (x2_2 : Int) (x3_2 : Int) (L H : Gh), vals_ = [vi x2_2, vi x3_2] ∧ J2_ x2_2 x3_2 ∧ Inv [] G w L H w2 ∧ Le Gh.no L ∧ Le G H ∧ True) (fun B_ b_ => ?_) (fun B_ b_ => ?_)
 ·
  simp only [e_, Nat.reduceAdd, Nat.reduceBEq] at b_
  subst b_
  clear hr2_
  have hll2_ := Le.refl Gh.no
  have hhh2_ := Le.refl G
  refine W_seq_k fun K3 k3 => ?_
  refine W_region [6, 7, 8] rfl (Ops_step (R_move rfl) rfl rfl (Ops_step (R_len Tryd.underlying23 rfl rfl) rfl rfl (Ops_step (R_move rfl) rfl rfl ?_)))
  refine Ops_nil ?_
  refine then_n (k3 _ _ ?_)
  clear k3 K3
  refine W_block ?_
  refine Exists.elim h fun I4_ h => Exists.elim h fun n4_ h => ?_
  have h0_ := h.1
  have hs4_ := h.2
  clear h
  refine W_loopB [6, 7] [2, 3, 8] (fun m vals_ w2 => ∃ (x2_4 : Int) (x3_4 : Int) (x8_4 : Int) (L H : Gh), vals_ = [vi x2_4, vi x3_4, vi x8_4] ∧ I4_ m x2_4 x3_4 x8_4 ∧ Inv [] G w L H w2 ∧ Le Gh.no L ∧ Le G H ∧ True) n4_ _ rfl ⟨0, 0, 0, _, _, rfl, h0_, hI, Le.refl _, Le.refl _, trivial⟩ fun B_ b_ => ?_
  clear h0_
  simp only [e_, Nat.reduceAdd, Nat.reduceBEq] at b_
  subst b_
  rintro m4_ _ w4_ ⟨x2_4, x3_4, x8_4, L4_, H4_, rfl, hJ4_, hI4_, hll4_, hhh4_, -⟩
  replace hI := hI4_
  clear hI4_
  have h := hs4_ m4_ x2_4 x3_4 x8_4 hJ4_
  clear hs4_ hJ4_
  replace hs0 := hs0.up hhh4_
  replace hll2_ := hll2_.trans hll4_
  replace hhh2_ := hhh2_.trans hhh4_
  refine W_seq_k fun K5 k5 => ?_
  refine W_region [9] rfl (Ops_step (R_lss rfl rfl) rfl rfl ?_)
  refine Ops_nil ?_
  refine then_n (k5 _ _ ?_)
  clear k5 K5
  refine W_seq_k fun K6 k6 => ?_
  refine W_if rfl (fun hc7_ => ?_) (fun hc7_ => ?_)
  ·
   replace h := h.1 hc7_
   refine W_skip ?_
   refine then_n (k6 _ _ ?_)
   clear k6 K6
   refine ex_ h fun J8_ hr8_ h => ?_
   refine W_seq_join [6, 7, 8] [2, 3] (fun vals_ w2 => ∃ (x2_8 : Int) (x3_8 : Int) (L H : Gh), vals_ = [vi x2_8, vi x3_8] ∧ J8_ x2_8 x3_8 ∧ Inv [] G w L H w2 ∧ Le L4_ L ∧ Le H4_ H ∧ True) (fun B_ b_ => ?_) (fun B_ b_ => ?_)
   ·
    simp only [e_, Nat.reduceAdd, Nat.reduceBEq] at b_
    subst b_
    clear hr8_
    have hll8_ := Le.refl L4_
    have hhh8_ := Le.refl H4_
    refine W_block ?_
    refine W_seq_k fun K9 k9 => ?_
    refine W_region [10, 11, 5, none] rfl ?_
    refine ex_ h fun x10_ hx10_ h => ?_
    have ha10_ := (Sl.atN (n := 3) rfl (by decide) hs0 hx10_).1
    refine Exists.elim (Sl.atN (n := 3) rfl (by decide) hs0 hx10_).2 fun l10_ hA10_ => ?_
    have hr10_ := hA10_.1
    have hg10_ := hA10_.2
    clear hA10_
    refine Ops_step (R_indexSl Tryd.underlying23 sz54 rfl rfl hx10_.1 hx10_.lt ha10_) rfl rfl ?_
    replace hr10_ : l10_ = [vi x10_.Kind_, vi x10_.N_, vs x10_.Text_] := hr10_
    subst hr10_
    refine Ops_step (R_loadCs (cs := [vi x10_.Kind_, vi x10_.N_, vs x10_.Text_]) ag54 sz54 rfl (fun j_ v_ hv_ => hI.st _ _ (hg10_ j_ v_ hv_))) rfl rfl ?_
    have hI0_ := hI
    refine Ops_to (R_alloc zr54) rfl rfl ?_
    rintro _ w11_ ⟨b11_, rfl, hb11_, hB11_, hF11_⟩
    replace hI := hI.fr0 hF11_
    have ht11_ : Tok H4_ _ b11_ 54 ([vi 0, vi 0, vs (Str.mk [])]) := ⟨hB11_.to rfl, Out.ge hI0_.st (Nat.le_of_eq hb11_.symm)⟩
    have hge_b11_ : w.heap.size ≤ b11_ := hb11_ ▸ hI0_.size
    clear hB11_ hb11_ hI0_ hF11_
    refine Ops_to0 (R_storeN sz54 rfl rfl rfl ht11_.blk (Nat.le_of_ble_eq_true rfl) rfl) rfl ?_
    rintro _ w12_ ⟨hB12_, hF12_⟩
    replace hI := hI.tok hF12_ (out1 ht11_.out) (new1 hge_b11_)
    replace ht11_ : Tok H4_ _ b11_ 54 ([vi x10_.Kind_, vi x10_.N_, vs x10_.Text_]) := ⟨hB12_, ht11_.out⟩
    clear hF12_ hB12_
    refine Ops_nil ?_
    refine then_n (k9 _ _ ?_)
    clear k9 K9
    refine W_seq_k fun K13 k13 => ?_
    refine W_seq_k fun K14 k14 => ?_
    refine W_region [12, 13, 14] rfl (Ops_step (R_loadN ag54 sz54 rfl ht11_.blk (Nat.le_of_ble_eq_true rfl)) rfl rfl ?_)
    refine Ops_call (C_func bd68 rfl) rfl rfl ?_
    refine (edit_fits_ok (x0 := x10_) hI.st (hg.up hI.le) rfl h).mono ?_
    rintro _ w15_ ⟨r15_0, L15_, H15_, rfl, hI15_, h⟩
    refine Exists.elim (hI.call hI15_ (by simp)) fun L150_ h15_ => ?_
    have hz15_ := hI.size
    replace hI := h15_.1
    have u15_ := h15_.2.1
    have hl15_ := h15_.2.2
    clear h15_
    replace hs0 := hs0.up u15_.hh
    replace hll2_ := hll2_.trans u15_.ll
    replace hhh2_ := hhh2_.trans u15_.hh
    replace hll4_ := hll4_.trans u15_.ll
    replace hhh4_ := hhh4_.trans u15_.hh
    replace hll8_ := hll8_.trans u15_.ll
    replace hhh8_ := hhh8_.trans u15_.hh
    replace ht11_ := ht11_.up u15_ (by simp)
    clear hI15_ u15_ hl15_
    refine ⟨_, rfl, ?_⟩
    refine Ops_step (R_not rfl) rfl rfl ?_
    refine Ops_nil ?_
    refine then_n (k14 _ _ ?_)
    clear k14 K14
    refine W_cond rfl (fun hc16_ => ?_) (fun hc16_ => ?_)
    ·
     replace h := h.1 hc16_
     refine W_seq_k fun K17 k17 => ?_
     refine W_region [2, 3] rfl (Ops_step (R_assign rfl) rfl rfl (Ops_step (R_assign rfl) rfl rfl ?_))
     refine Ops_nil ?_
     refine then_n (k17 _ _ ?_)
     clear k17 K17
     refine W_keepB [2, 3] fun B_ b_ => ?_
     simp only [e_, Nat.reduceAdd, Nat.reduceBEq] at b_
     subst b_
     refine W_ret ?_
     refine then_ret ?_
     clear k13 K13
     refine block_ret ?_
     refine then_ret ?_
     refine then_ret ?_
     refine block_ret ?_
     refine then_ret ?_
     refine ⟨_, ⟨_, _, rfl, rfl, ⟨_, _, rfl, rfl, rfl⟩⟩, ?_⟩
     exact ⟨0, 0, _, _, rfl, hI, h⟩
    ·
     replace h := h.2 hc16_
     refine W_skip ?_
     refine then_n (k13 _ _ ?_)
     clear k13 K13
     refine W_keepB [2, 3, 5, 6, 7, 8] fun B_ b_ => ?_
     simp only [e_, Nat.reduceAdd, Nat.reduceBEq] at b_
     subst b_
     refine W_seq_k fun K20 k20 => ?_
     refine W_region [15, 16] rfl (Ops_step (R_fieldAddr fo54_0 rfl) rfl rfl ?_)
     refine Ops_step (R_loadB (v := vi x10_.Kind_) ag3 rfl ht11_.blk rfl) rfl rfl ?_
     refine Ops_nil ?_
     refine then_n (k20 _ _ ?_)
     clear k20 K20
     refine W_block ?_
     refine W_seq_k fun K21 k21 => ?_
     refine W_region [18, 17] rfl (Ops_step (R_eql rfl rfl) rfl rfl (Ops_step (R_assign rfl) rfl rfl ?_))
     refine Ops_nil ?_
     refine then_n (k21 _ _ ?_)
     clear k21 K21
     refine W_if rfl (fun hc22_ => ?_) (fun hc22_ => ?_)
     ·
      replace h := h.1 hc22_
      refine W_region [19, 20, 21, 22, 2] rfl (Ops_step (R_move rfl) rfl rfl (Ops_step (R_fieldAddr fo54_1 rfl) rfl rfl ?_))
      refine Ops_step (R_loadB (v := vi x10_.N_) ag3 rfl ht11_.blk rfl) rfl rfl ?_
      have hk23_ := h.1
      replace h := h.2
      refine Ops_step (R_add rfl rfl (wI hk23_.1 hk23_.2)) rfl rfl (Ops_step (R_assign rfl) rfl rfl ?_)
      refine Ops_nil ?_
      refine block_n ?_
      refine block_n ?_
      refine then_n ?_
      exact ⟨_, rfl, ⟨(x2_4 + x10_.N_), x3_4, _, _, rfl, h, hI, hll8_, hhh8_, trivial⟩, ⟨rfl, rfl, rfl, trivial⟩⟩
     ·
      replace h := h.2 hc22_
      refine W_seq_k fun K24 k24 => ?_
      refine W_region [24, 23] rfl (Ops_step (R_eql rfl rfl) rfl rfl (Ops_step (R_assign rfl) rfl rfl ?_))
      refine Ops_nil ?_
      refine then_n (k24 _ _ ?_)
      clear k24 K24
      refine W_if rfl (fun hc25_ => ?_) (fun hc25_ => ?_)
      ·
       replace h := h.1 hc25_
       refine W_region [25, 26, 27, 28, 3] rfl (Ops_step (R_move rfl) rfl rfl (Ops_step (R_fieldAddr fo54_1 rfl) rfl rfl ?_))
       refine Ops_step (R_loadB (v := vi x10_.N_) ag3 rfl ht11_.blk rfl) rfl rfl ?_
       have hk26_ := h.1
       replace h := h.2
       refine Ops_step (R_add rfl rfl (wI hk26_.1 hk26_.2)) rfl rfl (Ops_step (R_assign rfl) rfl rfl ?_)
       refine Ops_nil ?_
       refine block_n ?_
       refine block_n ?_
       refine then_n ?_
       exact ⟨_, rfl, ⟨x2_4, (x3_4 + x10_.N_), _, _, rfl, h, hI, hll8_, hhh8_, trivial⟩, ⟨rfl, rfl, rfl, trivial⟩⟩
      ·
       replace h := h.2 hc25_
       refine W_skip ?_
       refine block_n ?_
       refine block_n ?_
       refine then_n ?_
       exact ⟨_, rfl, ⟨x2_4, x3_4, _, _, rfl, h, hI, hll8_, hhh8_, trivial⟩, ⟨rfl, rfl, rfl, trivial⟩⟩
   ·
    simp only [e_, Nat.reduceAdd, Nat.reduceBEq] at b_
    subst b_
    clear h
    rintro _ w8_ ⟨x2_8, x3_8, L8_, H8_, rfl, hJ8_, hI8_, hll8_, hhh8_, -⟩
    replace hI := hI8_
    clear hI8_
    have h := hr8_ x2_8 x3_8 hJ8_
    clear hr8_ hJ8_
    replace hs0 := hs0.up hhh8_
    replace hll2_ := hll2_.trans hll8_
    replace hhh2_ := hhh2_.trans hhh8_
    replace hll4_ := hll4_.trans hll8_
    replace hhh4_ := hhh4_.trans hhh8_
    refine W_region [29, 8] rfl ?_
    have hk27_ := h.1
    replace h := h.2
    refine Ops_step (R_add rfl rfl (wI hk27_.1 hk27_.2)) rfl rfl (Ops_step (R_move rfl) rfl rfl ?_)
    refine Ops_nil ?_
    refine then_n ?_
    exact h.elim fun m_ h => ⟨m_, _, h.1, rfl, ⟨x2_8, x3_8, (x8_4 + 1), _, _, rfl, h.2, hI, hll4_, hhh4_, trivial⟩, ⟨rfl, rfl, trivial⟩⟩
  ·
   replace h := h.2 hc7_
   refine W_exit ?_
   refine then_exit ?_
   clear k6 K6
   refine then_exit ?_
   refine block_exit ?_
   refine then_n ?_
   exact ⟨_, rfl, ⟨x2_4, x3_4, _, _, rfl, h, hI, hll2_, hhh2_, trivial⟩, trivial⟩
 ·
  simp only [e_, Nat.reduceAdd, Nat.reduceBEq] at b_
  subst b_
  clear h
  rintro _ w2_ ⟨x2_2, x3_2, L2_, H2_, rfl, hJ2_, hI2_, hll2_, hhh2_, -⟩
  replace hI := hI2_
  clear hI2_
  have h := hr2_ x2_2 x3_2 hJ2_
  clear hr2_ hJ2_
  refine W_seq_k fun K28 k28 => ?_
  refine W_region [30, 31, 2, 3] rfl (Ops_step (R_move rfl) rfl rfl (Ops_step (R_move rfl) rfl rfl (Ops_step (R_assign rfl) rfl rfl (Ops_step (R_assign rfl) rfl rfl ?_))))
  refine Ops_nil ?_
  refine then_n (k28 _ _ ?_)
  clear k28 K28
  refine W_ret ?_
  refine ⟨_, ⟨_, _, rfl, rfl, ⟨_, _, rfl, rfl, rfl⟩⟩, ?_⟩
  exact ⟨x2_2, x3_2, _, _, rfl, hI, h⟩

theorem frame_bare_ok {G : Gh} {w : World} (hS : St G w) (hg : GL G) {l0 : List Value} {x0 : api_Msg} (hr0 : Rp.cs G x0 l0) {Q : api_Msg → Prop} (h : frame_bare x0 Q) : Calls Tryd.prog 37 #[.agg l0.toArray] w fun e w2 => ∃ (l0 : List Value) (r0 : api_Msg) (L H : Gh), e = .returned (.agg l0.toArray) ∧ Inv [] G w L H w2 ∧ Rp.cs H r0 l0 ∧ Q r0 := by
 unfold frame_bare at h
 have hI := Inv.start (M := []) hS
 refine calls_W 97 Tryd.func37 rfl Tryd.ntmps37 rfl [.cell 2 25] rfl ?_
 obtain ⟨A0_1, c0_1, rfl, ⟨hc0_1, hs0_1⟩⟩ := hr0
 refine W_seq_k fun K1 k1 => ?_
 refine W_region [1, 2] rfl ?_
 have hI0_ := hI
 refine Ops_to (R_box rfl) rfl rfl ?_
 rintro _ w2_ ⟨b2_, rfl, hb2_, hB2_, hF2_⟩
 replace hI := hI.fr0 hF2_
 have ht2_ : Tok G _ b2_ 25 ([vi x0.Kind_, vi x0.Who_, vi x0.Seq_, vi x0.Rev_, vi x0.At_, vi x0.N_, vi x0.Target_, vi x0.Err_, .slice A0_1 x0.Edit_.length c0_1]) := ⟨hB2_.to rfl, Out.ge hI0_.st (Nat.le_of_eq hb2_.symm)⟩
 have hge_b2_ : w.heap.size ≤ b2_ := hb2_ ▸ hI0_.size
 clear hB2_ hb2_ hI0_ hF2_
 have hlo3_b2_ := ht2_.blk.lt
 have hI0_ := hI
 refine Ops_to (R_alloc zr25) rfl rfl ?_
 rintro _ w3_ ⟨b3_, rfl, hb3_, hB3_, hF3_⟩
 replace hI := hI.fr0 hF3_
 replace ht2_ := ht2_.fr0 hF3_
 have ht3_ : Tok G _ b3_ 25 ([vi 0, vi 0, vi 0, vi 0, vi 0, vi 0, vi 0, vi 0, .slice none 0 0]) := ⟨hB3_.to rfl, Out.ge hI0_.st (Nat.le_of_eq hb3_.symm)⟩
 have hge_b3_ : w.heap.size ≤ b3_ := hb3_ ▸ hI0_.size
 have hne3_b2_ : b2_ ≠ b3_ := fun e_ => absurd hlo3_b2_ (by omega)
 clear hB3_ hb3_ hI0_ hF3_
 refine Ops_nil ?_
 refine then_n (k1 _ _ ?_)
 clear k1 K1
 refine W_seq_k fun K4 k4 => ?_
 refine W_region [4, 5, 6, 3, none] rfl (Ops_step (R_fieldAddr fo25_0 rfl) rfl rfl ?_)
 refine Ops_step (R_loadB (v := vi x0.Kind_) ag3 rfl ht2_.blk rfl) rfl rfl ?_
 refine Ops_step (R_build (pl := [(0, 1)]) (cs := [vi x0.Kind_, vi 0, vi 0, vi 0, vi 0, vi 0, vi 0, vi 0, .slice none 0 0]) zr25 pl25 rfl rfl rfl) rfl rfl ?_
 have hlo5_b2_ := ht2_.blk.lt
 have hlo5_b3_ := ht3_.blk.lt
 have hI0_ := hI
 refine Ops_to (R_alloc zr25) rfl rfl ?_
 rintro _ w5_ ⟨b5_, rfl, hb5_, hB5_, hF5_⟩
 replace hI := hI.fr0 hF5_
 replace ht2_ := ht2_.fr0 hF5_
 replace ht3_ := ht3_.fr0 hF5_
 have ht5_ : Tok G _ b5_ 25 ([vi 0, vi 0, vi 0, vi 0, vi 0, vi 0, vi 0, vi 0, .slice none 0 0]) := ⟨hB5_.to rfl, Out.ge hI0_.st (Nat.le_of_eq hb5_.symm)⟩
 have hge_b5_ : w.heap.size ≤ b5_ := hb5_ ▸ hI0_.size
 have hne5_b2_ : b2_ ≠ b5_ := fun e_ => absurd hlo5_b2_ (by omega)
 have hne5_b3_ : b3_ ≠ b5_ := fun e_ => absurd hlo5_b3_ (by omega)
 clear hB5_ hb5_ hI0_ hF5_
 refine Ops_to0 (R_storeN sz25 rfl rfl rfl ht5_.blk (Nat.le_of_ble_eq_true rfl) rfl) rfl ?_
 rintro _ w6_ ⟨hB6_, hF6_⟩
 replace hI := hI.tok hF6_ (out1 ht5_.out) (new1 hge_b5_)
 replace ht2_ := ht2_.fr hF6_ (ne1 hne5_b2_)
 replace ht3_ := ht3_.fr hF6_ (ne1 hne5_b3_)
 replace ht5_ : Tok G _ b5_ 25 ([vi x0.Kind_, vi 0, vi 0, vi 0, vi 0, vi 0, vi 0, vi 0, .slice none 0 0]) := ⟨hB6_, ht5_.out⟩
 clear hF6_ hB6_
 refine Ops_nil ?_
 refine then_n (k4 _ _ ?_)
 clear k4 K4
 refine ex_ h fun J7_ hr7_ h => ?_
 refine W_seq_join [2, 3] [] (fun vals_ w2 => ∃ (yb5__7 : api_Msg) (L H : Gh), vals_ = [] ∧ J7_ yb5__7 ∧ Inv [] G w L H w2 ∧ Le Gh.no L ∧ Le G H ∧ Ob 25 H H w2 b5_ yb5__7 ∧ Tok H w2 b3_ 25 ([vi 0, vi 0, vi 0, vi 0, vi 0, vi 0, vi 0, vi 0, .slice none 0 0]) ∧ True) (fun B_ b_ => ?_) (fun B_ b_ => ?_)
 ·
  simp only [e_, Nat.reduceAdd, Nat.reduceBEq] at b_
  subst b_
  clear hr7_
  have hll7_ := Le.refl Gh.no
  have hhh7_ := Le.refl G
  refine W_seq_k fun K8 k8 => ?_
  refine W_region [7, 8] rfl (Ops_step (R_fieldAddr fo25_0 rfl) rfl rfl ?_)
  refine Ops_step (R_loadB (v := vi x0.Kind_) ag3 rfl ht2_.blk rfl) rfl rfl ?_
  refine Ops_nil ?_
  refine then_n (k8 _ _ ?_)
  clear k8 K8
  refine W_block ?_
  refine W_seq_k fun K9 k9 => ?_
  refine W_region [10, 9] rfl (Ops_step (R_eql rfl rfl) rfl rfl (Ops_step (R_assign rfl) rfl rfl ?_))
  refine Ops_nil ?_
  refine then_n (k9 _ _ ?_)
  clear k9 K9
  refine W_keepB [1, 2, 3, 8, 9] fun B_ b_ => ?_
  simp only [e_, Nat.reduceAdd, Nat.reduceBEq] at b_
  subst b_
  refine W_if rfl (fun hc11_ => ?_) (fun hc11_ => ?_)
  ·
   replace h := h.1 hc11_
   refine W_region [11, 12, 13, none] rfl (Ops_step (R_fieldAddr fo25_3 rfl) rfl rfl ?_)
   refine Ops_step (R_loadB (v := vi x0.Rev_) ag3 rfl ht2_.blk rfl) rfl rfl ?_
   refine Ops_step (R_fieldAddr fo25_3 rfl) rfl rfl ?_
   refine Ops_to0 (R_store sz3 rfl rfl ht5_.blk (by show 3 < 9; decide) rfl) rfl ?_
   rintro _ w12_ ⟨hB12_, hF12_⟩
   replace hI := hI.tok hF12_ (out1 ht5_.out) (new1 hge_b5_)
   replace ht3_ := ht3_.fr hF12_ (ne1 hne5_b3_)
   replace ht5_ : Tok G _ b5_ 25 ([vi x0.Kind_, vi 0, vi 0, vi x0.Rev_, vi 0, vi 0, vi 0, vi 0, .slice none 0 0]) := ⟨hB12_, ht5_.out⟩
   clear hF12_ hB12_
   refine Ops_nil ?_
   refine block_n ?_
   refine then_n ?_
   exact ⟨_, rfl, ⟨(api_Msg.mk x0.Kind_ 0 0 x0.Rev_ 0 0 0 0 []), _, _, rfl, h, hI, hll7_, hhh7_, ⟨_, ⟨none, 0, rfl, ⟨(Nat.le_refl 0), Sl.nil⟩⟩, ht5_⟩, ht3_, trivial⟩, ⟨rfl, rfl, trivial⟩⟩
  ·
   replace h := h.2 hc11_
   refine W_seq_k fun K13 k13 => ?_
   refine W_region [15, 14] rfl (Ops_step (R_eql rfl rfl) rfl rfl (Ops_step (R_assign rfl) rfl rfl ?_))
   refine Ops_nil ?_
   refine then_n (k13 _ _ ?_)
   clear k13 K13
   refine W_if rfl (fun hc14_ => ?_) (fun hc14_ => ?_)
   ·
    replace h := h.1 hc14_
    refine W_drawF [16, 17, 18, 19, 20, 21, 22, none, 23, none, 24, none] [(0, true), (1, true), (2, true), (3, true), (4, true), (5, true), (6, true), (7, false), (8, true), (9, false), (10, true), (11, false)] TFtE.hm rfl (by kernel_rfl) fun ops15_ w15_ hops15_ hF15_ => ?_
    replace hI := hI.fr0 hF15_
    replace ht2_ := ht2_.fr0 hF15_
    replace ht3_ := ht3_.fr0 hF15_
    replace ht5_ := ht5_.fr0 hF15_
    clear hF15_
    refine HSp (R_fieldAddr fo25_2 rfl) rfl rfl ?_
    refine HS_loadB (v := vi x0.Seq_) ag3 rfl ht2_.blk rfl rfl rfl ?_
    refine HSp (R_fieldAddr fo25_3 rfl) rfl rfl ?_
    refine HS_loadB (v := vi x0.Rev_) ag3 rfl ht2_.blk rfl rfl rfl ?_
    refine HSp (R_fieldAddr fo25_8 rfl) rfl rfl ?_
    refine HS_loadB (v := .slice A0_1 x0.Edit_.length c0_1) ag23 rfl ht2_.blk rfl rfl rfl ?_
    refine HSp (R_fieldAddr fo25_2 rfl) rfl rfl ?_
    refine HS_to0 [5, 3] _ rfl (by rw [hops15_]; kernel_rfl) (R_store sz3 rfl rfl ht5_.blk (by show 2 < 9; decide) rfl) rfl ?_
    rintro _ w16_ ⟨hB16_, hF16_⟩
    replace hI := hI.tok hF16_ (out1 ht5_.out) (new1 hge_b5_)
    replace ht2_ := ht2_.fr hF16_ (ne1 hne5_b2_)
    replace ht3_ := ht3_.fr hF16_ (ne1 hne5_b3_)
    replace ht5_ : Tok G _ b5_ 25 ([vi x0.Kind_, vi 0, vi x0.Seq_, vi 0, vi 0, vi 0, vi 0, vi 0, .slice none 0 0]) := ⟨hB16_, ht5_.out⟩
    clear hF16_ hB16_
    refine ⟨⟨(ht2_.blk.at_ rfl), (ht2_.blk.at_ rfl), trivial⟩, ?_⟩
    refine HSp (R_fieldAddr fo25_3 rfl) rfl rfl ?_
    refine HS_to0 [5] _ rfl (by rw [hops15_]; kernel_rfl) (R_store sz3 rfl rfl ht5_.blk (by show 3 < 9; decide) rfl) rfl ?_
    rintro _ w17_ ⟨hB17_, hF17_⟩
    replace hI := hI.tok hF17_ (out1 ht5_.out) (new1 hge_b5_)
    replace ht2_ := ht2_.fr hF17_ (ne1 hne5_b2_)
    replace ht3_ := ht3_.fr hF17_ (ne1 hne5_b3_)
    replace ht5_ : Tok G _ b5_ 25 ([vi x0.Kind_, vi 0, vi x0.Seq_, vi x0.Rev_, vi 0, vi 0, vi 0, vi 0, .slice none 0 0]) := ⟨hB17_, ht5_.out⟩
    clear hF17_ hB17_
    refine ⟨⟨(ht2_.blk.at_ rfl), trivial⟩, ?_⟩
    refine HSp (R_fieldAddr fo25_8 rfl) rfl rfl ?_
    refine HS_to0 [] _ rfl (by rw [hops15_]; kernel_rfl) (R_store sz23 rfl rfl ht5_.blk (by show 8 < 9; decide) rfl) rfl ?_
    rintro _ w18_ ⟨hB18_, hF18_⟩
    replace hI := hI.tok hF18_ (out1 ht5_.out) (new1 hge_b5_)
    replace ht2_ := ht2_.fr hF18_ (ne1 hne5_b2_)
    replace ht3_ := ht3_.fr hF18_ (ne1 hne5_b3_)
    replace ht5_ : Tok G _ b5_ 25 ([vi x0.Kind_, vi 0, vi x0.Seq_, vi x0.Rev_, vi 0, vi 0, vi 0, vi 0, .slice A0_1 x0.Edit_.length c0_1]) := ⟨hB18_, ht5_.out⟩
    clear hF18_ hB18_
    refine ⟨trivial, ?_⟩
    refine HS_nil ?_
    clear hops15_
    refine block_n ?_
    refine then_n ?_
    exact ⟨_, rfl, ⟨(api_Msg.mk x0.Kind_ 0 x0.Seq_ x0.Rev_ 0 0 0 0 x0.Edit_), _, _, rfl, h, hI, hll7_, hhh7_, ⟨_, ⟨A0_1, c0_1, rfl, ⟨hc0_1, hs0_1⟩⟩, ht5_⟩, ht3_, trivial⟩, ⟨rfl, rfl, trivial⟩⟩
   ·
    replace h := h.2 hc14_
    refine W_seq_k fun K19 k19 => ?_
    refine W_region [26, 25] rfl (Ops_step (R_eql rfl rfl) rfl rfl (Ops_step (R_assign rfl) rfl rfl ?_))
    refine Ops_nil ?_
    refine then_n (k19 _ _ ?_)
    clear k19 K19
    refine W_if rfl (fun hc20_ => ?_) (fun hc20_ => ?_)
    ·
     replace h := h.1 hc20_
     refine W_drawF [27, 28, 29, 30, 31, 32, 33, 34, 35, 36, 37, none, 38, none, 39, none, 40, none, 41, none] [(0, true), (1, true), (2, true), (3, true), (4, true), (5, true), (6, true), (7, true), (8, true), (9, true), (10, true), (11, false), (12, true), (13, false), (14, true), (15, false), (16, true), (17, false), (18, true), (19, false)] TFtE.hm rfl (by kernel_rfl) fun ops21_ w21_ hops21_ hF21_ => ?_
     replace hI := hI.fr0 hF21_
     replace ht2_ := ht2_.fr0 hF21_
     replace ht3_ := ht3_.fr0 hF21_
     replace ht5_ := ht5_.fr0 hF21_
     clear hF21_
     refine HSp (R_fieldAddr fo25_2 rfl) rfl rfl ?_
     refine HS_loadB (v := vi x0.Seq_) ag3 rfl ht2_.blk rfl rfl rfl ?_
     refine HSp (R_fieldAddr fo25_3 rfl) rfl rfl ?_
     refine HS_loadB (v := vi x0.Rev_) ag3 rfl ht2_.blk rfl rfl rfl ?_
     refine HSp (R_fieldAddr fo25_4 rfl) rfl rfl ?_
     refine HS_loadB (v := vi x0.At_) ag3 rfl ht2_.blk rfl rfl rfl ?_
     refine HSp (R_fieldAddr fo25_5 rfl) rfl rfl ?_
     refine HS_loadB (v := vi x0.N_) ag3 rfl ht2_.blk rfl rfl rfl ?_
     refine HSp (R_fieldAddr fo25_6 rfl) rfl rfl ?_
     refine HS_loadB (v := vi x0.Target_) ag3 rfl ht2_.blk rfl rfl rfl ?_
     refine HSp (R_fieldAddr fo25_2 rfl) rfl rfl ?_
     refine HS_to0 [9, 7, 5, 3] _ rfl (by rw [hops21_]; kernel_rfl) (R_store sz3 rfl rfl ht5_.blk (by show 2 < 9; decide) rfl) rfl ?_
     rintro _ w22_ ⟨hB22_, hF22_⟩
     replace hI := hI.tok hF22_ (out1 ht5_.out) (new1 hge_b5_)
     replace ht2_ := ht2_.fr hF22_ (ne1 hne5_b2_)
     replace ht3_ := ht3_.fr hF22_ (ne1 hne5_b3_)
     replace ht5_ : Tok G _ b5_ 25 ([vi x0.Kind_, vi 0, vi x0.Seq_, vi 0, vi 0, vi 0, vi 0, vi 0, .slice none 0 0]) := ⟨hB22_, ht5_.out⟩
     clear hF22_ hB22_
     refine ⟨⟨(ht2_.blk.at_ rfl), (ht2_.blk.at_ rfl), (ht2_.blk.at_ rfl), (ht2_.blk.at_ rfl), trivial⟩, ?_⟩
     refine HSp (R_fieldAddr fo25_3 rfl) rfl rfl ?_
     refine HS_to0 [9, 7, 5] _ rfl (by rw [hops21_]; kernel_rfl) (R_store sz3 rfl rfl ht5_.blk (by show 3 < 9; decide) rfl) rfl ?_
     rintro _ w23_ ⟨hB23_, hF23_⟩
     replace hI := hI.tok hF23_ (out1 ht5_.out) (new1 hge_b5_)
     replace ht2_ := ht2_.fr hF23_ (ne1 hne5_b2_)
     replace ht3_ := ht3_.fr hF23_ (ne1 hne5_b3_)
     replace ht5_ : Tok G _ b5_ 25 ([vi x0.Kind_, vi 0, vi x0.Seq_, vi x0.Rev_, vi 0, vi 0, vi 0, vi 0, .slice none 0 0]) := ⟨hB23_, ht5_.out⟩
     clear hF23_ hB23_
     refine ⟨⟨(ht2_.blk.at_ rfl), (ht2_.blk.at_ rfl), (ht2_.blk.at_ rfl), trivial⟩, ?_⟩
     refine HSp (R_fieldAddr fo25_4 rfl) rfl rfl ?_
     refine HS_to0 [9, 7] _ rfl (by rw [hops21_]; kernel_rfl) (R_store sz3 rfl rfl ht5_.blk (by show 4 < 9; decide) rfl) rfl ?_
     rintro _ w24_ ⟨hB24_, hF24_⟩
     replace hI := hI.tok hF24_ (out1 ht5_.out) (new1 hge_b5_)
     replace ht2_ := ht2_.fr hF24_ (ne1 hne5_b2_)
     replace ht3_ := ht3_.fr hF24_ (ne1 hne5_b3_)
     replace ht5_ : Tok G _ b5_ 25 ([vi x0.Kind_, vi 0, vi x0.Seq_, vi x0.Rev_, vi x0.At_, vi 0, vi 0, vi 0, .slice none 0 0]) := ⟨hB24_, ht5_.out⟩
     clear hF24_ hB24_
     refine ⟨⟨(ht2_.blk.at_ rfl), (ht2_.blk.at_ rfl), trivial⟩, ?_⟩
     refine HSp (R_fieldAddr fo25_5 rfl) rfl rfl ?_
     refine HS_to0 [9] _ rfl (by rw [hops21_]; kernel_rfl) (R_store sz3 rfl rfl ht5_.blk (by show 5 < 9; decide) rfl) rfl ?_
     rintro _ w25_ ⟨hB25_, hF25_⟩
     replace hI := hI.tok hF25_ (out1 ht5_.out) (new1 hge_b5_)
     replace ht2_ := ht2_.fr hF25_ (ne1 hne5_b2_)
     replace ht3_ := ht3_.fr hF25_ (ne1 hne5_b3_)
     replace ht5_ : Tok G _ b5_ 25 ([vi x0.Kind_, vi 0, vi x0.Seq_, vi x0.Rev_, vi x0.At_, vi x0.N_, vi 0, vi 0, .slice none 0 0]) := ⟨hB25_, ht5_.out⟩
     clear hF25_ hB25_
     refine ⟨⟨(ht2_.blk.at_ rfl), trivial⟩, ?_⟩
     refine HSp (R_fieldAddr fo25_6 rfl) rfl rfl ?_
     refine HS_to0 [] _ rfl (by rw [hops21_]; kernel_rfl) (R_store sz3 rfl rfl ht5_.blk (by show 6 < 9; decide) rfl) rfl ?_
     rintro _ w26_ ⟨hB26_, hF26_⟩
     replace hI := hI.tok hF26_ (out1 ht5_.out) (new1 hge_b5_)
     replace ht2_ := ht2_.fr hF26_ (ne1 hne5_b2_)
     replace ht3_ := ht3_.fr hF26_ (ne1 hne5_b3_)
     replace ht5_ : Tok G _ b5_ 25 ([vi x0.Kind_, vi 0, vi x0.Seq_, vi x0.Rev_, vi x0.At_, vi x0.N_, vi x0.Target_, vi 0, .slice none 0 0]) := ⟨hB26_, ht5_.out⟩
     clear hF26_ hB26_
     refine ⟨trivial, ?_⟩
     refine HS_nil ?_
     clear hops21_
     refine block_n ?_
     refine then_n ?_
     exact ⟨_, rfl, ⟨(api_Msg.mk x0.Kind_ 0 x0.Seq_ x0.Rev_ x0.At_ x0.N_ x0.Target_ 0 []), _, _, rfl, h, hI, hll7_, hhh7_, ⟨_, ⟨none, 0, rfl, ⟨(Nat.le_refl 0), Sl.nil⟩⟩, ht5_⟩, ht3_, trivial⟩, ⟨rfl, rfl, trivial⟩⟩
    ·
     replace h := h.2 hc20_
     refine W_seq_k fun K27 k27 => ?_
     refine W_region [43, 42] rfl (Ops_step (R_eql rfl rfl) rfl rfl (Ops_step (R_assign rfl) rfl rfl ?_))
     refine Ops_nil ?_
     refine then_n (k27 _ _ ?_)
     clear k27 K27
     refine W_keepB [1, 2, 3, 8, 42] fun B_ b_ => ?_
     simp only [e_, Nat.reduceAdd, Nat.reduceBEq] at b_
     subst b_
     refine W_if rfl (fun hc29_ => ?_) (fun hc29_ => ?_)
     ·
      replace h := h.1 hc29_
      refine W_drawF [44, 45, 46, 47, 48, none, 49, none] [(0, true), (1, true), (2, true), (3, true), (4, true), (5, false), (6, true), (7, false)] TFtE.hm rfl (by kernel_rfl) fun ops30_ w30_ hops30_ hF30_ => ?_
      replace hI := hI.fr0 hF30_
      replace ht2_ := ht2_.fr0 hF30_
      replace ht3_ := ht3_.fr0 hF30_
      replace ht5_ := ht5_.fr0 hF30_
      clear hF30_
      refine HSp (R_fieldAddr fo25_3 rfl) rfl rfl ?_
      refine HS_loadB (v := vi x0.Rev_) ag3 rfl ht2_.blk rfl rfl rfl ?_
      refine HSp (R_fieldAddr fo25_4 rfl) rfl rfl ?_
      refine HS_loadB (v := vi x0.At_) ag3 rfl ht2_.blk rfl rfl rfl ?_
      refine HSp (R_fieldAddr fo25_3 rfl) rfl rfl ?_
      refine HS_to0 [3] _ rfl (by rw [hops30_]; kernel_rfl) (R_store sz3 rfl rfl ht5_.blk (by show 3 < 9; decide) rfl) rfl ?_
      rintro _ w31_ ⟨hB31_, hF31_⟩
      replace hI := hI.tok hF31_ (out1 ht5_.out) (new1 hge_b5_)
      replace ht2_ := ht2_.fr hF31_ (ne1 hne5_b2_)
      replace ht3_ := ht3_.fr hF31_ (ne1 hne5_b3_)
      replace ht5_ : Tok G _ b5_ 25 ([vi x0.Kind_, vi 0, vi 0, vi x0.Rev_, vi 0, vi 0, vi 0, vi 0, .slice none 0 0]) := ⟨hB31_, ht5_.out⟩
      clear hF31_ hB31_
      refine ⟨⟨(ht2_.blk.at_ rfl), trivial⟩, ?_⟩
      refine HSp (R_fieldAddr fo25_4 rfl) rfl rfl ?_
      refine HS_to0 [] _ rfl (by rw [hops30_]; kernel_rfl) (R_store sz3 rfl rfl ht5_.blk (by show 4 < 9; decide) rfl) rfl ?_
      rintro _ w32_ ⟨hB32_, hF32_⟩
      replace hI := hI.tok hF32_ (out1 ht5_.out) (new1 hge_b5_)
      replace ht2_ := ht2_.fr hF32_ (ne1 hne5_b2_)
      replace ht3_ := ht3_.fr hF32_ (ne1 hne5_b3_)
      replace ht5_ : Tok G _ b5_ 25 ([vi x0.Kind_, vi 0, vi 0, vi x0.Rev_, vi x0.At_, vi 0, vi 0, vi 0, .slice none 0 0]) := ⟨hB32_, ht5_.out⟩
      clear hF32_ hB32_
      refine ⟨trivial, ?_⟩
      refine HS_nil ?_
      clear hops30_
      refine block_n ?_
      refine then_n ?_
      exact ⟨_, rfl, ⟨(api_Msg.mk x0.Kind_ 0 0 x0.Rev_ x0.At_ 0 0 0 []), _, _, rfl, h, hI, hll7_, hhh7_, ⟨_, ⟨none, 0, rfl, ⟨(Nat.le_refl 0), Sl.nil⟩⟩, ht5_⟩, ht3_, trivial⟩, ⟨rfl, rfl, trivial⟩⟩
     ·
      replace h := h.2 hc29_
      refine W_seq_k fun K33 k33 => ?_
      refine W_region [51, 50] rfl (Ops_step (R_eql rfl rfl) rfl rfl (Ops_step (R_assign rfl) rfl rfl ?_))
      refine Ops_nil ?_
      refine then_n (k33 _ _ ?_)
      clear k33 K33
      refine W_if rfl (fun hc34_ => ?_) (fun hc34_ => ?_)
      ·
       replace h := h.1 hc34_
       refine W_region [52, 53, 54, none] rfl (Ops_step (R_fieldAddr fo25_7 rfl) rfl rfl ?_)
       refine Ops_step (R_loadB (v := vi x0.Err_) ag22 rfl ht2_.blk rfl) rfl rfl ?_
       refine Ops_step (R_fieldAddr fo25_7 rfl) rfl rfl ?_
       refine Ops_to0 (R_store sz22 rfl rfl ht5_.blk (by show 7 < 9; decide) rfl) rfl ?_
       rintro _ w35_ ⟨hB35_, hF35_⟩
       replace hI := hI.tok hF35_ (out1 ht5_.out) (new1 hge_b5_)
       replace ht3_ := ht3_.fr hF35_ (ne1 hne5_b3_)
       replace ht5_ : Tok G _ b5_ 25 ([vi x0.Kind_, vi 0, vi 0, vi 0, vi 0, vi 0, vi 0, vi x0.Err_, .slice none 0 0]) := ⟨hB35_, ht5_.out⟩
       clear hF35_ hB35_
       refine Ops_nil ?_
       refine block_n ?_
       refine then_n ?_
       exact ⟨_, rfl, ⟨(api_Msg.mk x0.Kind_ 0 0 0 0 0 0 x0.Err_ []), _, _, rfl, h, hI, hll7_, hhh7_, ⟨_, ⟨none, 0, rfl, ⟨(Nat.le_refl 0), Sl.nil⟩⟩, ht5_⟩, ht3_, trivial⟩, ⟨rfl, rfl, trivial⟩⟩
      ·
       replace h := h.2 hc34_
       refine W_seq_k fun K36 k36 => ?_
       refine W_region [56, 55] rfl (Ops_step (R_eql rfl rfl) rfl rfl (Ops_step (R_assign rfl) rfl rfl ?_))
       refine Ops_nil ?_
       refine then_n (k36 _ _ ?_)
       clear k36 K36
       refine W_if rfl (fun hc37_ => ?_) (fun hc37_ => ?_)
       ·
        replace h := h.1 hc37_
        refine W_drawF [57, 58, 59, 60, 61, none, 62, none] [(0, true), (1, true), (2, true), (3, true), (4, true), (5, false), (6, true), (7, false)] TFtE.hm rfl (by kernel_rfl) fun ops38_ w38_ hops38_ hF38_ => ?_
        replace hI := hI.fr0 hF38_
        replace ht2_ := ht2_.fr0 hF38_
        replace ht3_ := ht3_.fr0 hF38_
        replace ht5_ := ht5_.fr0 hF38_
        clear hF38_
        refine HSp (R_fieldAddr fo25_3 rfl) rfl rfl ?_
        refine HS_loadB (v := vi x0.Rev_) ag3 rfl ht2_.blk rfl rfl rfl ?_
        refine HSp (R_fieldAddr fo25_2 rfl) rfl rfl ?_
        refine HS_loadB (v := vi x0.Seq_) ag3 rfl ht2_.blk rfl rfl rfl ?_
        refine HSp (R_fieldAddr fo25_3 rfl) rfl rfl ?_
        refine HS_to0 [3] _ rfl (by rw [hops38_]; kernel_rfl) (R_store sz3 rfl rfl ht5_.blk (by show 3 < 9; decide) rfl) rfl ?_
        rintro _ w39_ ⟨hB39_, hF39_⟩
        replace hI := hI.tok hF39_ (out1 ht5_.out) (new1 hge_b5_)
        replace ht2_ := ht2_.fr hF39_ (ne1 hne5_b2_)
        replace ht3_ := ht3_.fr hF39_ (ne1 hne5_b3_)
        replace ht5_ : Tok G _ b5_ 25 ([vi x0.Kind_, vi 0, vi 0, vi x0.Rev_, vi 0, vi 0, vi 0, vi 0, .slice none 0 0]) := ⟨hB39_, ht5_.out⟩
        clear hF39_ hB39_
        refine ⟨⟨(ht2_.blk.at_ rfl), trivial⟩, ?_⟩
        refine HSp (R_fieldAddr fo25_2 rfl) rfl rfl ?_
        refine HS_to0 [] _ rfl (by rw [hops38_]; kernel_rfl) (R_store sz3 rfl rfl ht5_.blk (by show 2 < 9; decide) rfl) rfl ?_
        rintro _ w40_ ⟨hB40_, hF40_⟩
        replace hI := hI.tok hF40_ (out1 ht5_.out) (new1 hge_b5_)
        replace ht2_ := ht2_.fr hF40_ (ne1 hne5_b2_)
        replace ht3_ := ht3_.fr hF40_ (ne1 hne5_b3_)
        replace ht5_ : Tok G _ b5_ 25 ([vi x0.Kind_, vi 0, vi x0.Seq_, vi x0.Rev_, vi 0, vi 0, vi 0, vi 0, .slice none 0 0]) := ⟨hB40_, ht5_.out⟩
        clear hF40_ hB40_
        refine ⟨trivial, ?_⟩
        refine HS_nil ?_
        clear hops38_
        refine block_n ?_
        refine then_n ?_
        exact ⟨_, rfl, ⟨(api_Msg.mk x0.Kind_ 0 x0.Seq_ x0.Rev_ 0 0 0 0 []), _, _, rfl, h, hI, hll7_, hhh7_, ⟨_, ⟨none, 0, rfl, ⟨(Nat.le_refl 0), Sl.nil⟩⟩, ht5_⟩, ht3_, trivial⟩, ⟨rfl, rfl, trivial⟩⟩
       ·
        replace h := h.2 hc37_
        refine W_seq_k fun K41 k41 => ?_
        refine W_region [64, 63] rfl (Ops_step (R_eql rfl rfl) rfl rfl (Ops_step (R_assign rfl) rfl rfl ?_))
        refine Ops_nil ?_
        refine then_n (k41 _ _ ?_)
        clear k41 K41
        refine W_keepB [1, 2, 3, 8, 63] fun B_ b_ => ?_
        simp only [e_, Nat.reduceAdd, Nat.reduceBEq] at b_
        subst b_
        refine W_if rfl (fun hc43_ => ?_) (fun hc43_ => ?_)
        ·
         replace h := h.1 hc43_
         refine W_drawF [65, 66, 67, 68, 69, 70, 71, 72, 73, none, 74, none, 75, none, 76, none] [(0, true), (1, true), (2, true), (3, true), (4, true), (5, true), (6, true), (7, true), (8, true), (9, false), (10, true), (11, false), (12, true), (13, false), (14, true), (15, false)] TFtE.hm rfl (by kernel_rfl) fun ops44_ w44_ hops44_ hF44_ => ?_
         replace hI := hI.fr0 hF44_
         replace ht2_ := ht2_.fr0 hF44_
         replace ht3_ := ht3_.fr0 hF44_
         replace ht5_ := ht5_.fr0 hF44_
         clear hF44_
         refine HSp (R_fieldAddr fo25_3 rfl) rfl rfl ?_
         refine HS_loadB (v := vi x0.Rev_) ag3 rfl ht2_.blk rfl rfl rfl ?_
         refine HSp (R_fieldAddr fo25_1 rfl) rfl rfl ?_
         refine HS_loadB (v := vi x0.Who_) ag3 rfl ht2_.blk rfl rfl rfl ?_
         refine HSp (R_fieldAddr fo25_2 rfl) rfl rfl ?_
         refine HS_loadB (v := vi x0.Seq_) ag3 rfl ht2_.blk rfl rfl rfl ?_
         refine HSp (R_fieldAddr fo25_8 rfl) rfl rfl ?_
         refine HS_loadB (v := .slice A0_1 x0.Edit_.length c0_1) ag23 rfl ht2_.blk rfl rfl rfl ?_
         refine HSp (R_fieldAddr fo25_3 rfl) rfl rfl ?_
         refine HS_to0 [7, 5, 3] _ rfl (by rw [hops44_]; kernel_rfl) (R_store sz3 rfl rfl ht5_.blk (by show 3 < 9; decide) rfl) rfl ?_
         rintro _ w45_ ⟨hB45_, hF45_⟩
         replace hI := hI.tok hF45_ (out1 ht5_.out) (new1 hge_b5_)
         replace ht2_ := ht2_.fr hF45_ (ne1 hne5_b2_)
         replace ht3_ := ht3_.fr hF45_ (ne1 hne5_b3_)
         replace ht5_ : Tok G _ b5_ 25 ([vi x0.Kind_, vi 0, vi 0, vi x0.Rev_, vi 0, vi 0, vi 0, vi 0, .slice none 0 0]) := ⟨hB45_, ht5_.out⟩
         clear hF45_ hB45_
         refine ⟨⟨(ht2_.blk.at_ rfl), (ht2_.blk.at_ rfl), (ht2_.blk.at_ rfl), trivial⟩, ?_⟩
         refine HSp (R_fieldAddr fo25_1 rfl) rfl rfl ?_
         refine HS_to0 [7, 5] _ rfl (by rw [hops44_]; kernel_rfl) (R_store sz3 rfl rfl ht5_.blk (by show 1 < 9; decide) rfl) rfl ?_
         rintro _ w46_ ⟨hB46_, hF46_⟩
         replace hI := hI.tok hF46_ (out1 ht5_.out) (new1 hge_b5_)
         replace ht2_ := ht2_.fr hF46_ (ne1 hne5_b2_)
         replace ht3_ := ht3_.fr hF46_ (ne1 hne5_b3_)
         replace ht5_ : Tok G _ b5_ 25 ([vi x0.Kind_, vi x0.Who_, vi 0, vi x0.Rev_, vi 0, vi 0, vi 0, vi 0, .slice none 0 0]) := ⟨hB46_, ht5_.out⟩
         clear hF46_ hB46_
         refine ⟨⟨(ht2_.blk.at_ rfl), (ht2_.blk.at_ rfl), trivial⟩, ?_⟩
         refine HSp (R_fieldAddr fo25_2 rfl) rfl rfl ?_
         refine HS_to0 [7] _ rfl (by rw [hops44_]; kernel_rfl) (R_store sz3 rfl rfl ht5_.blk (by show 2 < 9; decide) rfl) rfl ?_
         rintro _ w47_ ⟨hB47_, hF47_⟩
         replace hI := hI.tok hF47_ (out1 ht5_.out) (new1 hge_b5_)
         replace ht2_ := ht2_.fr hF47_ (ne1 hne5_b2_)
         replace ht3_ := ht3_.fr hF47_ (ne1 hne5_b3_)
         replace ht5_ : Tok G _ b5_ 25 ([vi x0.Kind_, vi x0.Who_, vi x0.Seq_, vi x0.Rev_, vi 0, vi 0, vi 0, vi 0, .slice none 0 0]) := ⟨hB47_, ht5_.out⟩
         clear hF47_ hB47_
         refine ⟨⟨(ht2_.blk.at_ rfl), trivial⟩, ?_⟩
         refine HSp (R_fieldAddr fo25_8 rfl) rfl rfl ?_
         refine HS_to0 [] _ rfl (by rw [hops44_]; kernel_rfl) (R_store sz23 rfl rfl ht5_.blk (by show 8 < 9; decide) rfl) rfl ?_
         rintro _ w48_ ⟨hB48_, hF48_⟩
         replace hI := hI.tok hF48_ (out1 ht5_.out) (new1 hge_b5_)
         replace ht2_ := ht2_.fr hF48_ (ne1 hne5_b2_)
         replace ht3_ := ht3_.fr hF48_ (ne1 hne5_b3_)
         replace ht5_ : Tok G _ b5_ 25 ([vi x0.Kind_, vi x0.Who_, vi x0.Seq_, vi x0.Rev_, vi 0, vi 0, vi 0, vi 0, .slice A0_1 x0.Edit_.length c0_1]) := ⟨hB48_, ht5_.out⟩
         clear hF48_ hB48_
         refine ⟨trivial, ?_⟩
         refine HS_nil ?_
         clear hops44_
         refine block_n ?_
         refine then_n ?_
         exact ⟨_, rfl, ⟨(api_Msg.mk x0.Kind_ x0.Who_ x0.Seq_ x0.Rev_ 0 0 0 0 x0.Edit_), _, _, rfl, h, hI, hll7_, hhh7_, ⟨_, ⟨A0_1, c0_1, rfl, ⟨hc0_1, hs0_1⟩⟩, ht5_⟩, ht3_, trivial⟩, ⟨rfl, rfl, trivial⟩⟩
        ·
         replace h := h.2 hc43_
         refine W_seq_k fun K49 k49 => ?_
         refine W_region [78, 77] rfl (Ops_step (R_eql rfl rfl) rfl rfl (Ops_step (R_assign rfl) rfl rfl ?_))
         refine Ops_nil ?_
         refine then_n (k49 _ _ ?_)
         clear k49 K49
         refine W_if rfl (fun hc50_ => ?_) (fun hc50_ => ?_)
         ·
          replace h := h.1 hc50_
          refine W_drawF [79, 80, 81, 82, 83, none, 84, none] [(0, true), (1, true), (2, true), (3, true), (4, true), (5, false), (6, true), (7, false)] TFtE.hm rfl (by kernel_rfl) fun ops51_ w51_ hops51_ hF51_ => ?_
          replace hI := hI.fr0 hF51_
          replace ht2_ := ht2_.fr0 hF51_
          replace ht3_ := ht3_.fr0 hF51_
          replace ht5_ := ht5_.fr0 hF51_
          clear hF51_
          refine HSp (R_fieldAddr fo25_2 rfl) rfl rfl ?_
          refine HS_loadB (v := vi x0.Seq_) ag3 rfl ht2_.blk rfl rfl rfl ?_
          refine HSp (R_fieldAddr fo25_7 rfl) rfl rfl ?_
          refine HS_loadB (v := vi x0.Err_) ag22 rfl ht2_.blk rfl rfl rfl ?_
          refine HSp (R_fieldAddr fo25_2 rfl) rfl rfl ?_
          refine HS_to0 [3] _ rfl (by rw [hops51_]; kernel_rfl) (R_store sz3 rfl rfl ht5_.blk (by show 2 < 9; decide) rfl) rfl ?_
          rintro _ w52_ ⟨hB52_, hF52_⟩
          replace hI := hI.tok hF52_ (out1 ht5_.out) (new1 hge_b5_)
          replace ht2_ := ht2_.fr hF52_ (ne1 hne5_b2_)
          replace ht3_ := ht3_.fr hF52_ (ne1 hne5_b3_)
          replace ht5_ : Tok G _ b5_ 25 ([vi x0.Kind_, vi 0, vi x0.Seq_, vi 0, vi 0, vi 0, vi 0, vi 0, .slice none 0 0]) := ⟨hB52_, ht5_.out⟩
          clear hF52_ hB52_
          refine ⟨⟨(ht2_.blk.at_ rfl), trivial⟩, ?_⟩
          refine HSp (R_fieldAddr fo25_7 rfl) rfl rfl ?_
          refine HS_to0 [] _ rfl (by rw [hops51_]; kernel_rfl) (R_store sz22 rfl rfl ht5_.blk (by show 7 < 9; decide) rfl) rfl ?_
          rintro _ w53_ ⟨hB53_, hF53_⟩
          replace hI := hI.tok hF53_ (out1 ht5_.out) (new1 hge_b5_)
          replace ht2_ := ht2_.fr hF53_ (ne1 hne5_b2_)
          replace ht3_ := ht3_.fr hF53_ (ne1 hne5_b3_)
          replace ht5_ : Tok G _ b5_ 25 ([vi x0.Kind_, vi 0, vi x0.Seq_, vi 0, vi 0, vi 0, vi 0, vi x0.Err_, .slice none 0 0]) := ⟨hB53_, ht5_.out⟩
          clear hF53_ hB53_
          refine ⟨trivial, ?_⟩
          refine HS_nil ?_
          clear hops51_
          refine block_n ?_
          refine then_n ?_
          exact ⟨_, rfl, ⟨(api_Msg.mk x0.Kind_ 0 x0.Seq_ 0 0 0 0 x0.Err_ []), _, _, rfl, h, hI, hll7_, hhh7_, ⟨_, ⟨none, 0, rfl, ⟨(Nat.le_refl 0), Sl.nil⟩⟩, ht5_⟩, ht3_, trivial⟩, ⟨rfl, rfl, trivial⟩⟩
         ·
          replace h := h.2 hc50_
          refine W_seq_k fun K54 k54 => ?_
          refine W_region [86, 85] rfl (Ops_step (R_eql rfl rfl) rfl rfl (Ops_step (R_assign rfl) rfl rfl ?_))
          refine Ops_nil ?_
          refine then_n (k54 _ _ ?_)
          clear k54 K54
          refine W_if rfl (fun hc55_ => ?_) (fun hc55_ => ?_)
          ·
           replace h := h.1 hc55_
           refine W_drawF [87, 88, 89, 90, 91, 92, 93, none, 94, none, 95, none] [(0, true), (1, true), (2, true), (3, true), (4, true), (5, true), (6, true), (7, false), (8, true), (9, false), (10, true), (11, false)] TFtE.hm rfl (by kernel_rfl) fun ops56_ w56_ hops56_ hF56_ => ?_
           replace hI := hI.fr0 hF56_
           replace ht2_ := ht2_.fr0 hF56_
           replace ht3_ := ht3_.fr0 hF56_
           replace ht5_ := ht5_.fr0 hF56_
           clear hF56_
           refine HSp (R_fieldAddr fo25_1 rfl) rfl rfl ?_
           refine HS_loadB (v := vi x0.Who_) ag3 rfl ht2_.blk rfl rfl rfl ?_
           refine HSp (R_fieldAddr fo25_3 rfl) rfl rfl ?_
           refine HS_loadB (v := vi x0.Rev_) ag3 rfl ht2_.blk rfl rfl rfl ?_
           refine HSp (R_fieldAddr fo25_4 rfl) rfl rfl ?_
           refine HS_loadB (v := vi x0.At_) ag3 rfl ht2_.blk rfl rfl rfl ?_
           refine HSp (R_fieldAddr fo25_1 rfl) rfl rfl ?_
           refine HS_to0 [5, 3] _ rfl (by rw [hops56_]; kernel_rfl) (R_store sz3 rfl rfl ht5_.blk (by show 1 < 9; decide) rfl) rfl ?_
           rintro _ w57_ ⟨hB57_, hF57_⟩
           replace hI := hI.tok hF57_ (out1 ht5_.out) (new1 hge_b5_)
           replace ht2_ := ht2_.fr hF57_ (ne1 hne5_b2_)
           replace ht3_ := ht3_.fr hF57_ (ne1 hne5_b3_)
           replace ht5_ : Tok G _ b5_ 25 ([vi x0.Kind_, vi x0.Who_, vi 0, vi 0, vi 0, vi 0, vi 0, vi 0, .slice none 0 0]) := ⟨hB57_, ht5_.out⟩
           clear hF57_ hB57_
           refine ⟨⟨(ht2_.blk.at_ rfl), (ht2_.blk.at_ rfl), trivial⟩, ?_⟩
           refine HSp (R_fieldAddr fo25_3 rfl) rfl rfl ?_
           refine HS_to0 [5] _ rfl (by rw [hops56_]; kernel_rfl) (R_store sz3 rfl rfl ht5_.blk (by show 3 < 9; decide) rfl) rfl ?_
           rintro _ w58_ ⟨hB58_, hF58_⟩
           replace hI := hI.tok hF58_ (out1 ht5_.out) (new1 hge_b5_)
           replace ht2_ := ht2_.fr hF58_ (ne1 hne5_b2_)
           replace ht3_ := ht3_.fr hF58_ (ne1 hne5_b3_)
           replace ht5_ : Tok G _ b5_ 25 ([vi x0.Kind_, vi x0.Who_, vi 0, vi x0.Rev_, vi 0, vi 0, vi 0, vi 0, .slice none 0 0]) := ⟨hB58_, ht5_.out⟩
           clear hF58_ hB58_
           refine ⟨⟨(ht2_.blk.at_ rfl), trivial⟩, ?_⟩
           refine HSp (R_fieldAddr fo25_4 rfl) rfl rfl ?_
           refine HS_to0 [] _ rfl (by rw [hops56_]; kernel_rfl) (R_store sz3 rfl rfl ht5_.blk (by show 4 < 9; decide) rfl) rfl ?_
           rintro _ w59_ ⟨hB59_, hF59_⟩
           replace hI := hI.tok hF59_ (out1 ht5_.out) (new1 hge_b5_)
           replace ht2_ := ht2_.fr hF59_ (ne1 hne5_b2_)
           replace ht3_ := ht3_.fr hF59_ (ne1 hne5_b3_)
           replace ht5_ : Tok G _ b5_ 25 ([vi x0.Kind_, vi x0.Who_, vi 0, vi x0.Rev_, vi x0.At_, vi 0, vi 0, vi 0, .slice none 0 0]) := ⟨hB59_, ht5_.out⟩
           clear hF59_ hB59_
           refine ⟨trivial, ?_⟩
           refine HS_nil ?_
           clear hops56_
           refine block_n ?_
           refine then_n ?_
           exact ⟨_, rfl, ⟨(api_Msg.mk x0.Kind_ x0.Who_ 0 x0.Rev_ x0.At_ 0 0 0 []), _, _, rfl, h, hI, hll7_, hhh7_, ⟨_, ⟨none, 0, rfl, ⟨(Nat.le_refl 0), Sl.nil⟩⟩, ht5_⟩, ht3_, trivial⟩, ⟨rfl, rfl, trivial⟩⟩
          ·
           replace h := h.2 hc55_
           refine W_skip ?_
           refine block_n ?_
           refine then_n ?_
           exact ⟨_, rfl, ⟨(api_Msg.mk x0.Kind_ 0 0 0 0 0 0 0 []), _, _, rfl, h, hI, hll7_, hhh7_, ⟨_, ⟨none, 0, rfl, ⟨(Nat.le_refl 0), Sl.nil⟩⟩, ht5_⟩, ht3_, trivial⟩, ⟨rfl, rfl, trivial⟩⟩
 ·
  simp only [e_, Nat.reduceAdd, Nat.reduceBEq] at b_
  subst b_
  clear h
  clear ht3_
  rintro _ w7_ ⟨yb5__7, L7_, H7_, rfl, hJ7_, hI7_, hll7_, hhh7_, hqb5__7, ht3_, -⟩
  replace hI := hI7_
  clear hI7_
  have h := hr7_ yb5__7 hJ7_
  clear hr7_ hJ7_
  obtain ⟨lb5__7_, hlb5__7_, htb5__7⟩ := hqb5__7
  obtain ⟨Ab5__7_1, cb5__7_1, rfl, ⟨hcb5__7_1, hsb5__7_1⟩⟩ := hlb5__7_
  refine W_seq_k fun K60 k60 => ?_
  refine W_region [96, none] rfl (Ops_step (R_loadN ag25 sz25 rfl htb5__7.blk (Nat.le_of_ble_eq_true rfl)) rfl rfl ?_)
  refine Ops_to0 (R_storeN sz25 rfl rfl rfl ht3_.blk (Nat.le_of_ble_eq_true rfl) rfl) rfl ?_
  rintro _ w61_ ⟨hB61_, hF61_⟩
  replace hI := hI.tok hF61_ (out1 ht3_.out) (new1 hge_b3_)
  replace ht3_ : Tok H7_ _ b3_ 25 ([vi yb5__7.Kind_, vi yb5__7.Who_, vi yb5__7.Seq_, vi yb5__7.Rev_, vi yb5__7.At_, vi yb5__7.N_, vi yb5__7.Target_, vi yb5__7.Err_, .slice Ab5__7_1 yb5__7.Edit_.length cb5__7_1]) := ⟨hB61_, ht3_.out⟩
  clear hF61_ hB61_
  refine Ops_nil ?_
  refine then_n (k60 _ _ ?_)
  clear k60 K60
  refine W_ret ?_
  refine ⟨_, ⟨_, _, _, rfl, rfl, run_loadVarN ag25 sz25 ht3_.blk (Nat.le_of_ble_eq_true rfl), rfl⟩, ?_⟩
  exact ⟨_, yb5__7, _, _, rfl, hI, ⟨Ab5__7_1, cb5__7_1, rfl, ⟨hcb5__7_1, hsb5__7_1⟩⟩, h⟩

theorem frame_same_ok {G : Gh} {w : World} (hS : St G w) (hg : GL G) {l0 : List Value} {x0 : api_Msg} (hr0 : Rp.cs G x0 l0) {l1 : List Value} {x1 : api_Msg} (hr1 : Rp.cs G x1 l1) {Q : Bool → Prop} (h : frame_same x0 x1 Q) : Calls Tryd.prog 36 #[.agg l0.toArray, .agg l1.toArray] w fun e w2 => ∃ (r0 : Bool) (L H : Gh), e = .returned (.bool r0) ∧ Inv [] G w L H w2 ∧ Q r0 := by
 unfold frame_same at h
 have hI := Inv.start (M := []) hS
 refine calls_W 68 Tryd.func36 rfl Tryd.ntmps36 rfl [.tmp 4] rfl ?_
 obtain ⟨A0_1, c0_1, rfl, ⟨hc0_1, hs0_1⟩⟩ := hr0
 obtain ⟨A1_1, c1_1, rfl, ⟨hc1_1, hs1_1⟩⟩ := hr1
 refine W_seq_k fun K1 k1 => ?_
 refine W_region [2, 3, 4] rfl ?_
 have hI0_ := hI
 refine Ops_to (R_box rfl) rfl rfl ?_
 rintro _ w2_ ⟨b2_, rfl, hb2_, hB2_, hF2_⟩
 replace hI := hI.fr0 hF2_
 have ht2_ : Tok G _ b2_ 25 ([vi x0.Kind_, vi x0.Who_, vi x0.Seq_, vi x0.Rev_, vi x0.At_, vi x0.N_, vi x0.Target_, vi x0.Err_, .slice A0_1 x0.Edit_.length c0_1]) := ⟨hB2_.to rfl, Out.ge hI0_.st (Nat.le_of_eq hb2_.symm)⟩
 have hge_b2_ : w.heap.size ≤ b2_ := hb2_ ▸ hI0_.size
 clear hB2_ hb2_ hI0_ hF2_
 have hlo3_b2_ := ht2_.blk.lt
 have hI0_ := hI
 refine Ops_to (R_box rfl) rfl rfl ?_
 rintro _ w3_ ⟨b3_, rfl, hb3_, hB3_, hF3_⟩
 replace hI := hI.fr0 hF3_
 replace ht2_ := ht2_.fr0 hF3_
 have ht3_ : Tok G _ b3_ 25 ([vi x1.Kind_, vi x1.Who_, vi x1.Seq_, vi x1.Rev_, vi x1.At_, vi x1.N_, vi x1.Target_, vi x1.Err_, .slice A1_1 x1.Edit_.length c1_1]) := ⟨hB3_.to rfl, Out.ge hI0_.st (Nat.le_of_eq hb3_.symm)⟩
 have hge_b3_ : w.heap.size ≤ b3_ := hb3_ ▸ hI0_.size
 have hne3_b2_ : b2_ ≠ b3_ := fun e_ => absurd hlo3_b2_ (by omega)
 clear hB3_ hb3_ hI0_ hF3_
 refine Ops_step (R_assign rfl) rfl rfl ?_
 refine Ops_nil ?_
 refine then_n (k1 _ _ ?_)
 clear k1 K1
 refine W_seq_k fun K4 k4 => ?_
 refine W_region [5, 6, 7, 8, 9, 10, 11, 12, 13, 14, 15, 16, 17, 18, 19, 20, 21, 22, 23, 24, 25, 26, 27, 28, 29, 30, 31, 32, 33, 34, 35, 36, 37, 38, 39, 40, 41, 42, 43, 44, 45, 46, 47, 48, 49, 50, 51, 52, 53, 54, 55, 56, 57, 58, 59, 60, 61, 62, 63, 64, 65, 66, 67, 4] rfl (Ops_step (R_fieldAddr fo25_0 rfl) rfl rfl ?_)
 refine Ops_step (R_loadB (v := vi x0.Kind_) ag3 rfl ht2_.blk rfl) rfl rfl ?_
 refine Ops_step (R_fieldAddr fo25_0 rfl) rfl rfl ?_
 refine Ops_step (R_loadB (v := vi x1.Kind_) ag3 rfl ht3_.blk rfl) rfl rfl ?_
 refine Ops_step (R_eql rfl rfl) rfl rfl (Ops_step (R_move rfl) rfl rfl ?_)
 refine Ops_split 10 rfl (fun hg5_ => ?_) (fun hg5_ => ?_)
 ·
  replace h := h.1 hg5_
  refine Ops_step (R_fieldAddr fo25_1 rfl) rfl rfl ?_
  refine Ops_step (R_loadB (v := vi x0.Who_) ag3 rfl ht2_.blk rfl) rfl rfl ?_
  refine Ops_step (R_fieldAddr fo25_1 rfl) rfl rfl ?_
  refine Ops_step (R_loadB (v := vi x1.Who_) ag3 rfl ht3_.blk rfl) rfl rfl ?_
  refine Ops_step (R_eql rfl rfl) rfl rfl (Ops_step (R_pick_true rfl rfl) rfl rfl (Ops_step (R_move rfl) rfl rfl ?_))
  refine Ops_split 17 rfl (fun hg6_ => ?_) (fun hg6_ => ?_)
  ·
   replace h := h.1 hg6_
   refine Ops_step (R_fieldAddr fo25_2 rfl) rfl rfl ?_
   refine Ops_step (R_loadB (v := vi x0.Seq_) ag3 rfl ht2_.blk rfl) rfl rfl ?_
   refine Ops_step (R_fieldAddr fo25_2 rfl) rfl rfl ?_
   refine Ops_step (R_loadB (v := vi x1.Seq_) ag3 rfl ht3_.blk rfl) rfl rfl ?_
   refine Ops_step (R_eql rfl rfl) rfl rfl (Ops_step (R_pick_true rfl rfl) rfl rfl (Ops_step (R_move rfl) rfl rfl ?_))
   refine Ops_split 24 rfl (fun hg7_ => ?_) (fun hg7_ => ?_)
   ·
    replace h := h.1 hg7_
    refine Ops_step (R_fieldAddr fo25_3 rfl) rfl rfl ?_
    refine Ops_step (R_loadB (v := vi x0.Rev_) ag3 rfl ht2_.blk rfl) rfl rfl ?_
    refine Ops_step (R_fieldAddr fo25_3 rfl) rfl rfl ?_
    refine Ops_step (R_loadB (v := vi x1.Rev_) ag3 rfl ht3_.blk rfl) rfl rfl ?_
    refine Ops_step (R_eql rfl rfl) rfl rfl (Ops_step (R_pick_true rfl rfl) rfl rfl (Ops_step (R_move rfl) rfl rfl ?_))
    refine Ops_split 31 rfl (fun hg8_ => ?_) (fun hg8_ => ?_)
    ·
     replace h := h.1 hg8_
     refine Ops_step (R_fieldAddr fo25_4 rfl) rfl rfl ?_
     refine Ops_step (R_loadB (v := vi x0.At_) ag3 rfl ht2_.blk rfl) rfl rfl ?_
     refine Ops_step (R_fieldAddr fo25_4 rfl) rfl rfl ?_
     refine Ops_step (R_loadB (v := vi x1.At_) ag3 rfl ht3_.blk rfl) rfl rfl ?_
     refine Ops_step (R_eql rfl rfl) rfl rfl (Ops_step (R_pick_true rfl rfl) rfl rfl (Ops_step (R_move rfl) rfl rfl ?_))
     refine Ops_split 38 rfl (fun hg9_ => ?_) (fun hg9_ => ?_)
     ·
      replace h := h.1 hg9_
      refine Ops_step (R_fieldAddr fo25_5 rfl) rfl rfl ?_
      refine Ops_step (R_loadB (v := vi x0.N_) ag3 rfl ht2_.blk rfl) rfl rfl ?_
      refine Ops_step (R_fieldAddr fo25_5 rfl) rfl rfl ?_
      refine Ops_step (R_loadB (v := vi x1.N_) ag3 rfl ht3_.blk rfl) rfl rfl ?_
      refine Ops_step (R_eql rfl rfl) rfl rfl (Ops_step (R_pick_true rfl rfl) rfl rfl (Ops_step (R_move rfl) rfl rfl ?_))
      refine Ops_split 45 rfl (fun hg10_ => ?_) (fun hg10_ => ?_)
      ·
       replace h := h.1 hg10_
       refine Ops_step (R_fieldAddr fo25_6 rfl) rfl rfl ?_
       refine Ops_step (R_loadB (v := vi x0.Target_) ag3 rfl ht2_.blk rfl) rfl rfl ?_
       refine Ops_step (R_fieldAddr fo25_6 rfl) rfl rfl ?_
       refine Ops_step (R_loadB (v := vi x1.Target_) ag3 rfl ht3_.blk rfl) rfl rfl ?_
       refine Ops_step (R_eql rfl rfl) rfl rfl (Ops_step (R_pick_true rfl rfl) rfl rfl (Ops_step (R_move rfl) rfl rfl ?_))
       refine Ops_split 52 rfl (fun hg11_ => ?_) (fun hg11_ => ?_)
       ·
        replace h := h.1 hg11_
        refine Ops_step (R_fieldAddr fo25_7 rfl) rfl rfl ?_
        refine Ops_step (R_loadB (v := vi x0.Err_) ag22 rfl ht2_.blk rfl) rfl rfl ?_
        refine Ops_step (R_fieldAddr fo25_7 rfl) rfl rfl ?_
        refine Ops_step (R_loadB (v := vi x1.Err_) ag22 rfl ht3_.blk rfl) rfl rfl ?_
        refine Ops_step (R_eql rfl rfl) rfl rfl (Ops_step (R_pick_true rfl rfl) rfl rfl (Ops_step (R_move rfl) rfl rfl ?_))
        refine Ops_split 59 rfl (fun hg12_ => ?_) (fun hg12_ => ?_)
        ·
         replace h := h.1 hg12_
         refine Ops_step (R_fieldAddr fo25_8 rfl) rfl rfl ?_
         refine Ops_step (R_loadB (v := .slice A0_1 x0.Edit_.length c0_1) ag23 rfl ht2_.blk rfl) rfl rfl ?_
         refine Ops_step (R_len Tryd.underlying23 rfl rfl) rfl rfl (Ops_step (R_fieldAddr fo25_8 rfl) rfl rfl ?_)
         refine Ops_step (R_loadB (v := .slice A1_1 x1.Edit_.length c1_1) ag23 rfl ht3_.blk rfl) rfl rfl ?_
         refine Ops_step (R_len Tryd.underlying23 rfl rfl) rfl rfl (Ops_step (R_eql rfl rfl) rfl rfl (Ops_step (R_pick_true rfl rfl) rfl rfl (Ops_step (R_assign rfl) rfl rfl ?_)))
         refine Ops_nil ?_
         refine then_n (k4 _ _ ?_)
         clear k4 K4
         refine W_keepB [4] fun B_ b_ => ?_
         simp only [e_, Nat.reduceAdd, Nat.reduceBEq] at b_
         subst b_
         refine W_ret ?_
         refine ⟨_, ⟨_, _, rfl, rfl, rfl⟩, ?_⟩
         exact ⟨(decide ((x0.Edit_.length : Int) = (x1.Edit_.length : Int))), _, _, rfl, hI, h⟩
        ·
         replace h := h.2 hg12_
         refine Ops_pass rfl rfl (Ops_pass rfl rfl (Ops_pass rfl rfl (Ops_pass rfl rfl (Ops_pass rfl rfl ?_))))
         refine Ops_pass rfl rfl (Ops_pass rfl rfl (Ops_step (R_pick_false rfl rfl) rfl rfl (Ops_step (R_assign rfl) rfl rfl ?_)))
         refine Ops_nil ?_
         refine then_n (k4 _ _ ?_)
         clear k4 K4
         refine W_keepB [4] fun B_ b_ => ?_
         simp only [e_, Nat.reduceAdd, Nat.reduceBEq] at b_
         subst b_
         refine W_ret ?_
         refine ⟨_, ⟨_, _, rfl, rfl, rfl⟩, ?_⟩
         exact ⟨false, _, _, rfl, hI, h⟩
       ·
        replace h := h.2 hg11_
        refine Ops_pass rfl rfl (Ops_pass rfl rfl (Ops_pass rfl rfl (Ops_pass rfl rfl (Ops_pass rfl rfl ?_))))
        refine Ops_step (R_pick_false rfl rfl) rfl rfl (Ops_step (R_move rfl) rfl rfl (Ops_pass rfl rfl (Ops_pass rfl rfl (Ops_pass rfl rfl ?_))))
        refine Ops_pass rfl rfl (Ops_pass rfl rfl (Ops_pass rfl rfl (Ops_pass rfl rfl (Ops_step (R_pick_false rfl rfl) rfl rfl ?_))))
        refine Ops_step (R_assign rfl) rfl rfl ?_
        refine Ops_nil ?_
        refine then_n (k4 _ _ ?_)
        clear k4 K4
        refine W_keepB [4] fun B_ b_ => ?_
        simp only [e_, Nat.reduceAdd, Nat.reduceBEq] at b_
        subst b_
        refine W_ret ?_
        refine ⟨_, ⟨_, _, rfl, rfl, rfl⟩, ?_⟩
        exact ⟨false, _, _, rfl, hI, h⟩
      ·
       replace h := h.2 hg10_
       refine Ops_pass rfl rfl (Ops_pass rfl rfl (Ops_pass rfl rfl (Ops_pass rfl rfl (Ops_pass rfl rfl ?_))))
       refine Ops_step (R_pick_false rfl rfl) rfl rfl (Ops_step (R_move rfl) rfl rfl (Ops_pass rfl rfl (Ops_pass rfl rfl (Ops_pass rfl rfl ?_))))
       refine Ops_pass rfl rfl (Ops_pass rfl rfl (Ops_step (R_pick_false rfl rfl) rfl rfl (Ops_step (R_move rfl) rfl rfl (Ops_pass rfl rfl ?_))))
       refine Ops_pass rfl rfl (Ops_pass rfl rfl (Ops_pass rfl rfl (Ops_pass rfl rfl (Ops_pass rfl rfl ?_))))
       refine Ops_pass rfl rfl (Ops_step (R_pick_false rfl rfl) rfl rfl (Ops_step (R_assign rfl) rfl rfl ?_))
       refine Ops_nil ?_
       refine then_n (k4 _ _ ?_)
       clear k4 K4
       refine W_keepB [4] fun B_ b_ => ?_
       simp only [e_, Nat.reduceAdd, Nat.reduceBEq] at b_
       subst b_
       refine W_ret ?_
       refine ⟨_, ⟨_, _, rfl, rfl, rfl⟩, ?_⟩
       exact ⟨false, _, _, rfl, hI, h⟩
     ·
      replace h := h.2 hg9_
      refine Ops_pass rfl rfl (Ops_pass rfl rfl (Ops_pass rfl rfl (Ops_pass rfl rfl (Ops_pass rfl rfl ?_))))
      refine Ops_step (R_pick_false rfl rfl) rfl rfl (Ops_step (R_move rfl) rfl rfl (Ops_pass rfl rfl (Ops_pass rfl rfl (Ops_pass rfl rfl ?_))))
      refine Ops_pass rfl rfl (Ops_pass rfl rfl (Ops_step (R_pick_false rfl rfl) rfl rfl (Ops_step (R_move rfl) rfl rfl (Ops_pass rfl rfl ?_))))
      refine Ops_pass rfl rfl (Ops_pass rfl rfl (Ops_pass rfl rfl (Ops_pass rfl rfl (Ops_step (R_pick_false rfl rfl) rfl rfl ?_))))
      refine Ops_step (R_move rfl) rfl rfl (Ops_pass rfl rfl (Ops_pass rfl rfl (Ops_pass rfl rfl (Ops_pass rfl rfl ?_))))
      refine Ops_pass rfl rfl (Ops_pass rfl rfl (Ops_pass rfl rfl (Ops_step (R_pick_false rfl rfl) rfl rfl (Ops_step (R_assign rfl) rfl rfl ?_))))
      refine Ops_nil ?_
      refine then_n (k4 _ _ ?_)
      clear k4 K4
      refine W_keepB [4] fun B_ b_ => ?_
      simp only [e_, Nat.reduceAdd, Nat.reduceBEq] at b_
      subst b_
      refine W_ret ?_
      refine ⟨_, ⟨_, _, rfl, rfl, rfl⟩, ?_⟩
      exact ⟨false, _, _, rfl, hI, h⟩
    ·
     replace h := h.2 hg8_
     refine Ops_pass rfl rfl (Ops_pass rfl rfl (Ops_pass rfl rfl (Ops_pass rfl rfl (Ops_pass rfl rfl ?_))))
     refine Ops_step (R_pick_false rfl rfl) rfl rfl (Ops_step (R_move rfl) rfl rfl (Ops_pass rfl rfl (Ops_pass rfl rfl (Ops_pass rfl rfl ?_))))
     refine Ops_pass rfl rfl (Ops_pass rfl rfl (Ops_step (R_pick_false rfl rfl) rfl rfl (Ops_step (R_move rfl) rfl rfl (Ops_pass rfl rfl ?_))))
     refine Ops_pass rfl rfl (Ops_pass rfl rfl (Ops_pass rfl rfl (Ops_pass rfl rfl (Ops_step (R_pick_false rfl rfl) rfl rfl ?_))))
     refine Ops_step (R_move rfl) rfl rfl (Ops_pass rfl rfl (Ops_pass rfl rfl (Ops_pass rfl rfl (Ops_pass rfl rfl ?_))))
     refine Ops_pass rfl rfl (Ops_step (R_pick_false rfl rfl) rfl rfl (Ops_step (R_move rfl) rfl rfl (Ops_pass rfl rfl (Ops_pass rfl rfl ?_))))
     refine Ops_pass rfl rfl (Ops_pass rfl rfl (Ops_pass rfl rfl (Ops_pass rfl rfl (Ops_pass rfl rfl ?_))))
     refine Ops_step (R_pick_false rfl rfl) rfl rfl (Ops_step (R_assign rfl) rfl rfl ?_)
     refine Ops_nil ?_
     refine then_n (k4 _ _ ?_)
     clear k4 K4
     refine W_keepB [4] fun B_ b_ => ?_
     simp only [e_, Nat.reduceAdd, Nat.reduceBEq] at b_
     subst b_
     refine W_ret ?_
     refine ⟨_, ⟨_, _, rfl, rfl, rfl⟩, ?_⟩
     exact ⟨false, _, _, rfl, hI, h⟩
   ·
    replace h := h.2 hg7_
    refine Ops_pass rfl rfl (Ops_pass rfl rfl (Ops_pass rfl rfl (Ops_pass rfl rfl (Ops_pass rfl rfl ?_))))
    refine Ops_step (R_pick_false rfl rfl) rfl rfl (Ops_step (R_move rfl) rfl rfl (Ops_pass rfl rfl (Ops_pass rfl rfl (Ops_pass rfl rfl ?_))))
    refine Ops_pass rfl rfl (Ops_pass rfl rfl (Ops_step (R_pick_false rfl rfl) rfl rfl (Ops_step (R_move rfl) rfl rfl (Ops_pass rfl rfl ?_))))
    refine Ops_pass rfl rfl (Ops_pass rfl rfl (Ops_pass rfl rfl (Ops_pass rfl rfl (Ops_step (R_pick_false rfl rfl) rfl rfl ?_))))
    refine Ops_step (R_move rfl) rfl rfl (Ops_pass rfl rfl (Ops_pass rfl rfl (Ops_pass rfl rfl (Ops_pass rfl rfl ?_))))
    refine Ops_pass rfl rfl (Ops_step (R_pick_false rfl rfl) rfl rfl (Ops_step (R_move rfl) rfl rfl (Ops_pass rfl rfl (Ops_pass rfl rfl ?_))))
    refine Ops_pass rfl rfl (Ops_pass rfl rfl (Ops_pass rfl rfl (Ops_step (R_pick_false rfl rfl) rfl rfl (Ops_step (R_move rfl) rfl rfl ?_))))
    refine Ops_pass rfl rfl (Ops_pass rfl rfl (Ops_pass rfl rfl (Ops_pass rfl rfl (Ops_pass rfl rfl ?_))))
    refine Ops_pass rfl rfl (Ops_pass rfl rfl (Ops_step (R_pick_false rfl rfl) rfl rfl (Ops_step (R_assign rfl) rfl rfl ?_)))
    refine Ops_nil ?_
    refine then_n (k4 _ _ ?_)
    clear k4 K4
    refine W_keepB [4] fun B_ b_ => ?_
    simp only [e_, Nat.reduceAdd, Nat.reduceBEq] at b_
    subst b_
    refine W_ret ?_
    refine ⟨_, ⟨_, _, rfl, rfl, rfl⟩, ?_⟩
    exact ⟨false, _, _, rfl, hI, h⟩
  ·
   replace h := h.2 hg6_
   refine Ops_pass rfl rfl (Ops_pass rfl rfl (Ops_pass rfl rfl (Ops_pass rfl rfl (Ops_pass rfl rfl ?_))))
   refine Ops_step (R_pick_false rfl rfl) rfl rfl (Ops_step (R_move rfl) rfl rfl (Ops_pass rfl rfl (Ops_pass rfl rfl (Ops_pass rfl rfl ?_))))
   refine Ops_pass rfl rfl (Ops_pass rfl rfl (Ops_step (R_pick_false rfl rfl) rfl rfl (Ops_step (R_move rfl) rfl rfl (Ops_pass rfl rfl ?_))))
   refine Ops_pass rfl rfl (Ops_pass rfl rfl (Ops_pass rfl rfl (Ops_pass rfl rfl (Ops_step (R_pick_false rfl rfl) rfl rfl ?_))))
   refine Ops_step (R_move rfl) rfl rfl (Ops_pass rfl rfl (Ops_pass rfl rfl (Ops_pass rfl rfl (Ops_pass rfl rfl ?_))))
   refine Ops_pass rfl rfl (Ops_step (R_pick_false rfl rfl) rfl rfl (Ops_step (R_move rfl) rfl rfl (Ops_pass rfl rfl (Ops_pass rfl rfl ?_))))
   refine Ops_pass rfl rfl (Ops_pass rfl rfl (Ops_pass rfl rfl (Ops_step (R_pick_false rfl rfl) rfl rfl (Ops_step (R_move rfl) rfl rfl ?_))))
   refine Ops_pass rfl rfl (Ops_pass rfl rfl (Ops_pass rfl rfl (Ops_pass rfl rfl (Ops_pass rfl rfl ?_))))
   refine Ops_step (R_pick_false rfl rfl) rfl rfl (Ops_step (R_move rfl) rfl rfl (Ops_pass rfl rfl (Ops_pass rfl rfl (Ops_pass rfl rfl ?_))))
   refine Ops_pass rfl rfl (Ops_pass rfl rfl (Ops_pass rfl rfl (Ops_pass rfl rfl (Ops_step (R_pick_false rfl rfl) rfl rfl ?_))))
   refine Ops_step (R_assign rfl) rfl rfl ?_
   refine Ops_nil ?_
   refine then_n (k4 _ _ ?_)
   clear k4 K4
   refine W_keepB [4] fun B_ b_ => ?_
   simp only [e_, Nat.reduceAdd, Nat.reduceBEq] at b_
   subst b_
   refine W_ret ?_
   refine ⟨_, ⟨_, _, rfl, rfl, rfl⟩, ?_⟩
   exact ⟨false, _, _, rfl, hI, h⟩
 ·
  replace h := h.2 hg5_
  refine Ops_pass rfl rfl (Ops_pass rfl rfl (Ops_pass rfl rfl (Ops_pass rfl rfl (Ops_pass rfl rfl ?_))))
  refine Ops_step (R_pick_false rfl rfl) rfl rfl (Ops_step (R_move rfl) rfl rfl (Ops_pass rfl rfl (Ops_pass rfl rfl (Ops_pass rfl rfl ?_))))
  refine Ops_pass rfl rfl (Ops_pass rfl rfl (Ops_step (R_pick_false rfl rfl) rfl rfl (Ops_step (R_move rfl) rfl rfl (Ops_pass rfl rfl ?_))))
  refine Ops_pass rfl rfl (Ops_pass rfl rfl (Ops_pass rfl rfl (Ops_pass rfl rfl (Ops_step (R_pick_false rfl rfl) rfl rfl ?_))))
  refine Ops_step (R_move rfl) rfl rfl (Ops_pass rfl rfl (Ops_pass rfl rfl (Ops_pass rfl rfl (Ops_pass rfl rfl ?_))))
  refine Ops_pass rfl rfl (Ops_step (R_pick_false rfl rfl) rfl rfl (Ops_step (R_move rfl) rfl rfl (Ops_pass rfl rfl (Ops_pass rfl rfl ?_))))
  refine Ops_pass rfl rfl (Ops_pass rfl rfl (Ops_pass rfl rfl (Ops_step (R_pick_false rfl rfl) rfl rfl (Ops_step (R_move rfl) rfl rfl ?_))))
  refine Ops_pass rfl rfl (Ops_pass rfl rfl (Ops_pass rfl rfl (Ops_pass rfl rfl (Ops_pass rfl rfl ?_))))
  refine Ops_step (R_pick_false rfl rfl) rfl rfl (Ops_step (R_move rfl) rfl rfl (Ops_pass rfl rfl (Ops_pass rfl rfl (Ops_pass rfl rfl ?_))))
  refine Ops_pass rfl rfl (Ops_pass rfl rfl (Ops_step (R_pick_false rfl rfl) rfl rfl (Ops_step (R_move rfl) rfl rfl (Ops_pass rfl rfl ?_))))
  refine Ops_pass rfl rfl (Ops_pass rfl rfl (Ops_pass rfl rfl (Ops_pass rfl rfl (Ops_pass rfl rfl ?_))))
  refine Ops_pass rfl rfl (Ops_step (R_pick_false rfl rfl) rfl rfl (Ops_step (R_assign rfl) rfl rfl ?_))
  refine Ops_nil ?_
  refine then_n (k4 _ _ ?_)
  clear k4 K4
  refine W_keepB [4] fun B_ b_ => ?_
  simp only [e_, Nat.reduceAdd, Nat.reduceBEq] at b_
  subst b_
  refine W_ret ?_
  refine ⟨_, ⟨_, _, rfl, rfl, rfl⟩, ?_⟩
  exact ⟨false, _, _, rfl, hI, h⟩

theorem frame_Light_ok {G : Gh} {w : World} (hS : St G w) (hg : GL G) {A0 : Option Addr} {c0 : Nat} {x0 : List api_Part} (hc0 : x0.length ≤ c0) (hs0 : Sl G A0 x0) {Q : Bool → Prop} (h : frame_Light x0 Q) : Calls Tryd.prog 16 #[.slice A0 x0.length c0] w fun e w2 => ∃ (r0 : Bool) (L H : Gh), e = .returned (.bool r0) ∧ Inv [] G w L H w2 ∧ Q r0 := by
 unfold frame_Light at h
 have hI := Inv.start (M := []) hS
 refine calls_W 26 Tryd.func16 rfl Tryd.ntmps16 rfl [.tmp 2] rfl ?_
 refine W_seq_k fun K1 k1 => ?_
 refine W_region [2] rfl (Ops_step (R_assign rfl) rfl rfl ?_)
 refine Ops_nil ?_
 refine then_n (k1 _ _ ?_)
 clear k1 K1
 refine W_seq_k fun K2 k2 => ?_
 refine W_seq_k fun K3 k3 => ?_
 refine W_region [8, 9, 10] rfl (Ops_step (R_move rfl) rfl rfl (Ops_step (R_len Tryd.underlying23 rfl rfl) rfl rfl (Ops_step (R_gtr rfl rfl) rfl rfl ?_)))
 refine Ops_nil ?_
 refine then_n (k3 _ _ ?_)
 clear k3 K3
 refine W_if rfl (fun hc4_ => ?_) (fun hc4_ => ?_)
 ·
  replace h := h.1 hc4_
  refine W_seq_k fun K5 k5 => ?_
  refine W_region [2] rfl (Ops_step (R_assign rfl) rfl rfl ?_)
  refine Ops_nil ?_
  refine then_n (k5 _ _ ?_)
  clear k5 K5
  refine W_ret ?_
  refine then_ret ?_
  clear k2 K2
  refine ⟨_, ⟨_, _, rfl, rfl, rfl⟩, ?_⟩
  exact ⟨false, _, _, rfl, hI, h⟩
 ·
  replace h := h.2 hc4_
  refine W_skip ?_
  refine then_n (k2 _ _ ?_)
  clear k2 K2
  refine W_seq_k fun K6 k6 => ?_
  refine W_seq_k fun K7 k7 => ?_
  refine W_region [12, 13, 11, 14, 15, 16, 3, 4, 5] rfl (Ops_step (R_move rfl) rfl rfl ?_)
  refine Ops_call (C_func bd40 rfl) rfl rfl ?_
  refine (edit_Size_ok (x0 := x0) hI.st (hg.up hI.le) hc0 hs0 h).mono ?_
  rintro _ w8_ ⟨r8_0, r8_1, r8_2, L8_, H8_, rfl, hI8_, h⟩
  refine Exists.elim (hI.call hI8_ (by simp)) fun L80_ h8_ => ?_
  have hz8_ := hI.size
  replace hI := h8_.1
  have u8_ := h8_.2.1
  have hl8_ := h8_.2.2
  clear h8_
  replace hs0 := hs0.up u8_.hh
  clear hI8_ u8_ hl8_
  refine ⟨_, rfl, ?_⟩
  refine Ops_step (R_move rfl) rfl rfl ?_
  refine Ops_step (R_extract (v := vi r8_0) rfl rfl) rfl rfl ?_
  refine Ops_step (R_extract (v := vi r8_1) rfl rfl) rfl rfl ?_
  refine Ops_step (R_extract (v := vi r8_2) rfl rfl) rfl rfl ?_
  refine Ops_step (R_assign rfl) rfl rfl (Ops_step (R_assign rfl) rfl rfl (Ops_step (R_assign rfl) rfl rfl ?_))
  refine Ops_nil ?_
  refine then_n (k7 _ _ ?_)
  clear k7 K7
  refine W_keepB [0, 5] fun B_ b_ => ?_
  simp only [e_, Nat.reduceAdd, Nat.reduceBEq] at b_
  subst b_
  refine W_seq_k fun K10 k10 => ?_
  refine W_region [17, 18] rfl (Ops_step (R_move rfl) rfl rfl (Ops_step (R_neq rfl rfl) rfl rfl ?_))
  refine Ops_nil ?_
  refine then_n (k10 _ _ ?_)
  clear k10 K10
  refine W_if rfl (fun hc11_ => ?_) (fun hc11_ => ?_)
  ·
   replace h := h.1 hc11_
   refine W_seq_k fun K12 k12 => ?_
   refine W_region [2] rfl (Ops_step (R_assign rfl) rfl rfl ?_)
   refine Ops_nil ?_
   refine then_n (k12 _ _ ?_)
   clear k12 K12
   refine W_ret ?_
   refine then_ret ?_
   clear k6 K6
   refine ⟨_, ⟨_, _, rfl, rfl, rfl⟩, ?_⟩
   exact ⟨false, _, _, rfl, hI, h⟩
  ·
   replace h := h.2 hc11_
   refine W_skip ?_
   refine then_n (k6 _ _ ?_)
   clear k6 K6
   refine W_seq_k fun K13 k13 => ?_
   refine W_region [20, 21, 19, 22, 23, 6, 7] rfl (Ops_step (R_move rfl) rfl rfl ?_)
   refine Ops_call (C_func bd41 rfl) rfl rfl ?_
   refine (edit_Weight_ok (x0 := x0) hI.st (hg.up hI.le) hc0 hs0 h).mono ?_
   rintro _ w14_ ⟨r14_0, r14_1, L14_, H14_, rfl, hI14_, h⟩
   refine Exists.elim (hI.call hI14_ (by simp)) fun L140_ h14_ => ?_
   have hz14_ := hI.size
   replace hI := h14_.1
   have u14_ := h14_.2.1
   have hl14_ := h14_.2.2
   clear h14_
   clear hI14_ u14_ hl14_
   refine ⟨_, rfl, ?_⟩
   refine Ops_step (R_move rfl) rfl rfl ?_
   refine Ops_step (R_extract (v := vi r14_0) rfl rfl) rfl rfl ?_
   refine Ops_step (R_extract (v := vi r14_1) rfl rfl) rfl rfl ?_
   refine Ops_step (R_assign rfl) rfl rfl (Ops_step (R_assign rfl) rfl rfl ?_)
   refine Ops_nil ?_
   refine then_n (k13 _ _ ?_)
   clear k13 K13
   refine W_keepB [6] fun B_ b_ => ?_
   simp only [e_, Nat.reduceAdd, Nat.reduceBEq] at b_
   subst b_
   refine W_seq_k fun K16 k16 => ?_
   refine W_region [24, 25, 2] rfl (Ops_step (R_move rfl) rfl rfl (Ops_step (R_leq rfl rfl) rfl rfl (Ops_step (R_assign rfl) rfl rfl ?_)))
   refine Ops_nil ?_
   refine then_n (k16 _ _ ?_)
   clear k16 K16
   refine W_ret ?_
   refine ⟨_, ⟨_, _, rfl, rfl, rfl⟩, ?_⟩
   exact ⟨(decide (r14_0 ≤ 256)), _, _, rfl, hI, h⟩

theorem frame_Check_ok {G : Gh} {w : World} (hS : St G w) (hg : GL G) {l0 : List Value} {x0 : api_Msg} (hr0 : Rp.cs G x0 l0) {Q : Int → Prop} (h : frame_Check x0 Q) : Calls Tryd.prog 14 #[.agg l0.toArray] w fun e w2 => ∃ (r0 : Int) (L H : Gh), e = .returned (vi r0) ∧ Inv [] G w L H w2 ∧ Q r0 := by
 unfold frame_Check at h
 have hI := Inv.start (M := []) hS
 refine calls_W 79 Tryd.func14 rfl Tryd.ntmps14 rfl [.tmp 2] rfl ?_
 obtain ⟨A0_1, c0_1, rfl, ⟨hc0_1, hs0_1⟩⟩ := hr0
 refine W_seq_k fun K1 k1 => ?_
 refine W_region [1, 2] rfl ?_
 have hI0_ := hI
 refine Ops_to (R_box rfl) rfl rfl ?_
 rintro _ w2_ ⟨b2_, rfl, hb2_, hB2_, hF2_⟩
 replace hI := hI.fr0 hF2_
 have ht2_ : Tok G _ b2_ 25 ([vi x0.Kind_, vi x0.Who_, vi x0.Seq_, vi x0.Rev_, vi x0.At_, vi x0.N_, vi x0.Target_, vi x0.Err_, .slice A0_1 x0.Edit_.length c0_1]) := ⟨hB2_.to rfl, Out.ge hI0_.st (Nat.le_of_eq hb2_.symm)⟩
 have hge_b2_ : w.heap.size ≤ b2_ := hb2_ ▸ hI0_.size
 clear hB2_ hb2_ hI0_ hF2_
 refine Ops_step (R_assign rfl) rfl rfl ?_
 refine Ops_nil ?_
 refine then_n (k1 _ _ ?_)
 clear k1 K1
 refine W_seq_k fun K3 k3 => ?_
 refine ex_ h fun J4_ hr4_ h => ?_
 refine W_seq_join [1] [39] (fun vals_ w2 => ∃ (x39_4 : Bool) (L H : Gh), vals_ = [.bool x39_4] ∧ J4_ x39_4 ∧ Inv [] G w L H w2 ∧ Le Gh.no L ∧ Le G H ∧ Tok H w2 b2_ 25 ([vi x0.Kind_, vi x0.Who_, vi x0.Seq_, vi x0.Rev_, vi x0.At_, vi x0.N_, vi x0.Target_, vi x0.Err_, .slice A0_1 x0.Edit_.length c0_1]) ∧ True) (fun B_ b_ => ?_) (fun B_ b_ => ?_)
 ·
  simp only [e_, Nat.reduceAdd, Nat.reduceBEq] at b_
  subst b_
  clear hr4_
  have hll4_ := Le.refl Gh.no
  have hhh4_ := Le.refl G
  refine W_drawF [5, 6, 7, 8, 9, 10, 11, 12, 13, 14, 15, 16, 17, 18, 19, 20, 21, 22, 23, 24, 25, 26, 27, 28, 29, 30, 31, 32, 33, 34, 35, 36, 37, 38, 39] [(0, true), (1, true), (2, true), (3, true), (4, true), (5, true), (6, true), (7, true), (8, true), (9, true), (11, true), (10, false), (12, false), (13, true), (14, true), (15, true), (16, true), (17, true), (18, true), (19, true), (20, true), (21, true), (22, true), (23, true), (24, true), (25, true), (26, true), (27, true), (28, true), (29, true), (30, true), (31, true), (32, true), (33, true), (34, true)] TFtE.hm rfl (by kernel_rfl) fun ops5_ w5_ hops5_ hF5_ => ?_
  replace hI := hI.fr0 hF5_
  replace ht2_ := ht2_.fr0 hF5_
  clear hF5_
  refine HSp (R_fieldAddr fo25_0 rfl) rfl rfl ?_
  refine HS_loadB (v := vi x0.Kind_) ag3 rfl ht2_.blk rfl rfl rfl ?_
  refine HSp (R_lss rfl rfl) rfl rfl (HSp (R_move rfl) rfl rfl ?_)
  refine HS_split 8 rfl (fun hg6_ => ?_) (fun hg6_ => ?_)
  ·
   replace h := h.1 hg6_
   refine HS_pass rfl rfl ?_
   refine HS_pass rfl rfl ?_
   refine HS_pass rfl rfl ?_
   refine HSp (R_pick_true rfl rfl) rfl rfl (HSp (R_move rfl) rfl rfl ?_)
   refine HS_pass rfl rfl ?_
   refine HS_pass rfl rfl ?_
   refine HS_passL rfl rfl ?_
   refine HS_passL rfl rfl ?_
   refine HS_pass rfl rfl ?_
   refine HSp (R_pick_true rfl rfl) rfl rfl (HSp (R_move rfl) rfl rfl ?_)
   refine HS_pass rfl rfl ?_
   refine HS_pass rfl rfl ?_
   refine HS_pass rfl rfl ?_
   refine HSp (R_pick_true rfl rfl) rfl rfl (HSp (R_move rfl) rfl rfl ?_)
   refine HS_pass rfl rfl ?_
   refine HS_pass rfl rfl ?_
   refine HS_pass rfl rfl ?_
   refine HSp (R_pick_true rfl rfl) rfl rfl (HSp (R_move rfl) rfl rfl ?_)
   refine HS_pass rfl rfl ?_
   refine HS_pass rfl rfl ?_
   refine HS_pass rfl rfl ?_
   refine HSp (R_pick_true rfl rfl) rfl rfl (HSp (R_move rfl) rfl rfl ?_)
   refine HS_pass rfl rfl ?_
   refine HS_pass rfl rfl ?_
   refine HS_pass rfl rfl ?_
   refine HSp (R_pick_true rfl rfl) rfl rfl ?_
   refine HS_nil ?_
   clear hops5_
   refine then_n ?_
   exact ⟨_, rfl, ⟨true, _, _, rfl, h, hI, hll4_, hhh4_, ht2_, trivial⟩, ⟨rfl, trivial⟩⟩
  ·
   replace h := h.2 hg6_
   refine HSp (R_fieldAddr fo25_0 rfl) rfl rfl ?_
   refine HS_loadB (v := vi x0.Kind_) ag3 rfl ht2_.blk rfl rfl rfl ?_
   refine HSp (R_gtr rfl rfl) rfl rfl (HSp (R_pick_false rfl rfl) rfl rfl (HSp (R_move rfl) rfl rfl ?_))
   refine HS_split 13 rfl (fun hg7_ => ?_) (fun hg7_ => ?_)
   ·
    replace h := h.1 hg7_
    refine HS_pass rfl rfl ?_
    refine HS_pass rfl rfl ?_
    refine HS_passL rfl rfl ?_
    refine HS_passL rfl rfl ?_
    refine HS_pass rfl rfl ?_
    refine HSp (R_pick_true rfl rfl) rfl rfl (HSp (R_move rfl) rfl rfl ?_)
    refine HS_pass rfl rfl ?_
    refine HS_pass rfl rfl ?_
    refine HS_pass rfl rfl ?_
    refine HSp (R_pick_true rfl rfl) rfl rfl (HSp (R_move rfl) rfl rfl ?_)
    refine HS_pass rfl rfl ?_
    refine HS_pass rfl rfl ?_
    refine HS_pass rfl rfl ?_
    refine HSp (R_pick_true rfl rfl) rfl rfl (HSp (R_move rfl) rfl rfl ?_)
    refine HS_pass rfl rfl ?_
    refine HS_pass rfl rfl ?_
    refine HS_pass rfl rfl ?_
    refine HSp (R_pick_true rfl rfl) rfl rfl (HSp (R_move rfl) rfl rfl ?_)
    refine HS_pass rfl rfl ?_
    refine HS_pass rfl rfl ?_
    refine HS_pass rfl rfl ?_
    refine HSp (R_pick_true rfl rfl) rfl rfl ?_
    refine HS_nil ?_
    clear hops5_
    refine then_n ?_
    exact ⟨_, rfl, ⟨true, _, _, rfl, h, hI, hll4_, hhh4_, ht2_, trivial⟩, ⟨rfl, trivial⟩⟩
   ·
    replace h := h.2 hg7_
    refine HS_loadN ag25 sz25 rfl ht2_.blk (Nat.le_of_ble_eq_true rfl) rfl rfl ?_
    refine HS_loadN ag25 sz25 rfl ht2_.blk (Nat.le_of_ble_eq_true rfl) rfl rfl ?_
    refine HS_call [11] _ rfl (by rw [hops5_]; kernel_rfl) (C_func bd37 rfl) rfl rfl ?_
    refine (frame_bare_ok (x0 := x0) hI.st (hg.up hI.le) ⟨A0_1, c0_1, rfl, ⟨hc0_1, hs0_1⟩⟩ h).mono ?_
    rintro _ w8_ ⟨l8_0, r8_0, L8_, H8_, rfl, hI8_, hr8_0, h⟩
    refine Exists.elim (hI.call hI8_ (by simp)) fun L80_ h8_ => ?_
    have hz8_ := hI.size
    replace hI := h8_.1
    have u8_ := h8_.2.1
    have hl8_ := h8_.2.2
    clear h8_
    replace hs0_1 := hs0_1.up u8_.hh
    replace ht2_ := ht2_.up u8_ (by simp)
    replace hll4_ := hll4_.trans u8_.ll
    replace hhh4_ := hhh4_.trans u8_.hh
    obtain ⟨A8_0_1, c8_0_1, rfl, ⟨hc8_0_1, hs8_0_1⟩⟩ := hr8_0
    clear hI8_ u8_ hl8_
    refine ⟨_, rfl, ⟨ht2_.blk, trivial⟩, ?_⟩
    refine HS_call [] _ rfl (by rw [hops5_]; kernel_rfl) (C_func bd36 rfl) rfl rfl ?_
    refine (frame_same_ok (x0 := r8_0) (x1 := x0) hI.st (hg.up hI.le) ⟨A8_0_1, c8_0_1, rfl, ⟨hc8_0_1, hs8_0_1⟩⟩ ⟨A0_1, c0_1, rfl, ⟨hc0_1, hs0_1⟩⟩ h).mono ?_
    rintro _ w9_ ⟨r9_0, L9_, H9_, rfl, hI9_, h⟩
    refine Exists.elim (hI.call hI9_ (by simp)) fun L90_ h9_ => ?_
    have hz9_ := hI.size
    replace hI := h9_.1
    have u9_ := h9_.2.1
    have hl9_ := h9_.2.2
    clear h9_
    replace hs0_1 := hs0_1.up u9_.hh
    replace ht2_ := ht2_.up u9_ (by simp)
    replace hll4_ := hll4_.trans u9_.ll
    replace hhh4_ := hhh4_.trans u9_.hh
    clear hI9_ u9_ hl9_
    refine ⟨_, rfl, trivial, ?_⟩
    refine HSp (R_not rfl) rfl rfl (HSp (R_pick_false rfl rfl) rfl rfl (HSp (R_move rfl) rfl rfl ?_))
    refine HS_splitB 20 rfl (fun hg10_ => ?_) (fun hg10_ => ?_)
    ·
     replace h := h.1 hg10_
     refine HS_pass rfl rfl ?_
     refine HS_pass rfl rfl ?_
     refine HS_pass rfl rfl ?_
     refine HSp (R_pick_true rfl rfl) rfl rfl (HSp (R_move rfl) rfl rfl ?_)
     refine HS_pass rfl rfl ?_
     refine HS_pass rfl rfl ?_
     refine HS_pass rfl rfl ?_
     refine HSp (R_pick_true rfl rfl) rfl rfl (HSp (R_move rfl) rfl rfl ?_)
     refine HS_pass rfl rfl ?_
     refine HS_pass rfl rfl ?_
     refine HS_pass rfl rfl ?_
     refine HSp (R_pick_true rfl rfl) rfl rfl (HSp (R_move rfl) rfl rfl ?_)
     refine HS_pass rfl rfl ?_
     refine HS_pass rfl rfl ?_
     refine HS_pass rfl rfl ?_
     refine HSp (R_pick_true rfl rfl) rfl rfl ?_
     refine HS_nil ?_
     clear hops5_
     refine then_n ?_
     exact ⟨_, rfl, ⟨true, _, _, rfl, h, hI, hll4_, hhh4_, ht2_, trivial⟩, ⟨rfl, trivial⟩⟩
    ·
     replace h := h.2 hg10_
     refine HSp (R_fieldAddr fo25_7 rfl) rfl rfl ?_
     refine HS_loadB (v := vi x0.Err_) ag22 rfl ht2_.blk rfl rfl rfl ?_
     refine HSp (R_lss rfl rfl) rfl rfl (HSp (R_pick_false rfl rfl) rfl rfl (HSp (R_move rfl) rfl rfl ?_))
     refine HS_split 25 rfl (fun hg11_ => ?_) (fun hg11_ => ?_)
     ·
      replace h := h.1 hg11_
      refine HS_pass rfl rfl ?_
      refine HS_pass rfl rfl ?_
      refine HS_pass rfl rfl ?_
      refine HSp (R_pick_true rfl rfl) rfl rfl (HSp (R_move rfl) rfl rfl ?_)
      refine HS_pass rfl rfl ?_
      refine HS_pass rfl rfl ?_
      refine HS_pass rfl rfl ?_
      refine HSp (R_pick_true rfl rfl) rfl rfl (HSp (R_move rfl) rfl rfl ?_)
      refine HS_pass rfl rfl ?_
      refine HS_pass rfl rfl ?_
      refine HS_pass rfl rfl ?_
      refine HSp (R_pick_true rfl rfl) rfl rfl ?_
      refine HS_nil ?_
      clear hops5_
      refine then_n ?_
      exact ⟨_, rfl, ⟨true, _, _, rfl, h, hI, hll4_, hhh4_, ht2_, trivial⟩, ⟨rfl, trivial⟩⟩
     ·
      replace h := h.2 hg11_
      refine HSp (R_fieldAddr fo25_7 rfl) rfl rfl ?_
      refine HS_loadB (v := vi x0.Err_) ag22 rfl ht2_.blk rfl rfl rfl ?_
      refine HSp (R_gtr rfl rfl) rfl rfl (HSp (R_pick_false rfl rfl) rfl rfl (HSp (R_move rfl) rfl rfl ?_))
      refine HS_split 30 rfl (fun hg12_ => ?_) (fun hg12_ => ?_)
      ·
       replace h := h.1 hg12_
       refine HS_pass rfl rfl ?_
       refine HS_pass rfl rfl ?_
       refine HS_pass rfl rfl ?_
       refine HSp (R_pick_true rfl rfl) rfl rfl (HSp (R_move rfl) rfl rfl ?_)
       refine HS_pass rfl rfl ?_
       refine HS_pass rfl rfl ?_
       refine HS_pass rfl rfl ?_
       refine HSp (R_pick_true rfl rfl) rfl rfl ?_
       refine HS_nil ?_
       clear hops5_
       refine then_n ?_
       exact ⟨_, rfl, ⟨true, _, _, rfl, h, hI, hll4_, hhh4_, ht2_, trivial⟩, ⟨rfl, trivial⟩⟩
      ·
       replace h := h.2 hg12_
       refine HSp (R_fieldAddr fo25_1 rfl) rfl rfl ?_
       refine HS_loadB (v := vi x0.Who_) ag3 rfl ht2_.blk rfl rfl rfl ?_
       refine HSp (R_geq rfl rfl) rfl rfl (HSp (R_pick_false rfl rfl) rfl rfl (HSp (R_move rfl) rfl rfl ?_))
       refine HS_split 35 rfl (fun hg13_ => ?_) (fun hg13_ => ?_)
       ·
        replace h := h.1 hg13_
        refine HS_pass rfl rfl ?_
        refine HS_pass rfl rfl ?_
        refine HS_pass rfl rfl ?_
        refine HSp (R_pick_true rfl rfl) rfl rfl ?_
        refine HS_nil ?_
        clear hops5_
        refine then_n ?_
        exact ⟨_, rfl, ⟨true, _, _, rfl, h, hI, hll4_, hhh4_, ht2_, trivial⟩, ⟨rfl, trivial⟩⟩
       ·
        replace h := h.2 hg13_
        refine HSp (R_fieldAddr fo25_6 rfl) rfl rfl ?_
        refine HS_loadB (v := vi x0.Target_) ag3 rfl ht2_.blk rfl rfl rfl ?_
        refine HSp (R_geq rfl rfl) rfl rfl (HSp (R_pick_false rfl rfl) rfl rfl ?_)
        refine HS_nil ?_
        clear hops5_
        refine then_n ?_
        exact ⟨_, rfl, ⟨(decide (x0.Target_ ≥ 32)), _, _, rfl, h, hI, hll4_, hhh4_, ht2_, trivial⟩, ⟨rfl, trivial⟩⟩
 ·
  simp only [e_, Nat.reduceAdd, Nat.reduceBEq] at b_
  subst b_
  clear h
  clear ht2_
  rintro _ w4_ ⟨x39_4, L4_, H4_, rfl, hJ4_, hI4_, hll4_, hhh4_, ht2_, -⟩
  replace hI := hI4_
  clear hI4_
  have h := hr4_ x39_4 hJ4_
  clear hr4_ hJ4_
  replace hs0_1 := hs0_1.up hhh4_
  refine W_cond rfl (fun hc14_ => ?_) (fun hc14_ => ?_)
  ·
   replace h := h.1 hc14_
   refine W_seq_k fun K15 k15 => ?_
   refine W_region [2] rfl (Ops_step (R_assign rfl) rfl rfl ?_)
   refine Ops_nil ?_
   refine then_n (k15 _ _ ?_)
   clear k15 K15
   refine W_ret ?_
   refine then_ret ?_
   clear k3 K3
   refine ⟨_, ⟨_, _, rfl, rfl, rfl⟩, ?_⟩
   exact ⟨120, _, _, rfl, hI, h⟩
  ·
   replace h := h.2 hc14_
   refine W_skip ?_
   refine then_n (k3 _ _ ?_)
   clear k3 K3
   refine ex_ h fun J16_ hr16_ h => ?_
   refine W_seq_join [1] [] (fun vals_ w2 => ∃  (L H : Gh), vals_ = [] ∧ J16_ ∧ Inv [] G w L H w2 ∧ Le L4_ L ∧ Le H4_ H ∧ Tok H w2 b2_ 25 ([vi x0.Kind_, vi x0.Who_, vi x0.Seq_, vi x0.Rev_, vi x0.At_, vi x0.N_, vi x0.Target_, vi x0.Err_, .slice A0_1 x0.Edit_.length c0_1]) ∧ True) (fun B_ b_ => ?_) (fun B_ b_ => ?_)
   ·
    simp only [e_, Nat.reduceAdd, Nat.reduceBEq] at b_
    subst b_
    clear hr16_
    have hll16_ := Le.refl L4_
    have hhh16_ := Le.refl H4_
    refine W_seq_k fun K17 k17 => ?_
    refine W_region [40, 41, 42, 43, 44, 45, 46, 47, 48, 49, 50, 51, 52, 53, 54] rfl (Ops_step (R_fieldAddr fo25_1 rfl) rfl rfl ?_)
    refine Ops_step (R_loadB (v := vi x0.Who_) ag3 rfl ht2_.blk rfl) rfl rfl ?_
    refine Ops_step (R_fieldAddr fo25_2 rfl) rfl rfl ?_
    refine Ops_step (R_loadB (v := vi x0.Seq_) ag3 rfl ht2_.blk rfl) rfl rfl ?_
    refine Ops_step (R_fieldAddr fo25_3 rfl) rfl rfl ?_
    refine Ops_step (R_loadB (v := vi x0.Rev_) ag3 rfl ht2_.blk rfl) rfl rfl ?_
    refine Ops_step (R_fieldAddr fo25_4 rfl) rfl rfl ?_
    refine Ops_step (R_loadB (v := vi x0.At_) ag3 rfl ht2_.blk rfl) rfl rfl ?_
    refine Ops_step (R_fieldAddr fo25_5 rfl) rfl rfl ?_
    refine Ops_step (R_loadB (v := vi x0.N_) ag3 rfl ht2_.blk rfl) rfl rfl ?_
    refine Ops_step (R_fieldAddr fo25_6 rfl) rfl rfl ?_
    refine Ops_step (R_loadB (v := vi x0.Target_) ag3 rfl ht2_.blk rfl) rfl rfl ?_
    refine Ops_to (R_buildSlice el56 zr3 (by decide) (by decide) rfl rfl) rfl rfl ?_
    rintro _ w18_ ⟨b18_, rfl, hb18_, hB18_, hF18_⟩
    have ho18_ : OwnS w.heap.size 3 Gh.no H4_ _ (some ⟨b18_, 0, none⟩) 6 ([x0.Who_, x0.Seq_, x0.Rev_, x0.At_, x0.N_, x0.Target_] : List Int) := OwnS.ofBlk hI.st hb18_ hB18_ (all2_sc' _) rfl (by have := hI.size; omega) (by show 6 ≤ maxLen; decide)
    replace hI := hI.fr0 hF18_
    replace ht2_ := ht2_.fr0 hF18_
    clear hF18_ hB18_
    refine Ops_step (R_len Tryd.underlying56 rfl rfl) rfl rfl (Ops_step (R_move rfl) rfl rfl ?_)
    refine Ops_nil ?_
    refine then_n (k17 _ _ ?_)
    clear k17 K17
    refine W_keepB [1, 52, 53, 54] fun B_ b_ => ?_
    simp only [e_, Nat.reduceAdd, Nat.reduceBEq] at b_
    subst b_
    refine W_block ?_
    refine Exists.elim h fun I20_ h => Exists.elim h fun n20_ h => ?_
    have h0_ := h.1
    have hs20_ := h.2
    clear h
    refine W_loopB [1, 52, 53] [54] (fun m vals_ w2 => ∃ (x54_20 : Int) (L H : Gh), vals_ = [vi x54_20] ∧ I20_ m x54_20 ∧ Inv [] G w L H w2 ∧ Le L4_ L ∧ Le H4_ H ∧ Tok H w2 b2_ 25 ([vi x0.Kind_, vi x0.Who_, vi x0.Seq_, vi x0.Rev_, vi x0.At_, vi x0.N_, vi x0.Target_, vi x0.Err_, .slice A0_1 x0.Edit_.length c0_1]) ∧ OwnS w.heap.size 3 Gh.no H w2 (some ⟨b18_, 0, none⟩) 6 ([x0.Who_, x0.Seq_, x0.Rev_, x0.At_, x0.N_, x0.Target_] : List Int) ∧ True) n20_ _ rfl ⟨0, _, _, rfl, h0_, hI, Le.refl _, Le.refl _, ht2_, ho18_, trivial⟩ fun B_ b_ => ?_
    clear h0_
    simp only [e_, Nat.reduceAdd, Nat.reduceBEq] at b_
    subst b_
    clear ht2_
    clear ho18_
    rintro m20_ _ w20_ ⟨x54_20, L20_, H20_, rfl, hJ20_, hI20_, hll20_, hhh20_, ht2_, ho18_, -⟩
    replace hI := hI20_
    clear hI20_
    have h := hs20_ m20_ x54_20 hJ20_
    clear hs20_ hJ20_
    replace hs0_1 := hs0_1.up hhh20_
    replace hll16_ := hll16_.trans hll20_
    replace hhh16_ := hhh16_.trans hhh20_
    refine W_seq_k fun K21 k21 => ?_
    refine W_region [55] rfl (Ops_step (R_lss rfl rfl) rfl rfl ?_)
    refine Ops_nil ?_
    refine then_n (k21 _ _ ?_)
    clear k21 K21
    refine W_seq_k fun K22 k22 => ?_
    refine W_if rfl (fun hc23_ => ?_) (fun hc23_ => ?_)
    ·
     replace h := h.1 hc23_
     refine W_skip ?_
     refine then_n (k22 _ _ ?_)
     clear k22 K22
     refine W_seq_k fun K24 k24 => ?_
     refine W_block ?_
     refine W_seq_k fun K25 k25 => ?_
     refine W_region [56, 57, 4] rfl ?_
     refine ex_ h fun x26_ hx26_ h => ?_
     have ha26_ := (ho18_.atS hx26_).1
     refine Ops_step (R_indexSl Tryd.underlying56 sz3 rfl rfl hx26_.1 hx26_.lt ha26_) rfl rfl (Ops_step (R_load ag3 rfl (ho18_.atS hx26_).2) rfl rfl (Ops_step (R_assign rfl) rfl rfl ?_))
     refine Ops_nil ?_
     refine then_n (k25 _ _ ?_)
     clear k25 K25
     refine ex_ h fun J27_ hr27_ h => ?_
     refine W_seq_join [1, 52, 53, 54] [63] (fun vals_ w2 => ∃ (x63_27 : Bool) (L H : Gh), vals_ = [.bool x63_27] ∧ J27_ x63_27 ∧ Inv [] G w L H w2 ∧ Le L20_ L ∧ Le H20_ H ∧ Tok H w2 b2_ 25 ([vi x0.Kind_, vi x0.Who_, vi x0.Seq_, vi x0.Rev_, vi x0.At_, vi x0.N_, vi x0.Target_, vi x0.Err_, .slice A0_1 x0.Edit_.length c0_1]) ∧ OwnS w.heap.size 3 Gh.no H w2 (some ⟨b18_, 0, none⟩) 6 ([x0.Who_, x0.Seq_, x0.Rev_, x0.At_, x0.N_, x0.Target_] : List Int) ∧ True) (fun B_ b_ => ?_) (fun B_ b_ => ?_)
     ·
      simp only [e_, Nat.reduceAdd, Nat.reduceBEq] at b_
      subst b_
      clear hr27_
      have hll27_ := Le.refl L20_
      have hhh27_ := Le.refl H20_
      refine W_region [58, 59, 60, 61, 62, 63] rfl (Ops_step (R_move rfl) rfl rfl (Ops_step (R_lss rfl rfl) rfl rfl (Ops_step (R_move rfl) rfl rfl ?_)))
      refine Ops_split 60 rfl (fun hg28_ => ?_) (fun hg28_ => ?_)
      ·
       replace h := h.1 hg28_
       refine Ops_pass rfl rfl (Ops_pass rfl rfl (Ops_step (R_pick_true rfl rfl) rfl rfl ?_))
       refine Ops_nil ?_
       refine then_n ?_
       exact ⟨_, rfl, ⟨true, _, _, rfl, h, hI, hll27_, hhh27_, ht2_, ho18_, trivial⟩, ⟨rfl, rfl, rfl, rfl, trivial⟩⟩
      ·
       replace h := h.2 hg28_
       refine Ops_step (R_move rfl) rfl rfl (Ops_step (R_gtr rfl rfl) rfl rfl (Ops_step (R_pick_false rfl rfl) rfl rfl ?_))
       refine Ops_nil ?_
       refine then_n ?_
       exact ⟨_, rfl, ⟨(decide (x26_ > 1099511627776)), _, _, rfl, h, hI, hll27_, hhh27_, ht2_, ho18_, trivial⟩, ⟨rfl, rfl, rfl, rfl, trivial⟩⟩
     ·
      simp only [e_, Nat.reduceAdd, Nat.reduceBEq] at b_
      subst b_
      clear h
      clear ht2_
      clear ho18_
      rintro _ w27_ ⟨x63_27, L27_, H27_, rfl, hJ27_, hI27_, hll27_, hhh27_, ht2_, ho18_, -⟩
      replace hI := hI27_
      clear hI27_
      have h := hr27_ x63_27 hJ27_
      clear hr27_ hJ27_
      replace hs0_1 := hs0_1.up hhh27_
      replace hll16_ := hll16_.trans hll27_
      replace hhh16_ := hhh16_.trans hhh27_
      replace hll20_ := hll20_.trans hll27_
      replace hhh20_ := hhh20_.trans hhh27_
      refine W_cond rfl (fun hc29_ => ?_) (fun hc29_ => ?_)
      ·
       replace h := h.1 hc29_
       refine W_seq_k fun K30 k30 => ?_
       refine W_region [2] rfl (Ops_step (R_assign rfl) rfl rfl ?_)
       refine Ops_nil ?_
       refine then_n (k30 _ _ ?_)
       clear k30 K30
       refine W_ret ?_
       refine block_ret ?_
       refine then_ret ?_
       clear k24 K24
       refine then_ret ?_
       refine block_ret ?_
       refine then_ret ?_
       refine ⟨_, ⟨_, _, rfl, rfl, rfl⟩, ?_⟩
       exact ⟨120, _, _, rfl, hI, h⟩
      ·
       replace h := h.2 hc29_
       refine W_skip ?_
       refine block_n ?_
       refine then_n (k24 _ _ ?_)
       clear k24 K24
       refine W_region [64, 54] rfl ?_
       have hk31_ := h.1
       replace h := h.2
       refine Ops_step (R_add rfl rfl (wI hk31_.1 hk31_.2)) rfl rfl (Ops_step (R_move rfl) rfl rfl ?_)
       refine Ops_nil ?_
       refine then_n ?_
       exact h.elim fun m_ h => ⟨m_, _, h.1, rfl, ⟨(x54_20 + 1), _, _, rfl, h.2, hI, hll20_, hhh20_, ht2_, ho18_, trivial⟩, ⟨rfl, rfl, rfl, trivial⟩⟩
    ·
     replace h := h.2 hc23_
     refine W_exit ?_
     refine then_exit ?_
     clear k22 K22
     refine then_exit ?_
     refine block_exit ?_
     refine then_n ?_
     exact ⟨_, rfl, ⟨_, _, rfl, h, hI, hll16_, hhh16_, ht2_, trivial⟩, ⟨rfl, trivial⟩⟩
   ·
    simp only [e_, Nat.reduceAdd, Nat.reduceBEq] at b_
    subst b_
    clear h
    clear ht2_
    rintro _ w16_ ⟨L16_, H16_, rfl, hJ16_, hI16_, hll16_, hhh16_, ht2_, -⟩
    replace hI := hI16_
    clear hI16_
    have h := hr16_ hJ16_
    clear hr16_ hJ16_
    replace hs0_1 := hs0_1.up hhh16_
    refine W_seq_k fun K32 k32 => ?_
    refine ex_ h fun J33_ hr33_ h => ?_
    refine W_seq_join [] [78] (fun vals_ w2 => ∃ (x78_33 : Bool) (L H : Gh), vals_ = [.bool x78_33] ∧ J33_ x78_33 ∧ Inv [] G w L H w2 ∧ Le L16_ L ∧ Le H16_ H ∧ True) (fun B_ b_ => ?_) (fun B_ b_ => ?_)
    ·
     simp only [e_, Nat.reduceAdd, Nat.reduceBEq] at b_
     subst b_
     clear hr33_
     have hll33_ := Le.refl L16_
     have hhh33_ := Le.refl H16_
     refine W_region [65, 66, 67, 68, 69, 70, 71, 72, 73, 74, 75, 76, 77, 78] rfl (Ops_step (R_fieldAddr fo25_0 rfl) rfl rfl ?_)
     refine Ops_step (R_loadB (v := vi x0.Kind_) ag3 rfl ht2_.blk rfl) rfl rfl ?_
     refine Ops_step (R_eql rfl rfl) rfl rfl (Ops_step (R_move rfl) rfl rfl ?_)
     refine Ops_split 68 rfl (fun hg34_ => ?_) (fun hg34_ => ?_)
     ·
      replace h := h.1 hg34_
      refine Ops_pass rfl rfl (Ops_pass rfl rfl (Ops_pass rfl rfl (Ops_step (R_pick_true rfl rfl) rfl rfl (Ops_step (R_move rfl) rfl rfl ?_))))
      refine Ops_step (R_fieldAddr fo25_8 rfl) rfl rfl ?_
      refine Ops_step (R_loadB (v := .slice A0_1 x0.Edit_.length c0_1) ag23 rfl ht2_.blk rfl) rfl rfl ?_
      refine Ops_call (C_func bd16 rfl) rfl rfl ?_
      refine (frame_Light_ok (x0 := x0.Edit_) hI.st (hg.up hI.le) hc0_1 hs0_1 h).mono ?_
      rintro _ w35_ ⟨r35_0, L35_, H35_, rfl, hI35_, h⟩
      refine Exists.elim (hI.call hI35_ (by simp)) fun L350_ h35_ => ?_
      have hz35_ := hI.size
      replace hI := h35_.1
      have u35_ := h35_.2.1
      have hl35_ := h35_.2.2
      clear h35_
      replace hll33_ := hll33_.trans u35_.ll
      replace hhh33_ := hhh33_.trans u35_.hh
      clear hI35_ u35_ hl35_
      refine ⟨_, rfl, ?_⟩
      refine Ops_step (R_not rfl) rfl rfl (Ops_step (R_pick_true rfl rfl) rfl rfl ?_)
      refine Ops_nil ?_
      refine then_n ?_
      exact ⟨_, rfl, ⟨(!r35_0), _, _, rfl, h, hI, hll33_, hhh33_, trivial⟩, trivial⟩
     ·
      replace h := h.2 hg34_
      refine Ops_step (R_fieldAddr fo25_0 rfl) rfl rfl ?_
      refine Ops_step (R_loadB (v := vi x0.Kind_) ag3 rfl ht2_.blk rfl) rfl rfl ?_
      refine Ops_step (R_eql rfl rfl) rfl rfl (Ops_step (R_pick_false rfl rfl) rfl rfl (Ops_step (R_move rfl) rfl rfl ?_))
      refine Ops_split 73 rfl (fun hg36_ => ?_) (fun hg36_ => ?_)
      ·
       replace h := h.1 hg36_
       refine Ops_step (R_fieldAddr fo25_8 rfl) rfl rfl ?_
       refine Ops_step (R_loadB (v := .slice A0_1 x0.Edit_.length c0_1) ag23 rfl ht2_.blk rfl) rfl rfl ?_
       refine Ops_call (C_func bd16 rfl) rfl rfl ?_
       refine (frame_Light_ok (x0 := x0.Edit_) hI.st (hg.up hI.le) hc0_1 hs0_1 h).mono ?_
       rintro _ w37_ ⟨r37_0, L37_, H37_, rfl, hI37_, h⟩
       refine Exists.elim (hI.call hI37_ (by simp)) fun L370_ h37_ => ?_
       have hz37_ := hI.size
       replace hI := h37_.1
       have u37_ := h37_.2.1
       have hl37_ := h37_.2.2
       clear h37_
       replace hll33_ := hll33_.trans u37_.ll
       replace hhh33_ := hhh33_.trans u37_.hh
       clear hI37_ u37_ hl37_
       refine ⟨_, rfl, ?_⟩
       refine Ops_step (R_not rfl) rfl rfl (Ops_step (R_pick_true rfl rfl) rfl rfl ?_)
       refine Ops_nil ?_
       refine then_n ?_
       exact ⟨_, rfl, ⟨(!r37_0), _, _, rfl, h, hI, hll33_, hhh33_, trivial⟩, trivial⟩
      ·
       replace h := h.2 hg36_
       refine Ops_pass rfl rfl (Ops_pass rfl rfl (Ops_pass rfl rfl (Ops_pass rfl rfl (Ops_step (R_pick_false rfl rfl) rfl rfl ?_))))
       refine Ops_nil ?_
       refine then_n ?_
       exact ⟨_, rfl, ⟨false, _, _, rfl, h, hI, hll33_, hhh33_, trivial⟩, trivial⟩
    ·
     simp only [e_, Nat.reduceAdd, Nat.reduceBEq] at b_
     subst b_
     clear h
     rintro _ w33_ ⟨x78_33, L33_, H33_, rfl, hJ33_, hI33_, hll33_, hhh33_, -⟩
     replace hI := hI33_
     clear hI33_
     have h := hr33_ x78_33 hJ33_
     clear hr33_ hJ33_
     refine W_cond rfl (fun hc38_ => ?_) (fun hc38_ => ?_)
     ·
      replace h := h.1 hc38_
      refine W_seq_k fun K39 k39 => ?_
      refine W_region [2] rfl (Ops_step (R_assign rfl) rfl rfl ?_)
      refine Ops_nil ?_
      refine then_n (k39 _ _ ?_)
      clear k39 K39
      refine W_ret ?_
      refine then_ret ?_
      clear k32 K32
      refine ⟨_, ⟨_, _, rfl, rfl, rfl⟩, ?_⟩
      exact ⟨120, _, _, rfl, hI, h⟩
     ·
      replace h := h.2 hc38_
      refine W_skip ?_
      refine then_n (k32 _ _ ?_)
      clear k32 K32
      refine W_seq_k fun K40 k40 => ?_
      refine W_region [2] rfl (Ops_step (R_assign rfl) rfl rfl ?_)
      refine Ops_nil ?_
      refine then_n (k40 _ _ ?_)
      clear k40 K40
      refine W_ret ?_
      refine ⟨_, ⟨_, _, rfl, rfl, rfl⟩, ?_⟩
      exact ⟨0, _, _, rfl, hI, h⟩

end Go.Proofs.YtbjmngacjdcddaaDoor

