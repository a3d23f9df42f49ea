/- What is shown of the program on the way to the law. -/
import Derived.Test.YtkmljjhjojolcaaZo3
import Derived.Test.YtkmljjhjojolcaaZo4
import Derived.Test.YtkmljjhjojolcaaZo5
import Derived.Test.YtkmljjhjojolcaaZo10
import Derived.Test.YtkmljjhjojolcaaProg
set_option linter.unusedVariables false
set_option linter.unusedSimpArgs false
set_option maxHeartbeats 4000000
namespace Go.Proofs.Ytkmljjhjojolcaa
open Go Go.Sx Go.Lx
namespace TJtF
theorem hm : Try.prog.follows .mixedOrders = true := by kernel_rfl
theorem ag29 : aggB Try.prog 29 = some false := by kernel_rfl
theorem ag3 : aggB Try.prog 3 = some false := by kernel_rfl
theorem ag39 : aggB Try.prog 39 = some true := by kernel_rfl
theorem ag4 : aggB Try.prog 4 = some false := by kernel_rfl
theorem ag9 : aggB Try.prog 9 = some false := by kernel_rfl
theorem bd18 : bodied Try.prog 18 = true := by kernel_rfl
theorem bd19 : bodied Try.prog 19 = true := by kernel_rfl
theorem bd32 : bodied Try.prog 32 = true := by kernel_rfl
theorem bd39 : bodied Try.prog 39 = true := by kernel_rfl
theorem bd48 : bodied Try.prog 48 = true := by kernel_rfl
theorem el36 : Elem Try.prog 36 39 2 24 := Elem.of (by kernel_rfl)
theorem fd39 : fldsB Try.prog 39 = some [(true, 0, 3), (true, 1, 9)] := by kernel_rfl
theorem fo53_3 : offB Try.prog 53 3 = some 5 := by kernel_rfl
theorem fo53_4 : offB Try.prog 53 4 = some 6 := by kernel_rfl
theorem fo81_0 : offB Try.prog 81 0 = some 0 := by kernel_rfl
theorem fo81_2 : offB Try.prog 81 2 = some 4 := by kernel_rfl
theorem fo81_3 : offB Try.prog 81 3 = some 5 := by kernel_rfl
theorem pl39 : partPl Try.prog 39 = some [(0, 1), (1, 1)] := by kernel_rfl
theorem pl81 : partPl Try.prog 81 = some [(0, 3), (3, 1), (4, 1), (5, 1)] := by kernel_rfl
theorem pl85 : partPl Try.prog 85 = some [(0, 1), (1, 1)] := by kernel_rfl
theorem sz29 : sz Try.prog 29 = some 1 := by kernel_rfl
theorem sz3 : sz Try.prog 3 = some 1 := by kernel_rfl
theorem sz39 : sz Try.prog 39 = some 2 := by kernel_rfl
theorem sz4 : sz Try.prog 4 = some 1 := by kernel_rfl
theorem sz85 : sz Try.prog 85 = some 2 := by kernel_rfl
theorem zr39 : zr Try.prog 39 = some ([.int .i64 0] ++ [.string ByteArray.empty]) := by kernel_rfl
theorem zr53 : zr Try.prog 53 = some (List.replicate 3 (.slice none 0 0) ++ [.int .i64 0] ++ [.bool false] ++ [.bool false] ++ [.int .i64 0]) := by kernel_rfl
theorem zr81 : zr Try.prog 81 = some (List.replicate 3 (.slice none 0 0) ++ [.int .i64 0] ++ [.bool false] ++ [.int .i64 0]) := by kernel_rfl
theorem zr85 : zr Try.prog 85 = some ([.int .i64 0] ++ [.slice none 0 0]) := by kernel_rfl
end TJtF
open TJtF
theorem slices_Equal_sealskinref06_Record_sealskinref06_Record_ok {G : Gh} {w : World} (hS : St G w) (hg : GL G) {A0 : Option Addr} {c0 : Nat} {x0 : List sealskinref06_Record} (hc0 : x0.length ≤ c0) (hs0 : Sl G A0 x0) {A1 : Option Addr} {c1 : Nat} {x1 : List sealskinref06_Record} (hc1 : x1.length ≤ c1) (hs1 : Sl G A1 x1) {Q : Bool → Prop} (h : slices_Equal_sealskinref06_Record_sealskinref06_Record x0 x1 Q) : Calls Try.prog 23 #[.slice A0 x0.length c0, .slice A1 x1.length c1] w fun e w2 => ∃ (r0 : Bool) (L H : Gh), e = .returned (.bool r0) ∧ Inv [] G w L H w2 ∧ Q r0 := by
 unfold slices_Equal_sealskinref06_Record_sealskinref06_Record at h
 have hI := Inv.start (M := []) hS
 refine calls_W 26 Try.func23 rfl Try.ntmps23 rfl [.tmp 4] rfl ?_
 refine W_seq_k fun K1 k1 => ?_
 refine W_region [4] rfl (Ops_step (R_assign rfl) rfl rfl ?_)
 refine Ops_nil ?_
 refine then_n (k1 _ _ ?_)
 clear k1 K1
 refine W_seq_k fun K2 k2 => ?_
 refine W_seq_k fun K3 k3 => ?_
 refine W_region [6, 7, 8, 9, 10] rfl (Ops_step (R_move rfl) rfl rfl (Ops_step (R_len Try.underlying36 rfl rfl) rfl rfl (Ops_step (R_move rfl) rfl rfl (Ops_step (R_len Try.underlying36 rfl rfl) rfl rfl ?_))))
 refine Ops_step (R_neq rfl rfl) rfl rfl ?_
 refine Ops_nil ?_
 refine then_n (k3 _ _ ?_)
 clear k3 K3
 refine W_if rfl (fun hc4_ => ?_) (fun hc4_ => ?_)
 ·
  replace h := h.1 hc4_
  refine W_seq_k fun K5 k5 => ?_
  refine W_region [4] rfl (Ops_step (R_assign rfl) rfl rfl ?_)
  refine Ops_nil ?_
  refine then_n (k5 _ _ ?_)
  clear k5 K5
  refine W_keepB [4] fun B_ b_ => ?_
  simp only [e_, Nat.reduceAdd, Nat.reduceBEq] at b_
  subst b_
  refine W_ret ?_
  refine then_ret ?_
  clear k2 K2
  refine ⟨_, ⟨_, _, rfl, rfl, rfl⟩, ?_⟩
  exact ⟨false, _, _, rfl, hI, h⟩
 ·
  replace h := h.2 hc4_
  refine W_skip ?_
  refine then_n (k2 _ _ ?_)
  clear k2 K2
  refine W_keepB [0, 1] fun B_ b_ => ?_
  simp only [e_, Nat.reduceAdd, Nat.reduceBEq] at b_
  subst b_
  refine ex_ h fun J8_ hr8_ h => ?_
  refine W_seq_join [] [] (fun vals_ w2 => ∃  (L H : Gh), vals_ = [] ∧ J8_ ∧ Inv [] G w L H w2 ∧ Le Gh.no L ∧ Le G H ∧ True) (fun B_ b_ => ?_) (fun B_ b_ => ?_)
  ·
   simp only [e_, Nat.reduceAdd, Nat.reduceBEq] at b_
   subst b_
   clear hr8_
   have hll8_ := Le.refl Gh.no
   have hhh8_ := Le.refl G
   refine W_seq_k fun K9 k9 => ?_
   refine W_region [11, 12, 13] rfl (Ops_step (R_move rfl) rfl rfl (Ops_step (R_len Try.underlying36 rfl rfl) rfl rfl (Ops_step (R_move rfl) rfl rfl ?_)))
   refine Ops_nil ?_
   refine then_n (k9 _ _ ?_)
   clear k9 K9
   refine W_block ?_
   refine Exists.elim h fun I10_ h => Exists.elim h fun n10_ h => ?_
   have h0_ := h.1
   have hs10_ := h.2
   clear h
   refine W_loopB [0, 1, 12] [13] (fun m vals_ w2 => ∃ (x13_10 : Int) (L H : Gh), vals_ = [vi x13_10] ∧ I10_ m x13_10 ∧ Inv [] G w L H w2 ∧ Le Gh.no L ∧ Le G H ∧ True) n10_ _ rfl ⟨0, _, _, rfl, h0_, hI, Le.refl _, Le.refl _, trivial⟩ fun B_ b_ => ?_
   clear h0_
   simp only [e_, Nat.reduceAdd, Nat.reduceBEq] at b_
   subst b_
   rintro m10_ _ w10_ ⟨x13_10, L10_, H10_, rfl, hJ10_, hI10_, hll10_, hhh10_, -⟩
   replace hI := hI10_
   clear hI10_
   have h := hs10_ m10_ x13_10 hJ10_
   clear hs10_ hJ10_
   replace hs0 := hs0.up hhh10_
   replace hs1 := hs1.up hhh10_
   replace hll8_ := hll8_.trans hll10_
   replace hhh8_ := hhh8_.trans hhh10_
   refine W_seq_k fun K11 k11 => ?_
   refine W_region [14] rfl (Ops_step (R_lss rfl rfl) rfl rfl ?_)
   refine Ops_nil ?_
   refine then_n (k11 _ _ ?_)
   clear k11 K11
   refine W_seq_k fun K12 k12 => ?_
   refine W_if rfl (fun hc13_ => ?_) (fun hc13_ => ?_)
   ·
    replace h := h.1 hc13_
    refine W_skip ?_
    refine then_n (k12 _ _ ?_)
    clear k12 K12
    refine W_seq_k fun K14 k14 => ?_
    refine W_block ?_
    refine W_seq_k fun K15 k15 => ?_
    refine W_region [15, 5] rfl (Ops_step (R_move rfl) rfl rfl (Ops_step (R_assign rfl) rfl rfl ?_))
    refine Ops_nil ?_
    refine then_n (k15 _ _ ?_)
    clear k15 K15
    refine W_seq_k fun K16 k16 => ?_
    refine W_drawF [16, 17, 18, 19, 20, 21, 22, 23, 24] [(0, true), (1, true), (2, true), (3, true), (4, true), (5, true), (6, true), (7, true), (8, true)] TJtF.hm rfl (by kernel_rfl) fun ops17_ w17_ hops17_ hF17_ => ?_
    replace hI := hI.fr0 hF17_
    clear hF17_
    refine HSp (R_move rfl) rfl rfl (HSp (R_move rfl) rfl rfl ?_)
    refine ex_ h fun x18_ hx18_ h => ?_
    have ha18_ := (Sl.atN (n := 2) rfl (by decide) hs0 hx18_).1
    refine Exists.elim (Sl.atN (n := 2) rfl (by decide) hs0 hx18_).2 fun l18_ hA18_ => ?_
    have hr18_ := hA18_.1
    have hg18_ := hA18_.2
    clear hA18_
    refine HSp (R_indexSl Try.underlying36 sz39 rfl rfl hx18_.1 hx18_.lt ha18_) rfl rfl ?_
    replace hr18_ : l18_ = [vi x18_.Label_, vs x18_.Data_] := hr18_
    subst hr18_
    refine HS_loadCs (cs := [vi x18_.Label_, vs x18_.Data_]) ag39 sz39 rfl (fun j_ v_ hv_ => hI.st _ _ (hg18_ j_ v_ hv_)) rfl rfl ?_
    refine HSp (R_move rfl) rfl rfl (HSp (R_move rfl) rfl rfl ?_)
    refine ex_ h fun x19_ hx19_ h => ?_
    have ha19_ := (Sl.atN (n := 2) rfl (by decide) hs1 hx19_).1
    refine Exists.elim (Sl.atN (n := 2) rfl (by decide) hs1 hx19_).2 fun l19_ hA19_ => ?_
    have hr19_ := hA19_.1
    have hg19_ := hA19_.2
    clear hA19_
    refine HSp (R_indexSl Try.underlying36 sz39 rfl rfl hx19_.1 hx19_.lt ha19_) rfl rfl ?_
    replace hr19_ : l19_ = [vi x19_.Label_, vs x19_.Data_] := hr19_
    subst hr19_
    refine HS_loadCs (cs := [vi x19_.Label_, vs x19_.Data_]) ag39 sz39 rfl (fun j_ v_ hv_ => hI.st _ _ (hg19_ j_ v_ hv_)) rfl rfl ?_
    refine HSp (R_structNe fd39 rfl rfl (eqF_int Try.underlying3 ag3 rfl rfl (eqF_str (a := x18_.Data_) (b := x19_.Data_) Try.underlying9 ag9 rfl rfl eqF_nil))) rfl rfl ?_
    refine HS_nil ?_
    clear hops17_
    refine then_n (k16 _ _ ?_)
    clear k16 K16
    refine W_keepB [0, 1, 12, 13, 24] fun B_ b_ => ?_
    simp only [e_, Nat.reduceAdd, Nat.reduceBEq] at b_
    subst b_
    refine W_if rfl (fun hc21_ => ?_) (fun hc21_ => ?_)
    ·
     replace h := h.1 hc21_
     refine W_seq_k fun K22 k22 => ?_
     refine W_region [4] rfl (Ops_step (R_assign rfl) rfl rfl ?_)
     refine Ops_nil ?_
     refine then_n (k22 _ _ ?_)
     clear k22 K22
     refine W_ret ?_
     refine block_ret ?_
     refine then_ret ?_
     clear k14 K14
     refine then_ret ?_
     refine block_ret ?_
     refine then_ret ?_
     refine ⟨_, ⟨_, _, rfl, rfl, rfl⟩, ?_⟩
     exact ⟨false, _, _, rfl, hI, h⟩
    ·
     replace h := h.2 hc21_
     refine W_skip ?_
     refine block_n ?_
     refine then_n (k14 _ _ ?_)
     clear k14 K14
     refine W_region [25, 13] rfl ?_
     have hk23_ := h.1
     replace h := h.2
     refine Ops_step (R_add rfl rfl (wI hk23_.1 hk23_.2)) rfl rfl (Ops_step (R_move rfl) rfl rfl ?_)
     refine Ops_nil ?_
     refine then_n ?_
     exact h.elim fun m_ h => ⟨m_, _, h.1, rfl, ⟨(x13_10 + 1), _, _, rfl, h.2, hI, hll10_, hhh10_, trivial⟩, ⟨rfl, rfl, rfl, trivial⟩⟩
   ·
    replace h := h.2 hc13_
    refine W_exit ?_
    refine then_exit ?_
    clear k12 K12
    refine then_exit ?_
    refine block_exit ?_
    refine then_n ?_
    exact ⟨_, rfl, ⟨_, _, rfl, h, hI, hll8_, hhh8_, trivial⟩, trivial⟩
  ·
   simp only [e_, Nat.reduceAdd, Nat.reduceBEq] at b_
   subst b_
   clear h
   rintro _ w8_ ⟨L8_, H8_, rfl, hJ8_, hI8_, hll8_, hhh8_, -⟩
   replace hI := hI8_
   clear hI8_
   have h := hr8_ hJ8_
   clear hr8_ hJ8_
   refine W_seq_k fun K24 k24 => ?_
   refine W_region [4] rfl (Ops_step (R_assign rfl) rfl rfl ?_)
   refine Ops_nil ?_
   refine then_n (k24 _ _ ?_)
   clear k24 K24
   refine W_ret ?_
   refine ⟨_, ⟨_, _, rfl, rfl, rfl⟩, ?_⟩
   exact ⟨true, _, _, rfl, hI, h⟩

theorem journal_Journal_dead_v1_ok {G : Gh} {w : World} (hS : St G w) (hg : GL G)  {Q : Bool → Prop} (h : journal_Journal_dead_v1  Q) : Calls Try.prog 39 #[.pointer none] w fun e w2 => ∃ (r0 : Bool) (L H : Gh), e = .returned (.bool r0) ∧ Inv [] G w L H w2 ∧ Q r0 := by
 unfold journal_Journal_dead_v1 at h
 have hI := Inv.start (M := []) hS
 refine calls_W 12 Try.func39 rfl Try.ntmps39 rfl [.tmp 2] rfl ?_
 refine W_seq_k fun K1 k1 => ?_
 refine W_region [2] rfl (Ops_step (R_assign rfl) rfl rfl ?_)
 refine Ops_nil ?_
 refine then_n (k1 _ _ ?_)
 clear k1 K1
 refine W_seq_k fun K2 k2 => ?_
 refine W_region [3, 4, 5, 6, 7, 8, 9, 10, 11, 2] rfl (Ops_step (R_move rfl) rfl rfl (Ops_step (R_ptrNil Try.underlying26 rfl rfl) rfl rfl (Ops_step (R_move rfl) rfl rfl (Ops_pass rfl rfl ?_))))
 refine Ops_pass rfl rfl (Ops_pass rfl rfl (Ops_pass rfl rfl (Ops_pass rfl rfl (Ops_step (R_pick_true rfl rfl) rfl rfl ?_))))
 refine Ops_step (R_assign rfl) rfl rfl ?_
 refine Ops_nil ?_
 refine then_n (k2 _ _ ?_)
 clear k2 K2
 refine W_keepB [2] fun B_ b_ => ?_
 simp only [e_, Nat.reduceAdd, Nat.reduceBEq] at b_
 subst b_
 refine W_ret ?_
 refine ⟨_, ⟨_, _, rfl, rfl, rfl⟩, ?_⟩
 exact ⟨true, _, _, rfl, hI, h⟩

theorem journal_Journal_Len_v1_ok {G : Gh} {w : World} (hS : St G w) (hg : GL G)  {Q : Int → Prop} (h : journal_Journal_Len_v1  Q) : Calls Try.prog 19 #[.pointer none] w fun e w2 => ∃ (r0 : Int) (L H : Gh), e = .returned (vi r0) ∧ Inv [] G w L H w2 ∧ Q r0 := by
 unfold journal_Journal_Len_v1 at h
 have hI := Inv.start (M := []) hS
 refine calls_W 11 Try.func19 rfl Try.ntmps19 rfl [.tmp 2] rfl ?_
 refine W_seq_k fun K1 k1 => ?_
 refine W_region [2] rfl (Ops_step (R_assign rfl) rfl rfl ?_)
 refine Ops_nil ?_
 refine then_n (k1 _ _ ?_)
 clear k1 K1
 refine W_seq_k fun K2 k2 => ?_
 refine W_seq_k fun K3 k3 => ?_
 refine W_region [3, 4] rfl (Ops_step (R_move rfl) rfl rfl ?_)
 refine Ops_call (C_func bd39 rfl) rfl rfl ?_
 refine (journal_Journal_dead_v1_ok  hI.st (hg.up hI.le)  h).mono ?_
 rintro _ w4_ ⟨r4_0, L4_, H4_, rfl, hI4_, h⟩
 refine Exists.elim (hI.call hI4_ (by simp)) fun L40_ h4_ => ?_
 have hz4_ := hI.size
 replace hI := h4_.1
 have u4_ := h4_.2.1
 have hl4_ := h4_.2.2
 clear h4_
 clear hI4_ u4_ hl4_
 refine ⟨_, rfl, ?_⟩
 refine Ops_nil ?_
 refine then_n (k3 _ _ ?_)
 clear k3 K3
 refine W_cond rfl (fun hc5_ => ?_) (fun hc5_ => ?_)
 ·
  replace h := h.1 hc5_
  refine W_seq_k fun K6 k6 => ?_
  refine W_region [2] rfl (Ops_step (R_assign rfl) rfl rfl ?_)
  refine Ops_nil ?_
  refine then_n (k6 _ _ ?_)
  clear k6 K6
  refine W_ret ?_
  refine then_ret ?_
  clear k2 K2
  refine ⟨_, ⟨_, _, rfl, rfl, rfl⟩, ?_⟩
  exact ⟨0, _, _, rfl, hI, h⟩
 ·
  replace h := h.2 hc5_
  refine W_skip ?_
  refine then_n (k2 _ _ ?_)
  clear k2 K2
  refine W_seq_k fun K7 k7 => ?_
  refine W_region [5, 6, 7, 8, 9, 10, 2] rfl (Ops_step (R_move rfl) rfl rfl ?_)
  exact h.elim

theorem journal_Journal_At_v1_ok {G : Gh} {w : World} (hS : St G w) (hg : GL G) {x1 : Int} {Q : Int → (List UInt8) → Bool → Prop} (h : journal_Journal_At_v1 x1 Q) : Calls Try.prog 18 #[.pointer none, vi x1] w fun e w2 => ∃ (r0 : Int) (A1 : Option Addr) (c1 : Nat) (r1 : List UInt8) (r2 : Bool) (L H : Gh), e = .returned (.tuple #[vi r0, .slice A1 r1.length c1, .bool r2]) ∧ Inv [] G w L H w2 ∧ r1.length ≤ c1 ∧ Sl L A1 r1 ∧ Q r0 r1 r2 := by
 unfold journal_Journal_At_v1 at h
 have hI := Inv.start (M := []) hS
 refine calls_W 42 Try.func18 rfl Try.ntmps18 rfl [.tmp 4, .tmp 5, .tmp 6] rfl ?_
 refine W_seq_k fun K1 k1 => ?_
 refine W_region [4, 5, 6] rfl (Ops_step (R_assign rfl) rfl rfl (Ops_step (R_assign rfl) rfl rfl (Ops_step (R_assign rfl) rfl rfl ?_)))
 refine Ops_nil ?_
 refine then_n (k1 _ _ ?_)
 clear k1 K1
 refine W_seq_k fun K2 k2 => ?_
 refine ex_ h fun J3_ hr3_ h => ?_
 refine W_seq_join [0, 1] [22] (fun vals_ w2 => ∃ (x22_3 : Bool) (L H : Gh), vals_ = [.bool x22_3] ∧ J3_ x22_3 ∧ Inv [] G w L H w2 ∧ Le Gh.no L ∧ Le G H ∧ True) (fun B_ b_ => ?_) (fun B_ b_ => ?_)
 ·
  simp only [e_, Nat.reduceAdd, Nat.reduceBEq] at b_
  subst b_
  clear hr3_
  have hll3_ := Le.refl Gh.no
  have hhh3_ := Le.refl G
  refine W_region [7, 8, 9, 10, 11, 12, 13, 14, 15, 16, 17, 18, 19, 20, 21, 22] rfl (Ops_step (R_move rfl) rfl rfl ?_)
  refine Ops_call (C_func bd39 rfl) rfl rfl ?_
  refine (journal_Journal_dead_v1_ok  hI.st (hg.up hI.le)  h).mono ?_
  rintro _ w4_ ⟨r4_0, L4_, H4_, rfl, hI4_, h⟩
  refine Exists.elim (hI.call hI4_ (by simp)) fun L40_ h4_ => ?_
  have hz4_ := hI.size
  replace hI := h4_.1
  have u4_ := h4_.2.1
  have hl4_ := h4_.2.2
  clear h4_
  replace hll3_ := hll3_.trans u4_.ll
  replace hhh3_ := hhh3_.trans u4_.hh
  clear hI4_ u4_ hl4_
  refine ⟨_, rfl, ?_⟩
  refine Ops_step (R_move rfl) rfl rfl ?_
  refine Ops_splitB 9 rfl (fun hg5_ => ?_) (fun hg5_ => ?_)
  ·
   replace h := h.1 hg5_
   refine Ops_pass rfl rfl (Ops_pass rfl rfl (Ops_step (R_pick_true rfl rfl) rfl rfl (Ops_step (R_move rfl) rfl rfl (Ops_pass rfl rfl ?_))))
   refine Ops_pass rfl rfl (Ops_pass rfl rfl (Ops_pass rfl rfl (Ops_pass rfl rfl (Ops_pass rfl rfl ?_))))
   refine Ops_pass rfl rfl (Ops_pass rfl rfl (Ops_step (R_pick_true rfl rfl) rfl rfl ?_))
   refine Ops_nil ?_
   refine then_n ?_
   exact ⟨_, rfl, ⟨true, _, _, rfl, h, hI, hll3_, hhh3_, trivial⟩, ⟨rfl, rfl, trivial⟩⟩
  ·
   replace h := h.2 hg5_
   refine Ops_step (R_move rfl) rfl rfl (Ops_step (R_lss rfl rfl) rfl rfl (Ops_step (R_pick_false rfl rfl) rfl rfl (Ops_step (R_move rfl) rfl rfl ?_)))
   refine Ops_split 13 rfl (fun hg6_ => ?_) (fun hg6_ => ?_)
   ·
    replace h := h.1 hg6_
    refine Ops_pass rfl rfl (Ops_pass rfl rfl (Ops_pass rfl rfl (Ops_pass rfl rfl (Ops_pass rfl rfl ?_))))
    refine Ops_pass rfl rfl (Ops_pass rfl rfl (Ops_pass rfl rfl (Ops_step (R_pick_true rfl rfl) rfl rfl ?_)))
    refine Ops_nil ?_
    refine then_n ?_
    exact ⟨_, rfl, ⟨true, _, _, rfl, h, hI, hll3_, hhh3_, trivial⟩, ⟨rfl, rfl, trivial⟩⟩
   ·
    replace h := h.2 hg6_
    refine Ops_step (R_move rfl) rfl rfl (Ops_step (R_move rfl) rfl rfl ?_)
    exact h.elim
 ·
  simp only [e_, Nat.reduceAdd, Nat.reduceBEq] at b_
  subst b_
  clear h
  rintro _ w3_ ⟨x22_3, L3_, H3_, rfl, hJ3_, hI3_, hll3_, hhh3_, -⟩
  replace hI := hI3_
  clear hI3_
  have h := hr3_ x22_3 hJ3_
  clear hr3_ hJ3_
  refine W_cond rfl (fun hc7_ => ?_) (fun hc7_ => ?_)
  ·
   replace h := h.1 hc7_
   refine W_seq_k fun K8 k8 => ?_
   refine W_region [4, 5, 6] rfl (Ops_step (R_assign rfl) rfl rfl (Ops_step (R_assign rfl) rfl rfl (Ops_step (R_assign rfl) rfl rfl ?_)))
   refine Ops_nil ?_
   refine then_n (k8 _ _ ?_)
   clear k8 K8
   refine W_ret ?_
   refine then_ret ?_
   clear k2 K2
   refine ⟨_, ⟨_, _, rfl, rfl, ⟨_, _, rfl, rfl, ⟨_, _, rfl, rfl, rfl⟩⟩⟩, ?_⟩
   exact ⟨0, none, 0, [], false, _, _, rfl, hI, (Nat.le_refl 0), Sl.nil, h⟩
  ·
   replace h := h.2 hc7_
   refine W_skip ?_
   refine then_n (k2 _ _ ?_)
   clear k2 K2
   refine W_seq_k fun K9 k9 => ?_
   refine W_drawF [23, 24, 25, 26, 27, 28, 29, 30, 31, 32, 33, 34, 35, 36, 37, 38, 39, 40, 41, 4, 5, 6] [(0, true), (1, true), (2, true), (3, true), (4, true), (5, true), (6, true), (7, true), (8, true), (9, true), (10, true), (11, true), (12, true), (13, true), (14, true), (15, true), (16, true), (17, true), (18, false), (19, true), (20, true), (21, true)] TJtF.hm rfl (by kernel_rfl) fun ops10_ w10_ hops10_ hF10_ => ?_
   replace hI := hI.fr0 hF10_
   clear hF10_
   refine HSp (R_move rfl) rfl rfl ?_
   exact h.elim

theorem sealskinlaw06_records_v1_ok {G : Gh} {w : World} (hS : St G w) (hg : GL G)  {Q : (List sealskinref06_Record) → Prop} (h : sealskinlaw06_records_v1  Q) : Calls Try.prog 16 #[.pointer none] w fun e w2 => ∃ (A0 : Option Addr) (c0 : Nat) (r0 : List sealskinref06_Record) (L H : Gh), e = .returned (.slice A0 r0.length c0) ∧ Inv [] G w L H w2 ∧ OwnS w.heap.size 39 L H w2 A0 c0 r0 ∧ Q r0 := by
 unfold sealskinlaw06_records_v1 at h
 have hI := Inv.start (M := []) hS
 refine calls_W 29 Try.func16 rfl Try.ntmps16 rfl [.tmp 2] rfl ?_
 refine W_seq_k fun K1 k1 => ?_
 refine W_region [2] rfl (Ops_step (R_assign rfl) rfl rfl ?_)
 refine Ops_nil ?_
 refine then_n (k1 _ _ ?_)
 clear k1 K1
 refine W_seq_k fun K2 k2 => ?_
 refine W_region [3] rfl (Ops_step (R_assign rfl) rfl rfl ?_)
 refine Ops_nil ?_
 refine then_n (k2 _ _ ?_)
 clear k2 K2
 refine ex_ h fun J3_ hr3_ h => ?_
 refine W_seq_join [] [3] (fun vals_ w2 => ∃ (x3_3 : List sealskinref06_Record) (A3_3 : Option Addr) (c3_3 : Nat) (L H : Gh), vals_ = [.slice A3_3 x3_3.length c3_3] ∧ J3_ x3_3 ∧ Inv [] G w L H w2 ∧ Le Gh.no L ∧ Le G H ∧ OwnS w.heap.size 39 L H w2 A3_3 c3_3 x3_3 ∧ True) (fun B_ b_ => ?_) (fun B_ b_ => ?_)
 ·
  simp only [e_, Nat.reduceAdd, Nat.reduceBEq] at b_
  subst b_
  clear hr3_
  have hll3_ := Le.refl Gh.no
  have hhh3_ := Le.refl G
  refine W_seq_k fun K4 k4 => ?_
  refine W_region [8, 9, 10] rfl (Ops_step (R_move rfl) rfl rfl ?_)
  refine Ops_call (C_func bd19 rfl) rfl rfl ?_
  refine (journal_Journal_Len_v1_ok  hI.st (hg.up hI.le)  h).mono ?_
  rintro _ w5_ ⟨r5_0, L5_, H5_, rfl, hI5_, h⟩
  refine Exists.elim (hI.call hI5_ (by simp)) fun L50_ h5_ => ?_
  have hz5_ := hI.size
  replace hI := h5_.1
  have u5_ := h5_.2.1
  have hl5_ := h5_.2.2
  clear h5_
  replace hll3_ := hll3_.trans u5_.ll
  replace hhh3_ := hhh3_.trans u5_.hh
  clear hI5_ u5_ hl5_
  refine ⟨_, rfl, ?_⟩
  refine Ops_step (R_move rfl) rfl rfl ?_
  refine Ops_nil ?_
  refine then_n (k4 _ _ ?_)
  clear k4 K4
  refine W_block ?_
  refine Exists.elim h fun I6_ h => Exists.elim h fun n6_ h => ?_
  have h0_ := h.1
  have hs6_ := h.2
  clear h
  refine W_loopB [0, 9] [3, 10] (fun m vals_ w2 => ∃ (x3_6 : List sealskinref06_Record) (A3_6 : Option Addr) (c3_6 : Nat) (x10_6 : Int) (L H : Gh), vals_ = [.slice A3_6 x3_6.length c3_6, vi x10_6] ∧ I6_ m x3_6 x10_6 ∧ Inv [] G w L H w2 ∧ Le L50_ L ∧ Le H5_ H ∧ OwnS w.heap.size 39 L H w2 A3_6 c3_6 x3_6 ∧ True) n6_ _ rfl ⟨[], none, 0, 0, _, _, rfl, h0_, hI, Le.refl _, Le.refl _, OwnS.nil, trivial⟩ fun B_ b_ => ?_
  clear h0_
  simp only [e_, Nat.reduceAdd, Nat.reduceBEq] at b_
  subst b_
  rintro m6_ _ w6_ ⟨x3_6, A3_6, c3_6, x10_6, L6_, H6_, rfl, hJ6_, hI6_, hll6_, hhh6_, ho3_6, -⟩
  replace hI := hI6_
  clear hI6_
  have h := hs6_ m6_ x3_6 x10_6 hJ6_
  clear hs6_ hJ6_
  replace hll3_ := hll3_.trans hll6_
  replace hhh3_ := hhh3_.trans hhh6_
  refine W_seq_k fun K7 k7 => ?_
  refine W_region [11] rfl (Ops_step (R_lss rfl rfl) rfl rfl ?_)
  refine Ops_nil ?_
  refine then_n (k7 _ _ ?_)
  clear k7 K7
  refine W_seq_k fun K8 k8 => ?_
  refine W_if rfl (fun hc9_ => ?_) (fun hc9_ => ?_)
  ·
   replace h := h.1 hc9_
   refine W_skip ?_
   refine then_n (k8 _ _ ?_)
   clear k8 K8
   refine W_seq_k fun K10 k10 => ?_
   refine W_block ?_
   refine W_seq_k fun K11 k11 => ?_
   refine W_region [12, 4] rfl (Ops_step (R_move rfl) rfl rfl (Ops_step (R_assign rfl) rfl rfl ?_))
   refine Ops_nil ?_
   refine then_n (k11 _ _ ?_)
   clear k11 K11
   refine W_seq_k fun K12 k12 => ?_
   refine W_region [14, 15, 16, 13, 17, 18, 19, 5, 6, 7] rfl (Ops_step (R_move rfl) rfl rfl (Ops_step (R_move rfl) rfl rfl ?_))
   refine Ops_call (C_func bd18 rfl) rfl rfl ?_
   refine (journal_Journal_At_v1_ok (x1 := x10_6) hI.st (hg.up hI.le)  h).mono ?_
   rintro _ w13_ ⟨r13_0, A13_1, c13_1, r13_1, r13_2, L13_, H13_, rfl, hI13_, hc13_1, hs13_1, h⟩
   refine Exists.elim (hI.call hI13_ (by simp)) fun L130_ h13_ => ?_
   have hz13_ := hI.size
   replace hI := h13_.1
   have u13_ := h13_.2.1
   have hl13_ := h13_.2.2
   clear h13_
   replace hll3_ := hll3_.trans u13_.ll
   replace hhh3_ := hhh3_.trans u13_.hh
   replace ho3_6 := ho3_6.up u13_.ll u13_ (by simp)
   replace hll6_ := hll6_.trans u13_.ll
   replace hhh6_ := hhh6_.trans u13_.hh
   replace hs13_1 := hs13_1.up hl13_
   clear hI13_ u13_ hl13_
   refine ⟨_, rfl, ?_⟩
   refine Ops_step (R_move rfl) rfl rfl ?_
   refine Ops_step (R_extract (v := vi r13_0) rfl rfl) rfl rfl ?_
   refine Ops_step (R_extract (v := .slice A13_1 r13_1.length c13_1) rfl rfl) rfl rfl ?_
   refine Ops_step (R_extract (v := .bool r13_2) rfl rfl) rfl rfl ?_
   refine Ops_step (R_assign rfl) rfl rfl (Ops_step (R_assign rfl) rfl rfl (Ops_step (R_assign rfl) rfl rfl ?_))
   refine Ops_nil ?_
   refine then_n (k12 _ _ ?_)
   clear k12 K12
   refine W_keepB [0, 3, 5, 6, 9, 10] fun B_ b_ => ?_
   simp only [e_, Nat.reduceAdd, Nat.reduceBEq] at b_
   subst b_
   refine W_region [20, 21, 22, 23, 24, 25, 26, 3] rfl (Ops_step (R_move rfl) rfl rfl (Ops_step (R_move rfl) rfl rfl (Ops_step (R_move rfl) rfl rfl ?_)))
   refine Ops_step (X_bytesStr (bs := r13_1) Try.underlying29 Try.underlying5 Try.underlying9 rfl rfl ((hs13_1.up hI.sub).fz.rd hI.st)) rfl rfl ?_
   refine Ops_step (R_build (pl := [(0, 1), (1, 1)]) (cs := [vi r13_0, vs (Str.mk r13_1)]) zr39 pl39 rfl rfl rfl) rfl rfl ?_
   have hlo15_ho3_6 := ho3_6.lt
   refine Ops_to (R_buildSlice el36 zr39 (by decide) (by decide) rfl rfl) rfl rfl ?_
   rintro _ w15_ ⟨b15_, rfl, hb15_, hB15_, hF15_⟩
   have ho15_ : OwnS w.heap.size 39 L130_ H13_ _ (some ⟨b15_, 0, none⟩) 1 ([(sealskinref06_Record.mk r13_0 (Str.mk r13_1))] : List sealskinref06_Record) := OwnS.ofBlk (css := [[vi r13_0, vs (Str.mk r13_1)]]) hI.st hb15_ hB15_ (.cons rfl .nil) rfl (by have := hI.size; omega) (by show 1 ≤ maxLen; decide)
   replace hI := hI.fr0 hF15_
   replace ho3_6 := ho3_6.fr0 hF15_
   clear hF15_ hB15_
   have hsp15_ho3_6 : ∀ i ∈ bk (some ⟨b15_, 0, none⟩) 1, i ∉ bk A3_6 c3_6 := sep_new (fun i_ hi_ => by have := (bk_of hi_).1; simp only [blkOf, List.mem_singleton] at this; omega) hlo15_ho3_6
   have hk17_ := h.1
   replace h := h.2
   refine Ops_to (X_append (α := sealskinref06_Record) (xs := x3_6) (ys := ([(sealskinref06_Record.mk r13_0 (Str.mk r13_1))] : List sealskinref06_Record)) el36 rfl rfl ho3_6 (Srcs.ofOwn Try.underlying36 ho15_ (by decide)) hI.st hk17_ (by decide) hI.size) rfl rfl ?_
   rintro _ w16_ ⟨A16_, c16_, rfl, ho16_, hF16_, hbk16_⟩
   clear hbk16_
   replace hI := hI.tok hF16_ ho3_6.out (ho3_6.new (Nat.le_refl _))
   clear hF16_ ho3_6
   refine Ops_step (R_assign rfl) rfl rfl ?_
   refine Ops_nil ?_
   refine block_n ?_
   refine then_n (k10 _ _ ?_)
   clear k10 K10
   refine W_keepB [0, 3, 9, 10] fun B_ b_ => ?_
   simp only [e_, Nat.reduceAdd, Nat.reduceBEq] at b_
   subst b_
   refine W_region [27, 10] rfl ?_
   have hk19_ := h.1
   replace h := h.2
   refine Ops_step (R_add rfl rfl (wI hk19_.1 hk19_.2)) rfl rfl (Ops_step (R_move rfl) rfl rfl ?_)
   refine Ops_nil ?_
   refine then_n ?_
   exact h.elim fun m_ h => ⟨m_, _, h.1, rfl, ⟨(x3_6 ++ ([(sealskinref06_Record.mk r13_0 (Str.mk r13_1))] : List sealskinref06_Record)), A16_, c16_, (x10_6 + 1), _, _, rfl, h.2, hI, hll6_, hhh6_, ho16_, trivial⟩, ⟨rfl, rfl, trivial⟩⟩
  ·
   replace h := h.2 hc9_
   refine W_exit ?_
   refine then_exit ?_
   clear k8 K8
   refine then_exit ?_
   refine block_exit ?_
   refine then_n ?_
   exact ⟨_, rfl, ⟨x3_6, A3_6, c3_6, _, _, rfl, h, hI, hll3_, hhh3_, ho3_6, trivial⟩, trivial⟩
 ·
  simp only [e_, Nat.reduceAdd, Nat.reduceBEq] at b_
  subst b_
  clear h
  rintro _ w3_ ⟨x3_3, A3_3, c3_3, L3_, H3_, rfl, hJ3_, hI3_, hll3_, hhh3_, ho3_3, -⟩
  replace hI := hI3_
  clear hI3_
  have h := hr3_ x3_3 hJ3_
  clear hr3_ hJ3_
  refine W_seq_k fun K20 k20 => ?_
  refine W_region [28, 2] rfl (Ops_step (R_move rfl) rfl rfl (Ops_step (R_assign rfl) rfl rfl ?_))
  refine Ops_nil ?_
  refine then_n (k20 _ _ ?_)
  clear k20 K20
  refine W_ret ?_
  refine ⟨_, ⟨_, _, rfl, rfl, rfl⟩, ?_⟩
  exact ⟨A3_3, c3_3, x3_3, _, _, rfl, hI, ho3_3, h⟩

theorem sealskinref05_New_ok {G : Gh} {w : World} (hS : St G w) (hg : GL G) {x0 : Int} {Q0 : Int → Prop} {Q1 : Int → sealskinref05_Disk → Prop} (h : sealskinref05_New x0 Q0 Q1) : Calls Try.prog 25 #[vi x0] w fun e w2 => (∃ (r1 : Int) (L H : Gh), e = .returned (.tuple #[.pointer none, vi r1]) ∧ Inv [] G w L H w2 ∧ Q0 r1) ∨ (∃ (r1 : Int) (o0 : Nat) (y0 : sealskinref05_Disk) (Ay0_1 : Option Addr) (cy0_1 : Nat) (Ay0_2 : Option Addr) (cy0_2 : Nat) (Ay0_3 : Option Addr) (cy0_3 : Nat) (L H : Gh), e = .returned (.tuple #[.pointer (some ⟨o0, 0, none⟩), vi r1]) ∧ Inv [] G w L H w2 ∧ w.heap.size ≤ o0 ∧ Tok H w2 o0 81 ([.slice Ay0_1 y0.F_.e0_.length cy0_1, .slice Ay0_2 y0.F_.e1_.length cy0_2, .slice Ay0_3 y0.F_.e2_.length cy0_3, vi y0.Room_, .bool y0.Off_, vi y0.Fuse_]) ∧ y0.F_.e0_.length ≤ cy0_1 ∧ Sl H Ay0_1 y0.F_.e0_ ∧ y0.F_.e1_.length ≤ cy0_2 ∧ Sl H Ay0_2 y0.F_.e1_ ∧ y0.F_.e2_.length ≤ cy0_3 ∧ Sl H Ay0_3 y0.F_.e2_ ∧ Q1 r1 y0) := by
 unfold sealskinref05_New at h
 have hI := Inv.start (M := []) hS
 refine calls_W 13 Try.func25 rfl Try.ntmps25 rfl [.tmp 2, .tmp 3] rfl ?_
 refine W_seq_k fun K1 k1 => ?_
 refine W_region [2, 3] rfl (Ops_step (R_assign rfl) rfl rfl (Ops_step (R_assign rfl) rfl rfl ?_))
 refine Ops_nil ?_
 refine then_n (k1 _ _ ?_)
 clear k1 K1
 refine W_seq_k fun K2 k2 => ?_
 refine ex_ h fun J3_ hr3_ h => ?_
 refine W_seq_join [0] [9] (fun vals_ w2 => ∃ (x9_3 : Bool) (L H : Gh), vals_ = [.bool x9_3] ∧ J3_ x9_3 ∧ Inv [] G w L H w2 ∧ Le Gh.no L ∧ Le G H ∧ True) (fun B_ b_ => ?_) (fun B_ b_ => ?_)
 ·
  simp only [e_, Nat.reduceAdd, Nat.reduceBEq] at b_
  subst b_
  clear hr3_
  have hll3_ := Le.refl Gh.no
  have hhh3_ := Le.refl G
  refine W_region [4, 5, 6, 7, 8, 9] rfl (Ops_step (R_move rfl) rfl rfl (Ops_step (R_lss rfl rfl) rfl rfl (Ops_step (R_move rfl) rfl rfl ?_)))
  refine Ops_split 6 rfl (fun hg4_ => ?_) (fun hg4_ => ?_)
  ·
   replace h := h.1 hg4_
   refine Ops_pass rfl rfl (Ops_pass rfl rfl (Ops_step (R_pick_true rfl rfl) rfl rfl ?_))
   refine Ops_nil ?_
   refine then_n ?_
   exact ⟨_, rfl, ⟨true, _, _, rfl, h, hI, hll3_, hhh3_, trivial⟩, ⟨rfl, trivial⟩⟩
  ·
   replace h := h.2 hg4_
   refine Ops_step (R_move rfl) rfl rfl (Ops_step (R_gtr rfl rfl) rfl rfl (Ops_step (R_pick_false rfl rfl) rfl rfl ?_))
   refine Ops_nil ?_
   refine then_n ?_
   exact ⟨_, rfl, ⟨(decide (x0 > 16777216)), _, _, rfl, h, hI, hll3_, hhh3_, trivial⟩, ⟨rfl, trivial⟩⟩
 ·
  simp only [e_, Nat.reduceAdd, Nat.reduceBEq] at b_
  subst b_
  clear h
  rintro _ w3_ ⟨x9_3, L3_, H3_, rfl, hJ3_, hI3_, hll3_, hhh3_, -⟩
  replace hI := hI3_
  clear hI3_
  have h := hr3_ x9_3 hJ3_
  clear hr3_ hJ3_
  refine W_cond rfl (fun hc5_ => ?_) (fun hc5_ => ?_)
  ·
   replace h := h.1 hc5_
   refine W_seq_k fun K6 k6 => ?_
   refine W_region [2, 3] rfl (Ops_step (R_assign rfl) rfl rfl (Ops_step (R_assign rfl) rfl rfl ?_))
   refine Ops_nil ?_
   refine then_n (k6 _ _ ?_)
   clear k6 K6
   refine W_ret ?_
   refine then_ret ?_
   clear k2 K2
   refine ⟨_, ⟨_, _, rfl, rfl, ⟨_, _, rfl, rfl, rfl⟩⟩, ?_⟩
   exact .inl ⟨1, _, _, rfl, hI, h⟩
  ·
   replace h := h.2 hc5_
   refine W_skip ?_
   refine then_n (k2 _ _ ?_)
   clear k2 K2
   refine W_seq_k fun K7 k7 => ?_
   refine W_region [10, 11, 12, 2, 3] rfl (Ops_step (R_move rfl) rfl rfl ?_)
   refine Ops_step (R_build (pl := [(3, 1)]) (cs := [.slice none 0 0, .slice none 0 0, .slice none 0 0, vi x0, .bool false, vi 0]) zr81 pl81 rfl rfl rfl) rfl rfl ?_
   have hI0_ := hI
   refine Ops_to (R_box rfl) rfl rfl ?_
   rintro _ w8_ ⟨b8_, rfl, hb8_, hB8_, hF8_⟩
   replace hI := hI.fr0 hF8_
   have ht8_ : Tok H3_ _ b8_ 81 ([.slice none 0 0, .slice none 0 0, .slice none 0 0, vi x0, .bool false, vi 0]) := ⟨hB8_.to rfl, Out.ge hI0_.st (Nat.le_of_eq hb8_.symm)⟩
   have hge_b8_ : w.heap.size ≤ b8_ := hb8_ ▸ hI0_.size
   clear hB8_ hb8_ hI0_ hF8_
   refine Ops_step (R_assign rfl) rfl rfl (Ops_step (R_assign rfl) rfl rfl ?_)
   refine Ops_nil ?_
   refine then_n (k7 _ _ ?_)
   clear k7 K7
   refine W_ret ?_
   refine ⟨_, ⟨_, _, rfl, rfl, ⟨_, _, rfl, rfl, rfl⟩⟩, ?_⟩
   exact .inr ⟨0, b8_, (sealskinref05_Disk.mk (arr3_List_UInt8.mk [] [] []) x0 false 0), none, 0, none, 0, none, 0, _, _, rfl, hI, hge_b8_, ht8_, (Nat.le_refl 0), Sl.nil, (Nat.le_refl 0), Sl.nil, (Nat.le_refl 0), Sl.nil, h⟩

theorem sealskinref05_Disk_may_ok {G : Gh} {w : World} (hS : St G w) (hg : GL G) {d0 : Nat} {z0 : sealskinref05_Disk} {Ad0_1 : Option Addr} {cd0_1 : Nat} {Ad0_2 : Option Addr} {cd0_2 : Nat} {Ad0_3 : Option Addr} {cd0_3 : Nat} (htd0 : Tok G w d0 81 ([.slice Ad0_1 z0.F_.e0_.length cd0_1, .slice Ad0_2 z0.F_.e1_.length cd0_2, .slice Ad0_3 z0.F_.e2_.length cd0_3, vi z0.Room_, .bool z0.Off_, vi z0.Fuse_])) (hcd0_1 : z0.F_.e0_.length ≤ cd0_1) (hsd0_1 : Sl G Ad0_1 z0.F_.e0_) (hcd0_2 : z0.F_.e1_.length ≤ cd0_2) (hsd0_2 : Sl G Ad0_2 z0.F_.e1_) (hcd0_3 : z0.F_.e2_.length ≤ cd0_3) (hsd0_3 : Sl G Ad0_3 z0.F_.e2_) {x1 : Int} {Q : Int → Prop} (h : sealskinref05_Disk_may z0 x1 Q) : Calls Try.prog 52 #[.pointer (some ⟨d0, 0, none⟩), vi x1] w fun e w2 => ∃ (r0 : Int) (L H : Gh), e = .returned (vi r0) ∧ Inv [] G w L H w2 ∧ Q r0 := by
 unfold sealskinref05_Disk_may at h
 have hI := Inv.start (M := []) hS
 refine calls_W 15 Try.func52 rfl Try.ntmps52 rfl [.tmp 4] rfl ?_
 have hlt_d0 := htd0.blk.lt
 refine W_seq_k fun K1 k1 => ?_
 refine W_region [4] rfl (Ops_step (R_assign rfl) rfl rfl ?_)
 refine Ops_nil ?_
 refine then_n (k1 _ _ ?_)
 clear k1 K1
 refine W_seq_k fun K2 k2 => ?_
 refine W_seq_k fun K3 k3 => ?_
 refine W_region [5, 6, 7, 8] rfl (Ops_step (R_move rfl) rfl rfl (Ops_step (R_nilCheck rfl) rfl rfl (Ops_step (R_fieldAddr fo81_2 rfl) rfl rfl ?_)))
 refine Ops_step (R_loadB (v := .bool z0.Off_) ag4 rfl htd0.blk rfl) rfl rfl ?_
 refine Ops_nil ?_
 refine then_n (k3 _ _ ?_)
 clear k3 K3
 refine W_cond rfl (fun hc4_ => ?_) (fun hc4_ => ?_)
 ·
  replace h := h.1 hc4_
  refine W_seq_k fun K5 k5 => ?_
  refine W_region [4] rfl (Ops_step (R_assign rfl) rfl rfl ?_)
  refine Ops_nil ?_
  refine then_n (k5 _ _ ?_)
  clear k5 K5
  refine W_keepB [4] fun B_ b_ => ?_
  simp only [e_, Nat.reduceAdd, Nat.reduceBEq] at b_
  subst b_
  refine W_ret ?_
  refine then_ret ?_
  clear k2 K2
  refine ⟨_, ⟨_, _, rfl, rfl, rfl⟩, ?_⟩
  exact ⟨50, _, _, rfl, hI, h⟩
 ·
  replace h := h.2 hc4_
  refine W_skip ?_
  refine then_n (k2 _ _ ?_)
  clear k2 K2
  refine W_keepB [1] fun B_ b_ => ?_
  simp only [e_, Nat.reduceAdd, Nat.reduceBEq] at b_
  subst b_
  refine W_seq_k fun K8 k8 => ?_
  refine ex_ h fun J9_ hr9_ h => ?_
  refine W_seq_join [] [14] (fun vals_ w2 => ∃ (x14_9 : Bool) (L H : Gh), vals_ = [.bool x14_9] ∧ J9_ x14_9 ∧ Inv [] G w L H w2 ∧ Le Gh.no L ∧ Le G H ∧ Tok H w2 d0 81 ([.slice Ad0_1 z0.F_.e0_.length cd0_1, .slice Ad0_2 z0.F_.e1_.length cd0_2, .slice Ad0_3 z0.F_.e2_.length cd0_3, vi z0.Room_, .bool z0.Off_, vi z0.Fuse_]) ∧ True) (fun B_ b_ => ?_) (fun B_ b_ => ?_)
  ·
   simp only [e_, Nat.reduceAdd, Nat.reduceBEq] at b_
   subst b_
   clear hr9_
   have hll9_ := Le.refl Gh.no
   have hhh9_ := Le.refl G
   refine W_region [9, 10, 11, 12, 13, 14] rfl (Ops_step (R_move rfl) rfl rfl (Ops_step (R_lss rfl rfl) rfl rfl (Ops_step (R_move rfl) rfl rfl ?_)))
   refine Ops_split 11 rfl (fun hg10_ => ?_) (fun hg10_ => ?_)
   ·
    replace h := h.1 hg10_
    refine Ops_pass rfl rfl (Ops_pass rfl rfl (Ops_step (R_pick_true rfl rfl) rfl rfl ?_))
    refine Ops_nil ?_
    refine then_n ?_
    exact ⟨_, rfl, ⟨true, _, _, rfl, h, hI, hll9_, hhh9_, htd0, trivial⟩, trivial⟩
   ·
    replace h := h.2 hg10_
    refine Ops_step (R_move rfl) rfl rfl (Ops_step (R_gtr rfl rfl) rfl rfl (Ops_step (R_pick_false rfl rfl) rfl rfl ?_))
    refine Ops_nil ?_
    refine then_n ?_
    exact ⟨_, rfl, ⟨(decide (x1 > 2)), _, _, rfl, h, hI, hll9_, hhh9_, htd0, trivial⟩, trivial⟩
  ·
   simp only [e_, Nat.reduceAdd, Nat.reduceBEq] at b_
   subst b_
   clear h
   clear htd0
   rintro _ w9_ ⟨x14_9, L9_, H9_, rfl, hJ9_, hI9_, hll9_, hhh9_, htd0, -⟩
   replace hI := hI9_
   clear hI9_
   have h := hr9_ x14_9 hJ9_
   clear hr9_ hJ9_
   replace hsd0_1 := hsd0_1.up hhh9_
   replace hsd0_2 := hsd0_2.up hhh9_
   replace hsd0_3 := hsd0_3.up hhh9_
   refine W_cond rfl (fun hc11_ => ?_) (fun hc11_ => ?_)
   ·
    replace h := h.1 hc11_
    refine W_seq_k fun K12 k12 => ?_
    refine W_region [4] rfl (Ops_step (R_assign rfl) rfl rfl ?_)
    refine Ops_nil ?_
    refine then_n (k12 _ _ ?_)
    clear k12 K12
    refine W_ret ?_
    refine then_ret ?_
    clear k8 K8
    refine ⟨_, ⟨_, _, rfl, rfl, rfl⟩, ?_⟩
    exact ⟨51, _, _, rfl, hI, h⟩
   ·
    replace h := h.2 hc11_
    refine W_skip ?_
    refine then_n (k8 _ _ ?_)
    clear k8 K8
    refine W_seq_k fun K13 k13 => ?_
    refine W_region [4] rfl (Ops_step (R_assign rfl) rfl rfl ?_)
    refine Ops_nil ?_
    refine then_n (k13 _ _ ?_)
    clear k13 K13
    refine W_ret ?_
    refine ⟨_, ⟨_, _, rfl, rfl, rfl⟩, ?_⟩
    exact ⟨0, _, _, rfl, hI, h⟩

theorem sealskinref05_Disk_Used_ok {G : Gh} {w : World} (hS : St G w) (hg : GL G) {d0 : Nat} {z0 : sealskinref05_Disk} {Ad0_1 : Option Addr} {cd0_1 : Nat} {Ad0_2 : Option Addr} {cd0_2 : Nat} {Ad0_3 : Option Addr} {cd0_3 : Nat} (htd0 : Tok G w d0 81 ([.slice Ad0_1 z0.F_.e0_.length cd0_1, .slice Ad0_2 z0.F_.e1_.length cd0_2, .slice Ad0_3 z0.F_.e2_.length cd0_3, vi z0.Room_, .bool z0.Off_, vi z0.Fuse_])) (hcd0_1 : z0.F_.e0_.length ≤ cd0_1) (hsd0_1 : Sl G Ad0_1 z0.F_.e0_) (hcd0_2 : z0.F_.e1_.length ≤ cd0_2) (hsd0_2 : Sl G Ad0_2 z0.F_.e1_) (hcd0_3 : z0.F_.e2_.length ≤ cd0_3) (hsd0_3 : Sl G Ad0_3 z0.F_.e2_) {Q : Int → Prop} (h : sealskinref05_Disk_Used z0 Q) : Calls Try.prog 53 #[.pointer (some ⟨d0, 0, none⟩)] w fun e w2 => ∃ (r0 : Int) (L H : Gh), e = .returned (vi r0) ∧ Inv [] G w L H w2 ∧ Q r0 := by
 unfold sealskinref05_Disk_Used at h
 have hI := Inv.start (M := []) hS
 refine calls_W 23 Try.func53 rfl Try.ntmps53 rfl [.tmp 2] rfl ?_
 have hlt_d0 := htd0.blk.lt
 refine W_seq_k fun K1 k1 => ?_
 refine W_region [2] rfl (Ops_step (R_assign rfl) rfl rfl ?_)
 refine Ops_nil ?_
 refine then_n (k1 _ _ ?_)
 clear k1 K1
 refine W_seq_k fun K2 k2 => ?_
 refine W_drawF [3, 4, 5, 6, 7, 8, 9, 10, 11, 12, 13, 14, 15, 16, 17, 18, 19, 20, 21, 22, 2] [(0, true), (1, true), (2, true), (3, true), (4, true), (5, true), (6, true), (7, true), (8, true), (9, true), (10, true), (11, true), (12, true), (13, true), (14, true), (15, true), (16, true), (17, true), (18, true), (19, true), (20, true)] TJtF.hm rfl (by kernel_rfl) fun ops3_ w3_ hops3_ hF3_ => ?_
 replace hI := hI.fr0 hF3_
 replace htd0 := htd0.fr0 hF3_
 clear hF3_
 refine HSp (R_move rfl) rfl rfl (HSp (R_nilCheck rfl) rfl rfl (HSp (R_fieldAddr fo81_0 rfl) rfl rfl (HSp (R_indexArrK Try.underlying51 sz29 rfl rfl rfl (by decide)) rfl rfl ?_)))
 refine HS_loadB (v := .slice Ad0_1 z0.F_.e0_.length cd0_1) ag29 rfl htd0.blk rfl rfl rfl ?_
 refine HSp (R_len Try.underlying29 rfl rfl) rfl rfl (HSp (R_move rfl) rfl rfl (HSp (R_nilCheck rfl) rfl rfl (HSp (R_fieldAddr fo81_0 rfl) rfl rfl (HSp (R_indexArrK Try.underlying51 sz29 rfl rfl rfl (by decide)) rfl rfl ?_))))
 refine HS_loadB (v := .slice Ad0_2 z0.F_.e1_.length cd0_2) ag29 rfl htd0.blk rfl rfl rfl ?_
 refine HSp (R_len Try.underlying29 rfl rfl) rfl rfl ?_
 have hk4_ := h.1
 replace h := h.2
 refine HSp (R_add rfl rfl (wI hk4_.1 hk4_.2)) rfl rfl (HSp (R_move rfl) rfl rfl (HSp (R_nilCheck rfl) rfl rfl (HSp (R_fieldAddr fo81_0 rfl) rfl rfl (HSp (R_indexArrK Try.underlying51 sz29 rfl rfl rfl (by decide)) rfl rfl ?_))))
 refine HS_loadB (v := .slice Ad0_3 z0.F_.e2_.length cd0_3) ag29 rfl htd0.blk rfl rfl rfl ?_
 refine HSp (R_len Try.underlying29 rfl rfl) rfl rfl ?_
 have hk5_ := h.1
 replace h := h.2
 refine HSp (R_add rfl rfl (wI hk5_.1 hk5_.2)) rfl rfl (HSp (R_assign rfl) rfl rfl ?_)
 refine HS_nil ?_
 clear hops3_
 refine then_n (k2 _ _ ?_)
 clear k2 K2
 refine W_keepB [2] fun B_ b_ => ?_
 simp only [e_, Nat.reduceAdd, Nat.reduceBEq] at b_
 subst b_
 refine W_ret ?_
 refine ⟨_, ⟨_, _, rfl, rfl, rfl⟩, ?_⟩
 exact ⟨(((z0.F_.e0_.length : Int) + (z0.F_.e1_.length : Int)) + (z0.F_.e2_.length : Int)), _, _, rfl, hI, h⟩

theorem sealskinref05_Disk_burn_ok {G : Gh} {w : World} (hS : St G w) (hg : GL G) {d0 : Nat} {z0 : sealskinref05_Disk} {Ad0_1 : Option Addr} {cd0_1 : Nat} {Ad0_2 : Option Addr} {cd0_2 : Nat} {Ad0_3 : Option Addr} {cd0_3 : Nat} (htd0 : Tok G w d0 81 ([.slice Ad0_1 z0.F_.e0_.length cd0_1, .slice Ad0_2 z0.F_.e1_.length cd0_2, .slice Ad0_3 z0.F_.e2_.length cd0_3, vi z0.Room_, .bool z0.Off_, vi z0.Fuse_])) (hcd0_1 : z0.F_.e0_.length ≤ cd0_1) (hsd0_1 : Sl G Ad0_1 z0.F_.e0_) (hcd0_2 : z0.F_.e1_.length ≤ cd0_2) (hsd0_2 : Sl G Ad0_2 z0.F_.e1_) (hcd0_3 : z0.F_.e2_.length ≤ cd0_3) (hsd0_3 : Sl G Ad0_3 z0.F_.e2_) {Q : sealskinref05_Disk → Prop} (h : sealskinref05_Disk_burn z0 Q) : Calls Try.prog 54 #[.pointer (some ⟨d0, 0, none⟩)] w fun e w2 => ∃ (y0 : sealskinref05_Disk) (Ay0_1 : Option Addr) (cy0_1 : Nat) (Ay0_2 : Option Addr) (cy0_2 : Nat) (Ay0_3 : Option Addr) (cy0_3 : Nat) (L H : Gh), e = .returned (.tuple #[]) ∧ Inv [d0] G w L H w2 ∧ Tok H w2 d0 81 ([.slice Ay0_1 y0.F_.e0_.length cy0_1, .slice Ay0_2 y0.F_.e1_.length cy0_2, .slice Ay0_3 y0.F_.e2_.length cy0_3, vi y0.Room_, .bool y0.Off_, vi y0.Fuse_]) ∧ y0.F_.e0_.length ≤ cy0_1 ∧ Sl H Ay0_1 y0.F_.e0_ ∧ y0.F_.e1_.length ≤ cy0_2 ∧ Sl H Ay0_2 y0.F_.e1_ ∧ y0.F_.e2_.length ≤ cy0_3 ∧ Sl H Ay0_3 y0.F_.e2_ ∧ Q y0 := by
 unfold sealskinref05_Disk_burn at h
 have hI := Inv.start (M := [d0]) hS
 refine calls_W 22 Try.func54 rfl Try.ntmps54 rfl [] rfl ?_
 have hlt_d0 := htd0.blk.lt
 refine W_seq_k fun K1 k1 => ?_
 refine W_seq_k fun K2 k2 => ?_
 refine W_region [2, 3, 4, 5, 6] rfl (Ops_step (R_move rfl) rfl rfl (Ops_step (R_nilCheck rfl) rfl rfl (Ops_step (R_fieldAddr fo81_3 rfl) rfl rfl ?_)))
 refine Ops_step (R_loadB (v := vi z0.Fuse_) ag3 rfl htd0.blk rfl) rfl rfl ?_
 refine Ops_step (R_eql rfl rfl) rfl rfl ?_
 refine Ops_nil ?_
 refine then_n (k2 _ _ ?_)
 clear k2 K2
 refine W_if rfl (fun hc3_ => ?_) (fun hc3_ => ?_)
 ·
  replace h := h.1 hc3_
  refine W_ret ?_
  refine then_ret ?_
  clear k1 K1
  refine ⟨_, rfl, ?_⟩
  exact ⟨z0, Ad0_1, cd0_1, Ad0_2, cd0_2, Ad0_3, cd0_3, _, _, rfl, hI, htd0, hcd0_1, hsd0_1, hcd0_2, hsd0_2, hcd0_3, hsd0_3, h⟩
 ·
  replace h := h.2 hc3_
  refine W_skip ?_
  refine then_n (k1 _ _ ?_)
  clear k1 K1
  refine W_seq_k fun K4 k4 => ?_
  refine W_region [7, 8, 9, 10, 11, 12, 13, none] rfl (Ops_step (R_move rfl) rfl rfl (Ops_step (R_nilCheck rfl) rfl rfl (Ops_step (R_fieldAddr fo81_3 rfl) rfl rfl ?_)))
  refine Ops_step (R_loadB (v := vi z0.Fuse_) ag3 rfl htd0.blk rfl) rfl rfl ?_
  have hk5_ := h.1
  replace h := h.2
  refine Ops_step (R_sub rfl rfl (wI hk5_.1 hk5_.2)) rfl rfl (Ops_step (R_nilCheck rfl) rfl rfl (Ops_step (R_fieldAddr fo81_3 rfl) rfl rfl ?_))
  refine Ops_to0 (R_store sz3 rfl rfl htd0.blk (by show 5 < 6; decide) rfl) rfl ?_
  rintro _ w6_ ⟨hB6_, hF6_⟩
  replace hI := hI.tok hF6_ (out1 htd0.out) (mem1 (by simp))
  replace htd0 : Tok G _ d0 81 ([.slice Ad0_1 z0.F_.e0_.length cd0_1, .slice Ad0_2 z0.F_.e1_.length cd0_2, .slice Ad0_3 z0.F_.e2_.length cd0_3, vi z0.Room_, .bool z0.Off_, vi (z0.Fuse_ - 1)]) := ⟨hB6_, htd0.out⟩
  clear hF6_ hB6_
  refine Ops_nil ?_
  refine then_n (k4 _ _ ?_)
  clear k4 K4
  refine W_keepB [0] fun B_ b_ => ?_
  simp only [e_, Nat.reduceAdd, Nat.reduceBEq] at b_
  subst b_
  refine W_seq_k fun K8 k8 => ?_
  refine W_region [14, 15, 16, 17, 18] rfl (Ops_step (R_move rfl) rfl rfl (Ops_step (R_nilCheck rfl) rfl rfl (Ops_step (R_fieldAddr fo81_3 rfl) rfl rfl ?_)))
  refine Ops_step (R_loadB (v := vi (z0.Fuse_ - 1)) ag3 rfl htd0.blk rfl) rfl rfl ?_
  refine Ops_step (R_eql rfl rfl) rfl rfl ?_
  refine Ops_nil ?_
  refine then_n (k8 _ _ ?_)
  clear k8 K8
  refine W_if rfl (fun hc9_ => ?_) (fun hc9_ => ?_)
  ·
   replace h := h.1 hc9_
   refine W_region [19, 20, 21, none] rfl (Ops_step (R_move rfl) rfl rfl (Ops_step (R_nilCheck rfl) rfl rfl (Ops_step (R_fieldAddr fo81_2 rfl) rfl rfl ?_)))
   refine Ops_to0 (R_store sz4 rfl rfl htd0.blk (by show 4 < 6; decide) rfl) rfl ?_
   rintro _ w10_ ⟨hB10_, hF10_⟩
   replace hI := hI.tok hF10_ (out1 htd0.out) (mem1 (by simp))
   replace htd0 : Tok G _ d0 81 ([.slice Ad0_1 z0.F_.e0_.length cd0_1, .slice Ad0_2 z0.F_.e1_.length cd0_2, .slice Ad0_3 z0.F_.e2_.length cd0_3, vi z0.Room_, .bool true, vi (z0.Fuse_ - 1)]) := ⟨hB10_, htd0.out⟩
   clear hF10_ hB10_
   refine Ops_nil ?_
   refine ⟨_, rfl, ?_⟩
   exact ⟨(sealskinref05_Disk.mk z0.F_ z0.Room_ true (z0.Fuse_ - 1)), Ad0_1, cd0_1, Ad0_2, cd0_2, Ad0_3, cd0_3, _, _, rfl, hI, htd0, hcd0_1, hsd0_1, hcd0_2, hsd0_2, hcd0_3, hsd0_3, h⟩
  ·
   replace h := h.2 hc9_
   refine W_skip ?_
   refine ⟨_, rfl, ?_⟩
   exact ⟨(sealskinref05_Disk.mk z0.F_ z0.Room_ z0.Off_ (z0.Fuse_ - 1)), Ad0_1, cd0_1, Ad0_2, cd0_2, Ad0_3, cd0_3, _, _, rfl, hI, htd0, hcd0_1, hsd0_1, hcd0_2, hsd0_2, hcd0_3, hsd0_3, h⟩

end Go.Proofs.Ytkmljjhjojolcaa

