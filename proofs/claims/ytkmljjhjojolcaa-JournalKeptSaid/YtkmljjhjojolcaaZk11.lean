/- What is shown of the program on the way to the law. -/
import Derived.Test.YtkmljjhjojolcaaZk3
import Derived.Test.YtkmljjhjojolcaaZk4
import Derived.Test.YtkmljjhjojolcaaZk5
import Derived.Test.YtkmljjhjojolcaaZk10
import Derived.Test.YtkmljjhjojolcaaProg
set_option linter.unusedVariables false
set_option linter.unusedSimpArgs false
set_option maxHeartbeats 4000000
namespace Go.Proofs.Ytkmljjhjojolcaa
open Go Go.Sx Go.Lx
namespace TJtF
theorem hm : Try.prog.follows .mixedOrders = true := by kernel_rfl
theorem ag29 : aggB Try.prog 29 = some false := by kernel_rfl
theorem ag3 : aggB Try.prog 3 = some false := by kernel_rfl
theorem ag39 : aggB Try.prog 39 = some true := by kernel_rfl
theorem ag4 : aggB Try.prog 4 = some false := by kernel_rfl
theorem ag9 : aggB Try.prog 9 = some false := by kernel_rfl
theorem bd18 : bodied Try.prog 18 = true := by kernel_rfl
theorem bd19 : bodied Try.prog 19 = true := by kernel_rfl
theorem bd32 : bodied Try.prog 32 = true := by kernel_rfl
theorem bd39 : bodied Try.prog 39 = true := by kernel_rfl
theorem bd48 : bodied Try.prog 48 = true := by kernel_rfl
theorem el36 : Elem Try.prog 36 39 2 24 := Elem.of (by kernel_rfl)
theorem fd39 : fldsB Try.prog 39 = some [(true, 0, 3), (true, 1, 9)] := by kernel_rfl
theorem fo53_3 : offB Try.prog 53 3 = some 5 := by kernel_rfl
theorem fo53_4 : offB Try.prog 53 4 = some 6 := by kernel_rfl
theorem pl39 : partPl Try.prog 39 = some [(0, 1), (1, 1)] := by kernel_rfl
theorem pl85 : partPl Try.prog 85 = some [(0, 1), (1, 1)] := by kernel_rfl
theorem sz29 : sz Try.prog 29 = some 1 := by kernel_rfl
theorem sz3 : sz Try.prog 3 = some 1 := by kernel_rfl
theorem sz39 : sz Try.prog 39 = some 2 := by kernel_rfl
theorem sz4 : sz Try.prog 4 = some 1 := by kernel_rfl
theorem sz85 : sz Try.prog 85 = some 2 := by kernel_rfl
theorem zr39 : zr Try.prog 39 = some ([.int .i64 0] ++ [.string ByteArray.empty]) := by kernel_rfl
theorem zr53 : zr Try.prog 53 = some (List.replicate 3 (.slice none 0 0) ++ [.int .i64 0] ++ [.bool false] ++ [.bool false] ++ [.int .i64 0]) := by kernel_rfl
theorem zr85 : zr Try.prog 85 = some ([.int .i64 0] ++ [.slice none 0 0]) := by kernel_rfl
end TJtF
open TJtF
theorem slices_Equal_sealskinref06_Record_sealskinref06_Record_ok {G : Gh} {w : World} (hS : St G w) (hg : GL G) {A0 : Option Addr} {c0 : Nat} {x0 : List sealskinref06_Record} (hc0 : x0.length ≤ c0) (hs0 : Sl G A0 x0) {A1 : Option Addr} {c1 : Nat} {x1 : List sealskinref06_Record} (hc1 : x1.length ≤ c1) (hs1 : Sl G A1 x1) {Q : Bool → Prop} (h : slices_Equal_sealskinref06_Record_sealskinref06_Record x0 x1 Q) : Calls Try.prog 23 #[.slice A0 x0.length c0, .slice A1 x1.length c1] w fun e w2 => ∃ (r0 : Bool) (L H : Gh), e = .returned (.bool r0) ∧ Inv [] G w L H w2 ∧ Q r0 := by
 unfold slices_Equal_sealskinref06_Record_sealskinref06_Record at h
 have hI := Inv.start (M := []) hS
 refine calls_W 26 Try.func23 rfl Try.ntmps23 rfl [.tmp 4] rfl ?_
 refine W_seq_k fun K1 k1 => ?_
 refine W_region [4] rfl (Ops_step (R_assign rfl) rfl rfl ?_)
 refine Ops_nil ?_
 refine then_n (k1 _ _ ?_)
 clear k1 K1
 refine W_seq_k fun K2 k2 => ?_
 refine W_seq_k fun K3 k3 => ?_
 refine W_region [6, 7, 8, 9, 10] rfl (Ops_step (R_move rfl) rfl rfl (Ops_step (R_len Try.underlying36 rfl rfl) rfl rfl (Ops_step (R_move rfl) rfl rfl (Ops_step (R_len Try.underlying36 rfl rfl) rfl rfl ?_))))
 refine Ops_step (R_neq rfl rfl) rfl rfl ?_
 refine Ops_nil ?_
 refine then_n (k3 _ _ ?_)
 clear k3 K3
 refine W_if rfl (fun hc4_ => ?_) (fun hc4_ => ?_)
 ·
  replace h := h.1 hc4_
  refine W_seq_k fun K5 k5 => ?_
  refine W_region [4] rfl (Ops_step (R_assign rfl) rfl rfl ?_)
  refine Ops_nil ?_
  refine then_n (k5 _ _ ?_)
  clear k5 K5
  refine W_keepB [4] fun B_ b_ => ?_
  simp only [e_, Nat.reduceAdd, Nat.reduceBEq] at b_
  subst b_
  refine W_ret ?_
  refine then_ret ?_
  clear k2 K2
  refine ⟨_, ⟨_, _, rfl, rfl, rfl⟩, ?_⟩
  exact ⟨false, _, _, rfl, hI, h⟩
 ·
  replace h := h.2 hc4_
  refine W_skip ?_
  refine then_n (k2 _ _ ?_)
  clear k2 K2
  refine W_keepB [0, 1] fun B_ b_ => ?_
  simp only [e_, Nat.reduceAdd, Nat.reduceBEq] at b_
  subst b_
  refine ex_ h fun J8_ hr8_ h => ?_
  refine W_seq_join [] [] (fun vals_ w2 => ∃  (L H : Gh), vals_ = [] ∧ J8_ ∧ Inv [] G w L H w2 ∧ Le Gh.no L ∧ Le G H ∧ True) (fun B_ b_ => ?_) (fun B_ b_ => ?_)
  ·
   simp only [e_, Nat.reduceAdd, Nat.reduceBEq] at b_
   subst b_
   clear hr8_
   have hll8_ := Le.refl Gh.no
   have hhh8_ := Le.refl G
   refine W_seq_k fun K9 k9 => ?_
   refine W_region [11, 12, 13] rfl (Ops_step (R_move rfl) rfl rfl (Ops_step (R_len Try.underlying36 rfl rfl) rfl rfl (Ops_step (R_move rfl) rfl rfl ?_)))
   refine Ops_nil ?_
   refine then_n (k9 _ _ ?_)
   clear k9 K9
   refine W_block ?_
   refine Exists.elim h fun I10_ h => Exists.elim h fun n10_ h => ?_
   have h0_ := h.1
   have hs10_ := h.2
   clear h
   refine W_loopB [0, 1, 12] [13] (fun m vals_ w2 => ∃ (x13_10 : Int) (L H : Gh), vals_ = [vi x13_10] ∧ I10_ m x13_10 ∧ Inv [] G w L H w2 ∧ Le Gh.no L ∧ Le G H ∧ True) n10_ _ rfl ⟨0, _, _, rfl, h0_, hI, Le.refl _, Le.refl _, trivial⟩ fun B_ b_ => ?_
   clear h0_
   simp only [e_, Nat.reduceAdd, Nat.reduceBEq] at b_
   subst b_
   rintro m10_ _ w10_ ⟨x13_10, L10_, H10_, rfl, hJ10_, hI10_, hll10_, hhh10_, -⟩
   replace hI := hI10_
   clear hI10_
   have h := hs10_ m10_ x13_10 hJ10_
   clear hs10_ hJ10_
   replace hs0 := hs0.up hhh10_
   replace hs1 := hs1.up hhh10_
   replace hll8_ := hll8_.trans hll10_
   replace hhh8_ := hhh8_.trans hhh10_
   refine W_seq_k fun K11 k11 => ?_
   refine W_region [14] rfl (Ops_step (R_lss rfl rfl) rfl rfl ?_)
   refine Ops_nil ?_
   refine then_n (k11 _ _ ?_)
   clear k11 K11
   refine W_seq_k fun K12 k12 => ?_
   refine W_if rfl (fun hc13_ => ?_) (fun hc13_ => ?_)
   ·
    replace h := h.1 hc13_
    refine W_skip ?_
    refine then_n (k12 _ _ ?_)
    clear k12 K12
    refine W_seq_k fun K14 k14 => ?_
    refine W_block ?_
    refine W_seq_k fun K15 k15 => ?_
    refine W_region [15, 5] rfl (Ops_step (R_move rfl) rfl rfl (Ops_step (R_assign rfl) rfl rfl ?_))
    refine Ops_nil ?_
    refine then_n (k15 _ _ ?_)
    clear k15 K15
    refine W_seq_k fun K16 k16 => ?_
    refine W_drawF [16, 17, 18, 19, 20, 21, 22, 23, 24] [(0, true), (1, true), (2, true), (3, true), (4, true), (5, true), (6, true), (7, true), (8, true)] TJtF.hm rfl (by kernel_rfl) fun ops17_ w17_ hops17_ hF17_ => ?_
    replace hI := hI.fr0 hF17_
    clear hF17_
    refine HSp (R_move rfl) rfl rfl (HSp (R_move rfl) rfl rfl ?_)
    refine ex_ h fun x18_ hx18_ h => ?_
    have ha18_ := (Sl.atN (n := 2) rfl (by decide) hs0 hx18_).1
    refine Exists.elim (Sl.atN (n := 2) rfl (by decide) hs0 hx18_).2 fun l18_ hA18_ => ?_
    have hr18_ := hA18_.1
    have hg18_ := hA18_.2
    clear hA18_
    refine HSp (R_indexSl Try.underlying36 sz39 rfl rfl hx18_.1 hx18_.lt ha18_) rfl rfl ?_
    replace hr18_ : l18_ = [vi x18_.Label_, vs x18_.Data_] := hr18_
    subst hr18_
    refine HS_loadCs (cs := [vi x18_.Label_, vs x18_.Data_]) ag39 sz39 rfl (fun j_ v_ hv_ => hI.st _ _ (hg18_ j_ v_ hv_)) rfl rfl ?_
    refine HSp (R_move rfl) rfl rfl (HSp (R_move rfl) rfl rfl ?_)
    refine ex_ h fun x19_ hx19_ h => ?_
    have ha19_ := (Sl.atN (n := 2) rfl (by decide) hs1 hx19_).1
    refine Exists.elim (Sl.atN (n := 2) rfl (by decide) hs1 hx19_).2 fun l19_ hA19_ => ?_
    have hr19_ := hA19_.1
    have hg19_ := hA19_.2
    clear hA19_
    refine HSp (R_indexSl Try.underlying36 sz39 rfl rfl hx19_.1 hx19_.lt ha19_) rfl rfl ?_
    replace hr19_ : l19_ = [vi x19_.Label_, vs x19_.Data_] := hr19_
    subst hr19_
    refine HS_loadCs (cs := [vi x19_.Label_, vs x19_.Data_]) ag39 sz39 rfl (fun j_ v_ hv_ => hI.st _ _ (hg19_ j_ v_ hv_)) rfl rfl ?_
    refine HSp (R_structNe fd39 rfl rfl (eqF_int Try.underlying3 ag3 rfl rfl (eqF_str (a := x18_.Data_) (b := x19_.Data_) Try.underlying9 ag9 rfl rfl eqF_nil))) rfl rfl ?_
    refine HS_nil ?_
    clear hops17_
    refine then_n (k16 _ _ ?_)
    clear k16 K16
    refine W_keepB [0, 1, 12, 13, 24] fun B_ b_ => ?_
    simp only [e_, Nat.reduceAdd, Nat.reduceBEq] at b_
    subst b_
    refine W_if rfl (fun hc21_ => ?_) (fun hc21_ => ?_)
    ·
     replace h := h.1 hc21_
     refine W_seq_k fun K22 k22 => ?_
     refine W_region [4] rfl (Ops_step (R_assign rfl) rfl rfl ?_)
     refine Ops_nil ?_
     refine then_n (k22 _ _ ?_)
     clear k22 K22
     refine W_ret ?_
     refine block_ret ?_
     refine then_ret ?_
     clear k14 K14
     refine then_ret ?_
     refine block_ret ?_
     refine then_ret ?_
     refine ⟨_, ⟨_, _, rfl, rfl, rfl⟩, ?_⟩
     exact ⟨false, _, _, rfl, hI, h⟩
    ·
     replace h := h.2 hc21_
     refine W_skip ?_
     refine block_n ?_
     refine then_n (k14 _ _ ?_)
     clear k14 K14
     refine W_region [25, 13] rfl ?_
     have hk23_ := h.1
     replace h := h.2
     refine Ops_step (R_add rfl rfl (wI hk23_.1 hk23_.2)) rfl rfl (Ops_step (R_move rfl) rfl rfl ?_)
     refine Ops_nil ?_
     refine then_n ?_
     exact h.elim fun m_ h => ⟨m_, _, h.1, rfl, ⟨(x13_10 + 1), _, _, rfl, h.2, hI, hll10_, hhh10_, trivial⟩, ⟨rfl, rfl, rfl, trivial⟩⟩
   ·
    replace h := h.2 hc13_
    refine W_exit ?_
    refine then_exit ?_
    clear k12 K12
    refine then_exit ?_
    refine block_exit ?_
    refine then_n ?_
    exact ⟨_, rfl, ⟨_, _, rfl, h, hI, hll8_, hhh8_, trivial⟩, trivial⟩
  ·
   simp only [e_, Nat.reduceAdd, Nat.reduceBEq] at b_
   subst b_
   clear h
   rintro _ w8_ ⟨L8_, H8_, rfl, hJ8_, hI8_, hll8_, hhh8_, -⟩
   replace hI := hI8_
   clear hI8_
   have h := hr8_ hJ8_
   clear hr8_ hJ8_
   refine W_seq_k fun K24 k24 => ?_
   refine W_region [4] rfl (Ops_step (R_assign rfl) rfl rfl ?_)
   refine Ops_nil ?_
   refine then_n (k24 _ _ ?_)
   clear k24 K24
   refine W_ret ?_
   refine ⟨_, ⟨_, _, rfl, rfl, rfl⟩, ?_⟩
   exact ⟨true, _, _, rfl, hI, h⟩

end Go.Proofs.Ytkmljjhjojolcaa

