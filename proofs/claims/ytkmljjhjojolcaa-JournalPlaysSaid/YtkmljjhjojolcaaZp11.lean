/- What is shown of the program on the way to the law. -/
import Derived.Test.YtkmljjhjojolcaaZp3
import Derived.Test.YtkmljjhjojolcaaZp4
import Derived.Test.YtkmljjhjojolcaaZp5
import Derived.Test.YtkmljjhjojolcaaZp10
import Derived.Test.YtkmljjhjojolcaaProg
set_option linter.unusedVariables false
set_option linter.unusedSimpArgs false
set_option maxHeartbeats 4000000
namespace Go.Proofs.Ytkmljjhjojolcaa
open Go Go.Sx Go.Lx
namespace TJtF
theorem hm : Try.prog.follows .mixedOrders = true := by kernel_rfl
theorem ag29 : aggB Try.prog 29 = some false := by kernel_rfl
theorem ag3 : aggB Try.prog 3 = some false := by kernel_rfl
theorem ag39 : aggB Try.prog 39 = some true := by kernel_rfl
theorem ag4 : aggB Try.prog 4 = some false := by kernel_rfl
theorem ag9 : aggB Try.prog 9 = some false := by kernel_rfl
theorem bd18 : bodied Try.prog 18 = true := by kernel_rfl
theorem bd19 : bodied Try.prog 19 = true := by kernel_rfl
theorem bd32 : bodied Try.prog 32 = true := by kernel_rfl
theorem bd39 : bodied Try.prog 39 = true := by kernel_rfl
theorem bd48 : bodied Try.prog 48 = true := by kernel_rfl
theorem el36 : Elem Try.prog 36 39 2 24 := Elem.of (by kernel_rfl)
theorem fd39 : fldsB Try.prog 39 = some [(true, 0, 3), (true, 1, 9)] := by kernel_rfl
theorem fo53_3 : offB Try.prog 53 3 = some 5 := by kernel_rfl
theorem fo53_4 : offB Try.prog 53 4 = some 6 := by kernel_rfl
theorem fo81_0 : offB Try.prog 81 0 = some 0 := by kernel_rfl
theorem fo81_2 : offB Try.prog 81 2 = some 4 := by kernel_rfl
theorem fo81_3 : offB Try.prog 81 3 = some 5 := by kernel_rfl
theorem pl39 : partPl Try.prog 39 = some [(0, 1), (1, 1)] := by kernel_rfl
theorem pl81 : partPl Try.prog 81 = some [(0, 3), (3, 1), (4, 1), (5, 1)] := by kernel_rfl
theorem pl85 : partPl Try.prog 85 = some [(0, 1), (1, 1)] := by kernel_rfl
theorem sz29 : sz Try.prog 29 = some 1 := by kernel_rfl
theorem sz3 : sz Try.prog 3 = some 1 := by kernel_rfl
theorem sz39 : sz Try.prog 39 = some 2 := by kernel_rfl
theorem sz4 : sz Try.prog 4 = some 1 := by kernel_rfl
theorem sz85 : sz Try.prog 85 = some 2 := by kernel_rfl
theorem zr39 : zr Try.prog 39 = some ([.int .i64 0] ++ [.string ByteArray.empty]) := by kernel_rfl
theorem zr53 : zr Try.prog 53 = some (List.replicate 3 (.slice none 0 0) ++ [.int .i64 0] ++ [.bool false] ++ [.bool false] ++ [.int .i64 0]) := by kernel_rfl
theorem zr81 : zr Try.prog 81 = some (List.replicate 3 (.slice none 0 0) ++ [.int .i64 0] ++ [.bool false] ++ [.int .i64 0]) := by kernel_rfl
theorem zr85 : zr Try.prog 85 = some ([.int .i64 0] ++ [.slice none 0 0]) := by kernel_rfl
end TJtF
open TJtF
theorem slices_Equal_sealskinref06_Record_sealskinref06_Record_ok {G : Gh} {w : World} (hS : St G w) (hg : GL G) {A0 : Option Addr} {c0 : Nat} {x0 : List sealskinref06_Record} (hc0 : x0.length ≤ c0) (hs0 : Sl G A0 x0) {A1 : Option Addr} {c1 : Nat} {x1 : List sealskinref06_Record} (hc1 : x1.length ≤ c1) (hs1 : Sl G A1 x1) {Q : Bool → Prop} (h : slices_Equal_sealskinref06_Record_sealskinref06_Record x0 x1 Q) : Calls Try.prog 23 #[.slice A0 x0.length c0, .slice A1 x1.length c1] w fun e w2 => ∃ (r0 : Bool) (L H : Gh), e = .returned (.bool r0) ∧ Inv [] G w L H w2 ∧ Q r0 := by
 unfold slices_Equal_sealskinref06_Record_sealskinref06_Record at h
 have hI := Inv.start (M := []) hS
 refine calls_W 26 Try.func23 rfl Try.ntmps23 rfl [.tmp 4] rfl ?_
 refine W_seq_k fun K1 k1 => ?_
 refine W_region [4] rfl (Ops_step (R_assign rfl) rfl rfl ?_)
 refine Ops_nil ?_
 refine then_n (k1 _ _ ?_)
 clear k1 K1
 refine W_seq_k fun K2 k2 => ?_
 refine W_seq_k fun K3 k3 => ?_
 refine W_region [6, 7, 8, 9, 10] rfl (Ops_step (R_move rfl) rfl rfl (Ops_step (R_len Try.underlying36 rfl rfl) rfl rfl (Ops_step (R_move rfl) rfl rfl (Ops_step (R_len Try.underlying36 rfl rfl) rfl rfl ?_))))
 refine Ops_step (R_neq rfl rfl) rfl rfl ?_
 refine Ops_nil ?_
 refine then_n (k3 _ _ ?_)
 clear k3 K3
 refine W_if rfl (fun ax => ?_) (fun ax => ?_)
 ·
  replace h := h.1 ax
  refine W_seq_k fun K5 k5 => ?_
  refine W_region [4] rfl (Ops_step (R_assign rfl) rfl rfl ?_)
  refine Ops_nil ?_
  refine then_n (k5 _ _ ?_)
  clear k5 K5
  refine W_keepB [4] fun B_ b_ => ?_
  simp only [e_, Nat.reduceAdd, Nat.reduceBEq] at b_
  subst b_
  refine W_ret ?_
  refine then_ret ?_
  clear k2 K2
  refine ⟨_, ⟨_, _, rfl, rfl, rfl⟩, ?_⟩
  exact ⟨false, _, _, rfl, hI, h⟩
 ·
  replace h := h.2 ax
  refine W_skip ?_
  refine then_n (k2 _ _ ?_)
  clear k2 K2
  refine W_keepB [0, 1] fun B_ b_ => ?_
  simp only [e_, Nat.reduceAdd, Nat.reduceBEq] at b_
  subst b_
  refine ex_ h fun bh ay h => ?_
  refine W_seq_join [] [] (fun vals_ w2 => ∃  (L H : Gh), vals_ = [] ∧ bh ∧ Inv [] G w L H w2 ∧ Le Gh.no L ∧ Le G H ∧ True) (fun B_ b_ => ?_) (fun B_ b_ => ?_)
  ·
   simp only [e_, Nat.reduceAdd, Nat.reduceBEq] at b_
   subst b_
   clear ay
   have ac := Le.refl Gh.no
   have ad := Le.refl G
   refine W_seq_k fun K9 k9 => ?_
   refine W_region [11, 12, 13] rfl (Ops_step (R_move rfl) rfl rfl (Ops_step (R_len Try.underlying36 rfl rfl) rfl rfl (Ops_step (R_move rfl) rfl rfl ?_)))
   refine Ops_nil ?_
   refine then_n (k9 _ _ ?_)
   clear k9 K9
   refine W_block ?_
   refine Exists.elim h fun a9 h => Exists.elim h fun ba h => ?_
   have bg := h.1
   have aq := h.2
   clear h
   refine W_loopB [0, 1, 12] [13] (fun m vals_ w2 => ∃ (aa : Int) (L H : Gh), vals_ = [vi aa] ∧ a9 m aa ∧ Inv [] G w L H w2 ∧ Le Gh.no L ∧ Le G H ∧ True) ba _ rfl ⟨0, _, _, rfl, bg, hI, Le.refl _, Le.refl _, trivial⟩ fun B_ b_ => ?_
   clear bg
   simp only [e_, Nat.reduceAdd, Nat.reduceBEq] at b_
   subst b_
   rintro bc _ bi ⟨aa, bj, bl, rfl, ar, au, ag, ab, -⟩
   replace hI := au
   clear au
   have h := aq bc aa ar
   clear aq ar
   replace hs0 := hs0.up ab
   replace hs1 := hs1.up ab
   replace ac := ac.trans ag
   replace ad := ad.trans ab
   refine W_seq_k fun K11 k11 => ?_
   refine W_region [14] rfl (Ops_step (R_lss rfl rfl) rfl rfl ?_)
   refine Ops_nil ?_
   refine then_n (k11 _ _ ?_)
   clear k11 K11
   refine W_seq_k fun K12 k12 => ?_
   refine W_if rfl (fun ah => ?_) (fun ah => ?_)
   ·
    replace h := h.1 ah
    refine W_skip ?_
    refine then_n (k12 _ _ ?_)
    clear k12 K12
    refine W_seq_k fun K14 k14 => ?_
    refine W_block ?_
    refine W_seq_k fun K15 k15 => ?_
    refine W_region [15, 5] rfl (Ops_step (R_move rfl) rfl rfl (Ops_step (R_assign rfl) rfl rfl ?_))
    refine Ops_nil ?_
    refine then_n (k15 _ _ ?_)
    clear k15 K15
    refine W_seq_k fun K16 k16 => ?_
    refine W_drawF [16, 17, 18, 19, 20, 21, 22, 23, 24] [(0, true), (1, true), (2, true), (3, true), (4, true), (5, true), (6, true), (7, true), (8, true)] TJtF.hm rfl (by kernel_rfl) fun bd bm ap av => ?_
    replace hI := hI.fr0 av
    clear av
    refine HSp (R_move rfl) rfl rfl (HSp (R_move rfl) rfl rfl ?_)
    refine ex_ h fun ai ae h => ?_
    have az := (Sl.atN (n := 2) rfl (by decide) hs0 ae).1
    refine Exists.elim (Sl.atN (n := 2) rfl (by decide) hs0 ae).2 fun be aj => ?_
    have ak := aj.1
    have a4 := aj.2
    clear aj
    refine HSp (R_indexSl Try.underlying36 sz39 rfl rfl ae.1 ae.lt az) rfl rfl ?_
    replace ak : be = [vi ai.Label_, vs ai.Data_] := ak
    subst ak
    refine HS_loadCs (cs := [vi ai.Label_, vs ai.Data_]) ag39 sz39 rfl (fun j_ v_ hv_ => hI.st _ _ (a4 j_ v_ hv_)) rfl rfl ?_
    refine HSp (R_move rfl) rfl rfl (HSp (R_move rfl) rfl rfl ?_)
    refine ex_ h fun al af h => ?_
    have a5 := (Sl.atN (n := 2) rfl (by decide) hs1 af).1
    refine Exists.elim (Sl.atN (n := 2) rfl (by decide) hs1 af).2 fun bf am => ?_
    have an := am.1
    have a6 := am.2
    clear am
    refine HSp (R_indexSl Try.underlying36 sz39 rfl rfl af.1 af.lt a5) rfl rfl ?_
    replace an : bf = [vi al.Label_, vs al.Data_] := an
    subst an
    refine HS_loadCs (cs := [vi al.Label_, vs al.Data_]) ag39 sz39 rfl (fun j_ v_ hv_ => hI.st _ _ (a6 j_ v_ hv_)) rfl rfl ?_
    refine HSp (R_structNe fd39 rfl rfl (eqF_int Try.underlying3 ag3 rfl rfl (eqF_str (a := ai.Data_) (b := al.Data_) Try.underlying9 ag9 rfl rfl eqF_nil))) rfl rfl ?_
    refine HS_nil ?_
    clear ap
    refine then_n (k16 _ _ ?_)
    clear k16 K16
    refine W_keepB [0, 1, 12, 13, 24] fun B_ b_ => ?_
    simp only [e_, Nat.reduceAdd, Nat.reduceBEq] at b_
    subst b_
    refine W_if rfl (fun ao => ?_) (fun ao => ?_)
    ·
     replace h := h.1 ao
     refine W_seq_k fun K22 k22 => ?_
     refine W_region [4] rfl (Ops_step (R_assign rfl) rfl rfl ?_)
     refine Ops_nil ?_
     refine then_n (k22 _ _ ?_)
     clear k22 K22
     refine W_ret ?_
     refine block_ret ?_
     refine then_ret ?_
     clear k14 K14
     refine then_ret ?_
     refine block_ret ?_
     refine then_ret ?_
     refine ⟨_, ⟨_, _, rfl, rfl, rfl⟩, ?_⟩
     exact ⟨false, _, _, rfl, hI, h⟩
    ·
     replace h := h.2 ao
     refine W_skip ?_
     refine block_n ?_
     refine then_n (k14 _ _ ?_)
     clear k14 K14
     refine W_region [25, 13] rfl ?_
     have aw := h.1
     replace h := h.2
     refine Ops_step (R_add rfl rfl (wI aw.1 aw.2)) rfl rfl (Ops_step (R_move rfl) rfl rfl ?_)
     refine Ops_nil ?_
     refine then_n ?_
     exact h.elim fun m_ h => ⟨m_, _, h.1, rfl, ⟨(aa + 1), _, _, rfl, h.2, hI, ag, ab, trivial⟩, ⟨rfl, rfl, rfl, trivial⟩⟩
   ·
    replace h := h.2 ah
    refine W_exit ?_
    refine then_exit ?_
    clear k12 K12
    refine then_exit ?_
    refine block_exit ?_
    refine then_n ?_
    exact ⟨_, rfl, ⟨_, _, rfl, h, hI, ac, ad, trivial⟩, trivial⟩
  ·
   simp only [e_, Nat.reduceAdd, Nat.reduceBEq] at b_
   subst b_
   clear h
   rintro _ bn ⟨bo, bp, rfl, a7, a8, ac, ad, -⟩
   replace hI := a8
   clear a8
   have h := ay a7
   clear ay a7
   refine W_seq_k fun K24 k24 => ?_
   refine W_region [4] rfl (Ops_step (R_assign rfl) rfl rfl ?_)
   refine Ops_nil ?_
   refine then_n (k24 _ _ ?_)
   clear k24 K24
   refine W_ret ?_
   refine ⟨_, ⟨_, _, rfl, rfl, rfl⟩, ?_⟩
   exact ⟨true, _, _, rfl, hI, h⟩

theorem sealskinref05_New_ok {G : Gh} {w : World} (hS : St G w) (hg : GL G) {x0 : Int} {Q0 : Int → Prop} {Q1 : Int → sealskinref05_Disk → Prop} (h : sealskinref05_New x0 Q0 Q1) : Calls Try.prog 25 #[vi x0] w fun e w2 => (∃ (r1 : Int) (L H : Gh), e = .returned (.tuple #[.pointer none, vi r1]) ∧ Inv [] G w L H w2 ∧ Q0 r1) ∨ (∃ (r1 : Int) (o0 : Nat) (y0 : sealskinref05_Disk) (ae : Option Addr) (af : Nat) (ag : Option Addr) (ah : Nat) (ai : Option Addr) (aj : Nat) (L H : Gh), e = .returned (.tuple #[.pointer (some ⟨o0, 0, none⟩), vi r1]) ∧ Inv [] G w L H w2 ∧ w.heap.size ≤ o0 ∧ Tok H w2 o0 81 ([.slice ae y0.F_.e0_.length af, .slice ag y0.F_.e1_.length ah, .slice ai y0.F_.e2_.length aj, vi y0.Room_, .bool y0.Off_, vi y0.Fuse_]) ∧ y0.F_.e0_.length ≤ af ∧ Sl H ae y0.F_.e0_ ∧ y0.F_.e1_.length ≤ ah ∧ Sl H ag y0.F_.e1_ ∧ y0.F_.e2_.length ≤ aj ∧ Sl H ai y0.F_.e2_ ∧ Q1 r1 y0) := by
 unfold sealskinref05_New at h
 have hI := Inv.start (M := []) hS
 refine calls_W 13 Try.func25 rfl Try.ntmps25 rfl [.tmp 2, .tmp 3] rfl ?_
 refine W_seq_k fun K1 k1 => ?_
 refine W_region [2, 3] rfl (Ops_step (R_assign rfl) rfl rfl (Ops_step (R_assign rfl) rfl rfl ?_))
 refine Ops_nil ?_
 refine then_n (k1 _ _ ?_)
 clear k1 K1
 refine W_seq_k fun K2 k2 => ?_
 refine ex_ h fun ax ak h => ?_
 refine W_seq_join [0] [9] (fun vals_ w2 => ∃ (ac : Bool) (L H : Gh), vals_ = [.bool ac] ∧ ax ac ∧ Inv [] G w L H w2 ∧ Le Gh.no L ∧ Le G H ∧ True) (fun B_ b_ => ?_) (fun B_ b_ => ?_)
 ·
  simp only [e_, Nat.reduceAdd, Nat.reduceBEq] at b_
  subst b_
  clear ak
  have aa := Le.refl Gh.no
  have ab := Le.refl G
  refine W_region [4, 5, 6, 7, 8, 9] rfl (Ops_step (R_move rfl) rfl rfl (Ops_step (R_lss rfl rfl) rfl rfl (Ops_step (R_move rfl) rfl rfl ?_)))
  refine Ops_split 6 rfl (fun al => ?_) (fun al => ?_)
  ·
   replace h := h.1 al
   refine Ops_pass rfl rfl (Ops_pass rfl rfl (Ops_step (R_pick_true rfl rfl) rfl rfl ?_))
   refine Ops_nil ?_
   refine then_n ?_
   exact ⟨_, rfl, ⟨true, _, _, rfl, h, hI, aa, ab, trivial⟩, ⟨rfl, trivial⟩⟩
  ·
   replace h := h.2 al
   refine Ops_step (R_move rfl) rfl rfl (Ops_step (R_gtr rfl rfl) rfl rfl (Ops_step (R_pick_false rfl rfl) rfl rfl ?_))
   refine Ops_nil ?_
   refine then_n ?_
   exact ⟨_, rfl, ⟨(decide (x0 > 16777216)), _, _, rfl, h, hI, aa, ab, trivial⟩, ⟨rfl, trivial⟩⟩
 ·
  simp only [e_, Nat.reduceAdd, Nat.reduceBEq] at b_
  subst b_
  clear h
  rintro _ az ⟨ac, a4, ay, rfl, ap, aq, aa, ab, -⟩
  replace hI := aq
  clear aq
  have h := ak ac ap
  clear ak ap
  refine W_cond rfl (fun am => ?_) (fun am => ?_)
  ·
   replace h := h.1 am
   refine W_seq_k fun K6 k6 => ?_
   refine W_region [2, 3] rfl (Ops_step (R_assign rfl) rfl rfl (Ops_step (R_assign rfl) rfl rfl ?_))
   refine Ops_nil ?_
   refine then_n (k6 _ _ ?_)
   clear k6 K6
   refine W_ret ?_
   refine then_ret ?_
   clear k2 K2
   refine ⟨_, ⟨_, _, rfl, rfl, ⟨_, _, rfl, rfl, rfl⟩⟩, ?_⟩
   exact .inl ⟨1, _, _, rfl, hI, h⟩
  ·
   replace h := h.2 am
   refine W_skip ?_
   refine then_n (k2 _ _ ?_)
   clear k2 K2
   refine W_seq_k fun K7 k7 => ?_
   refine W_region [10, 11, 12, 2, 3] rfl (Ops_step (R_move rfl) rfl rfl ?_)
   refine Ops_step (R_build (pl := [(3, 1)]) (cs := [.slice none 0 0, .slice none 0 0, .slice none 0 0, vi x0, .bool false, vi 0]) zr81 pl81 rfl rfl rfl) rfl rfl ?_
   have an := hI
   refine Ops_to (R_box rfl) rfl rfl ?_
   rintro _ a5 ⟨av, rfl, ao, ar, au⟩
   replace hI := hI.fr0 au
   have aw : Tok ay _ av 81 ([.slice none 0 0, .slice none 0 0, .slice none 0 0, vi x0, .bool false, vi 0]) := ⟨ar.to rfl, Out.ge an.st (Nat.le_of_eq ao.symm)⟩
   have ad : w.heap.size ≤ av := ao ▸ an.size
   clear ar ao an au
   refine Ops_step (R_assign rfl) rfl rfl (Ops_step (R_assign rfl) rfl rfl ?_)
   refine Ops_nil ?_
   refine then_n (k7 _ _ ?_)
   clear k7 K7
   refine W_ret ?_
   refine ⟨_, ⟨_, _, rfl, rfl, ⟨_, _, rfl, rfl, rfl⟩⟩, ?_⟩
   exact .inr ⟨0, av, (sealskinref05_Disk.mk (arr3_List_UInt8.mk [] [] []) x0 false 0), none, 0, none, 0, none, 0, _, _, rfl, hI, ad, aw, (Nat.le_refl 0), Sl.nil, (Nat.le_refl 0), Sl.nil, (Nat.le_refl 0), Sl.nil, h⟩

theorem sealskinref05_Disk_may_ok {G : Gh} {w : World} (hS : St G w) (hg : GL G) {d0 : Nat} {z0 : sealskinref05_Disk} {ad : Option Addr} {ae : Nat} {af : Option Addr} {ag : Nat} {ah : Option Addr} {ai : Nat} (ac : Tok G w d0 81 ([.slice ad z0.F_.e0_.length ae, .slice af z0.F_.e1_.length ag, .slice ah z0.F_.e2_.length ai, vi z0.Room_, .bool z0.Off_, vi z0.Fuse_])) (av : z0.F_.e0_.length ≤ ae) (aj : Sl G ad z0.F_.e0_) (aw : z0.F_.e1_.length ≤ ag) (ak : Sl G af z0.F_.e1_) (ax : z0.F_.e2_.length ≤ ai) (al : Sl G ah z0.F_.e2_) {x1 : Int} {Q : Int → Prop} (h : sealskinref05_Disk_may z0 x1 Q) : Calls Try.prog 52 #[.pointer (some ⟨d0, 0, none⟩), vi x1] w fun e w2 => ∃ (r0 : Int) (L H : Gh), e = .returned (vi r0) ∧ Inv [] G w L H w2 ∧ Q r0 := by
 unfold sealskinref05_Disk_may at h
 have hI := Inv.start (M := []) hS
 refine calls_W 15 Try.func52 rfl Try.ntmps52 rfl [.tmp 4] rfl ?_
 have ay := ac.blk.lt
 refine W_seq_k fun K1 k1 => ?_
 refine W_region [4] rfl (Ops_step (R_assign rfl) rfl rfl ?_)
 refine Ops_nil ?_
 refine then_n (k1 _ _ ?_)
 clear k1 K1
 refine W_seq_k fun K2 k2 => ?_
 refine W_seq_k fun K3 k3 => ?_
 refine W_region [5, 6, 7, 8] rfl (Ops_step (R_move rfl) rfl rfl (Ops_step (R_nilCheck rfl) rfl rfl (Ops_step (R_fieldAddr fo81_2 rfl) rfl rfl ?_)))
 refine Ops_step (R_loadB (v := .bool z0.Off_) ag4 rfl ac.blk rfl) rfl rfl ?_
 refine Ops_nil ?_
 refine then_n (k3 _ _ ?_)
 clear k3 K3
 refine W_cond rfl (fun ap => ?_) (fun ap => ?_)
 ·
  replace h := h.1 ap
  refine W_seq_k fun K5 k5 => ?_
  refine W_region [4] rfl (Ops_step (R_assign rfl) rfl rfl ?_)
  refine Ops_nil ?_
  refine then_n (k5 _ _ ?_)
  clear k5 K5
  refine W_keepB [4] fun B_ b_ => ?_
  simp only [e_, Nat.reduceAdd, Nat.reduceBEq] at b_
  subst b_
  refine W_ret ?_
  refine then_ret ?_
  clear k2 K2
  refine ⟨_, ⟨_, _, rfl, rfl, rfl⟩, ?_⟩
  exact ⟨50, _, _, rfl, hI, h⟩
 ·
  replace h := h.2 ap
  refine W_skip ?_
  refine then_n (k2 _ _ ?_)
  clear k2 K2
  refine W_keepB [1] fun B_ b_ => ?_
  simp only [e_, Nat.reduceAdd, Nat.reduceBEq] at b_
  subst b_
  refine W_seq_k fun K8 k8 => ?_
  refine ex_ h fun az aq h => ?_
  refine W_seq_join [] [14] (fun vals_ w2 => ∃ (ab : Bool) (L H : Gh), vals_ = [.bool ab] ∧ az ab ∧ Inv [] G w L H w2 ∧ Le Gh.no L ∧ Le G H ∧ Tok H w2 d0 81 ([.slice ad z0.F_.e0_.length ae, .slice af z0.F_.e1_.length ag, .slice ah z0.F_.e2_.length ai, vi z0.Room_, .bool z0.Off_, vi z0.Fuse_]) ∧ True) (fun B_ b_ => ?_) (fun B_ b_ => ?_)
  ·
   simp only [e_, Nat.reduceAdd, Nat.reduceBEq] at b_
   subst b_
   clear aq
   have am := Le.refl Gh.no
   have aa := Le.refl G
   refine W_region [9, 10, 11, 12, 13, 14] rfl (Ops_step (R_move rfl) rfl rfl (Ops_step (R_lss rfl rfl) rfl rfl (Ops_step (R_move rfl) rfl rfl ?_)))
   refine Ops_split 11 rfl (fun an => ?_) (fun an => ?_)
   ·
    replace h := h.1 an
    refine Ops_pass rfl rfl (Ops_pass rfl rfl (Ops_step (R_pick_true rfl rfl) rfl rfl ?_))
    refine Ops_nil ?_
    refine then_n ?_
    exact ⟨_, rfl, ⟨true, _, _, rfl, h, hI, am, aa, ac, trivial⟩, trivial⟩
   ·
    replace h := h.2 an
    refine Ops_step (R_move rfl) rfl rfl (Ops_step (R_gtr rfl rfl) rfl rfl (Ops_step (R_pick_false rfl rfl) rfl rfl ?_))
    refine Ops_nil ?_
    refine then_n ?_
    exact ⟨_, rfl, ⟨(decide (x1 > 2)), _, _, rfl, h, hI, am, aa, ac, trivial⟩, trivial⟩
  ·
   simp only [e_, Nat.reduceAdd, Nat.reduceBEq] at b_
   subst b_
   clear h
   clear ac
   rintro _ a4 ⟨ab, a5, a6, rfl, ar, au, am, aa, ac, -⟩
   replace hI := au
   clear au
   have h := aq ab ar
   clear aq ar
   replace aj := aj.up aa
   replace ak := ak.up aa
   replace al := al.up aa
   refine W_cond rfl (fun ao => ?_) (fun ao => ?_)
   ·
    replace h := h.1 ao
    refine W_seq_k fun K12 k12 => ?_
    refine W_region [4] rfl (Ops_step (R_assign rfl) rfl rfl ?_)
    refine Ops_nil ?_
    refine then_n (k12 _ _ ?_)
    clear k12 K12
    refine W_ret ?_
    refine then_ret ?_
    clear k8 K8
    refine ⟨_, ⟨_, _, rfl, rfl, rfl⟩, ?_⟩
    exact ⟨51, _, _, rfl, hI, h⟩
   ·
    replace h := h.2 ao
    refine W_skip ?_
    refine then_n (k8 _ _ ?_)
    clear k8 K8
    refine W_seq_k fun K13 k13 => ?_
    refine W_region [4] rfl (Ops_step (R_assign rfl) rfl rfl ?_)
    refine Ops_nil ?_
    refine then_n (k13 _ _ ?_)
    clear k13 K13
    refine W_ret ?_
    refine ⟨_, ⟨_, _, rfl, rfl, rfl⟩, ?_⟩
    exact ⟨0, _, _, rfl, hI, h⟩

theorem sealskinref05_Disk_Used_ok {G : Gh} {w : World} (hS : St G w) (hg : GL G) {d0 : Nat} {z0 : sealskinref05_Disk} {ab : Option Addr} {ac : Nat} {ad : Option Addr} {ae : Nat} {af : Option Addr} {ag : Nat} (aa : Tok G w d0 81 ([.slice ab z0.F_.e0_.length ac, .slice ad z0.F_.e1_.length ae, .slice af z0.F_.e2_.length ag, vi z0.Room_, .bool z0.Off_, vi z0.Fuse_])) (al : z0.F_.e0_.length ≤ ac) (am : Sl G ab z0.F_.e0_) (an : z0.F_.e1_.length ≤ ae) (ao : Sl G ad z0.F_.e1_) (ap : z0.F_.e2_.length ≤ ag) (aq : Sl G af z0.F_.e2_) {Q : Int → Prop} (h : sealskinref05_Disk_Used z0 Q) : Calls Try.prog 53 #[.pointer (some ⟨d0, 0, none⟩)] w fun e w2 => ∃ (r0 : Int) (L H : Gh), e = .returned (vi r0) ∧ Inv [] G w L H w2 ∧ Q r0 := by
 unfold sealskinref05_Disk_Used at h
 have hI := Inv.start (M := []) hS
 refine calls_W 23 Try.func53 rfl Try.ntmps53 rfl [.tmp 2] rfl ?_
 have ar := aa.blk.lt
 refine W_seq_k fun K1 k1 => ?_
 refine W_region [2] rfl (Ops_step (R_assign rfl) rfl rfl ?_)
 refine Ops_nil ?_
 refine then_n (k1 _ _ ?_)
 clear k1 K1
 refine W_seq_k fun K2 k2 => ?_
 refine W_drawF [3, 4, 5, 6, 7, 8, 9, 10, 11, 12, 13, 14, 15, 16, 17, 18, 19, 20, 21, 22, 2] [(0, true), (1, true), (2, true), (3, true), (4, true), (5, true), (6, true), (7, true), (8, true), (9, true), (10, true), (11, true), (12, true), (13, true), (14, true), (15, true), (16, true), (17, true), (18, true), (19, true), (20, true)] TJtF.hm rfl (by kernel_rfl) fun au av ah ai => ?_
 replace hI := hI.fr0 ai
 replace aa := aa.fr0 ai
 clear ai
 refine HSp (R_move rfl) rfl rfl (HSp (R_nilCheck rfl) rfl rfl (HSp (R_fieldAddr fo81_0 rfl) rfl rfl (HSp (R_indexArrK Try.underlying51 sz29 rfl rfl rfl (by decide)) rfl rfl ?_)))
 refine HS_loadB (v := .slice ab z0.F_.e0_.length ac) ag29 rfl aa.blk rfl rfl rfl ?_
 refine HSp (R_len Try.underlying29 rfl rfl) rfl rfl (HSp (R_move rfl) rfl rfl (HSp (R_nilCheck rfl) rfl rfl (HSp (R_fieldAddr fo81_0 rfl) rfl rfl (HSp (R_indexArrK Try.underlying51 sz29 rfl rfl rfl (by decide)) rfl rfl ?_))))
 refine HS_loadB (v := .slice ad z0.F_.e1_.length ae) ag29 rfl aa.blk rfl rfl rfl ?_
 refine HSp (R_len Try.underlying29 rfl rfl) rfl rfl ?_
 have aj := h.1
 replace h := h.2
 refine HSp (R_add rfl rfl (wI aj.1 aj.2)) rfl rfl (HSp (R_move rfl) rfl rfl (HSp (R_nilCheck rfl) rfl rfl (HSp (R_fieldAddr fo81_0 rfl) rfl rfl (HSp (R_indexArrK Try.underlying51 sz29 rfl rfl rfl (by decide)) rfl rfl ?_))))
 refine HS_loadB (v := .slice af z0.F_.e2_.length ag) ag29 rfl aa.blk rfl rfl rfl ?_
 refine HSp (R_len Try.underlying29 rfl rfl) rfl rfl ?_
 have ak := h.1
 replace h := h.2
 refine HSp (R_add rfl rfl (wI ak.1 ak.2)) rfl rfl (HSp (R_assign rfl) rfl rfl ?_)
 refine HS_nil ?_
 clear ah
 refine then_n (k2 _ _ ?_)
 clear k2 K2
 refine W_keepB [2] fun B_ b_ => ?_
 simp only [e_, Nat.reduceAdd, Nat.reduceBEq] at b_
 subst b_
 refine W_ret ?_
 refine ⟨_, ⟨_, _, rfl, rfl, rfl⟩, ?_⟩
 exact ⟨(((z0.F_.e0_.length : Int) + (z0.F_.e1_.length : Int)) + (z0.F_.e2_.length : Int)), _, _, rfl, hI, h⟩

theorem sealskinref05_Disk_burn_ok {G : Gh} {w : World} (hS : St G w) (hg : GL G) {d0 : Nat} {z0 : sealskinref05_Disk} {ab : Option Addr} {ac : Nat} {ad : Option Addr} {ae : Nat} {af : Option Addr} {ag : Nat} (aa : Tok G w d0 81 ([.slice ab z0.F_.e0_.length ac, .slice ad z0.F_.e1_.length ae, .slice af z0.F_.e2_.length ag, vi z0.Room_, .bool z0.Off_, vi z0.Fuse_])) (ah : z0.F_.e0_.length ≤ ac) (ai : Sl G ab z0.F_.e0_) (aj : z0.F_.e1_.length ≤ ae) (ak : Sl G ad z0.F_.e1_) (al : z0.F_.e2_.length ≤ ag) (am : Sl G af z0.F_.e2_) {Q : sealskinref05_Disk → Prop} (h : sealskinref05_Disk_burn z0 Q) : Calls Try.prog 54 #[.pointer (some ⟨d0, 0, none⟩)] w fun e w2 => ∃ (y0 : sealskinref05_Disk) (an : Option Addr) (ao : Nat) (ap : Option Addr) (aq : Nat) (ar : Option Addr) (au : Nat) (L H : Gh), e = .returned (.tuple #[]) ∧ Inv [d0] G w L H w2 ∧ Tok H w2 d0 81 ([.slice an y0.F_.e0_.length ao, .slice ap y0.F_.e1_.length aq, .slice ar y0.F_.e2_.length au, vi y0.Room_, .bool y0.Off_, vi y0.Fuse_]) ∧ y0.F_.e0_.length ≤ ao ∧ Sl H an y0.F_.e0_ ∧ y0.F_.e1_.length ≤ aq ∧ Sl H ap y0.F_.e1_ ∧ y0.F_.e2_.length ≤ au ∧ Sl H ar y0.F_.e2_ ∧ Q y0 := by
 unfold sealskinref05_Disk_burn at h
 have hI := Inv.start (M := [d0]) hS
 refine calls_W 22 Try.func54 rfl Try.ntmps54 rfl [] rfl ?_
 have a6 := aa.blk.lt
 refine W_seq_k fun K1 k1 => ?_
 refine W_seq_k fun K2 k2 => ?_
 refine W_region [2, 3, 4, 5, 6] rfl (Ops_step (R_move rfl) rfl rfl (Ops_step (R_nilCheck rfl) rfl rfl (Ops_step (R_fieldAddr fo81_3 rfl) rfl rfl ?_)))
 refine Ops_step (R_loadB (v := vi z0.Fuse_) ag3 rfl aa.blk rfl) rfl rfl ?_
 refine Ops_step (R_eql rfl rfl) rfl rfl ?_
 refine Ops_nil ?_
 refine then_n (k2 _ _ ?_)
 clear k2 K2
 refine W_if rfl (fun ax => ?_) (fun ax => ?_)
 ·
  replace h := h.1 ax
  refine W_ret ?_
  refine then_ret ?_
  clear k1 K1
  refine ⟨_, rfl, ?_⟩
  exact ⟨z0, ab, ac, ad, ae, af, ag, _, _, rfl, hI, aa, ah, ai, aj, ak, al, am, h⟩
 ·
  replace h := h.2 ax
  refine W_skip ?_
  refine then_n (k1 _ _ ?_)
  clear k1 K1
  refine W_seq_k fun K4 k4 => ?_
  refine W_region [7, 8, 9, 10, 11, 12, 13, none] rfl (Ops_step (R_move rfl) rfl rfl (Ops_step (R_nilCheck rfl) rfl rfl (Ops_step (R_fieldAddr fo81_3 rfl) rfl rfl ?_)))
  refine Ops_step (R_loadB (v := vi z0.Fuse_) ag3 rfl aa.blk rfl) rfl rfl ?_
  have az := h.1
  replace h := h.2
  refine Ops_step (R_sub rfl rfl (wI az.1 az.2)) rfl rfl (Ops_step (R_nilCheck rfl) rfl rfl (Ops_step (R_fieldAddr fo81_3 rfl) rfl rfl ?_))
  refine Ops_to0 (R_store sz3 rfl rfl aa.blk (by show 5 < 6; decide) rfl) rfl ?_
  rintro _ a8 ⟨a4, a5⟩
  replace hI := hI.tok a5 (out1 aa.out) (mem1 (by simp))
  replace aa : Tok G _ d0 81 ([.slice ab z0.F_.e0_.length ac, .slice ad z0.F_.e1_.length ae, .slice af z0.F_.e2_.length ag, vi z0.Room_, .bool z0.Off_, vi (z0.Fuse_ - 1)]) := ⟨a4, aa.out⟩
  clear a5 a4
  refine Ops_nil ?_
  refine then_n (k4 _ _ ?_)
  clear k4 K4
  refine W_keepB [0] fun B_ b_ => ?_
  simp only [e_, Nat.reduceAdd, Nat.reduceBEq] at b_
  subst b_
  refine W_seq_k fun K8 k8 => ?_
  refine W_region [14, 15, 16, 17, 18] rfl (Ops_step (R_move rfl) rfl rfl (Ops_step (R_nilCheck rfl) rfl rfl (Ops_step (R_fieldAddr fo81_3 rfl) rfl rfl ?_)))
  refine Ops_step (R_loadB (v := vi (z0.Fuse_ - 1)) ag3 rfl aa.blk rfl) rfl rfl ?_
  refine Ops_step (R_eql rfl rfl) rfl rfl ?_
  refine Ops_nil ?_
  refine then_n (k8 _ _ ?_)
  clear k8 K8
  refine W_if rfl (fun ay => ?_) (fun ay => ?_)
  ·
   replace h := h.1 ay
   refine W_region [19, 20, 21, none] rfl (Ops_step (R_move rfl) rfl rfl (Ops_step (R_nilCheck rfl) rfl rfl (Ops_step (R_fieldAddr fo81_2 rfl) rfl rfl ?_)))
   refine Ops_to0 (R_store sz4 rfl rfl aa.blk (by show 4 < 6; decide) rfl) rfl ?_
   rintro _ a7 ⟨av, aw⟩
   replace hI := hI.tok aw (out1 aa.out) (mem1 (by simp))
   replace aa : Tok G _ d0 81 ([.slice ab z0.F_.e0_.length ac, .slice ad z0.F_.e1_.length ae, .slice af z0.F_.e2_.length ag, vi z0.Room_, .bool true, vi (z0.Fuse_ - 1)]) := ⟨av, aa.out⟩
   clear aw av
   refine Ops_nil ?_
   refine ⟨_, rfl, ?_⟩
   exact ⟨(sealskinref05_Disk.mk z0.F_ z0.Room_ true (z0.Fuse_ - 1)), ab, ac, ad, ae, af, ag, _, _, rfl, hI, aa, ah, ai, aj, ak, al, am, h⟩
  ·
   replace h := h.2 ay
   refine W_skip ?_
   refine ⟨_, rfl, ?_⟩
   exact ⟨(sealskinref05_Disk.mk z0.F_ z0.Room_ z0.Off_ (z0.Fuse_ - 1)), ab, ac, ad, ae, af, ag, _, _, rfl, hI, aa, ah, ai, aj, ak, al, am, h⟩

end Go.Proofs.Ytkmljjhjojolcaa

