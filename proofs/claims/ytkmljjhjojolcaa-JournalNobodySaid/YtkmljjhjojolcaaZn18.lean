/- What is shown of the program on the way to the law. -/
import Derived.Test.YtkmljjhjojolcaaZn3
import Derived.Test.YtkmljjhjojolcaaZn4
import Derived.Test.YtkmljjhjojolcaaZn9
import Derived.Test.YtkmljjhjojolcaaZn10
import Derived.Test.YtkmljjhjojolcaaZn11
import Derived.Test.YtkmljjhjojolcaaZn15
import Derived.Test.YtkmljjhjojolcaaZn16
import Derived.Test.YtkmljjhjojolcaaZn17
import Derived.Test.YtkmljjhjojolcaaProg
set_option linter.unusedVariables false
set_option linter.unusedSimpArgs false
set_option maxHeartbeats 4000000
namespace Go.Proofs.Ytkmljjhjojolcaa
open Go Go.Sx Go.Lx
namespace TJmNobody
theorem hm : Try.prog.follows .mixedOrders = true := by kernel_rfl
theorem ag25 : aggB Try.prog 25 = some false := by kernel_rfl
theorem ag26 : aggB Try.prog 26 = some false := by kernel_rfl
theorem bd12 : bodied Try.prog 12 = true := by kernel_rfl
theorem bd14 : bodied Try.prog 14 = true := by kernel_rfl
theorem bd15 : bodied Try.prog 15 = true := by kernel_rfl
theorem bd17 : bodied Try.prog 17 = true := by kernel_rfl
theorem bd18 : bodied Try.prog 18 = true := by kernel_rfl
theorem bd19 : bodied Try.prog 19 = true := by kernel_rfl
theorem bd20 : bodied Try.prog 20 = true := by kernel_rfl
theorem el47 : Elem Try.prog 47 26 1 8 := Elem.of (by kernel_rfl)
theorem el54 : Elem Try.prog 54 25 1 8 := Elem.of (by kernel_rfl)
theorem pl46 : partPl Try.prog 46 = some [(0, 2), (2, 1), (3, 1), (4, 1)] := by kernel_rfl
theorem pl53 : partPl Try.prog 53 = some [(0, 3), (3, 1), (4, 1), (5, 1), (6, 1)] := by kernel_rfl
theorem sz25 : sz Try.prog 25 = some 1 := by kernel_rfl
theorem sz26 : sz Try.prog 26 = some 1 := by kernel_rfl
theorem zr25 : zr Try.prog 25 = some ([.pointer none]) := by kernel_rfl
theorem zr26 : zr Try.prog 26 = some ([.pointer none]) := by kernel_rfl
theorem zr46 : zr Try.prog 46 = some ([.slice none 0 0] ++ [.map none] ++ [.pointer none] ++ [.int .i64 0] ++ [.int .i64 0]) := by kernel_rfl
theorem zr53 : zr Try.prog 53 = some (List.replicate 3 (.slice none 0 0) ++ [.int .i64 0] ++ [.bool false] ++ [.bool false] ++ [.int .i64 0]) := by kernel_rfl
end TJmNobody
open TJmNobody
theorem sealskinlaw06_JournalNobody_ok {G : Gh} {w : World} (hS : St G w) (hg : GL G) {x0 : Int} {A1 : Option Addr} {c1 : Nat} {x1 : List UInt8} (hc1 : x1.length ≤ c1) (hs1 : Sl G A1 x1) {Q : Bool → Prop} (h : sealskinlaw06_JournalNobody x0 x1 Q) : Calls Try.prog 4 #[vi x0, .slice A1 x1.length c1] w fun e w2 => ∃ (r0 : Bool) (L H : Gh), e = .returned (.bool r0) ∧ Inv [] G w L H w2 ∧ Q r0 := by
 unfold sealskinlaw06_JournalNobody at h
 have hI := Inv.start (M := []) hS
 refine calls_W 78 Try.func4 rfl Try.ntmps4 rfl [.tmp 4] rfl ?_
 refine W_seq_k fun K1 k1 => ?_
 refine W_region [4] rfl (Ops_step (R_assign rfl) rfl rfl ?_)
 refine Ops_nil ?_
 refine then_n (k1 _ _ ?_)
 clear k1 K1
 refine ex_ h fun J2_ hr2_ h => ?_
 refine W_seq_join [] [] (fun vals_ w2 => ∃  (L H : Gh), vals_ = [] ∧ J2_ ∧ Inv [] G w L H w2 ∧ Le Gh.no L ∧ Le G H ∧ True) (fun B_ b_ => ?_) (fun B_ b_ => ?_)
 ·
  simp only [e_, Nat.reduceAdd, Nat.reduceBEq] at b_
  subst b_
  clear hr2_
  have hll2_ := Le.refl Gh.no
  have hhh2_ := Le.refl G
  refine W_seq_k fun K3 k3 => ?_
  refine W_region [14, 15, 16, 17, 18] rfl ?_
  refine Ops_step (R_build (pl := []) (cs := [.slice none 0 0, .map none, .pointer none, vi 0, vi 0]) zr46 pl46 rfl rfl rfl) rfl rfl ?_
  have hI0_ := hI
  refine Ops_to (R_box rfl) rfl rfl ?_
  rintro _ w4_ ⟨b4_, rfl, hb4_, hB4_, hF4_⟩
  replace hI := hI.fr0 hF4_
  have ht4_ : Tok G _ b4_ 46 ([.slice none 0 0, .map none, .pointer none, vi 0, vi 0]) := ⟨hB4_.to rfl, Out.ge hI0_.st (Nat.le_of_eq hb4_.symm)⟩
  have hge_b4_ : w.heap.size ≤ b4_ := hb4_ ▸ hI0_.size
  clear hB4_ hb4_ hI0_ hF4_
  have hI0_ := hI
  refine Ops_to (R_buildSlice (cs := [.pointer none, .pointer (some ⟨b4_, 0, none⟩)]) el47 zr26 (by decide) (by decide) rfl rfl) rfl rfl ?_
  rintro _ w5_ ⟨b5_, rfl, hb5_, hB5_, hF5_⟩
  replace hI := hI.fr0 hF5_
  replace ht4_ := ht4_.fr0 hF5_
  have ht5_ : Tok G _ b5_ 26 ([.pointer none, .pointer (some ⟨b4_, 0, none⟩)]) := ⟨hB5_, Out.ge hI0_.st (Nat.le_of_eq hb5_.symm)⟩
  have hge_b5_ : w.heap.size ≤ b5_ := hb5_ ▸ hI0_.size
  clear hB5_ hb5_ hI0_ hF5_
  refine Ops_step (R_len Try.underlying47 rfl rfl) rfl rfl (Ops_step (R_move rfl) rfl rfl ?_)
  refine Ops_nil ?_
  refine then_n (k3 _ _ ?_)
  clear k3 K3
  refine W_block ?_
  refine Exists.elim h fun I6_ h => Exists.elim h fun n6_ h => ?_
  have h0_ := h.1
  have hs6_ := h.2
  clear h
  refine W_loopB [0, 1, 16, 17] [18] (fun m vals_ w2 => ∃ (x18_6 : Int) (yb4__6 : journal_Journal) (Ab4__6_1 : Option Addr) (cb4__6_1 : Nat) (L H : Gh), vals_ = [vi x18_6] ∧ I6_ m x18_6 yb4__6 ∧ Inv [] G w L H w2 ∧ Le Gh.no L ∧ Le G H ∧ Tok H w2 b4_ 46 ([.slice Ab4__6_1 yb4__6.book_.l_.length cb4__6_1, .map none, .pointer none, vi yb4__6.gen_, vi yb4__6.place_]) ∧ yb4__6.book_.l_.length ≤ cb4__6_1 ∧ Sl H Ab4__6_1 yb4__6.book_.l_ ∧ Tok H w2 b5_ 26 ([.pointer none, .pointer (some ⟨b4_, 0, none⟩)]) ∧ True) n6_ _ rfl ⟨0, (journal_Journal.mk (journal_book.mk []) 0 0), none, 0, _, _, rfl, h0_, hI, Le.refl _, Le.refl _, ht4_, (Nat.le_refl 0), Sl.nil, ht5_, trivial⟩ fun B_ b_ => ?_
  clear h0_
  simp only [e_, Nat.reduceAdd, Nat.reduceBEq] at b_
  subst b_
  clear ht5_
  rintro m6_ _ w6_ ⟨x18_6, yb4__6, Ab4__6_1, cb4__6_1, L6_, H6_, rfl, hJ6_, hI6_, hll6_, hhh6_, htb4__6, hcb4__6_1, hsb4__6_1, ht5_, -⟩
  replace hI := hI6_
  clear hI6_
  have h := hs6_ m6_ x18_6 yb4__6 hJ6_
  clear hs6_ hJ6_
  replace hs1 := hs1.up hhh6_
  replace hll2_ := hll2_.trans hll6_
  replace hhh2_ := hhh2_.trans hhh6_
  refine W_seq_k fun K7 k7 => ?_
  refine W_region [19] rfl (Ops_step (R_lss rfl rfl) rfl rfl ?_)
  refine Ops_nil ?_
  refine then_n (k7 _ _ ?_)
  clear k7 K7
  refine W_seq_k fun K8 k8 => ?_
  refine W_if rfl (fun hc9_ => ?_) (fun hc9_ => ?_)
  ·
   replace h := h.1 hc9_
   refine W_skip ?_
   refine then_n (k8 _ _ ?_)
   clear k8 K8
   refine W_seq_k fun K10 k10 => ?_
   refine W_block ?_
   refine W_seq_k fun K11 k11 => ?_
   refine W_region [20, 21, 6] rfl ?_
   have hk12_ := h.1
   replace h := h.2
   refine split2 hk12_ (fun hi12_ => ?_) (fun hi12_ => ?_)
   ·
    replace h := h.1 hi12_
    refine Ops_step (R_indexSlK Try.underlying47 sz26 rfl rfl hi12_ (by decide)) rfl rfl ?_
    refine Ops_step (R_loadB (v := .pointer none) ag26 rfl ht5_.blk rfl) rfl rfl ?_
    refine Ops_step (R_assign rfl) rfl rfl ?_
    refine Ops_nil ?_
    refine then_n (k11 _ _ ?_)
    clear k11 K11
    refine W_seq_k fun K13 k13 => ?_
    refine W_region [23, 24, 25, 22, 26, 27, 28, 7, 8, 9] rfl (Ops_step (R_move rfl) rfl rfl (Ops_step (R_move rfl) rfl rfl ?_))
    refine Ops_call (C_func bd18 rfl) rfl rfl ?_
    refine (journal_Journal_At_v1_ok (x1 := x0) hI.st (hg.up hI.le)  h).mono ?_
    rintro _ w14_ ⟨r14_0, A14_1, c14_1, r14_1, r14_2, L14_, H14_, rfl, hI14_, hc14_1, hs14_1, h⟩
    refine Exists.elim (hI.call hI14_ (by simp)) fun L140_ h14_ => ?_
    have hz14_ := hI.size
    replace hI := h14_.1
    have u14_ := h14_.2.1
    have hl14_ := h14_.2.2
    clear h14_
    replace hs1 := hs1.up u14_.hh
    replace hll2_ := hll2_.trans u14_.ll
    replace hhh2_ := hhh2_.trans u14_.hh
    replace ht5_ := ht5_.up u14_ (by simp)
    replace htb4__6 := htb4__6.up u14_ (by simp)
    replace hsb4__6_1 := hsb4__6_1.up u14_.hh
    replace hll6_ := hll6_.trans u14_.ll
    replace hhh6_ := hhh6_.trans u14_.hh
    replace hs14_1 := hs14_1.up hl14_
    clear hI14_ u14_ hl14_
    refine ⟨_, rfl, ?_⟩
    refine Ops_step (R_move rfl) rfl rfl ?_
    refine Ops_step (R_extract (v := vi r14_0) rfl rfl) rfl rfl ?_
    refine Ops_step (R_extract (v := .slice A14_1 r14_1.length c14_1) rfl rfl) rfl rfl ?_
    refine Ops_step (R_extract (v := .bool r14_2) rfl rfl) rfl rfl ?_
    refine Ops_step (R_assign rfl) rfl rfl (Ops_step (R_assign rfl) rfl rfl (Ops_step (R_assign rfl) rfl rfl ?_))
    refine Ops_nil ?_
    refine then_n (k13 _ _ ?_)
    clear k13 K13
    refine W_keepB [0, 1, 6, 7, 8, 9, 16, 17, 18] fun B_ b_ => ?_
    simp only [e_, Nat.reduceAdd, Nat.reduceBEq] at b_
    subst b_
    refine ex_ h fun J16_ hr16_ h => ?_
    refine W_seq_join [0, 1, 16, 17, 18] [55] (fun vals_ w2 => ∃ (x55_16 : Bool) (L H : Gh), vals_ = [.bool x55_16] ∧ J16_ x55_16 ∧ Inv [] G w L H w2 ∧ Le L140_ L ∧ Le H14_ H ∧ Tok H w2 b5_ 26 ([.pointer none, .pointer (some ⟨b4_, 0, none⟩)]) ∧ Tok H w2 b4_ 46 ([.slice Ab4__6_1 yb4__6.book_.l_.length cb4__6_1, .map none, .pointer none, vi yb4__6.gen_, vi yb4__6.place_]) ∧ True) (fun B_ b_ => ?_) (fun B_ b_ => ?_)
    ·
     simp only [e_, Nat.reduceAdd, Nat.reduceBEq] at b_
     subst b_
     clear hr16_
     have hll16_ := Le.refl L140_
     have hhh16_ := Le.refl H14_
     refine W_region [29, 30, 31, 32, 33, 34, 35, 36, 37, 38, 39, 40, 41, 42, 43, 44, 45, 46, 47, 48, 49, 50, 51, 52, 53, 54, 55] rfl (Ops_step (R_move rfl) rfl rfl (Ops_step (R_move rfl) rfl rfl (Ops_step (R_move rfl) rfl rfl ?_)))
     refine Ops_call (C_func bd15 rfl) rfl rfl ?_
     refine (journal_Journal_Put_v1_ok (x1 := x0) (x2 := x1) hI.st (hg.up hI.le) hc1 hs1 h).mono ?_
     rintro _ w17_ ⟨r17_0, L17_, H17_, rfl, hI17_, h⟩
     refine Exists.elim (hI.call hI17_ (by simp)) fun L170_ h17_ => ?_
     have hz17_ := hI.size
     replace hI := h17_.1
     have u17_ := h17_.2.1
     have hl17_ := h17_.2.2
     clear h17_
     replace hs1 := hs1.up u17_.hh
     replace hll2_ := hll2_.trans u17_.ll
     replace hhh2_ := hhh2_.trans u17_.hh
     replace ht5_ := ht5_.up u17_ (by simp)
     replace htb4__6 := htb4__6.up u17_ (by simp)
     replace hsb4__6_1 := hsb4__6_1.up u17_.hh
     replace hll6_ := hll6_.trans u17_.ll
     replace hhh6_ := hhh6_.trans u17_.hh
     replace hs14_1 := hs14_1.up u17_.ll
     replace hll16_ := hll16_.trans u17_.ll
     replace hhh16_ := hhh16_.trans u17_.hh
     clear hI17_ u17_ hl17_
     refine ⟨_, rfl, ?_⟩
     refine Ops_step (R_neq rfl rfl) rfl rfl (Ops_step (R_move rfl) rfl rfl ?_)
     refine Ops_split 34 rfl (fun hg18_ => ?_) (fun hg18_ => ?_)
     ·
      replace h := h.1 hg18_
      refine Ops_pass rfl rfl (Ops_pass rfl rfl (Ops_pass rfl rfl (Ops_step (R_pick_true rfl rfl) rfl rfl (Ops_step (R_move rfl) rfl rfl ?_))))
      refine Ops_pass rfl rfl (Ops_pass rfl rfl (Ops_pass rfl rfl (Ops_pass rfl rfl (Ops_pass rfl rfl ?_))))
      refine Ops_pass rfl rfl (Ops_pass rfl rfl (Ops_pass rfl rfl (Ops_pass rfl rfl (Ops_pass rfl rfl ?_))))
      refine Ops_pass rfl rfl (Ops_pass rfl rfl (Ops_step (R_pick_true rfl rfl) rfl rfl (Ops_step (R_move rfl) rfl rfl (Ops_pass rfl rfl ?_))))
      refine Ops_step (R_pick_true rfl rfl) rfl rfl ?_
      refine Ops_nil ?_
      refine then_n ?_
      exact ⟨_, rfl, ⟨true, _, _, rfl, h, hI, hll16_, hhh16_, ht5_, htb4__6, trivial⟩, ⟨rfl, rfl, rfl, rfl, rfl, trivial⟩⟩
     ·
      replace h := h.2 hg18_
      refine Ops_step (R_move rfl) rfl rfl ?_
      refine Ops_call (C_func bd14 rfl) rfl rfl ?_
      refine (journal_Journal_Check_v1_ok  hI.st (hg.up hI.le)  h).mono ?_
      rintro _ w19_ ⟨r19_0, L19_, H19_, rfl, hI19_, h⟩
      refine Exists.elim (hI.call hI19_ (by simp)) fun L190_ h19_ => ?_
      have hz19_ := hI.size
      replace hI := h19_.1
      have u19_ := h19_.2.1
      have hl19_ := h19_.2.2
      clear h19_
      replace hs1 := hs1.up u19_.hh
      replace hll2_ := hll2_.trans u19_.ll
      replace hhh2_ := hhh2_.trans u19_.hh
      replace ht5_ := ht5_.up u19_ (by simp)
      replace htb4__6 := htb4__6.up u19_ (by simp)
      replace hsb4__6_1 := hsb4__6_1.up u19_.hh
      replace hll6_ := hll6_.trans u19_.ll
      replace hhh6_ := hhh6_.trans u19_.hh
      replace hs14_1 := hs14_1.up u19_.ll
      replace hll16_ := hll16_.trans u19_.ll
      replace hhh16_ := hhh16_.trans u19_.hh
      clear hI19_ u19_ hl19_
      refine ⟨_, rfl, ?_⟩
      refine Ops_step (R_neq rfl rfl) rfl rfl (Ops_step (R_pick_false rfl rfl) rfl rfl (Ops_step (R_move rfl) rfl rfl ?_))
      refine Ops_split 39 rfl (fun hg20_ => ?_) (fun hg20_ => ?_)
      ·
       replace h := h.1 hg20_
       refine Ops_pass rfl rfl (Ops_pass rfl rfl (Ops_pass rfl rfl (Ops_pass rfl rfl (Ops_pass rfl rfl ?_))))
       refine Ops_pass rfl rfl (Ops_pass rfl rfl (Ops_pass rfl rfl (Ops_pass rfl rfl (Ops_pass rfl rfl ?_))))
       refine Ops_pass rfl rfl (Ops_pass rfl rfl (Ops_step (R_pick_true rfl rfl) rfl rfl (Ops_step (R_move rfl) rfl rfl (Ops_pass rfl rfl ?_))))
       refine Ops_step (R_pick_true rfl rfl) rfl rfl ?_
       refine Ops_nil ?_
       refine then_n ?_
       exact ⟨_, rfl, ⟨true, _, _, rfl, h, hI, hll16_, hhh16_, ht5_, htb4__6, trivial⟩, ⟨rfl, rfl, rfl, rfl, rfl, trivial⟩⟩
      ·
       replace h := h.2 hg20_
       refine Ops_step (R_move rfl) rfl rfl ?_
       refine Ops_call (C_func bd19 rfl) rfl rfl ?_
       refine (journal_Journal_Len_v1_ok  hI.st (hg.up hI.le)  h).mono ?_
       rintro _ w21_ ⟨r21_0, L21_, H21_, rfl, hI21_, h⟩
       refine Exists.elim (hI.call hI21_ (by simp)) fun L210_ h21_ => ?_
       have hz21_ := hI.size
       replace hI := h21_.1
       have u21_ := h21_.2.1
       have hl21_ := h21_.2.2
       clear h21_
       replace hs1 := hs1.up u21_.hh
       replace hll2_ := hll2_.trans u21_.ll
       replace hhh2_ := hhh2_.trans u21_.hh
       replace ht5_ := ht5_.up u21_ (by simp)
       replace htb4__6 := htb4__6.up u21_ (by simp)
       replace hsb4__6_1 := hsb4__6_1.up u21_.hh
       replace hll6_ := hll6_.trans u21_.ll
       replace hhh6_ := hhh6_.trans u21_.hh
       replace hs14_1 := hs14_1.up u21_.ll
       replace hll16_ := hll16_.trans u21_.ll
       replace hhh16_ := hhh16_.trans u21_.hh
       clear hI21_ u21_ hl21_
       refine ⟨_, rfl, ?_⟩
       refine Ops_step (R_move rfl) rfl rfl (Ops_step (R_move rfl) rfl rfl ?_)
       refine Ops_call (C_func bd17 rfl) rfl rfl ?_
       refine (journal_Journal_Bytes_v1_ok (x1 := x0) hI.st (hg.up hI.le)  h).mono ?_
       rintro _ w22_ ⟨r22_0, L22_, H22_, rfl, hI22_, h⟩
       refine Exists.elim (hI.call hI22_ (by simp)) fun L220_ h22_ => ?_
       have hz22_ := hI.size
       replace hI := h22_.1
       have u22_ := h22_.2.1
       have hl22_ := h22_.2.2
       clear h22_
       replace hs1 := hs1.up u22_.hh
       replace hll2_ := hll2_.trans u22_.ll
       replace hhh2_ := hhh2_.trans u22_.hh
       replace ht5_ := ht5_.up u22_ (by simp)
       replace htb4__6 := htb4__6.up u22_ (by simp)
       replace hsb4__6_1 := hsb4__6_1.up u22_.hh
       replace hll6_ := hll6_.trans u22_.ll
       replace hhh6_ := hhh6_.trans u22_.hh
       replace hs14_1 := hs14_1.up u22_.ll
       replace hll16_ := hll16_.trans u22_.ll
       replace hhh16_ := hhh16_.trans u22_.hh
       clear hI22_ u22_ hl22_
       refine ⟨_, rfl, ?_⟩
       have hk23_ := h.1
       replace h := h.2
       refine Ops_step (R_add rfl rfl (wI hk23_.1 hk23_.2)) rfl rfl (Ops_step (R_move rfl) rfl rfl ?_)
       have hk24_ := h.1
       replace h := h.2
       refine Ops_step (R_add rfl rfl (wI hk24_.1 hk24_.2)) rfl rfl (Ops_step (R_move rfl) rfl rfl (Ops_step (R_len Try.underlying29 rfl rfl) rfl rfl ?_))
       have hk25_ := h.1
       replace h := h.2
       refine Ops_step (R_add rfl rfl (wI hk25_.1 hk25_.2)) rfl rfl (Ops_step (R_neq rfl rfl) rfl rfl (Ops_step (R_pick_false rfl rfl) rfl rfl (Ops_step (R_move rfl) rfl rfl ?_)))
       refine Ops_split 53 rfl (fun hg26_ => ?_) (fun hg26_ => ?_)
       ·
        replace h := h.1 hg26_
        refine Ops_pass rfl rfl (Ops_step (R_pick_true rfl rfl) rfl rfl ?_)
        refine Ops_nil ?_
        refine then_n ?_
        exact ⟨_, rfl, ⟨true, _, _, rfl, h, hI, hll16_, hhh16_, ht5_, htb4__6, trivial⟩, ⟨rfl, rfl, rfl, rfl, rfl, trivial⟩⟩
       ·
        replace h := h.2 hg26_
        refine Ops_step (R_move rfl) rfl rfl (Ops_step (R_pick_false rfl rfl) rfl rfl ?_)
        refine Ops_nil ?_
        refine then_n ?_
        exact ⟨_, rfl, ⟨r14_2, _, _, rfl, h, hI, hll16_, hhh16_, ht5_, htb4__6, trivial⟩, ⟨rfl, rfl, rfl, rfl, rfl, trivial⟩⟩
    ·
     simp only [e_, Nat.reduceAdd, Nat.reduceBEq] at b_
     subst b_
     clear h
     clear ht5_
     clear htb4__6
     rintro _ w16_ ⟨x55_16, L16_, H16_, rfl, hJ16_, hI16_, hll16_, hhh16_, ht5_, htb4__6, -⟩
     replace hI := hI16_
     clear hI16_
     have h := hr16_ x55_16 hJ16_
     clear hr16_ hJ16_
     replace hs1 := hs1.up hhh16_
     replace hll2_ := hll2_.trans hll16_
     replace hhh2_ := hhh2_.trans hhh16_
     replace hsb4__6_1 := hsb4__6_1.up hhh16_
     replace hll6_ := hll6_.trans hll16_
     replace hhh6_ := hhh6_.trans hhh16_
     refine W_cond rfl (fun hc27_ => ?_) (fun hc27_ => ?_)
     ·
      replace h := h.1 hc27_
      refine W_seq_k fun K28 k28 => ?_
      refine W_region [4] rfl (Ops_step (R_assign rfl) rfl rfl ?_)
      refine Ops_nil ?_
      refine then_n (k28 _ _ ?_)
      clear k28 K28
      refine W_keepB [4] fun B_ b_ => ?_
      simp only [e_, Nat.reduceAdd, Nat.reduceBEq] at b_
      subst b_
      refine W_ret ?_
      refine block_ret ?_
      refine then_ret ?_
      clear k10 K10
      refine then_ret ?_
      refine block_ret ?_
      refine then_ret ?_
      refine ⟨_, ⟨_, _, rfl, rfl, rfl⟩, ?_⟩
      exact ⟨false, _, _, rfl, hI, h⟩
     ·
      replace h := h.2 hc27_
      refine W_skip ?_
      refine block_n ?_
      refine then_n (k10 _ _ ?_)
      clear k10 K10
      refine W_region [56, 18] rfl ?_
      have hk30_ := h.1
      replace h := h.2
      refine Ops_step (R_add rfl rfl (wI hk30_.1 hk30_.2)) rfl rfl (Ops_step (R_move rfl) rfl rfl ?_)
      refine Ops_nil ?_
      refine then_n ?_
      exact h.elim fun m_ h => ⟨m_, _, h.1, rfl, ⟨(x18_6 + 1), yb4__6, Ab4__6_1, cb4__6_1, _, _, rfl, h.2, hI, hll6_, hhh6_, htb4__6, hcb4__6_1, hsb4__6_1, ht5_, trivial⟩, ⟨rfl, rfl, rfl, rfl, trivial⟩⟩
   ·
    replace h := h.2 hi12_
    refine Ops_step (R_indexSlK Try.underlying47 sz26 rfl rfl hi12_ (by decide)) rfl rfl ?_
    refine Ops_step (R_loadB (v := .pointer (some ⟨b4_, 0, none⟩)) ag26 rfl ht5_.blk rfl) rfl rfl ?_
    refine Ops_step (R_assign rfl) rfl rfl ?_
    refine Ops_nil ?_
    refine then_n (k11 _ _ ?_)
    clear k11 K11
    refine W_seq_k fun K31 k31 => ?_
    refine W_region [23, 24, 25, 22, 26, 27, 28, 7, 8, 9] rfl (Ops_step (R_move rfl) rfl rfl (Ops_step (R_move rfl) rfl rfl ?_))
    refine Ops_call (C_func bd18 rfl) rfl rfl ?_
    refine (journal_Journal_At_v2_ok (x1 := x0) (z0 := yb4__6) hI.st (hg.up hI.le) htb4__6 hcb4__6_1 hsb4__6_1 h).mono ?_
    rintro _ w32_ ⟨r32_0, A32_1, c32_1, r32_1, r32_2, L32_, H32_, rfl, hI32_, ho32_1, h⟩
    refine Exists.elim (hI.call hI32_ (by simp)) fun L320_ h32_ => ?_
    have hz32_ := hI.size
    replace hI := h32_.1
    have u32_ := h32_.2.1
    have hl32_ := h32_.2.2
    clear h32_
    replace hs1 := hs1.up u32_.hh
    replace hll2_ := hll2_.trans u32_.ll
    replace hhh2_ := hhh2_.trans u32_.hh
    replace ht5_ := ht5_.up u32_ (by simp)
    replace htb4__6 := htb4__6.up u32_ (by simp)
    replace hsb4__6_1 := hsb4__6_1.up u32_.hh
    replace hll6_ := hll6_.trans u32_.ll
    replace hhh6_ := hhh6_.trans u32_.hh
    replace ho32_1 := OwnS.backS ho32_1 hz32_ (Le.refl _)
    clear hI32_ u32_ hl32_
    refine ⟨_, rfl, ?_⟩
    refine Exists.elim (ho32_1.freeze hI) fun L33_ h33_ => Exists.elim h33_ fun H33_ h33_ => ?_
    replace hI := h33_.1
    have u33_ := h33_.2.1
    have hs33_ := h33_.2.2.1 (Le.no _)
    have hc33_ := ho32_1.cap
    replace hs1 := hs1.up u33_.hh
    replace hll2_ := hll2_.trans u33_.ll
    replace hhh2_ := hhh2_.trans u33_.hh
    replace ht5_ := ht5_.up u33_ (ht5_.sep ho32_1 (by decide))
    replace htb4__6 := htb4__6.up u33_ (htb4__6.sep ho32_1 (by decide))
    replace hsb4__6_1 := hsb4__6_1.up u33_.hh
    replace hll6_ := hll6_.trans u33_.ll
    replace hhh6_ := hhh6_.trans u33_.hh
    clear h33_ u33_ ho32_1
    refine Ops_step (R_move rfl) rfl rfl ?_
    refine Ops_step (R_extract (v := vi r32_0) rfl rfl) rfl rfl ?_
    refine Ops_step (R_extract (v := .slice A32_1 r32_1.length c32_1) rfl rfl) rfl rfl ?_
    refine Ops_step (R_extract (v := .bool r32_2) rfl rfl) rfl rfl ?_
    refine Ops_step (R_assign rfl) rfl rfl (Ops_step (R_assign rfl) rfl rfl (Ops_step (R_assign rfl) rfl rfl ?_))
    refine Ops_nil ?_
    refine then_n (k31 _ _ ?_)
    clear k31 K31
    refine W_keepB [0, 1, 6, 7, 8, 9, 16, 17, 18] fun B_ b_ => ?_
    simp only [e_, Nat.reduceAdd, Nat.reduceBEq] at b_
    subst b_
    refine ex_ h fun J35_ hr35_ h => ?_
    refine W_seq_join [0, 1, 16, 17, 18] [55] (fun vals_ w2 => ∃ (x55_35 : Bool) (yb4__35 : journal_Journal) (Ab4__35_1 : Option Addr) (cb4__35_1 : Nat) (L H : Gh), vals_ = [.bool x55_35] ∧ J35_ x55_35 yb4__35 ∧ Inv [] G w L H w2 ∧ Le L33_ L ∧ Le H33_ H ∧ Tok H w2 b4_ 46 ([.slice Ab4__35_1 yb4__35.book_.l_.length cb4__35_1, .map none, .pointer none, vi yb4__35.gen_, vi yb4__35.place_]) ∧ yb4__35.book_.l_.length ≤ cb4__35_1 ∧ Sl H Ab4__35_1 yb4__35.book_.l_ ∧ Tok H w2 b5_ 26 ([.pointer none, .pointer (some ⟨b4_, 0, none⟩)]) ∧ True) (fun B_ b_ => ?_) (fun B_ b_ => ?_)
    ·
     simp only [e_, Nat.reduceAdd, Nat.reduceBEq] at b_
     subst b_
     clear hr35_
     have hll35_ := Le.refl L33_
     have hhh35_ := Le.refl H33_
     refine W_region [29, 30, 31, 32, 33, 34, 35, 36, 37, 38, 39, 40, 41, 42, 43, 44, 45, 46, 47, 48, 49, 50, 51, 52, 53, 54, 55] rfl (Ops_step (R_move rfl) rfl rfl (Ops_step (R_move rfl) rfl rfl (Ops_step (R_move rfl) rfl rfl ?_)))
     refine Ops_call (C_func bd15 rfl) rfl rfl ?_
     refine (journal_Journal_Put_v2_ok (x1 := x0) (x2 := x1) (z0 := yb4__6) hI.st (hg.up hI.le) htb4__6 hcb4__6_1 hsb4__6_1 hc1 hs1 h).mono ?_
     rintro _ w36_ ⟨r36_0, L36_, H36_, rfl, hI36_, h⟩
     refine Exists.elim (hI.call hI36_ (by simp)) fun L360_ h36_ => ?_
     have hz36_ := hI.size
     replace hI := h36_.1
     have u36_ := h36_.2.1
     have hl36_ := h36_.2.2
     clear h36_
     replace hs1 := hs1.up u36_.hh
     replace hll2_ := hll2_.trans u36_.ll
     replace hhh2_ := hhh2_.trans u36_.hh
     replace ht5_ := ht5_.up u36_ (by simp)
     replace htb4__6 := htb4__6.up u36_ (by simp)
     replace hsb4__6_1 := hsb4__6_1.up u36_.hh
     replace hll6_ := hll6_.trans u36_.ll
     replace hhh6_ := hhh6_.trans u36_.hh
     replace hs33_ := hs33_.up u36_.ll
     replace hll35_ := hll35_.trans u36_.ll
     replace hhh35_ := hhh35_.trans u36_.hh
     clear hI36_ u36_ hl36_
     refine ⟨_, rfl, ?_⟩
     refine Ops_step (R_neq rfl rfl) rfl rfl (Ops_step (R_move rfl) rfl rfl ?_)
     refine Ops_split 34 rfl (fun hg37_ => ?_) (fun hg37_ => ?_)
     ·
      replace h := h.1 hg37_
      refine Ops_pass rfl rfl (Ops_pass rfl rfl (Ops_pass rfl rfl (Ops_step (R_pick_true rfl rfl) rfl rfl (Ops_step (R_move rfl) rfl rfl ?_))))
      refine Ops_pass rfl rfl (Ops_pass rfl rfl (Ops_pass rfl rfl (Ops_pass rfl rfl (Ops_pass rfl rfl ?_))))
      refine Ops_pass rfl rfl (Ops_pass rfl rfl (Ops_pass rfl rfl (Ops_pass rfl rfl (Ops_pass rfl rfl ?_))))
      refine Ops_pass rfl rfl (Ops_pass rfl rfl (Ops_step (R_pick_true rfl rfl) rfl rfl (Ops_step (R_move rfl) rfl rfl (Ops_pass rfl rfl ?_))))
      refine Ops_step (R_pick_true rfl rfl) rfl rfl ?_
      refine Ops_nil ?_
      refine then_n ?_
      exact ⟨_, rfl, ⟨true, yb4__6, Ab4__6_1, cb4__6_1, _, _, rfl, h, hI, hll35_, hhh35_, htb4__6, hcb4__6_1, hsb4__6_1, ht5_, trivial⟩, ⟨rfl, rfl, rfl, rfl, rfl, trivial⟩⟩
     ·
      replace h := h.2 hg37_
      refine Ops_step (R_move rfl) rfl rfl ?_
      refine Ops_call (C_func bd14 rfl) rfl rfl ?_
      refine (journal_Journal_Check_v2_ok (z0 := yb4__6) hI.st (hg.up hI.le) htb4__6 hcb4__6_1 hsb4__6_1 h).mono ?_
      rintro _ w38_ ⟨r38_0, y38_o0, A38_o0_1, c38_o0_1, L38_, H38_, rfl, hI38_, ht38_o0, hc38_o0_1, hs38_o0_1, h⟩
      refine Exists.elim (hI.call hI38_ (new1 hge_b4_)) fun L380_ h38_ => ?_
      have hz38_ := hI.size
      replace hI := h38_.1
      have u38_ := h38_.2.1
      have hl38_ := h38_.2.2
      clear h38_
      replace hs1 := hs1.up u38_.hh
      replace hll2_ := hll2_.trans u38_.ll
      replace hhh2_ := hhh2_.trans u38_.hh
      replace ht5_ := ht5_.up u38_ (ht5_.apart htb4__6 (by decide))
      replace hsb4__6_1 := hsb4__6_1.up u38_.hh
      replace hll6_ := hll6_.trans u38_.ll
      replace hhh6_ := hhh6_.trans u38_.hh
      replace hs33_ := hs33_.up u38_.ll
      replace hll35_ := hll35_.trans u38_.ll
      replace hhh35_ := hhh35_.trans u38_.hh
      clear htb4__6
      clear hI38_ u38_ hl38_
      refine ⟨_, rfl, ?_⟩
      refine Ops_step (R_neq rfl rfl) rfl rfl (Ops_step (R_pick_false rfl rfl) rfl rfl (Ops_step (R_move rfl) rfl rfl ?_))
      refine Ops_split 39 rfl (fun hg39_ => ?_) (fun hg39_ => ?_)
      ·
       replace h := h.1 hg39_
       refine Ops_pass rfl rfl (Ops_pass rfl rfl (Ops_pass rfl rfl (Ops_pass rfl rfl (Ops_pass rfl rfl ?_))))
       refine Ops_pass rfl rfl (Ops_pass rfl rfl (Ops_pass rfl rfl (Ops_pass rfl rfl (Ops_pass rfl rfl ?_))))
       refine Ops_pass rfl rfl (Ops_pass rfl rfl (Ops_step (R_pick_true rfl rfl) rfl rfl (Ops_step (R_move rfl) rfl rfl (Ops_pass rfl rfl ?_))))
       refine Ops_step (R_pick_true rfl rfl) rfl rfl ?_
       refine Ops_nil ?_
       refine then_n ?_
       exact ⟨_, rfl, ⟨true, y38_o0, A38_o0_1, c38_o0_1, _, _, rfl, h, hI, hll35_, hhh35_, ht38_o0, hc38_o0_1, hs38_o0_1, ht5_, trivial⟩, ⟨rfl, rfl, rfl, rfl, rfl, trivial⟩⟩
      ·
       replace h := h.2 hg39_
       refine Ops_step (R_move rfl) rfl rfl ?_
       refine Ops_call (C_func bd19 rfl) rfl rfl ?_
       refine (journal_Journal_Len_v2_ok (z0 := y38_o0) hI.st (hg.up hI.le) ht38_o0 hc38_o0_1 hs38_o0_1 h).mono ?_
       rintro _ w40_ ⟨r40_0, L40_, H40_, rfl, hI40_, h⟩
       refine Exists.elim (hI.call hI40_ (by simp)) fun L400_ h40_ => ?_
       have hz40_ := hI.size
       replace hI := h40_.1
       have u40_ := h40_.2.1
       have hl40_ := h40_.2.2
       clear h40_
       replace hs1 := hs1.up u40_.hh
       replace hll2_ := hll2_.trans u40_.ll
       replace hhh2_ := hhh2_.trans u40_.hh
       replace ht5_ := ht5_.up u40_ (by simp)
       replace hll6_ := hll6_.trans u40_.ll
       replace hhh6_ := hhh6_.trans u40_.hh
       replace hs33_ := hs33_.up u40_.ll
       replace hll35_ := hll35_.trans u40_.ll
       replace hhh35_ := hhh35_.trans u40_.hh
       replace ht38_o0 := ht38_o0.up u40_ (by simp)
       replace hs38_o0_1 := hs38_o0_1.up u40_.hh
       clear hI40_ u40_ hl40_
       refine ⟨_, rfl, ?_⟩
       refine Ops_step (R_move rfl) rfl rfl (Ops_step (R_move rfl) rfl rfl ?_)
       refine Ops_call (C_func bd17 rfl) rfl rfl ?_
       refine (journal_Journal_Bytes_v2_ok (x1 := x0) (z0 := y38_o0) hI.st (hg.up hI.le) ht38_o0 hc38_o0_1 hs38_o0_1 h).mono ?_
       rintro _ w41_ ⟨r41_0, L41_, H41_, rfl, hI41_, h⟩
       refine Exists.elim (hI.call hI41_ (by simp)) fun L410_ h41_ => ?_
       have hz41_ := hI.size
       replace hI := h41_.1
       have u41_ := h41_.2.1
       have hl41_ := h41_.2.2
       clear h41_
       replace hs1 := hs1.up u41_.hh
       replace hll2_ := hll2_.trans u41_.ll
       replace hhh2_ := hhh2_.trans u41_.hh
       replace ht5_ := ht5_.up u41_ (by simp)
       replace hll6_ := hll6_.trans u41_.ll
       replace hhh6_ := hhh6_.trans u41_.hh
       replace hs33_ := hs33_.up u41_.ll
       replace hll35_ := hll35_.trans u41_.ll
       replace hhh35_ := hhh35_.trans u41_.hh
       replace ht38_o0 := ht38_o0.up u41_ (by simp)
       replace hs38_o0_1 := hs38_o0_1.up u41_.hh
       clear hI41_ u41_ hl41_
       refine ⟨_, rfl, ?_⟩
       have hk42_ := h.1
       replace h := h.2
       refine Ops_step (R_add rfl rfl (wI hk42_.1 hk42_.2)) rfl rfl (Ops_step (R_move rfl) rfl rfl ?_)
       have hk43_ := h.1
       replace h := h.2
       refine Ops_step (R_add rfl rfl (wI hk43_.1 hk43_.2)) rfl rfl (Ops_step (R_move rfl) rfl rfl (Ops_step (R_len Try.underlying29 rfl rfl) rfl rfl ?_))
       have hk44_ := h.1
       replace h := h.2
       refine Ops_step (R_add rfl rfl (wI hk44_.1 hk44_.2)) rfl rfl (Ops_step (R_neq rfl rfl) rfl rfl (Ops_step (R_pick_false rfl rfl) rfl rfl (Ops_step (R_move rfl) rfl rfl ?_)))
       refine Ops_split 53 rfl (fun hg45_ => ?_) (fun hg45_ => ?_)
       ·
        replace h := h.1 hg45_
        refine Ops_pass rfl rfl (Ops_step (R_pick_true rfl rfl) rfl rfl ?_)
        refine Ops_nil ?_
        refine then_n ?_
        exact ⟨_, rfl, ⟨true, y38_o0, A38_o0_1, c38_o0_1, _, _, rfl, h, hI, hll35_, hhh35_, ht38_o0, hc38_o0_1, hs38_o0_1, ht5_, trivial⟩, ⟨rfl, rfl, rfl, rfl, rfl, trivial⟩⟩
       ·
        replace h := h.2 hg45_
        refine Ops_step (R_move rfl) rfl rfl (Ops_step (R_pick_false rfl rfl) rfl rfl ?_)
        refine Ops_nil ?_
        refine then_n ?_
        exact ⟨_, rfl, ⟨r32_2, y38_o0, A38_o0_1, c38_o0_1, _, _, rfl, h, hI, hll35_, hhh35_, ht38_o0, hc38_o0_1, hs38_o0_1, ht5_, trivial⟩, ⟨rfl, rfl, rfl, rfl, rfl, trivial⟩⟩
    ·
     simp only [e_, Nat.reduceAdd, Nat.reduceBEq] at b_
     subst b_
     clear h
     clear ht5_
     rintro _ w35_ ⟨x55_35, yb4__35, Ab4__35_1, cb4__35_1, L35_, H35_, rfl, hJ35_, hI35_, hll35_, hhh35_, htb4__35, hcb4__35_1, hsb4__35_1, ht5_, -⟩
     replace hI := hI35_
     clear hI35_
     have h := hr35_ x55_35 yb4__35 hJ35_
     clear hr35_ hJ35_
     replace hs1 := hs1.up hhh35_
     replace hll2_ := hll2_.trans hll35_
     replace hhh2_ := hhh2_.trans hhh35_
     replace hll6_ := hll6_.trans hll35_
     replace hhh6_ := hhh6_.trans hhh35_
     refine W_cond rfl (fun hc46_ => ?_) (fun hc46_ => ?_)
     ·
      replace h := h.1 hc46_
      refine W_seq_k fun K47 k47 => ?_
      refine W_region [4] rfl (Ops_step (R_assign rfl) rfl rfl ?_)
      refine Ops_nil ?_
      refine then_n (k47 _ _ ?_)
      clear k47 K47
      refine W_keepB [4] fun B_ b_ => ?_
      simp only [e_, Nat.reduceAdd, Nat.reduceBEq] at b_
      subst b_
      refine W_ret ?_
      refine block_ret ?_
      refine then_ret ?_
      clear k10 K10
      refine then_ret ?_
      refine block_ret ?_
      refine then_ret ?_
      refine ⟨_, ⟨_, _, rfl, rfl, rfl⟩, ?_⟩
      exact ⟨false, _, _, rfl, hI, h⟩
     ·
      replace h := h.2 hc46_
      refine W_skip ?_
      refine block_n ?_
      refine then_n (k10 _ _ ?_)
      clear k10 K10
      refine W_region [56, 18] rfl ?_
      have hk49_ := h.1
      replace h := h.2
      refine Ops_step (R_add rfl rfl (wI hk49_.1 hk49_.2)) rfl rfl (Ops_step (R_move rfl) rfl rfl ?_)
      refine Ops_nil ?_
      refine then_n ?_
      exact h.elim fun m_ h => ⟨m_, _, h.1, rfl, ⟨(x18_6 + 1), yb4__35, Ab4__35_1, cb4__35_1, _, _, rfl, h.2, hI, hll6_, hhh6_, htb4__35, hcb4__35_1, hsb4__35_1, ht5_, trivial⟩, ⟨rfl, rfl, rfl, rfl, trivial⟩⟩
  ·
   replace h := h.2 hc9_
   refine W_exit ?_
   refine then_exit ?_
   clear k8 K8
   refine then_exit ?_
   refine block_exit ?_
   refine then_n ?_
   exact ⟨_, rfl, ⟨_, _, rfl, h, hI, hll2_, hhh2_, trivial⟩, trivial⟩
 ·
  simp only [e_, Nat.reduceAdd, Nat.reduceBEq] at b_
  subst b_
  clear h
  rintro _ w2_ ⟨L2_, H2_, rfl, hJ2_, hI2_, hll2_, hhh2_, -⟩
  replace hI := hI2_
  clear hI2_
  have h := hr2_ hJ2_
  clear hr2_ hJ2_
  refine ex_ h fun J50_ hr50_ h => ?_
  refine W_seq_join [] [] (fun vals_ w2 => ∃  (L H : Gh), vals_ = [] ∧ J50_ ∧ Inv [] G w L H w2 ∧ Le L2_ L ∧ Le H2_ H ∧ True) (fun B_ b_ => ?_) (fun B_ b_ => ?_)
  ·
   simp only [e_, Nat.reduceAdd, Nat.reduceBEq] at b_
   subst b_
   clear hr50_
   have hll50_ := Le.refl L2_
   have hhh50_ := Le.refl H2_
   refine W_seq_k fun K51 k51 => ?_
   refine W_region [57, 58, 59, 60, 61] rfl ?_
   refine Ops_step (R_build (pl := []) (cs := [.slice none 0 0, .slice none 0 0, .slice none 0 0, vi 0, .bool false, .bool false, vi 0]) zr53 pl53 rfl rfl rfl) rfl rfl ?_
   have hI0_ := hI
   refine Ops_to (R_box rfl) rfl rfl ?_
   rintro _ w52_ ⟨b52_, rfl, hb52_, hB52_, hF52_⟩
   replace hI := hI.fr0 hF52_
   have ht52_ : Tok H2_ _ b52_ 53 ([.slice none 0 0, .slice none 0 0, .slice none 0 0, vi 0, .bool false, .bool false, vi 0]) := ⟨hB52_.to rfl, Out.ge hI0_.st (Nat.le_of_eq hb52_.symm)⟩
   have hge_b52_ : w.heap.size ≤ b52_ := hb52_ ▸ hI0_.size
   clear hB52_ hb52_ hI0_ hF52_
   have hI0_ := hI
   refine Ops_to (R_buildSlice (cs := [.pointer none, .pointer (some ⟨b52_, 0, none⟩)]) el54 zr25 (by decide) (by decide) rfl rfl) rfl rfl ?_
   rintro _ w53_ ⟨b53_, rfl, hb53_, hB53_, hF53_⟩
   replace hI := hI.fr0 hF53_
   replace ht52_ := ht52_.fr0 hF53_
   have ht53_ : Tok H2_ _ b53_ 25 ([.pointer none, .pointer (some ⟨b52_, 0, none⟩)]) := ⟨hB53_, Out.ge hI0_.st (Nat.le_of_eq hb53_.symm)⟩
   have hge_b53_ : w.heap.size ≤ b53_ := hb53_ ▸ hI0_.size
   clear hB53_ hb53_ hI0_ hF53_
   refine Ops_step (R_len Try.underlying54 rfl rfl) rfl rfl (Ops_step (R_move rfl) rfl rfl ?_)
   refine Ops_nil ?_
   refine then_n (k51 _ _ ?_)
   clear k51 K51
   refine W_block ?_
   refine Exists.elim h fun I54_ h => Exists.elim h fun n54_ h => ?_
   have h0_ := h.1
   have hs54_ := h.2
   clear h
   refine W_loopB [59, 60] [61] (fun m vals_ w2 => ∃ (x61_54 : Int) (yb52__54 : disk_Disk) (Ab52__54_1 : Option Addr) (cb52__54_1 : Nat) (Ab52__54_2 : Option Addr) (cb52__54_2 : Nat) (Ab52__54_3 : Option Addr) (cb52__54_3 : Nat) (L H : Gh), vals_ = [vi x61_54] ∧ I54_ m x61_54 yb52__54 ∧ Inv [] G w L H w2 ∧ Le L2_ L ∧ Le H2_ H ∧ Tok H w2 b52_ 53 ([.slice Ab52__54_1 yb52__54.files_.e0_.length cb52__54_1, .slice Ab52__54_2 yb52__54.files_.e1_.length cb52__54_2, .slice Ab52__54_3 yb52__54.files_.e2_.length cb52__54_3, vi yb52__54.room_, .bool yb52__54.off_, .bool yb52__54.armed_, vi yb52__54.left_]) ∧ yb52__54.files_.e0_.length ≤ cb52__54_1 ∧ Sl H Ab52__54_1 yb52__54.files_.e0_ ∧ yb52__54.files_.e1_.length ≤ cb52__54_2 ∧ Sl H Ab52__54_2 yb52__54.files_.e1_ ∧ yb52__54.files_.e2_.length ≤ cb52__54_3 ∧ Sl H Ab52__54_3 yb52__54.files_.e2_ ∧ Tok H w2 b53_ 25 ([.pointer none, .pointer (some ⟨b52_, 0, none⟩)]) ∧ True) n54_ _ rfl ⟨0, (disk_Disk.mk (arr3_List_UInt8.mk [] [] []) 0 false false 0), none, 0, none, 0, none, 0, _, _, rfl, h0_, hI, Le.refl _, Le.refl _, ht52_, (Nat.le_refl 0), Sl.nil, (Nat.le_refl 0), Sl.nil, (Nat.le_refl 0), Sl.nil, ht53_, trivial⟩ fun B_ b_ => ?_
   clear h0_
   simp only [e_, Nat.reduceAdd, Nat.reduceBEq] at b_
   subst b_
   clear ht53_
   rintro m54_ _ w54_ ⟨x61_54, yb52__54, Ab52__54_1, cb52__54_1, Ab52__54_2, cb52__54_2, Ab52__54_3, cb52__54_3, L54_, H54_, rfl, hJ54_, hI54_, hll54_, hhh54_, htb52__54, hcb52__54_1, hsb52__54_1, hcb52__54_2, hsb52__54_2, hcb52__54_3, hsb52__54_3, ht53_, -⟩
   replace hI := hI54_
   clear hI54_
   have h := hs54_ m54_ x61_54 yb52__54 hJ54_
   clear hs54_ hJ54_
   replace hll50_ := hll50_.trans hll54_
   replace hhh50_ := hhh50_.trans hhh54_
   refine W_seq_k fun K55 k55 => ?_
   refine W_region [62] rfl (Ops_step (R_lss rfl rfl) rfl rfl ?_)
   refine Ops_nil ?_
   refine then_n (k55 _ _ ?_)
   clear k55 K55
   refine W_seq_k fun K56 k56 => ?_
   refine W_if rfl (fun hc57_ => ?_) (fun hc57_ => ?_)
   ·
    replace h := h.1 hc57_
    refine W_skip ?_
    refine then_n (k56 _ _ ?_)
    clear k56 K56
    refine W_seq_k fun K58 k58 => ?_
    refine W_block ?_
    refine W_seq_k fun K59 k59 => ?_
    refine W_region [63, 64, 11] rfl ?_
    have hk60_ := h.1
    replace h := h.2
    refine split2 hk60_ (fun hi60_ => ?_) (fun hi60_ => ?_)
    ·
     replace h := h.1 hi60_
     refine Ops_step (R_indexSlK Try.underlying54 sz25 rfl rfl hi60_ (by decide)) rfl rfl ?_
     refine Ops_step (R_loadB (v := .pointer none) ag25 rfl ht53_.blk rfl) rfl rfl ?_
     refine Ops_step (R_assign rfl) rfl rfl ?_
     refine Ops_nil ?_
     refine then_n (k59 _ _ ?_)
     clear k59 K59
     refine W_seq_k fun K61 k61 => ?_
     refine W_region [66, 67, 65, 68, 69, 12, 13] rfl (Ops_step (R_move rfl) rfl rfl ?_)
     refine Ops_call (C_func bd20 rfl) rfl rfl ?_
     refine (journal_Open_v1_ok  hI.st (hg.up hI.le)  h).mono ?_
     rintro _ w62_ (⟨r62a_1, L62a_, H62a_, rfl, hI62a_, h⟩ | ⟨r62b_1, o0_62b, y62b_o0, A62b_o0_1, c62b_o0_1, o1_62b, y62b_o1, L62b_, H62b_, rfl, hI62b_, hge_o0_62b, ht62b_o0, hc62b_o0_1, hs62b_o0_1, hge_o1_62b, ht62b_o1, h⟩)
     ·
      refine Exists.elim (hI.call hI62a_ (by simp)) fun L62a0_ h62a_ => ?_
      have hz62a_ := hI.size
      replace hI := h62a_.1
      have u62a_ := h62a_.2.1
      have hl62a_ := h62a_.2.2
      clear h62a_
      replace hll50_ := hll50_.trans u62a_.ll
      replace hhh50_ := hhh50_.trans u62a_.hh
      replace ht53_ := ht53_.up u62a_ (by simp)
      replace htb52__54 := htb52__54.up u62a_ (by simp)
      replace hsb52__54_1 := hsb52__54_1.up u62a_.hh
      replace hsb52__54_2 := hsb52__54_2.up u62a_.hh
      replace hsb52__54_3 := hsb52__54_3.up u62a_.hh
      replace hll54_ := hll54_.trans u62a_.ll
      replace hhh54_ := hhh54_.trans u62a_.hh
      clear hI62a_ u62a_ hl62a_
      refine ⟨_, rfl, ?_⟩
      refine Ops_step (R_move rfl) rfl rfl ?_
      refine Ops_step (R_extract (v := .pointer none) rfl rfl) rfl rfl ?_
      refine Ops_step (R_extract (v := vi r62a_1) rfl rfl) rfl rfl ?_
      refine Ops_step (R_assign rfl) rfl rfl (Ops_step (R_assign rfl) rfl rfl ?_)
      refine Ops_nil ?_
      refine then_n (k61 _ _ ?_)
      clear k61 K61
      refine W_keepB [12, 13, 59, 60, 61] fun B_ b_ => ?_
      simp only [e_, Nat.reduceAdd, Nat.reduceBEq] at b_
      subst b_
      refine ex_ h fun J64_ hr64_ h => ?_
      refine W_seq_join [59, 60, 61] [73, 74, 75] (fun vals_ w2 => ∃ (x73_64 : Int) (x74_64 : Bool) (x75_64 : Bool) (L H : Gh), vals_ = [vi x73_64, .bool x74_64, .bool x75_64] ∧ J64_ x73_64 x74_64 x75_64 ∧ Inv [] G w L H w2 ∧ Le L62a0_ L ∧ Le H62a_ H ∧ Tok H w2 b53_ 25 ([.pointer none, .pointer (some ⟨b52_, 0, none⟩)]) ∧ Tok H w2 b52_ 53 ([.slice Ab52__54_1 yb52__54.files_.e0_.length cb52__54_1, .slice Ab52__54_2 yb52__54.files_.e1_.length cb52__54_2, .slice Ab52__54_3 yb52__54.files_.e2_.length cb52__54_3, vi yb52__54.room_, .bool yb52__54.off_, .bool yb52__54.armed_, vi yb52__54.left_]) ∧ True) (fun B_ b_ => ?_) (fun B_ b_ => ?_)
      ·
       simp only [e_, Nat.reduceAdd, Nat.reduceBEq] at b_
       subst b_
       clear hr64_
       have hll64_ := Le.refl L62a0_
       have hhh64_ := Le.refl H62a_
       refine W_region [70, 71, 72, 73, 74, 75] rfl (Ops_step (R_move rfl) rfl rfl (Ops_step (R_ptrNotNil Try.underlying26 rfl rfl) rfl rfl (Ops_step (R_move rfl) rfl rfl (Ops_step (R_move rfl) rfl rfl ?_))))
       refine Ops_step (R_neq rfl rfl) rfl rfl (Ops_step (R_pick_false rfl rfl) rfl rfl ?_)
       refine Ops_nil ?_
       refine then_n ?_
       exact ⟨_, rfl, ⟨r62a_1, (decide (r62a_1 ≠ 6)), (decide (r62a_1 ≠ 6)), _, _, rfl, h, hI, hll64_, hhh64_, ht53_, htb52__54, trivial⟩, ⟨rfl, rfl, rfl, trivial⟩⟩
      ·
       simp only [e_, Nat.reduceAdd, Nat.reduceBEq] at b_
       subst b_
       clear h
       clear ht53_
       clear htb52__54
       rintro _ w64_ ⟨x73_64, x74_64, x75_64, L64_, H64_, rfl, hJ64_, hI64_, hll64_, hhh64_, ht53_, htb52__54, -⟩
       replace hI := hI64_
       clear hI64_
       have h := hr64_ x73_64 x74_64 x75_64 hJ64_
       clear hr64_ hJ64_
       replace hll50_ := hll50_.trans hll64_
       replace hhh50_ := hhh50_.trans hhh64_
       replace hsb52__54_1 := hsb52__54_1.up hhh64_
       replace hsb52__54_2 := hsb52__54_2.up hhh64_
       replace hsb52__54_3 := hsb52__54_3.up hhh64_
       replace hll54_ := hll54_.trans hll64_
       replace hhh54_ := hhh54_.trans hhh64_
       refine W_cond rfl (fun hc65_ => ?_) (fun hc65_ => ?_)
       ·
        replace h := h.1 hc65_
        refine W_seq_k fun K66 k66 => ?_
        refine W_region [4] rfl (Ops_step (R_assign rfl) rfl rfl ?_)
        refine Ops_nil ?_
        refine then_n (k66 _ _ ?_)
        clear k66 K66
        refine W_keepB [4] fun B_ b_ => ?_
        simp only [e_, Nat.reduceAdd, Nat.reduceBEq] at b_
        subst b_
        refine W_ret ?_
        refine block_ret ?_
        refine then_ret ?_
        clear k58 K58
        refine then_ret ?_
        refine block_ret ?_
        refine then_ret ?_
        refine ⟨_, ⟨_, _, rfl, rfl, rfl⟩, ?_⟩
        exact ⟨false, _, _, rfl, hI, h⟩
       ·
        replace h := h.2 hc65_
        refine W_skip ?_
        refine block_n ?_
        refine then_n (k58 _ _ ?_)
        clear k58 K58
        refine W_region [76, 61] rfl ?_
        have hk68_ := h.1
        replace h := h.2
        refine Ops_step (R_add rfl rfl (wI hk68_.1 hk68_.2)) rfl rfl (Ops_step (R_move rfl) rfl rfl ?_)
        refine Ops_nil ?_
        refine then_n ?_
        exact h.elim fun m_ h => ⟨m_, _, h.1, rfl, ⟨(x61_54 + 1), yb52__54, Ab52__54_1, cb52__54_1, Ab52__54_2, cb52__54_2, Ab52__54_3, cb52__54_3, _, _, rfl, h.2, hI, hll54_, hhh54_, htb52__54, hcb52__54_1, hsb52__54_1, hcb52__54_2, hsb52__54_2, hcb52__54_3, hsb52__54_3, ht53_, trivial⟩, ⟨rfl, rfl, trivial⟩⟩
     ·
      have hge0_o0_62b := hge_o0_62b
      replace hge_o0_62b := Nat.le_trans hI.size hge_o0_62b
      have hge0_o1_62b := hge_o1_62b
      replace hge_o1_62b := Nat.le_trans hI.size hge_o1_62b
      refine Exists.elim (hI.call hI62b_ (by simp)) fun L62b0_ h62b_ => ?_
      have hz62b_ := hI.size
      replace hI := h62b_.1
      have u62b_ := h62b_.2.1
      have hl62b_ := h62b_.2.2
      clear h62b_
      replace hll50_ := hll50_.trans u62b_.ll
      replace hhh50_ := hhh50_.trans u62b_.hh
      replace ht53_ := ht53_.up u62b_ (by simp)
      replace htb52__54 := htb52__54.up u62b_ (by simp)
      replace hsb52__54_1 := hsb52__54_1.up u62b_.hh
      replace hsb52__54_2 := hsb52__54_2.up u62b_.hh
      replace hsb52__54_3 := hsb52__54_3.up u62b_.hh
      replace hll54_ := hll54_.trans u62b_.ll
      replace hhh54_ := hhh54_.trans u62b_.hh
      clear hI62b_ u62b_ hl62b_
      refine ⟨_, rfl, ?_⟩
      refine Ops_step (R_move rfl) rfl rfl ?_
      refine Ops_step (R_extract (v := .pointer (some ⟨o0_62b, 0, none⟩)) rfl rfl) rfl rfl ?_
      refine Ops_step (R_extract (v := vi r62b_1) rfl rfl) rfl rfl ?_
      refine Ops_step (R_assign rfl) rfl rfl (Ops_step (R_assign rfl) rfl rfl ?_)
      refine Ops_nil ?_
      refine then_n (k61 _ _ ?_)
      clear k61 K61
      refine W_keepB [12, 13, 59, 60, 61] fun B_ b_ => ?_
      simp only [e_, Nat.reduceAdd, Nat.reduceBEq] at b_
      subst b_
      refine ex_ h fun J70_ hr70_ h => ?_
      refine W_seq_join [59, 60, 61] [75] (fun vals_ w2 => ∃ (x75_70 : Bool) (L H : Gh), vals_ = [.bool x75_70] ∧ J70_ x75_70 ∧ Inv [] G w L H w2 ∧ Le L62b0_ L ∧ Le H62b_ H ∧ Tok H w2 b53_ 25 ([.pointer none, .pointer (some ⟨b52_, 0, none⟩)]) ∧ Tok H w2 b52_ 53 ([.slice Ab52__54_1 yb52__54.files_.e0_.length cb52__54_1, .slice Ab52__54_2 yb52__54.files_.e1_.length cb52__54_2, .slice Ab52__54_3 yb52__54.files_.e2_.length cb52__54_3, vi yb52__54.room_, .bool yb52__54.off_, .bool yb52__54.armed_, vi yb52__54.left_]) ∧ True) (fun B_ b_ => ?_) (fun B_ b_ => ?_)
      ·
       simp only [e_, Nat.reduceAdd, Nat.reduceBEq] at b_
       subst b_
       clear hr70_
       have hll70_ := Le.refl L62b0_
       have hhh70_ := Le.refl H62b_
       refine W_region [70, 71, 72, 73, 74, 75] rfl (Ops_step (R_move rfl) rfl rfl (Ops_step (R_ptrNotNil Try.underlying26 rfl rfl) rfl rfl (Ops_step (R_move rfl) rfl rfl (Ops_pass rfl rfl ?_))))
       refine Ops_pass rfl rfl (Ops_step (R_pick_true rfl rfl) rfl rfl ?_)
       refine Ops_nil ?_
       refine then_n ?_
       exact ⟨_, rfl, ⟨true, _, _, rfl, h, hI, hll70_, hhh70_, ht53_, htb52__54, trivial⟩, ⟨rfl, rfl, rfl, trivial⟩⟩
      ·
       simp only [e_, Nat.reduceAdd, Nat.reduceBEq] at b_
       subst b_
       clear h
       clear ht53_
       clear htb52__54
       rintro _ w70_ ⟨x75_70, L70_, H70_, rfl, hJ70_, hI70_, hll70_, hhh70_, ht53_, htb52__54, -⟩
       replace hI := hI70_
       clear hI70_
       have h := hr70_ x75_70 hJ70_
       clear hr70_ hJ70_
       replace hll50_ := hll50_.trans hll70_
       replace hhh50_ := hhh50_.trans hhh70_
       replace hsb52__54_1 := hsb52__54_1.up hhh70_
       replace hsb52__54_2 := hsb52__54_2.up hhh70_
       replace hsb52__54_3 := hsb52__54_3.up hhh70_
       replace hll54_ := hll54_.trans hll70_
       replace hhh54_ := hhh54_.trans hhh70_
       refine W_cond rfl (fun hc71_ => ?_) (fun hc71_ => ?_)
       ·
        replace h := h.1 hc71_
        refine W_seq_k fun K72 k72 => ?_
        refine W_region [4] rfl (Ops_step (R_assign rfl) rfl rfl ?_)
        refine Ops_nil ?_
        refine then_n (k72 _ _ ?_)
        clear k72 K72
        refine W_ret ?_
        refine block_ret ?_
        refine then_ret ?_
        clear k58 K58
        refine then_ret ?_
        refine block_ret ?_
        refine then_ret ?_
        refine ⟨_, ⟨_, _, rfl, rfl, rfl⟩, ?_⟩
        exact ⟨false, _, _, rfl, hI, h⟩
       ·
        replace h := h.2 hc71_
        refine W_skip ?_
        refine block_n ?_
        refine then_n (k58 _ _ ?_)
        clear k58 K58
        refine W_region [76, 61] rfl ?_
        have hk73_ := h.1
        replace h := h.2
        refine Ops_step (R_add rfl rfl (wI hk73_.1 hk73_.2)) rfl rfl (Ops_step (R_move rfl) rfl rfl ?_)
        refine Ops_nil ?_
        refine then_n ?_
        exact h.elim fun m_ h => ⟨m_, _, h.1, rfl, ⟨(x61_54 + 1), yb52__54, Ab52__54_1, cb52__54_1, Ab52__54_2, cb52__54_2, Ab52__54_3, cb52__54_3, _, _, rfl, h.2, hI, hll54_, hhh54_, htb52__54, hcb52__54_1, hsb52__54_1, hcb52__54_2, hsb52__54_2, hcb52__54_3, hsb52__54_3, ht53_, trivial⟩, ⟨rfl, rfl, trivial⟩⟩
    ·
     replace h := h.2 hi60_
     refine Ops_step (R_indexSlK Try.underlying54 sz25 rfl rfl hi60_ (by decide)) rfl rfl ?_
     refine Ops_step (R_loadB (v := .pointer (some ⟨b52_, 0, none⟩)) ag25 rfl ht53_.blk rfl) rfl rfl ?_
     refine Ops_step (R_assign rfl) rfl rfl ?_
     refine Ops_nil ?_
     refine then_n (k59 _ _ ?_)
     clear k59 K59
     refine W_seq_k fun K74 k74 => ?_
     refine W_region [66, 67, 65, 68, 69, 12, 13] rfl (Ops_step (R_move rfl) rfl rfl ?_)
     refine Ops_call (C_func bd20 rfl) rfl rfl ?_
     refine (journal_Open_ok (z0 := yb52__54) hI.st (hg.up hI.le) htb52__54 hcb52__54_1 hsb52__54_1 hcb52__54_2 hsb52__54_2 hcb52__54_3 hsb52__54_3 h).mono ?_
     rintro _ w75_ (⟨r75a_1, y75a_o0, A75a_o0_1, c75a_o0_1, A75a_o0_2, c75a_o0_2, A75a_o0_3, c75a_o0_3, L75a_, H75a_, rfl, hI75a_, ht75a_o0, hc75a_o0_1, hs75a_o0_1, hc75a_o0_2, hs75a_o0_2, hc75a_o0_3, hs75a_o0_3, h⟩ | ⟨r75b_1, y75b_o0, A75b_o0_1, c75b_o0_1, A75b_o0_2, c75b_o0_2, A75b_o0_3, c75b_o0_3, o1_75b, y75b_o1, A75b_o1_1, c75b_o1_1, o2_75b, y75b_o2, L75b_, H75b_, rfl, hI75b_, ht75b_o0, hc75b_o0_1, hs75b_o0_1, hc75b_o0_2, hs75b_o0_2, hc75b_o0_3, hs75b_o0_3, hge_o1_75b, ht75b_o1, hc75b_o1_1, hs75b_o1_1, hge_o2_75b, ht75b_o2, h⟩)
     ·
      refine Exists.elim (hI.call hI75a_ (new1 hge_b52_)) fun L75a0_ h75a_ => ?_
      have hz75a_ := hI.size
      replace hI := h75a_.1
      have u75a_ := h75a_.2.1
      have hl75a_ := h75a_.2.2
      clear h75a_
      replace hll50_ := hll50_.trans u75a_.ll
      replace hhh50_ := hhh50_.trans u75a_.hh
      replace ht53_ := ht53_.up u75a_ (ht53_.apart htb52__54 (by decide))
      replace hsb52__54_1 := hsb52__54_1.up u75a_.hh
      replace hsb52__54_2 := hsb52__54_2.up u75a_.hh
      replace hsb52__54_3 := hsb52__54_3.up u75a_.hh
      replace hll54_ := hll54_.trans u75a_.ll
      replace hhh54_ := hhh54_.trans u75a_.hh
      clear htb52__54
      clear hI75a_ u75a_ hl75a_
      refine ⟨_, rfl, ?_⟩
      refine Ops_step (R_move rfl) rfl rfl ?_
      refine Ops_step (R_extract (v := .pointer none) rfl rfl) rfl rfl ?_
      refine Ops_step (R_extract (v := vi r75a_1) rfl rfl) rfl rfl ?_
      refine Ops_step (R_assign rfl) rfl rfl (Ops_step (R_assign rfl) rfl rfl ?_)
      refine Ops_nil ?_
      refine then_n (k74 _ _ ?_)
      clear k74 K74
      refine W_keepB [12, 13, 59, 60, 61] fun B_ b_ => ?_
      simp only [e_, Nat.reduceAdd, Nat.reduceBEq] at b_
      subst b_
      refine ex_ h fun J77_ hr77_ h => ?_
      refine W_seq_join [59, 60, 61] [73, 74, 75] (fun vals_ w2 => ∃ (x73_77 : Int) (x74_77 : Bool) (x75_77 : Bool) (L H : Gh), vals_ = [vi x73_77, .bool x74_77, .bool x75_77] ∧ J77_ x73_77 x74_77 x75_77 ∧ Inv [] G w L H w2 ∧ Le L75a0_ L ∧ Le H75a_ H ∧ Tok H w2 b53_ 25 ([.pointer none, .pointer (some ⟨b52_, 0, none⟩)]) ∧ Tok H w2 b52_ 53 ([.slice A75a_o0_1 y75a_o0.files_.e0_.length c75a_o0_1, .slice A75a_o0_2 y75a_o0.files_.e1_.length c75a_o0_2, .slice A75a_o0_3 y75a_o0.files_.e2_.length c75a_o0_3, vi y75a_o0.room_, .bool y75a_o0.off_, .bool y75a_o0.armed_, vi y75a_o0.left_]) ∧ True) (fun B_ b_ => ?_) (fun B_ b_ => ?_)
      ·
       simp only [e_, Nat.reduceAdd, Nat.reduceBEq] at b_
       subst b_
       clear hr77_
       have hll77_ := Le.refl L75a0_
       have hhh77_ := Le.refl H75a_
       refine W_region [70, 71, 72, 73, 74, 75] rfl (Ops_step (R_move rfl) rfl rfl (Ops_step (R_ptrNotNil Try.underlying26 rfl rfl) rfl rfl (Ops_step (R_move rfl) rfl rfl (Ops_step (R_move rfl) rfl rfl ?_))))
       refine Ops_step (R_neq rfl rfl) rfl rfl (Ops_step (R_pick_false rfl rfl) rfl rfl ?_)
       refine Ops_nil ?_
       refine then_n ?_
       exact ⟨_, rfl, ⟨r75a_1, (decide (r75a_1 ≠ 6)), (decide (r75a_1 ≠ 6)), _, _, rfl, h, hI, hll77_, hhh77_, ht53_, ht75a_o0, trivial⟩, ⟨rfl, rfl, rfl, trivial⟩⟩
      ·
       simp only [e_, Nat.reduceAdd, Nat.reduceBEq] at b_
       subst b_
       clear h
       clear ht53_
       clear ht75a_o0
       rintro _ w77_ ⟨x73_77, x74_77, x75_77, L77_, H77_, rfl, hJ77_, hI77_, hll77_, hhh77_, ht53_, ht75a_o0, -⟩
       replace hI := hI77_
       clear hI77_
       have h := hr77_ x73_77 x74_77 x75_77 hJ77_
       clear hr77_ hJ77_
       replace hll50_ := hll50_.trans hll77_
       replace hhh50_ := hhh50_.trans hhh77_
       replace hll54_ := hll54_.trans hll77_
       replace hhh54_ := hhh54_.trans hhh77_
       replace hs75a_o0_1 := hs75a_o0_1.up hhh77_
       replace hs75a_o0_2 := hs75a_o0_2.up hhh77_
       replace hs75a_o0_3 := hs75a_o0_3.up hhh77_
       refine W_cond rfl (fun hc78_ => ?_) (fun hc78_ => ?_)
       ·
        replace h := h.1 hc78_
        refine W_seq_k fun K79 k79 => ?_
        refine W_region [4] rfl (Ops_step (R_assign rfl) rfl rfl ?_)
        refine Ops_nil ?_
        refine then_n (k79 _ _ ?_)
        clear k79 K79
        refine W_keepB [4] fun B_ b_ => ?_
        simp only [e_, Nat.reduceAdd, Nat.reduceBEq] at b_
        subst b_
        refine W_ret ?_
        refine block_ret ?_
        refine then_ret ?_
        clear k58 K58
        refine then_ret ?_
        refine block_ret ?_
        refine then_ret ?_
        refine ⟨_, ⟨_, _, rfl, rfl, rfl⟩, ?_⟩
        exact ⟨false, _, _, rfl, hI, h⟩
       ·
        replace h := h.2 hc78_
        refine W_skip ?_
        refine block_n ?_
        refine then_n (k58 _ _ ?_)
        clear k58 K58
        refine W_region [76, 61] rfl ?_
        have hk81_ := h.1
        replace h := h.2
        refine Ops_step (R_add rfl rfl (wI hk81_.1 hk81_.2)) rfl rfl (Ops_step (R_move rfl) rfl rfl ?_)
        refine Ops_nil ?_
        refine then_n ?_
        exact h.elim fun m_ h => ⟨m_, _, h.1, rfl, ⟨(x61_54 + 1), y75a_o0, A75a_o0_1, c75a_o0_1, A75a_o0_2, c75a_o0_2, A75a_o0_3, c75a_o0_3, _, _, rfl, h.2, hI, hll54_, hhh54_, ht75a_o0, hc75a_o0_1, hs75a_o0_1, hc75a_o0_2, hs75a_o0_2, hc75a_o0_3, hs75a_o0_3, ht53_, trivial⟩, ⟨rfl, rfl, trivial⟩⟩
     ·
      have hge0_o1_75b := hge_o1_75b
      replace hge_o1_75b := Nat.le_trans hI.size hge_o1_75b
      have hge0_o2_75b := hge_o2_75b
      replace hge_o2_75b := Nat.le_trans hI.size hge_o2_75b
      refine Exists.elim (hI.call hI75b_ (new1 hge_b52_)) fun L75b0_ h75b_ => ?_
      have hz75b_ := hI.size
      replace hI := h75b_.1
      have u75b_ := h75b_.2.1
      have hl75b_ := h75b_.2.2
      clear h75b_
      replace hll50_ := hll50_.trans u75b_.ll
      replace hhh50_ := hhh50_.trans u75b_.hh
      replace ht53_ := ht53_.up u75b_ (ht53_.apart htb52__54 (by decide))
      replace hsb52__54_1 := hsb52__54_1.up u75b_.hh
      replace hsb52__54_2 := hsb52__54_2.up u75b_.hh
      replace hsb52__54_3 := hsb52__54_3.up u75b_.hh
      replace hll54_ := hll54_.trans u75b_.ll
      replace hhh54_ := hhh54_.trans u75b_.hh
      clear htb52__54
      clear hI75b_ u75b_ hl75b_
      refine ⟨_, rfl, ?_⟩
      refine Ops_step (R_move rfl) rfl rfl ?_
      refine Ops_step (R_extract (v := .pointer (some ⟨o1_75b, 0, none⟩)) rfl rfl) rfl rfl ?_
      refine Ops_step (R_extract (v := vi r75b_1) rfl rfl) rfl rfl ?_
      refine Ops_step (R_assign rfl) rfl rfl (Ops_step (R_assign rfl) rfl rfl ?_)
      refine Ops_nil ?_
      refine then_n (k74 _ _ ?_)
      clear k74 K74
      refine W_keepB [12, 13, 59, 60, 61] fun B_ b_ => ?_
      simp only [e_, Nat.reduceAdd, Nat.reduceBEq] at b_
      subst b_
      refine ex_ h fun J83_ hr83_ h => ?_
      refine W_seq_join [59, 60, 61] [75] (fun vals_ w2 => ∃ (x75_83 : Bool) (L H : Gh), vals_ = [.bool x75_83] ∧ J83_ x75_83 ∧ Inv [] G w L H w2 ∧ Le L75b0_ L ∧ Le H75b_ H ∧ Tok H w2 b53_ 25 ([.pointer none, .pointer (some ⟨b52_, 0, none⟩)]) ∧ Tok H w2 b52_ 53 ([.slice A75b_o0_1 y75b_o0.files_.e0_.length c75b_o0_1, .slice A75b_o0_2 y75b_o0.files_.e1_.length c75b_o0_2, .slice A75b_o0_3 y75b_o0.files_.e2_.length c75b_o0_3, vi y75b_o0.room_, .bool y75b_o0.off_, .bool y75b_o0.armed_, vi y75b_o0.left_]) ∧ True) (fun B_ b_ => ?_) (fun B_ b_ => ?_)
      ·
       simp only [e_, Nat.reduceAdd, Nat.reduceBEq] at b_
       subst b_
       clear hr83_
       have hll83_ := Le.refl L75b0_
       have hhh83_ := Le.refl H75b_
       refine W_region [70, 71, 72, 73, 74, 75] rfl (Ops_step (R_move rfl) rfl rfl (Ops_step (R_ptrNotNil Try.underlying26 rfl rfl) rfl rfl (Ops_step (R_move rfl) rfl rfl (Ops_pass rfl rfl ?_))))
       refine Ops_pass rfl rfl (Ops_step (R_pick_true rfl rfl) rfl rfl ?_)
       refine Ops_nil ?_
       refine then_n ?_
       exact ⟨_, rfl, ⟨true, _, _, rfl, h, hI, hll83_, hhh83_, ht53_, ht75b_o0, trivial⟩, ⟨rfl, rfl, rfl, trivial⟩⟩
      ·
       simp only [e_, Nat.reduceAdd, Nat.reduceBEq] at b_
       subst b_
       clear h
       clear ht53_
       clear ht75b_o0
       rintro _ w83_ ⟨x75_83, L83_, H83_, rfl, hJ83_, hI83_, hll83_, hhh83_, ht53_, ht75b_o0, -⟩
       replace hI := hI83_
       clear hI83_
       have h := hr83_ x75_83 hJ83_
       clear hr83_ hJ83_
       replace hll50_ := hll50_.trans hll83_
       replace hhh50_ := hhh50_.trans hhh83_
       replace hll54_ := hll54_.trans hll83_
       replace hhh54_ := hhh54_.trans hhh83_
       replace hs75b_o0_1 := hs75b_o0_1.up hhh83_
       replace hs75b_o0_2 := hs75b_o0_2.up hhh83_
       replace hs75b_o0_3 := hs75b_o0_3.up hhh83_
       refine W_cond rfl (fun hc84_ => ?_) (fun hc84_ => ?_)
       ·
        replace h := h.1 hc84_
        refine W_seq_k fun K85 k85 => ?_
        refine W_region [4] rfl (Ops_step (R_assign rfl) rfl rfl ?_)
        refine Ops_nil ?_
        refine then_n (k85 _ _ ?_)
        clear k85 K85
        refine W_ret ?_
        refine block_ret ?_
        refine then_ret ?_
        clear k58 K58
        refine then_ret ?_
        refine block_ret ?_
        refine then_ret ?_
        refine ⟨_, ⟨_, _, rfl, rfl, rfl⟩, ?_⟩
        exact ⟨false, _, _, rfl, hI, h⟩
       ·
        replace h := h.2 hc84_
        refine W_skip ?_
        refine block_n ?_
        refine then_n (k58 _ _ ?_)
        clear k58 K58
        refine W_region [76, 61] rfl ?_
        have hk86_ := h.1
        replace h := h.2
        refine Ops_step (R_add rfl rfl (wI hk86_.1 hk86_.2)) rfl rfl (Ops_step (R_move rfl) rfl rfl ?_)
        refine Ops_nil ?_
        refine then_n ?_
        exact h.elim fun m_ h => ⟨m_, _, h.1, rfl, ⟨(x61_54 + 1), y75b_o0, A75b_o0_1, c75b_o0_1, A75b_o0_2, c75b_o0_2, A75b_o0_3, c75b_o0_3, _, _, rfl, h.2, hI, hll54_, hhh54_, ht75b_o0, hc75b_o0_1, hs75b_o0_1, hc75b_o0_2, hs75b_o0_2, hc75b_o0_3, hs75b_o0_3, ht53_, trivial⟩, ⟨rfl, rfl, trivial⟩⟩
   ·
    replace h := h.2 hc57_
    refine W_exit ?_
    refine then_exit ?_
    clear k56 K56
    refine then_exit ?_
    refine block_exit ?_
    refine then_n ?_
    exact ⟨_, rfl, ⟨_, _, rfl, h, hI, hll50_, hhh50_, trivial⟩, trivial⟩
  ·
   simp only [e_, Nat.reduceAdd, Nat.reduceBEq] at b_
   subst b_
   clear h
   rintro _ w50_ ⟨L50_, H50_, rfl, hJ50_, hI50_, hll50_, hhh50_, -⟩
   replace hI := hI50_
   clear hI50_
   have h := hr50_ hJ50_
   clear hr50_ hJ50_
   refine W_seq_k fun K87 k87 => ?_
   refine W_region [77, 4] rfl ?_
   refine Ops_call (C_func bd12 rfl) rfl rfl ?_
   refine (sealskinlaw06_awake_ok  hI.st (hg.up hI.le)  h).mono ?_
   rintro _ w88_ ⟨r88_0, L88_, H88_, rfl, hI88_, h⟩
   refine Exists.elim (hI.call hI88_ (by simp)) fun L880_ h88_ => ?_
   have hz88_ := hI.size
   replace hI := h88_.1
   have u88_ := h88_.2.1
   have hl88_ := h88_.2.2
   clear h88_
   clear hI88_ u88_ hl88_
   refine ⟨_, rfl, ?_⟩
   refine Ops_step (R_assign rfl) rfl rfl ?_
   refine Ops_nil ?_
   refine then_n (k87 _ _ ?_)
   clear k87 K87
   refine W_ret ?_
   refine ⟨_, ⟨_, _, rfl, rfl, rfl⟩, ?_⟩
   exact ⟨r88_0, _, _, rfl, hI, h⟩

end Go.Proofs.Ytkmljjhjojolcaa

