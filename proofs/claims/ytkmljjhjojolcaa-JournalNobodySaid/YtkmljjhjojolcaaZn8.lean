/- What is shown of the program on the way to the law. -/
import Derived.Test.YtkmljjhjojolcaaZn3
import Derived.Test.YtkmljjhjojolcaaZn4
import Derived.Test.YtkmljjhjojolcaaZn5
import Derived.Test.YtkmljjhjojolcaaProg
set_option linter.unusedVariables false
set_option linter.unusedSimpArgs false
set_option maxHeartbeats 4000000
namespace Go.Proofs.Ytkmljjhjojolcaa
open Go Go.Sx Go.Lx
namespace TJtB
theorem hm : Try.prog.follows .mixedOrders = true := by kernel_rfl
theorem ag26 : aggB Try.prog 26 = some false := by kernel_rfl
theorem ag29 : aggB Try.prog 29 = some false := by kernel_rfl
theorem ag3 : aggB Try.prog 3 = some false := by kernel_rfl
theorem ag32 : aggB Try.prog 32 = some false := by kernel_rfl
theorem ag41 : aggB Try.prog 41 = some false := by kernel_rfl
theorem ag42 : aggB Try.prog 42 = some false := by kernel_rfl
theorem ag85 : aggB Try.prog 85 = some true := by kernel_rfl
theorem bd46 : bodied Try.prog 46 = true := by kernel_rfl
theorem bd47 : bodied Try.prog 47 = true := by kernel_rfl
theorem bd66 : bodied Try.prog 66 = true := by kernel_rfl
theorem bd67 : bodied Try.prog 67 = true := by kernel_rfl
theorem bd68 : bodied Try.prog 68 = true := by kernel_rfl
theorem bd69 : bodied Try.prog 69 = true := by kernel_rfl
theorem bd70 : bodied Try.prog 70 = true := by kernel_rfl
theorem bd80 : bodied Try.prog 80 = true := by kernel_rfl
theorem bd81 : bodied Try.prog 81 = true := by kernel_rfl
theorem bd82 : bodied Try.prog 82 = true := by kernel_rfl
theorem bd83 : bodied Try.prog 83 = true := by kernel_rfl
theorem bd84 : bodied Try.prog 84 = true := by kernel_rfl
theorem bd85 : bodied Try.prog 85 = true := by kernel_rfl
theorem el41 : Elem Try.prog 41 85 2 32 := Elem.of (by kernel_rfl)
theorem el67 : Elem Try.prog 67 29 1 24 := Elem.of (by kernel_rfl)
theorem fo118_1 : offB Try.prog 118 1 = some 1 := by kernel_rfl
theorem fo118_2 : offB Try.prog 118 2 = some 2 := by kernel_rfl
theorem fo120_0 : offB Try.prog 120 0 = some 0 := by kernel_rfl
theorem fo44_0 : offB Try.prog 44 0 = some 0 := by kernel_rfl
theorem fo44_1 : offB Try.prog 44 1 = some 1 := by kernel_rfl
theorem fo46_2 : offB Try.prog 46 2 = some 3 := by kernel_rfl
theorem fo85_0 : offB Try.prog 85 0 = some 0 := by kernel_rfl
theorem fo85_1 : offB Try.prog 85 1 = some 1 := by kernel_rfl
theorem pl85 : partPl Try.prog 85 = some [(0, 1), (1, 1)] := by kernel_rfl
theorem sz29 : sz Try.prog 29 = some 1 := by kernel_rfl
theorem sz3 : sz Try.prog 3 = some 1 := by kernel_rfl
theorem sz32 : sz Try.prog 32 = some 1 := by kernel_rfl
theorem sz41 : sz Try.prog 41 = some 1 := by kernel_rfl
theorem sz5 : sz Try.prog 5 = some 1 := by kernel_rfl
theorem sz85 : sz Try.prog 85 = some 2 := by kernel_rfl
theorem zr29 : zr Try.prog 29 = some ([.slice none 0 0]) := by kernel_rfl
theorem zr85 : zr Try.prog 85 = some ([.int .i64 0] ++ [.slice none 0 0]) := by kernel_rfl
theorem zv3 : zv Try.prog 3 = some (vi 0) := by kernel_rfl
end TJtB
open TJtB
theorem octet_All_ok {G : Gh} {w : World} (hS : St G w) (hg : GL G) {A0 : Option Addr} {c0 : Nat} {x0 : List UInt8} (hc0 : x0.length ≤ c0) (hs0 : Sl G A0 x0) {Q : (List (List UInt8)) → Int → Prop} (h : octet_All x0 Q) : Calls Try.prog 66 #[.slice A0 x0.length c0] w fun e w2 => ∃ (A0 : Option Addr) (c0 : Nat) (r0 : List (List UInt8)) (r1 : Int) (L H : Gh), e = .returned (.tuple #[.slice A0 r0.length c0, vi r1]) ∧ Inv [] G w L H w2 ∧ OwnS w.heap.size 29 L H w2 A0 c0 r0 ∧ Q r0 r1 := by
 unfold octet_All at h
 have hI := Inv.start (M := []) hS
 refine calls_W 28 Try.func66 rfl Try.ntmps66 rfl [.tmp 2, .tmp 3] rfl ?_
 refine W_seq_k fun K1 k1 => ?_
 refine W_region [2, 3] rfl (Ops_step (R_assign rfl) rfl rfl (Ops_step (R_assign rfl) rfl rfl ?_))
 refine Ops_nil ?_
 refine then_n (k1 _ _ ?_)
 clear k1 K1
 refine W_seq_k fun K2 k2 => ?_
 refine W_region [4] rfl (Ops_step (R_assign rfl) rfl rfl ?_)
 refine Ops_nil ?_
 refine then_n (k2 _ _ ?_)
 clear k2 K2
 refine W_seq_k fun K3 k3 => ?_
 refine W_region [5] rfl (Ops_step (R_assign rfl) rfl rfl ?_)
 refine Ops_nil ?_
 refine then_n (k3 _ _ ?_)
 clear k3 K3
 refine W_block ?_
 refine Exists.elim h fun I4_ h => Exists.elim h fun n4_ h => ?_
 have h0_ := h.1
 have hs4_ := h.2
 clear h
 refine W_loopB [0] [4, 5] (fun m vals_ w2 => ∃ (x4_4 : List (List UInt8)) (A4_4 : Option Addr) (c4_4 : Nat) (x5_4 : Int) (L H : Gh), vals_ = [.slice A4_4 x4_4.length c4_4, vi x5_4] ∧ I4_ m x4_4 x5_4 ∧ Inv [] G w L H w2 ∧ Le Gh.no L ∧ Le G H ∧ OwnS w.heap.size 29 L H w2 A4_4 c4_4 x4_4 ∧ True) n4_ _ rfl ⟨[], none, 0, 0, _, _, rfl, h0_, hI, Le.refl _, Le.refl _, OwnS.nil, trivial⟩ fun B_ b_ => ?_
 clear h0_
 simp only [e_, Nat.reduceAdd, Nat.reduceBEq] at b_
 subst b_
 rintro m4_ _ w4_ ⟨x4_4, A4_4, c4_4, x5_4, L4_, H4_, rfl, hJ4_, hI4_, hll4_, hhh4_, ho4_4, -⟩
 replace hI := hI4_
 clear hI4_
 have h := hs4_ m4_ x4_4 x5_4 hJ4_
 clear hs4_ hJ4_
 replace hs0 := hs0.up hhh4_
 refine W_block ?_
 refine W_seq_k fun K5 k5 => ?_
 refine W_region [10, 11, 12, 13, 9, 14, 15, 16, 6, 7, 8] rfl (Ops_step (R_move rfl) rfl rfl (Ops_step (R_move rfl) rfl rfl ?_))
 have hk7_ := h.1
 replace h := h.2
 have hk8_ := h.1
 replace h := h.2
 refine Exists.elim (cut_ex (n := 1) (l := x5_4) (h := (x0.length : Int)) hs0 rfl (by decide) hc0 hk7_ hk8_ (Int.le_refl _)) fun A6_ h6_ => Exists.elim h6_ fun c6_ h6_ => ?_
 have hr6_ := h6_.1
 have hc6_ := h6_.2.1
 have hs6_ := h6_.2.2
 clear h6_
 refine Ops_step (X_slice (xs := x0) Try.underlying29 sz5 rfl hr6_ hc0 rfl rfl hk7_ hk8_ (Int.le_refl _)) rfl rfl ?_
 clear hr6_
 refine Ops_call (C_func bd80 rfl) rfl rfl ?_
 refine (octet_Open_ok (x0 := (cut x0 x5_4 (x0.length : Int))) hI.st (hg.up hI.le) hc6_ hs6_ h).mono ?_
 rintro _ w9_ ⟨A9_0, c9_0, r9_0, r9_1, r9_2, L9_, H9_, rfl, hI9_, ho9_0, h⟩
 refine Exists.elim (hI.call hI9_ (by simp)) fun L90_ h9_ => ?_
 have hz9_ := hI.size
 replace hI := h9_.1
 have u9_ := h9_.2.1
 have hl9_ := h9_.2.2
 clear h9_
 replace hs0 := hs0.up u9_.hh
 replace ho4_4 := ho4_4.up u9_.ll u9_ (by simp)
 replace hll4_ := hll4_.trans u9_.ll
 replace hhh4_ := hhh4_.trans u9_.hh
 replace ho9_0 := OwnS.backS ho9_0 hz9_ (Le.refl _)
 clear hI9_ u9_ hl9_
 refine ⟨_, rfl, ?_⟩
 refine Exists.elim (ho9_0.freeze hI) fun L10_ h10_ => Exists.elim h10_ fun H10_ h10_ => ?_
 replace hI := h10_.1
 have u10_ := h10_.2.1
 have hs10_ := h10_.2.2.1 (Le.no _)
 have hc10_ := ho9_0.cap
 replace hs0 := hs0.up u10_.hh
 replace ho4_4 := ho4_4.up u10_.ll u10_ (ho4_4.sep ho9_0 (by decide))
 replace hll4_ := hll4_.trans u10_.ll
 replace hhh4_ := hhh4_.trans u10_.hh
 clear h10_ u10_ ho9_0
 refine Ops_step (R_move rfl) rfl rfl ?_
 refine Ops_step (R_extract (v := .slice A9_0 r9_0.length c9_0) rfl rfl) rfl rfl ?_
 refine Ops_step (R_extract (v := vi r9_1) rfl rfl) rfl rfl ?_
 refine Ops_step (R_extract (v := vi r9_2) rfl rfl) rfl rfl ?_
 refine Ops_step (R_assign rfl) rfl rfl (Ops_step (R_assign rfl) rfl rfl (Ops_step (R_assign rfl) rfl rfl ?_))
 refine Ops_nil ?_
 refine then_n (k5 _ _ ?_)
 clear k5 K5
 refine W_keepB [0, 4, 5, 6, 7, 8] fun B_ b_ => ?_
 simp only [e_, Nat.reduceAdd, Nat.reduceBEq] at b_
 subst b_
 refine W_seq_k fun K12 k12 => ?_
 refine W_seq_k fun K13 k13 => ?_
 refine W_region [17, 18] rfl (Ops_step (R_move rfl) rfl rfl (Ops_step (R_neq rfl rfl) rfl rfl ?_))
 refine Ops_nil ?_
 refine then_n (k13 _ _ ?_)
 clear k13 K13
 refine W_if rfl (fun hc14_ => ?_) (fun hc14_ => ?_)
 ·
  replace h := h.1 hc14_
  refine W_seq_k fun K15 k15 => ?_
  refine W_region [19, 20, 2, 3] rfl (Ops_step (R_move rfl) rfl rfl (Ops_step (R_move rfl) rfl rfl (Ops_step (R_assign rfl) rfl rfl (Ops_step (R_assign rfl) rfl rfl ?_))))
  refine Ops_nil ?_
  refine then_n (k15 _ _ ?_)
  clear k15 K15
  refine W_keepB [2, 3] fun B_ b_ => ?_
  simp only [e_, Nat.reduceAdd, Nat.reduceBEq] at b_
  subst b_
  refine W_ret ?_
  refine then_ret ?_
  clear k12 K12
  refine block_ret ?_
  refine then_ret ?_
  refine block_ret ?_
  refine ⟨_, ⟨_, _, rfl, rfl, ⟨_, _, rfl, rfl, rfl⟩⟩, ?_⟩
  exact ⟨A4_4, c4_4, x4_4, x5_4, _, _, rfl, hI, ho4_4, h⟩
 ·
  replace h := h.2 hc14_
  refine W_skip ?_
  refine then_n (k12 _ _ ?_)
  clear k12 K12
  refine W_region [21, 22, 23, 24, 25, 26, 27, 4, 5] rfl (Ops_step (R_move rfl) rfl rfl (Ops_step (R_move rfl) rfl rfl ?_))
  have hlo17_ho4_4 := ho4_4.lt
  refine Ops_to (R_buildSlice el67 zr29 (by decide) (by decide) rfl rfl) rfl rfl ?_
  rintro _ w17_ ⟨b17_, rfl, hb17_, hB17_, hF17_⟩
  have ho17_ : OwnS w.heap.size 29 L10_ H10_ _ (some ⟨b17_, 0, none⟩) 1 ([r9_0] : List (List UInt8)) := OwnS.ofBlk (css := [[.slice A9_0 r9_0.length c9_0]]) hI.st hb17_ hB17_ (.cons ⟨A9_0, c9_0, rfl, hc10_, hs10_⟩ .nil) rfl (by have := hI.size; omega) (by show 1 ≤ maxLen; decide)
  replace hI := hI.fr0 hF17_
  replace ho4_4 := ho4_4.fr0 hF17_
  clear hF17_ hB17_
  have hsp17_ho4_4 : ∀ i ∈ bk (some ⟨b17_, 0, none⟩) 1, i ∉ bk A4_4 c4_4 := sep_new (fun i_ hi_ => by have := (bk_of hi_).1; simp only [blkOf, List.mem_singleton] at this; omega) hlo17_ho4_4
  have hk19_ := h.1
  replace h := h.2
  refine Ops_to (X_append (α := List UInt8) (xs := x4_4) (ys := ([r9_0] : List (List UInt8))) el67 rfl rfl ho4_4 (Srcs.ofOwn Try.underlying67 ho17_ (by decide)) hI.st hk19_ (by decide) hI.size) rfl rfl ?_
  rintro _ w18_ ⟨A18_, c18_, rfl, ho18_, hF18_, hbk18_⟩
  clear hbk18_
  replace hI := hI.tok hF18_ ho4_4.out (ho4_4.new (Nat.le_refl _))
  clear hF18_ ho4_4
  refine Ops_step (R_move rfl) rfl rfl (Ops_step (R_move rfl) rfl rfl ?_)
  have hk20_ := h.1
  replace h := h.2
  refine Ops_step (R_add rfl rfl (wI hk20_.1 hk20_.2)) rfl rfl (Ops_step (R_assign rfl) rfl rfl (Ops_step (R_assign rfl) rfl rfl ?_))
  refine Ops_nil ?_
  refine block_n ?_
  refine then_n ?_
  exact h.elim fun m_ h => ⟨m_, _, h.1, rfl, ⟨(x4_4 ++ ([r9_0] : List (List UInt8))), A18_, c18_, (x5_4 + r9_1), _, _, rfl, h.2, hI, hll4_, hhh4_, ho18_, trivial⟩, ⟨rfl, trivial⟩⟩

theorem octet_Reader_Within_ok {G : Gh} {w : World} (hS : St G w) (hg : GL G) {d0 : Nat} {z0 : octet_Reader} {Ad0_1 : Option Addr} {cd0_1 : Nat} (htd0 : Tok G w d0 120 ([.slice Ad0_1 z0.source_.b_.length cd0_1, vi z0.source_.at_, vi z0.source_.err_, .bool z0.source_.made_])) (hcd0_1 : z0.source_.b_.length ≤ cd0_1) (hsd0_1 : Sl G Ad0_1 z0.source_.b_) {x1 : Int} {x2 : Int} {Q : Int → octet_Reader → Prop} (h : octet_Reader_Within z0 x1 x2 Q) : Calls Try.prog 68 #[.pointer (some ⟨d0, 0, none⟩), vi x1, vi x2] w fun e w2 => ∃ (r0 : Int) (y0 : octet_Reader) (Ay0_1 : Option Addr) (cy0_1 : Nat) (L H : Gh), e = .returned (vi r0) ∧ Inv [d0] G w L H w2 ∧ Tok H w2 d0 120 ([.slice Ay0_1 y0.source_.b_.length cy0_1, vi y0.source_.at_, vi y0.source_.err_, .bool y0.source_.made_]) ∧ y0.source_.b_.length ≤ cy0_1 ∧ Sl H Ay0_1 y0.source_.b_ ∧ Q r0 y0 := by
 unfold octet_Reader_Within at h
 have hI := Inv.start (M := [d0]) hS
 refine calls_W 57 Try.func68 rfl Try.ntmps68 rfl [.tmp 6] rfl ?_
 have hlt_d0 := htd0.blk.lt
 refine W_seq_k fun K1 k1 => ?_
 refine W_region [6] rfl (Ops_step (R_assign rfl) rfl rfl ?_)
 refine Ops_nil ?_
 refine then_n (k1 _ _ ?_)
 clear k1 K1
 refine W_seq_k fun K2 k2 => ?_
 refine ex_ h fun J3_ hr3_ h => ?_
 refine W_seq_join [0, 1, 2] [17] (fun vals_ w2 => ∃ (x17_3 : Bool) (L H : Gh), vals_ = [.bool x17_3] ∧ J3_ x17_3 ∧ Inv [d0] G w L H w2 ∧ Le Gh.no L ∧ Le G H ∧ Tok H w2 d0 120 ([.slice Ad0_1 z0.source_.b_.length cd0_1, vi z0.source_.at_, vi z0.source_.err_, .bool z0.source_.made_]) ∧ True) (fun B_ b_ => ?_) (fun B_ b_ => ?_)
 ·
  simp only [e_, Nat.reduceAdd, Nat.reduceBEq] at b_
  subst b_
  clear hr3_
  have hll3_ := Le.refl Gh.no
  have hhh3_ := Le.refl G
  refine W_region [8, 9, 10, 11, 12, 13, 14, 15, 16, 17] rfl (Ops_step (R_move rfl) rfl rfl ?_)
  refine Ops_call (C_func bd81 rfl) rfl rfl ?_
  refine (octet_Reader_dead_ok (z0 := z0) hI.st (hg.up hI.le) htd0 hcd0_1 hsd0_1 h).mono ?_
  rintro _ w4_ ⟨r4_0, L4_, H4_, rfl, hI4_, h⟩
  refine Exists.elim (hI.call hI4_ (by simp)) fun L40_ h4_ => ?_
  have hz4_ := hI.size
  replace hI := h4_.1
  have u4_ := h4_.2.1
  have hl4_ := h4_.2.2
  clear h4_
  replace hsd0_1 := hsd0_1.up u4_.hh
  replace htd0 := htd0.up u4_ (by simp)
  replace hll3_ := hll3_.trans u4_.ll
  replace hhh3_ := hhh3_.trans u4_.hh
  clear hI4_ u4_ hl4_
  refine ⟨_, rfl, ?_⟩
  refine Ops_step (R_move rfl) rfl rfl ?_
  refine Ops_splitB 10 rfl (fun hg5_ => ?_) (fun hg5_ => ?_)
  ·
   replace h := h.1 hg5_
   refine Ops_pass rfl rfl (Ops_pass rfl rfl (Ops_pass rfl rfl (Ops_pass rfl rfl (Ops_pass rfl rfl ?_))))
   refine Ops_pass rfl rfl (Ops_step (R_pick_true rfl rfl) rfl rfl ?_)
   refine Ops_nil ?_
   refine then_n ?_
   exact ⟨_, rfl, ⟨true, _, _, rfl, h, hI, hll3_, hhh3_, htd0, trivial⟩, ⟨rfl, rfl, rfl, trivial⟩⟩
  ·
   replace h := h.2 hg5_
   refine Ops_step (R_move rfl) rfl rfl (Ops_step (R_nilCheck rfl) rfl rfl (Ops_step (R_fieldAddr fo120_0 rfl) rfl rfl (Ops_step (R_fieldAddr fo118_2 rfl) rfl rfl ?_)))
   refine Ops_step (R_loadB (v := vi z0.source_.err_) ag32 rfl htd0.blk rfl) rfl rfl ?_
   refine Ops_step (R_neq rfl rfl) rfl rfl (Ops_step (R_pick_false rfl rfl) rfl rfl ?_)
   refine Ops_nil ?_
   refine then_n ?_
   exact ⟨_, rfl, ⟨(decide (z0.source_.err_ ≠ 0)), _, _, rfl, h, hI, hll3_, hhh3_, htd0, trivial⟩, ⟨rfl, rfl, rfl, trivial⟩⟩
 ·
  simp only [e_, Nat.reduceAdd, Nat.reduceBEq] at b_
  subst b_
  clear h
  clear htd0
  rintro _ w3_ ⟨x17_3, L3_, H3_, rfl, hJ3_, hI3_, hll3_, hhh3_, htd0, -⟩
  replace hI := hI3_
  clear hI3_
  have h := hr3_ x17_3 hJ3_
  clear hr3_ hJ3_
  replace hsd0_1 := hsd0_1.up hhh3_
  refine W_cond rfl (fun hc6_ => ?_) (fun hc6_ => ?_)
  ·
   replace h := h.1 hc6_
   refine W_seq_k fun K7 k7 => ?_
   refine W_region [6] rfl (Ops_step (R_assign rfl) rfl rfl ?_)
   refine Ops_nil ?_
   refine then_n (k7 _ _ ?_)
   clear k7 K7
   refine W_ret ?_
   refine then_ret ?_
   clear k2 K2
   refine ⟨_, ⟨_, _, rfl, rfl, rfl⟩, ?_⟩
   exact ⟨0, z0, Ad0_1, cd0_1, _, _, rfl, hI, htd0, hcd0_1, hsd0_1, h⟩
  ·
   replace h := h.2 hc6_
   refine W_skip ?_
   refine then_n (k2 _ _ ?_)
   clear k2 K2
   refine W_seq_k fun K8 k8 => ?_
   refine W_region [18, 19, 7] rfl (Ops_step (R_move rfl) rfl rfl ?_)
   refine Ops_call (C_func bd82 rfl) rfl rfl ?_
   refine (octet_Reader_Number_ok (z0 := z0) hI.st (hg.up hI.le) htd0 hcd0_1 hsd0_1 h).mono ?_
   rintro _ w9_ ⟨r9_0, y9_o0, A9_o0_1, c9_o0_1, L9_, H9_, rfl, hI9_, ht9_o0, hc9_o0_1, hs9_o0_1, h⟩
   refine Exists.elim (hI.call hI9_ (mem1 (by simp))) fun L90_ h9_ => ?_
   have hz9_ := hI.size
   replace hI := h9_.1
   have u9_ := h9_.2.1
   have hl9_ := h9_.2.2
   clear h9_
   replace hsd0_1 := hsd0_1.up u9_.hh
   clear htd0
   clear hI9_ u9_ hl9_
   refine ⟨_, rfl, ?_⟩
   refine Ops_step (R_assign rfl) rfl rfl ?_
   refine Ops_nil ?_
   refine then_n (k8 _ _ ?_)
   clear k8 K8
   refine ex_ h fun J10_ hr10_ h => ?_
   refine W_seq_join [0, 7] [] (fun vals_ w2 => ∃ (yd0_10 : octet_Reader) (Ad0_10_1 : Option Addr) (cd0_10_1 : Nat) (L H : Gh), vals_ = [] ∧ J10_ yd0_10 ∧ Inv [d0] G w L H w2 ∧ Le L90_ L ∧ Le H9_ H ∧ Tok H w2 d0 120 ([.slice Ad0_10_1 yd0_10.source_.b_.length cd0_10_1, vi yd0_10.source_.at_, vi yd0_10.source_.err_, .bool yd0_10.source_.made_]) ∧ yd0_10.source_.b_.length ≤ cd0_10_1 ∧ Sl H Ad0_10_1 yd0_10.source_.b_ ∧ True) (fun B_ b_ => ?_) (fun B_ b_ => ?_)
   ·
    simp only [e_, Nat.reduceAdd, Nat.reduceBEq] at b_
    subst b_
    clear hr10_
    have hll10_ := Le.refl L90_
    have hhh10_ := Le.refl H9_
    refine ex_ h fun J11_ hr11_ h => ?_
    refine W_seq_join [0, 7] [35] (fun vals_ w2 => ∃ (x35_11 : Bool) (L H : Gh), vals_ = [.bool x35_11] ∧ J11_ x35_11 ∧ Inv [d0] G w L H w2 ∧ Le L90_ L ∧ Le H9_ H ∧ Tok H w2 d0 120 ([.slice A9_o0_1 y9_o0.source_.b_.length c9_o0_1, vi y9_o0.source_.at_, vi y9_o0.source_.err_, .bool y9_o0.source_.made_]) ∧ True) (fun B_ b_ => ?_) (fun B_ b_ => ?_)
    ·
     simp only [e_, Nat.reduceAdd, Nat.reduceBEq] at b_
     subst b_
     clear hr11_
     have hll11_ := Le.refl L90_
     have hhh11_ := Le.refl H9_
     refine W_region [20, 21, 22, 23, 24, 25, 26, 27, 28, 29, 30, 31, 32, 33, 34, 35] rfl (Ops_step (R_move rfl) rfl rfl (Ops_step (R_nilCheck rfl) rfl rfl (Ops_step (R_fieldAddr fo120_0 rfl) rfl rfl (Ops_step (R_fieldAddr fo118_2 rfl) rfl rfl ?_))))
     refine Ops_step (R_loadB (v := vi y9_o0.source_.err_) ag32 rfl ht9_o0.blk rfl) rfl rfl ?_
     refine Ops_step (R_eql rfl rfl) rfl rfl (Ops_step (R_move rfl) rfl rfl ?_)
     refine Ops_split 26 rfl (fun hg12_ => ?_) (fun hg12_ => ?_)
     ·
      replace h := h.1 hg12_
      refine Ops_step (R_move rfl) rfl rfl (Ops_step (R_move rfl) rfl rfl (Ops_step (R_lss rfl rfl) rfl rfl (Ops_step (R_move rfl) rfl rfl ?_)))
      refine Ops_split 30 rfl (fun hg13_ => ?_) (fun hg13_ => ?_)
      ·
       replace h := h.1 hg13_
       refine Ops_pass rfl rfl (Ops_pass rfl rfl (Ops_pass rfl rfl (Ops_step (R_pick_true rfl rfl) rfl rfl (Ops_step (R_pick_true rfl rfl) rfl rfl ?_))))
       refine Ops_nil ?_
       refine then_n ?_
       exact ⟨_, rfl, ⟨true, _, _, rfl, h, hI, hll11_, hhh11_, ht9_o0, trivial⟩, ⟨rfl, rfl, trivial⟩⟩
      ·
       replace h := h.2 hg13_
       refine Ops_step (R_move rfl) rfl rfl (Ops_step (R_move rfl) rfl rfl (Ops_step (R_gtr rfl rfl) rfl rfl (Ops_step (R_pick_false rfl rfl) rfl rfl (Ops_step (R_pick_true rfl rfl) rfl rfl ?_))))
       refine Ops_nil ?_
       refine then_n ?_
       exact ⟨_, rfl, ⟨(decide (r9_0 > x2)), _, _, rfl, h, hI, hll11_, hhh11_, ht9_o0, trivial⟩, ⟨rfl, rfl, trivial⟩⟩
     ·
      replace h := h.2 hg12_
      refine Ops_pass rfl rfl (Ops_pass rfl rfl (Ops_pass rfl rfl (Ops_pass rfl rfl (Ops_passU rfl rfl ?_))))
      refine Ops_passU rfl rfl (Ops_passU rfl rfl (Ops_pass rfl rfl (Ops_step (R_pick_false rfl rfl) rfl rfl ?_)))
      refine Ops_nil ?_
      refine then_n ?_
      exact ⟨_, rfl, ⟨false, _, _, rfl, h, hI, hll11_, hhh11_, ht9_o0, trivial⟩, ⟨rfl, rfl, trivial⟩⟩
    ·
     simp only [e_, Nat.reduceAdd, Nat.reduceBEq] at b_
     subst b_
     clear h
     clear ht9_o0
     rintro _ w11_ ⟨x35_11, L11_, H11_, rfl, hJ11_, hI11_, hll11_, hhh11_, ht9_o0, -⟩
     replace hI := hI11_
     clear hI11_
     have h := hr11_ x35_11 hJ11_
     clear hr11_ hJ11_
     replace hs9_o0_1 := hs9_o0_1.up hhh11_
     replace hll10_ := hll10_.trans hll11_
     replace hhh10_ := hhh10_.trans hhh11_
     refine W_cond rfl (fun hc14_ => ?_) (fun hc14_ => ?_)
     ·
      replace h := h.1 hc14_
      refine W_region [36, 37, 38, 39, 40, 41, 42, 43, 44, 45, 46, none, 47, 48, 49, none] rfl (Ops_step (R_move rfl) rfl rfl (Ops_step (R_move rfl) rfl rfl (Ops_step (R_move rfl) rfl rfl (Ops_step (R_nilCheck rfl) rfl rfl ?_))))
      refine Ops_step (R_fieldAddr fo120_0 rfl) rfl rfl (Ops_step (R_fieldAddr fo118_1 rfl) rfl rfl ?_)
      refine Ops_step (R_loadB (v := vi y9_o0.source_.at_) ag3 rfl ht9_o0.blk rfl) rfl rfl ?_
      have hk15_ := h.1
      replace h := h.2
      refine Ops_step (R_sub rfl rfl (wI hk15_.1 hk15_.2)) rfl rfl (Ops_step (R_nilCheck rfl) rfl rfl (Ops_step (R_fieldAddr fo120_0 rfl) rfl rfl (Ops_step (R_fieldAddr fo118_1 rfl) rfl rfl ?_)))
      refine Ops_to0 (R_store sz3 rfl rfl ht9_o0.blk (by show 1 < 4; decide) rfl) rfl ?_
      rintro _ w16_ ⟨hB16_, hF16_⟩
      replace hI := hI.tok hF16_ (out1 ht9_o0.out) (mem1 (by simp))
      replace ht9_o0 : Tok H11_ _ d0 120 ([.slice A9_o0_1 y9_o0.source_.b_.length c9_o0_1, vi (y9_o0.source_.at_ - 8), vi y9_o0.source_.err_, .bool y9_o0.source_.made_]) := ⟨hB16_, ht9_o0.out⟩
      clear hF16_ hB16_
      refine Ops_step (R_nilCheck rfl) rfl rfl (Ops_step (R_fieldAddr fo120_0 rfl) rfl rfl (Ops_step (R_fieldAddr fo118_2 rfl) rfl rfl ?_))
      refine Ops_to0 (R_store sz32 rfl rfl ht9_o0.blk (by show 2 < 4; decide) rfl) rfl ?_
      rintro _ w17_ ⟨hB17_, hF17_⟩
      replace hI := hI.tok hF17_ (out1 ht9_o0.out) (mem1 (by simp))
      replace ht9_o0 : Tok H11_ _ d0 120 ([.slice A9_o0_1 y9_o0.source_.b_.length c9_o0_1, vi (y9_o0.source_.at_ - 8), vi 5, .bool y9_o0.source_.made_]) := ⟨hB17_, ht9_o0.out⟩
      clear hF17_ hB17_
      refine Ops_nil ?_
      refine then_n ?_
      exact ⟨_, rfl, ⟨(octet_Reader.mk (octet_source.mk y9_o0.source_.b_ (y9_o0.source_.at_ - 8) 5 y9_o0.source_.made_)), A9_o0_1, c9_o0_1, _, _, rfl, h, hI, hll10_, hhh10_, ht9_o0, hc9_o0_1, hs9_o0_1, trivial⟩, ⟨rfl, rfl, trivial⟩⟩
     ·
      replace h := h.2 hc14_
      refine W_skip ?_
      refine then_n ?_
      exact ⟨_, rfl, ⟨y9_o0, A9_o0_1, c9_o0_1, _, _, rfl, h, hI, hll10_, hhh10_, ht9_o0, hc9_o0_1, hs9_o0_1, trivial⟩, ⟨rfl, rfl, trivial⟩⟩
   ·
    simp only [e_, Nat.reduceAdd, Nat.reduceBEq] at b_
    subst b_
    clear h
    rintro _ w10_ ⟨yd0_10, Ad0_10_1, cd0_10_1, L10_, H10_, rfl, hJ10_, hI10_, hll10_, hhh10_, htd0_10, hcd0_10_1, hsd0_10_1, -⟩
    replace hI := hI10_
    clear hI10_
    have h := hr10_ yd0_10 hJ10_
    clear hr10_ hJ10_
    refine W_seq_k fun K18 k18 => ?_
    refine W_seq_k fun K19 k19 => ?_
    refine W_region [50, 51, 52, 53, 54, 55] rfl (Ops_step (R_move rfl) rfl rfl (Ops_step (R_nilCheck rfl) rfl rfl (Ops_step (R_fieldAddr fo120_0 rfl) rfl rfl (Ops_step (R_fieldAddr fo118_2 rfl) rfl rfl ?_))))
    refine Ops_step (R_loadB (v := vi yd0_10.source_.err_) ag32 rfl htd0_10.blk rfl) rfl rfl ?_
    refine Ops_step (R_neq rfl rfl) rfl rfl ?_
    refine Ops_nil ?_
    refine then_n (k19 _ _ ?_)
    clear k19 K19
    refine W_keepB [7, 55] fun B_ b_ => ?_
    simp only [e_, Nat.reduceAdd, Nat.reduceBEq] at b_
    subst b_
    refine W_if rfl (fun hc21_ => ?_) (fun hc21_ => ?_)
    ·
     replace h := h.1 hc21_
     refine W_seq_k fun K22 k22 => ?_
     refine W_region [6] rfl (Ops_step (R_assign rfl) rfl rfl ?_)
     refine Ops_nil ?_
     refine then_n (k22 _ _ ?_)
     clear k22 K22
     refine W_ret ?_
     refine then_ret ?_
     clear k18 K18
     refine ⟨_, ⟨_, _, rfl, rfl, rfl⟩, ?_⟩
     exact ⟨0, yd0_10, Ad0_10_1, cd0_10_1, _, _, rfl, hI, htd0_10, hcd0_10_1, hsd0_10_1, h⟩
    ·
     replace h := h.2 hc21_
     refine W_skip ?_
     refine then_n (k18 _ _ ?_)
     clear k18 K18
     refine W_seq_k fun K23 k23 => ?_
     refine W_region [56, 6] rfl (Ops_step (R_move rfl) rfl rfl (Ops_step (R_assign rfl) rfl rfl ?_))
     refine Ops_nil ?_
     refine then_n (k23 _ _ ?_)
     clear k23 K23
     refine W_ret ?_
     refine ⟨_, ⟨_, _, rfl, rfl, rfl⟩, ?_⟩
     exact ⟨r9_0, yd0_10, Ad0_10_1, cd0_10_1, _, _, rfl, hI, htd0_10, hcd0_10_1, hsd0_10_1, h⟩

theorem octet_Reader_End_ok {G : Gh} {w : World} (hS : St G w) (hg : GL G) {d0 : Nat} {z0 : octet_Reader} {Ad0_1 : Option Addr} {cd0_1 : Nat} (htd0 : Tok G w d0 120 ([.slice Ad0_1 z0.source_.b_.length cd0_1, vi z0.source_.at_, vi z0.source_.err_, .bool z0.source_.made_])) (hcd0_1 : z0.source_.b_.length ≤ cd0_1) (hsd0_1 : Sl G Ad0_1 z0.source_.b_) {Q : Int → Prop} (h : octet_Reader_End z0 Q) : Calls Try.prog 69 #[.pointer (some ⟨d0, 0, none⟩)] w fun e w2 => ∃ (r0 : Int) (L H : Gh), e = .returned (vi r0) ∧ Inv [] G w L H w2 ∧ Q r0 := by
 unfold octet_Reader_End at h
 have hI := Inv.start (M := []) hS
 refine calls_W 16 Try.func69 rfl Try.ntmps69 rfl [.tmp 2] rfl ?_
 have hlt_d0 := htd0.blk.lt
 refine W_seq_k fun K1 k1 => ?_
 refine W_region [2] rfl (Ops_step (R_assign rfl) rfl rfl ?_)
 refine Ops_nil ?_
 refine then_n (k1 _ _ ?_)
 clear k1 K1
 refine W_seq_k fun K2 k2 => ?_
 refine W_region [4, 5, 3] rfl (Ops_step (R_move rfl) rfl rfl ?_)
 refine Ops_call (C_func bd83 rfl) rfl rfl ?_
 refine (octet_Reader_Err_ok (z0 := z0) hI.st (hg.up hI.le) htd0 hcd0_1 hsd0_1 h).mono ?_
 rintro _ w3_ ⟨r3_0, L3_, H3_, rfl, hI3_, h⟩
 refine Exists.elim (hI.call hI3_ (by simp)) fun L30_ h3_ => ?_
 have hz3_ := hI.size
 replace hI := h3_.1
 have u3_ := h3_.2.1
 have hl3_ := h3_.2.2
 clear h3_
 replace hsd0_1 := hsd0_1.up u3_.hh
 replace htd0 := htd0.up u3_ (by simp)
 clear hI3_ u3_ hl3_
 refine ⟨_, rfl, ?_⟩
 refine Ops_step (R_assign rfl) rfl rfl ?_
 refine Ops_nil ?_
 refine then_n (k2 _ _ ?_)
 clear k2 K2
 refine W_seq_k fun K4 k4 => ?_
 refine ex_ h fun J5_ hr5_ h => ?_
 refine W_seq_join [3] [14] (fun vals_ w2 => ∃ (x14_5 : Bool) (L H : Gh), vals_ = [.bool x14_5] ∧ J5_ x14_5 ∧ Inv [] G w L H w2 ∧ Le L30_ L ∧ Le H3_ H ∧ Tok H w2 d0 120 ([.slice Ad0_1 z0.source_.b_.length cd0_1, vi z0.source_.at_, vi z0.source_.err_, .bool z0.source_.made_]) ∧ True) (fun B_ b_ => ?_) (fun B_ b_ => ?_)
 ·
  simp only [e_, Nat.reduceAdd, Nat.reduceBEq] at b_
  subst b_
  clear hr5_
  have hll5_ := Le.refl L30_
  have hhh5_ := Le.refl H3_
  refine W_region [6, 7, 8, 9, 10, 11, 12, 13, 14] rfl (Ops_step (R_move rfl) rfl rfl (Ops_step (R_eql rfl rfl) rfl rfl (Ops_step (R_move rfl) rfl rfl ?_)))
  refine Ops_split 8 rfl (fun hg6_ => ?_) (fun hg6_ => ?_)
  ·
   replace h := h.1 hg6_
   refine Ops_step (R_move rfl) rfl rfl (Ops_step (R_nilCheck rfl) rfl rfl (Ops_step (R_fieldAddr fo120_0 rfl) rfl rfl ?_))
   refine Ops_call (C_func bd84 rfl) rfl rfl ?_
   refine (octet_source_left_ok (z0 := z0.source_) hI.st (hg.up hI.le) htd0 hcd0_1 hsd0_1 h).mono ?_
   rintro _ w7_ ⟨r7_0, L7_, H7_, rfl, hI7_, h⟩
   refine Exists.elim (hI.call hI7_ (by simp)) fun L70_ h7_ => ?_
   have hz7_ := hI.size
   replace hI := h7_.1
   have u7_ := h7_.2.1
   have hl7_ := h7_.2.2
   clear h7_
   replace hsd0_1 := hsd0_1.up u7_.hh
   replace htd0 := htd0.up u7_ (by simp)
   replace hll5_ := hll5_.trans u7_.ll
   replace hhh5_ := hhh5_.trans u7_.hh
   clear hI7_ u7_ hl7_
   refine ⟨_, rfl, ?_⟩
   refine Ops_step (R_gtr rfl rfl) rfl rfl (Ops_step (R_pick_true rfl rfl) rfl rfl ?_)
   refine Ops_nil ?_
   refine then_n ?_
   exact ⟨_, rfl, ⟨(decide (r7_0 > 0)), _, _, rfl, h, hI, hll5_, hhh5_, htd0, trivial⟩, ⟨rfl, trivial⟩⟩
  ·
   replace h := h.2 hg6_
   refine Ops_pass rfl rfl (Ops_pass rfl rfl (Ops_pass rfl rfl (Ops_pass rfl rfl (Ops_pass rfl rfl ?_))))
   refine Ops_step (R_pick_false rfl rfl) rfl rfl ?_
   refine Ops_nil ?_
   refine then_n ?_
   exact ⟨_, rfl, ⟨false, _, _, rfl, h, hI, hll5_, hhh5_, htd0, trivial⟩, ⟨rfl, trivial⟩⟩
 ·
  simp only [e_, Nat.reduceAdd, Nat.reduceBEq] at b_
  subst b_
  clear h
  clear htd0
  rintro _ w5_ ⟨x14_5, L5_, H5_, rfl, hJ5_, hI5_, hll5_, hhh5_, htd0, -⟩
  replace hI := hI5_
  clear hI5_
  have h := hr5_ x14_5 hJ5_
  clear hr5_ hJ5_
  replace hsd0_1 := hsd0_1.up hhh5_
  refine W_cond rfl (fun hc8_ => ?_) (fun hc8_ => ?_)
  ·
   replace h := h.1 hc8_
   refine W_seq_k fun K9 k9 => ?_
   refine W_region [2] rfl (Ops_step (R_assign rfl) rfl rfl ?_)
   refine Ops_nil ?_
   refine then_n (k9 _ _ ?_)
   clear k9 K9
   refine W_ret ?_
   refine then_ret ?_
   clear k4 K4
   refine ⟨_, ⟨_, _, rfl, rfl, rfl⟩, ?_⟩
   exact ⟨3, _, _, rfl, hI, h⟩
  ·
   replace h := h.2 hc8_
   refine W_skip ?_
   refine then_n (k4 _ _ ?_)
   clear k4 K4
   refine W_seq_k fun K10 k10 => ?_
   refine W_region [15, 2] rfl (Ops_step (R_move rfl) rfl rfl (Ops_step (R_assign rfl) rfl rfl ?_))
   refine Ops_nil ?_
   refine then_n (k10 _ _ ?_)
   clear k10 K10
   refine W_ret ?_
   refine ⟨_, ⟨_, _, rfl, rfl, rfl⟩, ?_⟩
   exact ⟨r3_0, _, _, rfl, hI, h⟩

theorem journal_Open_1_ok {G : Gh} {w : World} (hS : St G w) (hg : GL G) {x0 : Int} {x1 : Int} {Q : Int → Bool → Prop} (h : journal_Open_1 x0 x1 Q) : Calls Try.prog 46 #[vi x0, vi x1] w fun e w2 => ∃ (r0 : Int) (r1 : Bool) (L H : Gh), e = .returned (.tuple #[vi r0, .bool r1]) ∧ Inv [] G w L H w2 ∧ Q r0 r1 := by
 unfold journal_Open_1 at h
 have hI := Inv.start (M := []) hS
 refine calls_W 6 Try.func46 rfl Try.ntmps46 rfl [.tmp 4, .tmp 5] rfl ?_
 refine W_seq_k fun K1 k1 => ?_
 refine W_region [4, 5] rfl (Ops_step (R_assign rfl) rfl rfl (Ops_step (R_assign rfl) rfl rfl ?_))
 refine Ops_nil ?_
 refine then_n (k1 _ _ ?_)
 clear k1 K1
 refine W_seq_k fun K2 k2 => ?_
 refine W_region [4, 5] rfl (Ops_step (R_assign rfl) rfl rfl (Ops_step (R_assign rfl) rfl rfl ?_))
 refine Ops_nil ?_
 refine then_n (k2 _ _ ?_)
 clear k2 K2
 refine W_ret ?_
 refine ⟨_, ⟨_, _, rfl, rfl, ⟨_, _, rfl, rfl, rfl⟩⟩, ?_⟩
 exact ⟨0, true, _, _, rfl, hI, h⟩

theorem journal_read_ok {G : Gh} {w : World} (hS : St G w) (hg : GL G) {A0 : Option Addr} {c0 : Nat} {x0 : List UInt8} (hc0 : x0.length ≤ c0) (hs0 : Sl G A0 x0) {x1 : Int} {Q : journal_record → Bool → Prop} (h : journal_read x0 x1 Q) : Calls Try.prog 70 #[.slice A0 x0.length c0, vi x1] w fun e w2 => ∃ (l0 : List Value) (r0 : journal_record) (r1 : Bool) (L H : Gh), e = .returned (.tuple #[.agg l0.toArray, .bool r1]) ∧ Inv [] G w L H w2 ∧ Rp.cs L r0 l0 ∧ Q r0 r1 := by
 unfold journal_read at h
 have hI := Inv.start (M := []) hS
 refine calls_W 28 Try.func70 rfl Try.ntmps70 rfl [.cell 4 85, .tmp 5] rfl ?_
 refine W_seq_k fun K1 k1 => ?_
 refine W_region [4, 5] rfl ?_
 have hI0_ := hI
 refine Ops_to (R_alloc zr85) rfl rfl ?_
 rintro _ w2_ ⟨b2_, rfl, hb2_, hB2_, hF2_⟩
 replace hI := hI.fr0 hF2_
 have ht2_ : Tok G _ b2_ 85 ([vi 0, .slice none 0 0]) := ⟨hB2_.to rfl, Out.ge hI0_.st (Nat.le_of_eq hb2_.symm)⟩
 have hge_b2_ : w.heap.size ≤ b2_ := hb2_ ▸ hI0_.size
 clear hB2_ hb2_ hI0_ hF2_
 refine Ops_step (R_assign rfl) rfl rfl ?_
 refine Ops_nil ?_
 refine then_n (k1 _ _ ?_)
 clear k1 K1
 refine W_seq_k fun K3 k3 => ?_
 refine W_region [9, 10, 6] rfl (Ops_step (R_move rfl) rfl rfl ?_)
 refine Ops_call (C_func bd67 rfl) rfl rfl ?_
 refine (octet_Read_ok (x0 := x0) hI.st (hg.up hI.le) hc0 hs0 h).mono ?_
 rintro _ w4_ ⟨o0_4, y4_o0, A4_o0_1, c4_o0_1, L4_, H4_, rfl, hI4_, hge_o0_4, ht4_o0, hc4_o0_1, hs4_o0_1, h⟩
 have hge0_o0_4 := hge_o0_4
 replace hge_o0_4 := Nat.le_trans hI.size hge_o0_4
 refine Exists.elim (hI.call hI4_ (by simp)) fun L40_ h4_ => ?_
 have hz4_ := hI.size
 replace hI := h4_.1
 have u4_ := h4_.2.1
 have hl4_ := h4_.2.2
 clear h4_
 replace ht2_ := ht2_.up u4_ (by simp)
 clear hI4_ u4_ hl4_
 refine ⟨_, rfl, ?_⟩
 refine Ops_step (R_assign rfl) rfl rfl ?_
 refine Ops_nil ?_
 refine then_n (k3 _ _ ?_)
 clear k3 K3
 refine W_seq_k fun K5 k5 => ?_
 refine W_region [11, 12, 7] rfl (Ops_step (R_move rfl) rfl rfl ?_)
 refine Ops_call (C_func bd82 rfl) rfl rfl ?_
 refine (octet_Reader_Number_ok (z0 := y4_o0) hI.st (hg.up hI.le) ht4_o0 hc4_o0_1 hs4_o0_1 h).mono ?_
 rintro _ w6_ ⟨r6_0, y6_o0, A6_o0_1, c6_o0_1, L6_, H6_, rfl, hI6_, ht6_o0, hc6_o0_1, hs6_o0_1, h⟩
 refine Exists.elim (hI.call hI6_ (new1 hge_o0_4)) fun L60_ h6_ => ?_
 have hz6_ := hI.size
 replace hI := h6_.1
 have u6_ := h6_.2.1
 have hl6_ := h6_.2.2
 clear h6_
 replace ht2_ := ht2_.up u6_ (ht2_.apart ht4_o0 (by decide))
 replace hs4_o0_1 := hs4_o0_1.up u6_.hh
 clear ht4_o0
 clear hI6_ u6_ hl6_
 refine ⟨_, rfl, ?_⟩
 refine Ops_step (R_assign rfl) rfl rfl ?_
 refine Ops_nil ?_
 refine then_n (k5 _ _ ?_)
 clear k5 K5
 refine W_keepB [1, 4, 6, 7] fun B_ b_ => ?_
 simp only [e_, Nat.reduceAdd, Nat.reduceBEq] at b_
 subst b_
 refine W_seq_k fun K8 k8 => ?_
 refine W_region [13, 14, 15, 8, none] rfl (Ops_step (R_move rfl) rfl rfl ?_)
 refine Ops_call (C_func bd68 rfl) rfl rfl ?_
 refine (octet_Reader_Within_ok (x1 := 0) (x2 := 31) (z0 := y6_o0) hI.st (hg.up hI.le) ht6_o0 hc6_o0_1 hs6_o0_1 h).mono ?_
 rintro _ w9_ ⟨r9_0, y9_o0, A9_o0_1, c9_o0_1, L9_, H9_, rfl, hI9_, ht9_o0, hc9_o0_1, hs9_o0_1, h⟩
 refine Exists.elim (hI.call hI9_ (new1 hge_o0_4)) fun L90_ h9_ => ?_
 have hz9_ := hI.size
 replace hI := h9_.1
 have u9_ := h9_.2.1
 have hl9_ := h9_.2.2
 clear h9_
 replace ht2_ := ht2_.up u9_ (ht2_.apart ht6_o0 (by decide))
 replace hs6_o0_1 := hs6_o0_1.up u9_.hh
 clear ht6_o0
 clear hI9_ u9_ hl9_
 refine ⟨_, rfl, ?_⟩
 refine Ops_step (R_build (pl := [(0, 1)]) (cs := [vi r9_0, .slice none 0 0]) zr85 pl85 rfl rfl rfl) rfl rfl ?_
 have hlo10_b2_ := ht2_.blk.lt
 have hI0_ := hI
 refine Ops_to (R_alloc zr85) rfl rfl ?_
 rintro _ w10_ ⟨b10_, rfl, hb10_, hB10_, hF10_⟩
 replace hI := hI.fr0 hF10_
 replace ht2_ := ht2_.fr0 hF10_
 replace ht9_o0 := ht9_o0.fr0 hF10_
 have ht10_ : Tok H9_ _ b10_ 85 ([vi 0, .slice none 0 0]) := ⟨hB10_.to rfl, Out.ge hI0_.st (Nat.le_of_eq hb10_.symm)⟩
 have hge_b10_ : w.heap.size ≤ b10_ := hb10_ ▸ hI0_.size
 have hne10_b2_ : b2_ ≠ b10_ := fun e_ => absurd hlo10_b2_ (by omega)
 clear hB10_ hb10_ hI0_ hF10_
 refine Ops_to0 (R_storeN sz85 rfl rfl rfl ht10_.blk (Nat.le_of_ble_eq_true rfl) rfl) rfl ?_
 rintro _ w11_ ⟨hB11_, hF11_⟩
 replace hI := hI.tok hF11_ (out1 ht10_.out) (new1 hge_b10_)
 replace ht2_ := ht2_.fr hF11_ (ne1 hne10_b2_)
 replace ht9_o0 := ht9_o0.fr hF11_ (ht9_o0.apart ht10_ (by decide))
 replace ht10_ : Tok H9_ _ b10_ 85 ([vi r9_0, .slice none 0 0]) := ⟨hB11_, ht10_.out⟩
 clear hF11_ hB11_
 refine Ops_nil ?_
 refine then_n (k8 _ _ ?_)
 clear k8 K8
 refine W_seq_k fun K12 k12 => ?_
 refine W_region [16, 17, 18, none] rfl (Ops_step (R_move rfl) rfl rfl ?_)
 refine Ops_call (C_func bd85 rfl) rfl rfl ?_
 refine (octet_Reader_Bytes_ok (x1 := 16320) (z0 := y9_o0) hI.st (hg.up hI.le) ht9_o0 hc9_o0_1 hs9_o0_1 h).mono ?_
 rintro _ w13_ ⟨A13_0, c13_0, r13_0, y13_o0, A13_o0_1, c13_o0_1, L13_, H13_, rfl, hI13_, ho13_0, ht13_o0, hc13_o0_1, hs13_o0_1, h⟩
 refine Exists.elim (hI.call hI13_ (new1 hge_o0_4)) fun L130_ h13_ => ?_
 have hz13_ := hI.size
 replace hI := h13_.1
 have u13_ := h13_.2.1
 have hl13_ := h13_.2.2
 clear h13_
 replace ht2_ := ht2_.up u13_ (ht2_.apart ht9_o0 (by decide))
 replace hs9_o0_1 := hs9_o0_1.up u13_.hh
 replace ht10_ := ht10_.up u13_ (ht10_.apart ht9_o0 (by decide))
 clear ht9_o0
 replace ho13_0 := OwnS.backS ho13_0 hz13_ (Le.refl _)
 clear hI13_ u13_ hl13_
 refine ⟨_, rfl, ?_⟩
 refine Exists.elim (ho13_0.freeze hI) fun L14_ h14_ => Exists.elim h14_ fun H14_ h14_ => ?_
 replace hI := h14_.1
 have u14_ := h14_.2.1
 have hs14_ := h14_.2.2.1 (Le.no _)
 have hc14_ := ho13_0.cap
 replace ht2_ := ht2_.up u14_ (ht2_.sep ho13_0 (by decide))
 replace ht10_ := ht10_.up u14_ (ht10_.sep ho13_0 (by decide))
 replace ht13_o0 := ht13_o0.up u14_ (ht13_o0.sep ho13_0 (by decide))
 replace hs13_o0_1 := hs13_o0_1.up u14_.hh
 clear h14_ u14_ ho13_0
 refine Ops_step (R_fieldAddr fo85_1 rfl) rfl rfl ?_
 refine Ops_to0 (R_store sz29 rfl rfl ht10_.blk (by show 1 < 2; decide) rfl) rfl ?_
 rintro _ w15_ ⟨hB15_, hF15_⟩
 replace hI := hI.tok hF15_ (out1 ht10_.out) (new1 hge_b10_)
 replace ht2_ := ht2_.fr hF15_ (ne1 hne10_b2_)
 replace ht13_o0 := ht13_o0.fr hF15_ (ht13_o0.apart ht10_ (by decide))
 replace ht10_ : Tok H14_ _ b10_ 85 ([vi r9_0, .slice A13_0 r13_0.length c13_0]) := ⟨hB15_, ht10_.out⟩
 clear hF15_ hB15_
 refine Ops_nil ?_
 refine then_n (k12 _ _ ?_)
 clear k12 K12
 refine W_keepB [1, 4, 6, 7, 8] fun B_ b_ => ?_
 simp only [e_, Nat.reduceAdd, Nat.reduceBEq] at b_
 subst b_
 refine W_seq_k fun K17 k17 => ?_
 refine W_drawF [19, 20, 21, 22, 23, 24, 25, 26, 27, none, 5] [(0, true), (1, true), (2, false), (3, true), (4, true), (5, true), (6, true), (7, true), (8, true), (9, false), (10, true)] TJtB.hm rfl (by kernel_rfl) fun ops18_ w18_ hops18_ hF18_ => ?_
 replace hI := hI.fr0 hF18_
 replace ht2_ := ht2_.fr0 hF18_
 replace ht10_ := ht10_.fr0 hF18_
 replace ht13_o0 := ht13_o0.fr0 hF18_
 clear hF18_
 refine HS_loadN ag85 sz85 rfl ht10_.blk (Nat.le_of_ble_eq_true rfl) rfl rfl ?_
 refine HSp (R_move rfl) rfl rfl ?_
 refine HS_call [0] _ rfl (by rw [hops18_]; kernel_rfl) (C_func bd69 rfl) rfl rfl ?_
 refine (octet_Reader_End_ok (z0 := y13_o0) hI.st (hg.up hI.le) ht13_o0 hc13_o0_1 hs13_o0_1 h).mono ?_
 rintro _ w19_ ⟨r19_0, L19_, H19_, rfl, hI19_, h⟩
 refine Exists.elim (hI.call hI19_ (by simp)) fun L190_ h19_ => ?_
 have hz19_ := hI.size
 replace hI := h19_.1
 have u19_ := h19_.2.1
 have hl19_ := h19_.2.2
 clear h19_
 replace ht2_ := ht2_.up u19_ (by simp)
 replace ht10_ := ht10_.up u19_ (by simp)
 replace ht13_o0 := ht13_o0.up u19_ (by simp)
 replace hs13_o0_1 := hs13_o0_1.up u19_.hh
 replace hs14_ := hs14_.up u19_.ll
 clear hI19_ u19_ hl19_
 refine ⟨_, rfl, ⟨ht10_.blk, trivial⟩, ?_⟩
 refine HSp (R_eql rfl rfl) rfl rfl (HSp (R_move rfl) rfl rfl ?_)
 refine HS_split 23 rfl (fun hg20_ => ?_) (fun hg20_ => ?_)
 ·
  replace h := h.1 hg20_
  refine HSp (R_move rfl) rfl rfl (HSp (R_move rfl) rfl rfl (HSp (R_eql rfl rfl) rfl rfl (HSp (R_pick_true rfl rfl) rfl rfl ?_)))
  refine HS_to0 [] _ rfl (by rw [hops18_]; kernel_rfl) (R_storeN sz85 rfl rfl rfl ht2_.blk (Nat.le_of_ble_eq_true rfl) rfl) rfl ?_
  rintro _ w21_ ⟨hB21_, hF21_⟩
  replace hI := hI.tok hF21_ (out1 ht2_.out) (new1 hge_b2_)
  replace ht10_ := ht10_.fr hF21_ (ne1 (Ne.symm hne10_b2_))
  replace ht2_ : Tok H19_ _ b2_ 85 ([vi r9_0, .slice A13_0 r13_0.length c13_0]) := ⟨hB21_, ht2_.out⟩
  clear hF21_ hB21_
  refine ⟨trivial, ?_⟩
  refine HSp (R_assign rfl) rfl rfl ?_
  refine HS_nil ?_
  clear hops18_
  refine then_n (k17 _ _ ?_)
  clear k17 K17
  refine W_keepB [4, 5] fun B_ b_ => ?_
  simp only [e_, Nat.reduceAdd, Nat.reduceBEq] at b_
  subst b_
  refine W_ret ?_
  refine ⟨_, ⟨_, _, _, rfl, rfl, run_loadVarN ag85 sz85 ht2_.blk (Nat.le_of_ble_eq_true rfl), ⟨_, _, rfl, rfl, rfl⟩⟩, ?_⟩
  exact ⟨_, (journal_record.mk r9_0 r13_0), (decide (r6_0 = x1)), _, _, rfl, hI, ⟨A13_0, c13_0, rfl, ⟨hc14_, hs14_⟩⟩, h⟩
 ·
  replace h := h.2 hg20_
  refine HS_pass rfl rfl ?_
  refine HS_pass rfl rfl ?_
  refine HS_pass rfl rfl ?_
  refine HSp (R_pick_false rfl rfl) rfl rfl ?_
  refine HS_to0 [] _ rfl (by rw [hops18_]; kernel_rfl) (R_storeN sz85 rfl rfl rfl ht2_.blk (Nat.le_of_ble_eq_true rfl) rfl) rfl ?_
  rintro _ w23_ ⟨hB23_, hF23_⟩
  replace hI := hI.tok hF23_ (out1 ht2_.out) (new1 hge_b2_)
  replace ht10_ := ht10_.fr hF23_ (ne1 (Ne.symm hne10_b2_))
  replace ht2_ : Tok H19_ _ b2_ 85 ([vi r9_0, .slice A13_0 r13_0.length c13_0]) := ⟨hB23_, ht2_.out⟩
  clear hF23_ hB23_
  refine ⟨trivial, ?_⟩
  refine HSp (R_assign rfl) rfl rfl ?_
  refine HS_nil ?_
  clear hops18_
  refine then_n (k17 _ _ ?_)
  clear k17 K17
  refine W_keepB [4, 5] fun B_ b_ => ?_
  simp only [e_, Nat.reduceAdd, Nat.reduceBEq] at b_
  subst b_
  refine W_ret ?_
  refine ⟨_, ⟨_, _, _, rfl, rfl, run_loadVarN ag85 sz85 ht2_.blk (Nat.le_of_ble_eq_true rfl), ⟨_, _, rfl, rfl, rfl⟩⟩, ?_⟩
  exact ⟨_, (journal_record.mk r9_0 r13_0), false, _, _, rfl, hI, ⟨A13_0, c13_0, rfl, ⟨hc14_, hs14_⟩⟩, h⟩

theorem journal_opened_ok {G : Gh} {w : World} (hS : St G w) (hg : GL G) {A0 : Option Addr} {c0 : Nat} {x0 : List UInt8} (hc0 : x0.length ≤ c0) (hs0 : Sl G A0 x0) {Q : Int → Int → (List journal_record) → Bool → Bool → Prop} (h : journal_opened x0 Q) : Calls Try.prog 45 #[.slice A0 x0.length c0, .func (.func 46) #[] #[]] w fun e w2 => ∃ (r0 : Int) (r1 : Int) (A2 : Option Addr) (c2 : Nat) (r2 : List journal_record) (r3 : Bool) (r4 : Bool) (L H : Gh), e = .returned (.tuple #[vi r0, vi r1, .slice A2 r2.length c2, .bool r3, .bool r4]) ∧ Inv [] G w L H w2 ∧ OwnS w.heap.size 85 L H w2 A2 c2 r2 ∧ Q r0 r1 r2 r3 r4 := by
 unfold journal_opened at h
 have hI := Inv.start (M := []) hS
 refine calls_W 78 Try.func45 rfl Try.ntmps45 rfl [.tmp 4, .tmp 5, .tmp 6, .tmp 7, .tmp 8] rfl ?_
 refine W_seq_k fun K1 k1 => ?_
 refine W_region [4, 5, 6, 7, 8] rfl (Ops_step (R_assign rfl) rfl rfl (Ops_step (R_assign rfl) rfl rfl (Ops_step (R_assign rfl) rfl rfl (Ops_step (R_assign rfl) rfl rfl ?_))))
 refine Ops_step (R_assign rfl) rfl rfl ?_
 refine Ops_nil ?_
 refine then_n (k1 _ _ ?_)
 clear k1 K1
 refine W_seq_k fun K2 k2 => ?_
 refine W_region [18, 19, 17, 20, 21, 9, 10] rfl (Ops_step (R_move rfl) rfl rfl ?_)
 refine Ops_call (C_func bd66 rfl) rfl rfl ?_
 refine (octet_All_ok (x0 := x0) hI.st (hg.up hI.le) hc0 hs0 h).mono ?_
 rintro _ w3_ ⟨A3_0, c3_0, r3_0, r3_1, L3_, H3_, rfl, hI3_, ho3_0, h⟩
 refine Exists.elim (hI.call hI3_ (by simp)) fun L30_ h3_ => ?_
 have hz3_ := hI.size
 replace hI := h3_.1
 have u3_ := h3_.2.1
 have hl3_ := h3_.2.2
 clear h3_
 replace hs0 := hs0.up u3_.hh
 replace ho3_0 := OwnS.back ho3_0 hz3_ hl3_ (Le.refl _)
 clear hI3_ u3_ hl3_
 refine ⟨_, rfl, ?_⟩
 refine Exists.elim (ho3_0.freeze hI) fun L4_ h4_ => Exists.elim h4_ fun H4_ h4_ => ?_
 replace hI := h4_.1
 have u4_ := h4_.2.1
 have hs4_ := h4_.2.2.1 (Le.refl _)
 have hc4_ := ho3_0.cap
 replace hs0 := hs0.up u4_.hh
 clear h4_ u4_ ho3_0
 refine Ops_step (R_move rfl) rfl rfl ?_
 refine Ops_step (R_extract (v := .slice A3_0 r3_0.length c3_0) rfl rfl) rfl rfl ?_
 refine Ops_step (R_extract (v := vi r3_1) rfl rfl) rfl rfl ?_
 refine Ops_step (R_assign rfl) rfl rfl (Ops_step (R_assign rfl) rfl rfl ?_)
 refine Ops_nil ?_
 refine then_n (k2 _ _ ?_)
 clear k2 K2
 refine W_keepB [0, 1, 6, 9, 10] fun B_ b_ => ?_
 simp only [e_, Nat.reduceAdd, Nat.reduceBEq] at b_
 subst b_
 refine W_seq_k fun K6 k6 => ?_
 refine W_seq_k fun K7 k7 => ?_
 refine W_region [22, 23, 24] rfl (Ops_step (R_move rfl) rfl rfl (Ops_step (R_len Try.underlying67 rfl rfl) rfl rfl (Ops_step (R_eql rfl rfl) rfl rfl ?_)))
 refine Ops_nil ?_
 refine then_n (k7 _ _ ?_)
 clear k7 K7
 refine W_if rfl (fun hc8_ => ?_) (fun hc8_ => ?_)
 ·
  replace h := h.1 hc8_
  refine W_seq_k fun K9 k9 => ?_
  refine W_region [4, 5, 6, 7, 8] rfl (Ops_step (R_assign rfl) rfl rfl (Ops_step (R_assign rfl) rfl rfl (Ops_step (R_assign rfl) rfl rfl (Ops_step (R_assign rfl) rfl rfl ?_))))
  refine Ops_step (R_assign rfl) rfl rfl ?_
  refine Ops_nil ?_
  refine then_n (k9 _ _ ?_)
  clear k9 K9
  refine W_keepB [4, 5, 6, 7, 8] fun B_ b_ => ?_
  simp only [e_, Nat.reduceAdd, Nat.reduceBEq] at b_
  subst b_
  refine W_ret ?_
  refine then_ret ?_
  clear k6 K6
  refine ⟨_, ⟨_, _, rfl, rfl, ⟨_, _, rfl, rfl, ⟨_, _, rfl, rfl, ⟨_, _, rfl, rfl, ⟨_, _, rfl, rfl, rfl⟩⟩⟩⟩⟩, ?_⟩
  exact ⟨0, 0, none, 0, [], false, false, _, _, rfl, hI, OwnS.nil, h⟩
 ·
  replace h := h.2 hc8_
  refine W_skip ?_
  refine then_n (k6 _ _ ?_)
  clear k6 K6
  refine W_seq_k fun K11 k11 => ?_
  refine W_region [25, 26, 27, 28, 11] rfl (Ops_step (R_move rfl) rfl rfl ?_)
  refine ex_ h fun x12_ hx12_ h => ?_
  have ha12_ := ((hs4_.up hI.sub).atL hx12_).1
  refine Exists.elim ((hs4_.up hI.sub).atL hx12_).2 fun A12_ hA12_ => Exists.elim hA12_ fun c12_ hA12_ => ?_
  have hc12_ := hA12_.1
  have hs12_ := hA12_.2.1
  have hg12_ := hA12_.2.2
  clear hA12_
  refine Ops_step (R_indexSl Try.underlying67 sz29 rfl rfl hx12_.1 hx12_.lt ha12_) rfl rfl (Ops_step (R_load ag29 rfl (hI.st _ _ hg12_)) rfl rfl ?_)
  refine Ops_call (C_func bd67 rfl) rfl rfl ?_
  refine (octet_Read_ok (x0 := x12_) hI.st (hg.up hI.le) hc12_ hs12_ h).mono ?_
  rintro _ w13_ ⟨o0_13, y13_o0, A13_o0_1, c13_o0_1, L13_, H13_, rfl, hI13_, hge_o0_13, ht13_o0, hc13_o0_1, hs13_o0_1, h⟩
  have hge0_o0_13 := hge_o0_13
  replace hge_o0_13 := Nat.le_trans hI.size hge_o0_13
  refine Exists.elim (hI.call hI13_ (by simp)) fun L130_ h13_ => ?_
  have hz13_ := hI.size
  replace hI := h13_.1
  have u13_ := h13_.2.1
  have hl13_ := h13_.2.2
  clear h13_
  replace hs0 := hs0.up u13_.hh
  replace hs4_ := hs4_.up u13_.ll
  replace hg12_ := u13_.hh _ _ hg12_
  clear hI13_ u13_ hl13_
  refine ⟨_, rfl, ?_⟩
  refine Ops_step (R_assign rfl) rfl rfl ?_
  refine Ops_nil ?_
  refine then_n (k11 _ _ ?_)
  clear k11 K11
  refine W_keepB [0, 1, 6, 9, 10, 11] fun B_ b_ => ?_
  simp only [e_, Nat.reduceAdd, Nat.reduceBEq] at b_
  subst b_
  refine W_seq_k fun K15 k15 => ?_
  refine W_region [29, 30, 31, 32, 4, 5] rfl (Ops_step (R_move rfl) rfl rfl ?_)
  refine Ops_call (C_func bd68 rfl) rfl rfl ?_
  refine (octet_Reader_Within_ok (x1 := 1) (x2 := 1099511627776) (z0 := y13_o0) hI.st (hg.up hI.le) ht13_o0 hc13_o0_1 hs13_o0_1 h).mono ?_
  rintro _ w16_ ⟨r16_0, y16_o0, A16_o0_1, c16_o0_1, L16_, H16_, rfl, hI16_, ht16_o0, hc16_o0_1, hs16_o0_1, h⟩
  refine Exists.elim (hI.call hI16_ (new1 hge_o0_13)) fun L160_ h16_ => ?_
  have hz16_ := hI.size
  replace hI := h16_.1
  have u16_ := h16_.2.1
  have hl16_ := h16_.2.2
  clear h16_
  replace hs0 := hs0.up u16_.hh
  replace hs4_ := hs4_.up u16_.ll
  replace hs13_o0_1 := hs13_o0_1.up u16_.hh
  clear ht13_o0
  clear hI16_ u16_ hl16_
  refine ⟨_, rfl, ?_⟩
  refine Ops_step (R_move rfl) rfl rfl ?_
  refine Ops_call (C_func bd68 rfl) rfl rfl ?_
  refine (octet_Reader_Within_ok (x1 := 0) (x2 := 1099511627776) (z0 := y16_o0) hI.st (hg.up hI.le) ht16_o0 hc16_o0_1 hs16_o0_1 h).mono ?_
  rintro _ w17_ ⟨r17_0, y17_o0, A17_o0_1, c17_o0_1, L17_, H17_, rfl, hI17_, ht17_o0, hc17_o0_1, hs17_o0_1, h⟩
  refine Exists.elim (hI.call hI17_ (new1 hge_o0_13)) fun L170_ h17_ => ?_
  have hz17_ := hI.size
  replace hI := h17_.1
  have u17_ := h17_.2.1
  have hl17_ := h17_.2.2
  clear h17_
  replace hs0 := hs0.up u17_.hh
  replace hs4_ := hs4_.up u17_.ll
  replace hs16_o0_1 := hs16_o0_1.up u17_.hh
  clear ht16_o0
  clear hI17_ u17_ hl17_
  refine ⟨_, rfl, ?_⟩
  refine Ops_step (R_assign rfl) rfl rfl (Ops_step (R_assign rfl) rfl rfl ?_)
  refine Ops_nil ?_
  refine then_n (k15 _ _ ?_)
  clear k15 K15
  refine W_seq_k fun K18 k18 => ?_
  refine W_seq_k fun K19 k19 => ?_
  refine W_region [33, 34, 35] rfl (Ops_step (R_move rfl) rfl rfl ?_)
  refine Ops_call (C_func bd69 rfl) rfl rfl ?_
  refine (octet_Reader_End_ok (z0 := y17_o0) hI.st (hg.up hI.le) ht17_o0 hc17_o0_1 hs17_o0_1 h).mono ?_
  rintro _ w20_ ⟨r20_0, L20_, H20_, rfl, hI20_, h⟩
  refine Exists.elim (hI.call hI20_ (by simp)) fun L200_ h20_ => ?_
  have hz20_ := hI.size
  replace hI := h20_.1
  have u20_ := h20_.2.1
  have hl20_ := h20_.2.2
  clear h20_
  replace hs0 := hs0.up u20_.hh
  replace hs4_ := hs4_.up u20_.ll
  replace ht17_o0 := ht17_o0.up u20_ (by simp)
  replace hs17_o0_1 := hs17_o0_1.up u20_.hh
  clear hI20_ u20_ hl20_
  refine ⟨_, rfl, ?_⟩
  refine Ops_step (R_neq rfl rfl) rfl rfl ?_
  refine Ops_nil ?_
  refine then_n (k19 _ _ ?_)
  clear k19 K19
  refine W_keepB [0, 1, 4, 5, 6, 9, 10, 35] fun B_ b_ => ?_
  simp only [e_, Nat.reduceAdd, Nat.reduceBEq] at b_
  subst b_
  refine W_if rfl (fun hc22_ => ?_) (fun hc22_ => ?_)
  ·
   replace h := h.1 hc22_
   refine W_seq_k fun K23 k23 => ?_
   refine W_region [4, 5, 6, 7, 8] rfl (Ops_step (R_assign rfl) rfl rfl (Ops_step (R_assign rfl) rfl rfl (Ops_step (R_assign rfl) rfl rfl (Ops_step (R_assign rfl) rfl rfl ?_))))
   refine Ops_step (R_assign rfl) rfl rfl ?_
   refine Ops_nil ?_
   refine then_n (k23 _ _ ?_)
   clear k23 K23
   refine W_ret ?_
   refine then_ret ?_
   clear k18 K18
   refine ⟨_, ⟨_, _, rfl, rfl, ⟨_, _, rfl, rfl, ⟨_, _, rfl, rfl, ⟨_, _, rfl, rfl, ⟨_, _, rfl, rfl, rfl⟩⟩⟩⟩⟩, ?_⟩
   exact ⟨0, 0, none, 0, [], false, false, _, _, rfl, hI, OwnS.nil, h⟩
  ·
   replace h := h.2 hc22_
   refine W_skip ?_
   refine then_n (k18 _ _ ?_)
   clear k18 K18
   refine W_seq_k fun K24 k24 => ?_
   refine W_region [37, 38, 39, 40, 36, 41, 42, 12, 8] rfl (Ops_step (R_move rfl) rfl rfl (Ops_step (R_move rfl) rfl rfl (Ops_step (R_move rfl) rfl rfl ?_)))
   refine Ops_call (C_val bd46 rfl rfl) rfl rfl ?_
   refine (journal_Open_1_ok (x0 := r16_0) (x1 := r17_0) hI.st (hg.up hI.le)  h).mono ?_
   rintro _ w25_ ⟨r25_0, r25_1, L25_, H25_, rfl, hI25_, h⟩
   refine Exists.elim (hI.call hI25_ (by simp)) fun L250_ h25_ => ?_
   have hz25_ := hI.size
   replace hI := h25_.1
   have u25_ := h25_.2.1
   have hl25_ := h25_.2.2
   clear h25_
   replace hs0 := hs0.up u25_.hh
   replace hs4_ := hs4_.up u25_.ll
   clear hI25_ u25_ hl25_
   refine ⟨_, rfl, ?_⟩
   refine Ops_step (R_move rfl) rfl rfl ?_
   refine Ops_step (R_extract (v := vi r25_0) rfl rfl) rfl rfl ?_
   refine Ops_step (R_extract (v := .bool r25_1) rfl rfl) rfl rfl ?_
   refine Ops_step (R_assign rfl) rfl rfl (Ops_step (R_assign rfl) rfl rfl ?_)
   refine Ops_nil ?_
   refine then_n (k24 _ _ ?_)
   clear k24 K24
   refine W_keepB [0, 4, 5, 6, 8, 9, 10, 12] fun B_ b_ => ?_
   simp only [e_, Nat.reduceAdd, Nat.reduceBEq] at b_
   subst b_
   refine W_seq_k fun K27 k27 => ?_
   refine W_seq_k fun K28 k28 => ?_
   refine W_region [43, 44] rfl (Ops_step (R_move rfl) rfl rfl (Ops_step (R_not rfl) rfl rfl ?_))
   refine Ops_nil ?_
   refine then_n (k28 _ _ ?_)
   clear k28 K28
   refine W_cond rfl (fun hc29_ => ?_) (fun hc29_ => ?_)
   ·
    replace h := h.1 hc29_
    refine W_seq_k fun K30 k30 => ?_
    refine W_region [4, 5, 6, 7, 8] rfl (Ops_step (R_assign rfl) rfl rfl (Ops_step (R_assign rfl) rfl rfl (Ops_step (R_assign rfl) rfl rfl (Ops_step (R_assign rfl) rfl rfl ?_))))
    refine Ops_step (R_assign rfl) rfl rfl ?_
    refine Ops_nil ?_
    refine then_n (k30 _ _ ?_)
    clear k30 K30
    refine W_keepB [4, 5, 6, 7, 8] fun B_ b_ => ?_
    simp only [e_, Nat.reduceAdd, Nat.reduceBEq] at b_
    subst b_
    refine W_ret ?_
    refine then_ret ?_
    clear k27 K27
    refine ⟨_, ⟨_, _, rfl, rfl, ⟨_, _, rfl, rfl, ⟨_, _, rfl, rfl, ⟨_, _, rfl, rfl, ⟨_, _, rfl, rfl, rfl⟩⟩⟩⟩⟩, ?_⟩
    exact ⟨0, 0, none, 0, [], false, false, _, _, rfl, hI, OwnS.nil, h⟩
   ·
    replace h := h.2 hc29_
    refine W_skip ?_
    refine then_n (k27 _ _ ?_)
    clear k27 K27
    refine ex_ h fun J32_ hr32_ h => ?_
    refine W_seq_join [0, 10] [4, 5, 6] (fun vals_ w2 => ∃ (x4_32 : Int) (x5_32 : Int) (x6_32 : List journal_record) (A6_32 : Option Addr) (c6_32 : Nat) (L H : Gh), vals_ = [vi x4_32, vi x5_32, .slice A6_32 x6_32.length c6_32] ∧ J32_ x4_32 x5_32 x6_32 ∧ Inv [] G w L H w2 ∧ Le L250_ L ∧ Le H25_ H ∧ OwnS w.heap.size 85 L H w2 A6_32 c6_32 x6_32 ∧ True) (fun B_ b_ => ?_) (fun B_ b_ => ?_)
    ·
     simp only [e_, Nat.reduceAdd, Nat.reduceBEq] at b_
     subst b_
     clear hr32_
     have hll32_ := Le.refl L250_
     have hhh32_ := Le.refl H25_
     refine W_seq_k fun K33 k33 => ?_
     refine W_region [45, 46, 47, 48] rfl (Ops_step (R_move rfl) rfl rfl ?_)
     have hk35_ := h.1
     replace h := h.2
     refine Exists.elim (cut_ex (n := 1) (l := 1) (h := (r3_0.length : Int)) (hs4_.up hI.sub) rfl (by decide) hc4_ (by decide) hk35_ (Int.le_refl _)) fun A34_ h34_ => Exists.elim h34_ fun c34_ h34_ => ?_
     have hr34_ := h34_.1
     have hc34_ := h34_.2.1
     have hs34_ := h34_.2.2
     clear h34_
     refine Ops_step (X_slice (xs := r3_0) Try.underlying67 sz29 rfl hr34_ hc4_ rfl rfl (by decide) hk35_ (Int.le_refl _)) rfl rfl ?_
     clear hr34_
     refine Ops_step (R_len Try.underlying67 rfl rfl) rfl rfl (Ops_step (R_move rfl) rfl rfl ?_)
     refine Ops_nil ?_
     refine then_n (k33 _ _ ?_)
     clear k33 K33
     refine W_block ?_
     refine Exists.elim h fun I36_ h => Exists.elim h fun n36_ h => ?_
     have h0_ := h.1
     have hs36_ := h.2
     clear h
     refine W_loopB [0, 10, 12, 46, 47] [4, 5, 6, 48] (fun m vals_ w2 => ∃ (x4_36 : Int) (x5_36 : Int) (x6_36 : List journal_record) (A6_36 : Option Addr) (c6_36 : Nat) (x48_36 : Int) (L H : Gh), vals_ = [vi x4_36, vi x5_36, .slice A6_36 x6_36.length c6_36, vi x48_36] ∧ I36_ m x4_36 x5_36 x6_36 x48_36 ∧ Inv [] G w L H w2 ∧ Le L250_ L ∧ Le H25_ H ∧ OwnS w.heap.size 85 L H w2 A6_36 c6_36 x6_36 ∧ True) n36_ _ rfl ⟨r16_0, r17_0, [], none, 0, 0, _, _, rfl, h0_, hI, Le.refl _, Le.refl _, OwnS.nil, trivial⟩ fun B_ b_ => ?_
     clear h0_
     simp only [e_, Nat.reduceAdd, Nat.reduceBEq] at b_
     subst b_
     rintro m36_ _ w36_ ⟨x4_36, x5_36, x6_36, A6_36, c6_36, x48_36, L36_, H36_, rfl, hJ36_, hI36_, hll36_, hhh36_, ho6_36, -⟩
     replace hI := hI36_
     clear hI36_
     have h := hs36_ m36_ x4_36 x5_36 x6_36 x48_36 hJ36_
     clear hs36_ hJ36_
     replace hs0 := hs0.up hhh36_
     replace hll32_ := hll32_.trans hll36_
     replace hhh32_ := hhh32_.trans hhh36_
     replace hs34_ := hs34_.up hhh36_
     refine W_seq_k fun K37 k37 => ?_
     refine W_region [49] rfl (Ops_step (R_lss rfl rfl) rfl rfl ?_)
     refine Ops_nil ?_
     refine then_n (k37 _ _ ?_)
     clear k37 K37
     refine W_seq_k fun K38 k38 => ?_
     refine W_if rfl (fun hc39_ => ?_) (fun hc39_ => ?_)
     ·
      replace h := h.1 hc39_
      refine W_skip ?_
      refine then_n (k38 _ _ ?_)
      clear k38 K38
      refine W_seq_k fun K40 k40 => ?_
      refine W_block ?_
      refine W_seq_k fun K41 k41 => ?_
      refine W_region [50, 51, 14] rfl ?_
      refine ex_ h fun x42_ hx42_ h => ?_
      have ha42_ := (hs34_.atL hx42_).1
      refine Exists.elim (hs34_.atL hx42_).2 fun A42_ hA42_ => Exists.elim hA42_ fun c42_ hA42_ => ?_
      have hc42_ := hA42_.1
      have hs42_ := hA42_.2.1
      have hg42_ := hA42_.2.2
      clear hA42_
      refine Ops_step (R_indexSl Try.underlying67 sz29 rfl rfl hx42_.1 hx42_.lt ha42_) rfl rfl (Ops_step (R_load ag29 rfl (hI.st _ _ hg42_)) rfl rfl (Ops_step (R_assign rfl) rfl rfl ?_))
      refine Ops_nil ?_
      refine then_n (k41 _ _ ?_)
      clear k41 K41
      refine W_seq_k fun K43 k43 => ?_
      refine W_region [53, 54, 55, 56, 57, 58, 52, 59, 60, 15, none, 16] rfl (Ops_step (R_move rfl) rfl rfl (Ops_step (R_move rfl) rfl rfl (Ops_step (R_move rfl) rfl rfl (Ops_step (R_len Try.underlying41 rfl rfl) rfl rfl ?_))))
      have hk44_ := h.1
      replace h := h.2
      refine Ops_step (R_add rfl rfl (wI hk44_.1 hk44_.2)) rfl rfl ?_
      refine Ops_call (C_func bd70 rfl) rfl rfl ?_
      refine (journal_read_ok (x0 := x42_) (x1 := (r25_0 + (x6_36.length : Int))) hI.st (hg.up hI.le) hc42_ hs42_ h).mono ?_
      rintro _ w45_ ⟨l45_0, r45_0, r45_1, L45_, H45_, rfl, hI45_, hr45_0, h⟩
      refine Exists.elim (hI.call hI45_ (by simp)) fun L450_ h45_ => ?_
      have hz45_ := hI.size
      replace hI := h45_.1
      have u45_ := h45_.2.1
      have hl45_ := h45_.2.2
      clear h45_
      replace hs0 := hs0.up u45_.hh
      replace hll32_ := hll32_.trans u45_.ll
      replace hhh32_ := hhh32_.trans u45_.hh
      replace hs34_ := hs34_.up u45_.hh
      replace ho6_36 := ho6_36.up u45_.ll u45_ (by simp)
      replace hll36_ := hll36_.trans u45_.ll
      replace hhh36_ := hhh36_.trans u45_.hh
      replace hr45_0 := Rp.mono hl45_ hr45_0
      obtain ⟨A45_0_1, c45_0_1, rfl, ⟨hc45_0_1, hs45_0_1⟩⟩ := hr45_0
      clear hI45_ u45_ hl45_
      refine ⟨_, rfl, ?_⟩
      refine Ops_step (R_move rfl) rfl rfl ?_
      refine Ops_step (R_extract (v := .agg #[vi r45_0.label_, .slice A45_0_1 r45_0.data_.length c45_0_1]) rfl rfl) rfl rfl ?_
      refine Ops_step (R_extract (v := .bool r45_1) rfl rfl) rfl rfl ?_
      have hlp46_ho6_36 := ho6_36.lt
      have hI0_ := hI
      refine Ops_to (R_alloc zr85) rfl rfl ?_
      rintro _ w46_ ⟨b46_, rfl, hb46_, hB46_, hF46_⟩
      replace hI := hI.fr0 hF46_
      replace ho6_36 := ho6_36.fr0 hF46_
      have ht46_ : Tok H45_ _ b46_ 85 ([vi 0, .slice none 0 0]) := ⟨hB46_.to rfl, Out.ge hI0_.st (Nat.le_of_eq hb46_.symm)⟩
      have hge_b46_ : w.heap.size ≤ b46_ := hb46_ ▸ hI0_.size
      have hsq46_ho6_36 : ∀ i_ ∈ bk A6_36 c6_36, i_ ∉ [b46_] := fun i_ hi_ hm_ => by have h_ := hlp46_ho6_36 i_ hi_; rw [List.mem_singleton] at hm_; omega
      clear hB46_ hb46_ hI0_ hF46_
      refine Ops_to0 (R_storeN sz85 rfl rfl rfl ht46_.blk (Nat.le_of_ble_eq_true rfl) rfl) rfl ?_
      rintro _ w47_ ⟨hB47_, hF47_⟩
      replace hI := hI.tok hF47_ (out1 ht46_.out) (new1 hge_b46_)
      replace ho6_36 := ho6_36.fr hF47_ hsq46_ho6_36
      replace ht46_ : Tok H45_ _ b46_ 85 ([vi r45_0.label_, .slice A45_0_1 r45_0.data_.length c45_0_1]) := ⟨hB47_, ht46_.out⟩
      clear hF47_ hB47_
      refine Ops_step (R_assign rfl) rfl rfl ?_
      refine Ops_nil ?_
      refine then_n (k43 _ _ ?_)
      clear k43 K43
      refine W_keepB [0, 4, 5, 6, 10, 12, 15, 16, 46, 47, 48] fun B_ b_ => ?_
      simp only [e_, Nat.reduceAdd, Nat.reduceBEq] at b_
      subst b_
      refine W_seq_k fun K49 k49 => ?_
      refine W_seq_k fun K50 k50 => ?_
      refine W_region [61, 62] rfl (Ops_step (R_move rfl) rfl rfl (Ops_step (R_not rfl) rfl rfl ?_))
      refine Ops_nil ?_
      refine then_n (k50 _ _ ?_)
      clear k50 K50
      refine W_cond rfl (fun hc51_ => ?_) (fun hc51_ => ?_)
      ·
       replace h := h.1 hc51_
       refine W_seq_k fun K52 k52 => ?_
       refine W_region [63, 64, 65, 4, 5, 6, 7, 8] rfl (Ops_step (R_move rfl) rfl rfl (Ops_step (R_move rfl) rfl rfl (Ops_step (R_move rfl) rfl rfl (Ops_step (R_assign rfl) rfl rfl ?_))))
       refine Ops_step (R_assign rfl) rfl rfl (Ops_step (R_assign rfl) rfl rfl (Ops_step (R_assign rfl) rfl rfl (Ops_step (R_assign rfl) rfl rfl ?_)))
       refine Ops_nil ?_
       refine then_n (k52 _ _ ?_)
       clear k52 K52
       refine W_keepB [4, 5, 6, 7, 8] fun B_ b_ => ?_
       simp only [e_, Nat.reduceAdd, Nat.reduceBEq] at b_
       subst b_
       refine W_ret ?_
       refine then_ret ?_
       clear k49 K49
       refine block_ret ?_
       refine then_ret ?_
       clear k40 K40
       refine then_ret ?_
       refine block_ret ?_
       refine then_ret ?_
       refine ⟨_, ⟨_, _, rfl, rfl, ⟨_, _, rfl, rfl, ⟨_, _, rfl, rfl, ⟨_, _, rfl, rfl, ⟨_, _, rfl, rfl, rfl⟩⟩⟩⟩⟩, ?_⟩
       exact ⟨x4_36, x5_36, A6_36, c6_36, x6_36, false, true, _, _, rfl, hI, ho6_36, h⟩
      ·
       replace h := h.2 hc51_
       refine W_skip ?_
       refine then_n (k49 _ _ ?_)
       clear k49 K49
       refine W_region [66, 67, 68, 69, 6] rfl (Ops_step (R_move rfl) rfl rfl (Ops_step (R_loadN ag85 sz85 rfl ht46_.blk (Nat.le_of_ble_eq_true rfl)) rfl rfl ?_))
       have hlo54_ho6_36 := ho6_36.lt
       refine Ops_to (R_buildSlice el41 zr85 (by decide) (by decide) rfl rfl) rfl rfl ?_
       rintro _ w54_ ⟨b54_, rfl, hb54_, hB54_, hF54_⟩
       have ho54_ : OwnS w.heap.size 85 L450_ H45_ _ (some ⟨b54_, 0, none⟩) 1 ([r45_0] : List journal_record) := OwnS.ofBlk (css := [[vi r45_0.label_, .slice A45_0_1 r45_0.data_.length c45_0_1]]) hI.st hb54_ hB54_ (.cons ⟨A45_0_1, c45_0_1, rfl, ⟨hc45_0_1, hs45_0_1⟩⟩ .nil) rfl (by have := hI.size; omega) (by show 1 ≤ maxLen; decide)
       replace hI := hI.fr0 hF54_
       replace ho6_36 := ho6_36.fr0 hF54_
       clear hF54_ hB54_
       have hsp54_ho6_36 : ∀ i ∈ bk (some ⟨b54_, 0, none⟩) 1, i ∉ bk A6_36 c6_36 := sep_new (fun i_ hi_ => by have := (bk_of hi_).1; simp only [blkOf, List.mem_singleton] at this; omega) hlo54_ho6_36
       have hk56_ := h.1
       replace h := h.2
       refine Ops_to (X_append (α := journal_record) (xs := x6_36) (ys := ([r45_0] : List journal_record)) el41 rfl rfl ho6_36 (Srcs.ofOwn Try.underlying41 ho54_ (by decide)) hI.st hk56_ (by decide) hI.size) rfl rfl ?_
       rintro _ w55_ ⟨A55_, c55_, rfl, ho55_, hF55_, hbk55_⟩
       clear hbk55_
       replace hI := hI.tok hF55_ ho6_36.out (ho6_36.new (Nat.le_refl _))
       clear hF55_ ho6_36
       refine Ops_step (R_assign rfl) rfl rfl ?_
       refine Ops_nil ?_
       refine block_n ?_
       refine then_n (k40 _ _ ?_)
       clear k40 K40
       refine W_keepB [0, 4, 5, 6, 10, 12, 46, 47, 48] fun B_ b_ => ?_
       simp only [e_, Nat.reduceAdd, Nat.reduceBEq] at b_
       subst b_
       refine W_region [70, 48] rfl ?_
       have hk58_ := h.1
       replace h := h.2
       refine Ops_step (R_add rfl rfl (wI hk58_.1 hk58_.2)) rfl rfl (Ops_step (R_move rfl) rfl rfl ?_)
       refine Ops_nil ?_
       refine then_n ?_
       exact h.elim fun m_ h => ⟨m_, _, h.1, rfl, ⟨x4_36, x5_36, (x6_36 ++ ([r45_0] : List journal_record)), A55_, c55_, (x48_36 + 1), _, _, rfl, h.2, hI, hll36_, hhh36_, ho55_, trivial⟩, ⟨rfl, rfl, rfl, rfl, rfl, trivial⟩⟩
     ·
      replace h := h.2 hc39_
      refine W_exit ?_
      refine then_exit ?_
      clear k38 K38
      refine then_exit ?_
      refine block_exit ?_
      refine then_n ?_
      exact ⟨_, rfl, ⟨x4_36, x5_36, x6_36, A6_36, c6_36, _, _, rfl, h, hI, hll32_, hhh32_, ho6_36, trivial⟩, ⟨rfl, rfl, trivial⟩⟩
    ·
     simp only [e_, Nat.reduceAdd, Nat.reduceBEq] at b_
     subst b_
     clear h
     rintro _ w32_ ⟨x4_32, x5_32, x6_32, A6_32, c6_32, L32_, H32_, rfl, hJ32_, hI32_, hll32_, hhh32_, ho6_32, -⟩
     replace hI := hI32_
     clear hI32_
     have h := hr32_ x4_32 x5_32 x6_32 hJ32_
     clear hr32_ hJ32_
     replace hs0 := hs0.up hhh32_
     refine W_seq_k fun K59 k59 => ?_
     refine W_region [71, 72, 73, 74, 75, 76, 77, 4, 5, 6, 7, 8] rfl (Ops_step (R_move rfl) rfl rfl (Ops_step (R_move rfl) rfl rfl (Ops_step (R_move rfl) rfl rfl (Ops_step (R_move rfl) rfl rfl ?_))))
     refine Ops_step (R_move rfl) rfl rfl (Ops_step (R_len Try.underlying29 rfl rfl) rfl rfl (Ops_step (R_eql rfl rfl) rfl rfl (Ops_step (R_assign rfl) rfl rfl (Ops_step (R_assign rfl) rfl rfl ?_))))
     refine Ops_step (R_assign rfl) rfl rfl (Ops_step (R_assign rfl) rfl rfl (Ops_step (R_assign rfl) rfl rfl ?_))
     refine Ops_nil ?_
     refine then_n (k59 _ _ ?_)
     clear k59 K59
     refine W_keepB [4, 5, 6, 7, 8] fun B_ b_ => ?_
     simp only [e_, Nat.reduceAdd, Nat.reduceBEq] at b_
     subst b_
     refine W_ret ?_
     refine ⟨_, ⟨_, _, rfl, rfl, ⟨_, _, rfl, rfl, ⟨_, _, rfl, rfl, ⟨_, _, rfl, rfl, ⟨_, _, rfl, rfl, rfl⟩⟩⟩⟩⟩, ?_⟩
     exact ⟨x4_32, x5_32, A6_32, c6_32, x6_32, (decide (r3_1 = (x0.length : Int))), true, _, _, rfl, hI, ho6_32, h⟩

theorem journal_book_add_ok {G : Gh} {w : World} (hS : St G w) (hg : GL G) {d0 : Nat} {z0 : journal_Journal} {Ad0_1 : Option Addr} {cd0_1 : Nat} {d1 : Nat} {z1 : List (Int × Int)} (htd1 : MTok G G w d1 z1) {d2 : Nat} {z2 : disk_Disk} {Ad2_1 : Option Addr} {cd2_1 : Nat} {Ad2_2 : Option Addr} {cd2_2 : Nat} {Ad2_3 : Option Addr} {cd2_3 : Nat} (htd2 : Tok G w d2 53 ([.slice Ad2_1 z2.files_.e0_.length cd2_1, .slice Ad2_2 z2.files_.e1_.length cd2_2, .slice Ad2_3 z2.files_.e2_.length cd2_3, vi z2.room_, .bool z2.off_, .bool z2.armed_, vi z2.left_])) (hcd2_1 : z2.files_.e0_.length ≤ cd2_1) (hsd2_1 : Sl G Ad2_1 z2.files_.e0_) (hcd2_2 : z2.files_.e1_.length ≤ cd2_2) (hsd2_2 : Sl G Ad2_2 z2.files_.e1_) (hcd2_3 : z2.files_.e2_.length ≤ cd2_3) (hsd2_3 : Sl G Ad2_3 z2.files_.e2_) (htd0 : Tok G w d0 46 ([.slice Ad0_1 z0.book_.l_.length cd0_1, .map (some d1), .pointer (some ⟨d2, 0, none⟩), vi z0.gen_, vi z0.place_])) (hcd0_1 : z0.book_.l_.length ≤ cd0_1) (hsd0_1 : Sl G Ad0_1 z0.book_.l_) {l1 : List Value} {x1 : journal_record} (hr1 : Rp.cs G x1 l1) {Q : journal_Journal → (List (Int × Int)) → Prop} (h : journal_book_add z0 z1 z2 x1 Q) : Calls Try.prog 43 #[.pointer (some ⟨d0, 0 + 0, none⟩), .agg l1.toArray] w fun e w2 => ∃ (y0 : journal_Journal) (Ay0_1 : Option Addr) (cy0_1 : Nat) (y1 : List (Int × Int)) (L H : Gh), e = .returned (.tuple #[]) ∧ Inv [d0, d1] G w L H w2 ∧ Tok H w2 d0 46 ([.slice Ay0_1 y0.book_.l_.length cy0_1, .map (some d1), .pointer (some ⟨d2, 0, none⟩), vi y0.gen_, vi y0.place_]) ∧ y0.book_.l_.length ≤ cy0_1 ∧ Sl H Ay0_1 y0.book_.l_ ∧ MTok H H w2 d1 y1 ∧ Q y0 y1 := by
 unfold journal_book_add at h
 have hI := Inv.start (M := [d0, d1]) hS
 refine calls_W 36 Try.func43 rfl Try.ntmps43 rfl [] rfl ?_
 obtain ⟨A1_1, c1_1, rfl, ⟨hc1_1, hs1_1⟩⟩ := hr1
 have hlt_d0 := htd0.blk.lt
 have hlt_d1 := htd1.lt
 have hlt_d2 := htd2.blk.lt
 refine W_seq_k fun K1 k1 => ?_
 refine W_region [3] rfl ?_
 have hI0_ := hI
 refine Ops_to (R_box rfl) rfl rfl ?_
 rintro _ w2_ ⟨b2_, rfl, hb2_, hB2_, hF2_⟩
 replace hI := hI.fr0 hF2_
 replace htd1 := htd1.fr0 hF2_
 replace htd2 := htd2.fr0 hF2_
 replace htd0 := htd0.fr0 hF2_
 have ht2_ : Tok G _ b2_ 85 ([vi x1.label_, .slice A1_1 x1.data_.length c1_1]) := ⟨hB2_.to rfl, Out.ge hI0_.st (Nat.le_of_eq hb2_.symm)⟩
 have hge_b2_ : w.heap.size ≤ b2_ := hb2_ ▸ hI0_.size
 clear hB2_ hb2_ hI0_ hF2_
 refine Ops_nil ?_
 refine then_n (k1 _ _ ?_)
 clear k1 K1
 refine W_seq_k fun K3 k3 => ?_
 refine W_drawF [4, 5, 6, 7, 8, 9, 10, 11, 12, 13, 14, 15, 16, 17, 18, 19, 20, 21, 22, 23, 24, none] [(0, true), (1, true), (2, true), (3, true), (4, true), (5, true), (6, true), (7, true), (8, true), (9, true), (10, true), (11, true), (12, true), (13, true), (14, true), (15, true), (16, true), (17, false), (18, false), (19, true), (20, true), (21, false)] TJtB.hm rfl (by kernel_rfl) fun ops4_ w4_ hops4_ hF4_ => ?_
 replace hI := hI.fr0 hF4_
 replace htd1 := htd1.fr0 hF4_
 replace htd2 := htd2.fr0 hF4_
 replace htd0 := htd0.fr0 hF4_
 replace ht2_ := ht2_.fr0 hF4_
 clear hF4_
 refine HSp (R_move rfl) rfl rfl (HSp (R_move rfl) rfl rfl (HSp (R_nilCheck rfl) rfl rfl (HSp (R_fieldAddr fo44_0 rfl) rfl rfl ?_)))
 refine HS_loadB (v := .slice Ad0_1 z0.book_.l_.length cd0_1) ag41 rfl htd0.blk rfl rfl rfl ?_
 refine HSp (R_move rfl) rfl rfl (HSp (R_nilCheck rfl) rfl rfl (HSp (R_fieldAddr fo44_0 rfl) rfl rfl ?_))
 refine HS_loadB (v := .slice Ad0_1 z0.book_.l_.length cd0_1) ag41 rfl htd0.blk rfl rfl rfl ?_
 refine HSp (R_len Try.underlying41 rfl rfl) rfl rfl (HSp (R_move rfl) rfl rfl (HSp (R_nilCheck rfl) rfl rfl (HSp (R_fieldAddr fo44_0 rfl) rfl rfl ?_)))
 refine HS_loadB (v := .slice Ad0_1 z0.book_.l_.length cd0_1) ag41 rfl htd0.blk rfl rfl rfl ?_
 refine HSp (R_len Try.underlying41 rfl rfl) rfl rfl ?_
 have hk6_ := h.1
 replace h := h.2
 refine Exists.elim (cut_ex3 (n := 2) hsd0_1 rfl (by decide) (Int.le_refl 0) hk6_ (Int.le_refl _)) fun A5_ h5_ => ?_
 have hr5_ := h5_.1
 have hs5_ := h5_.2
 clear h5_
 refine HSp (X_slice3 (xs := z0.book_.l_) Try.underlying41 sz85 rfl hr5_ hcd0_1 rfl rfl rfl (Int.le_refl 0) hk6_ (Int.le_refl _)) rfl rfl ?_
 clear hr5_
 refine HS_loadN ag85 sz85 rfl ht2_.blk (Nat.le_of_ble_eq_true rfl) rfl rfl ?_
 have hlo7_b2_ := ht2_.blk.lt
 refine HS_to [13, 8, 4] _ rfl (by rw [hops4_]; kernel_rfl) (R_buildSlice el41 zr85 (by decide) (by decide) rfl rfl) rfl rfl ?_
 rintro _ w7_ ⟨b7_, rfl, hb7_, hB7_, hF7_⟩
 have ho7_ : OwnS w.heap.size 85 G G _ (some ⟨b7_, 0, none⟩) 1 ([x1] : List journal_record) := OwnS.ofBlk (css := [[vi x1.label_, .slice A1_1 x1.data_.length c1_1]]) hI.st hb7_ hB7_ (.cons ⟨A1_1, c1_1, rfl, ⟨hc1_1, hs1_1⟩⟩ .nil) rfl (by have := hI.size; omega) (by show 1 ≤ maxLen; decide)
 replace hI := hI.fr0 hF7_
 replace htd1 := htd1.fr0 hF7_
 replace htd2 := htd2.fr0 hF7_
 replace htd0 := htd0.fr0 hF7_
 replace ht2_ := ht2_.fr0 hF7_
 clear hF7_ hB7_
 have hsq7_b2_ : ∀ i_ ∈ bk (some ⟨b7_, 0, none⟩) 1, i_ ∉ [b2_] := fun i_ hi_ hm_ => by have h_ := (fun i_ hi_ => by have := (bk_of hi_).1; simp only [blkOf, List.mem_singleton] at this; omega) i_ hi_; rw [List.mem_singleton] at hm_; omega
 refine ⟨⟨(htd0.blk.at_ rfl), (htd0.blk.at_ rfl), (htd0.blk.at_ rfl), trivial⟩, ?_⟩
 have hk9_ := h.1
 replace h := h.2
 have hlo8_b2_ := ht2_.blk.lt
 refine HS_to [] _ rfl (by rw [hops4_]; kernel_rfl) (X_appendTight (α := journal_record) (xs := (cut z0.book_.l_ 0 (z0.book_.l_.length : Int))) (ys := ([x1] : List journal_record)) (B := _) el41 rfl rfl rfl hs5_ (Srcs.ofOwn Try.underlying41 ho7_ (by decide)) (by show 0 < 1; decide) hI.st hI.st hk9_ (by decide) (Nat.le_refl _)) rfl rfl ?_
 rintro _ w8_ ⟨A8_, c8_, rfl, ho8_, hF8_⟩
 have hsq8_b2_ : ∀ i_ ∈ bk A8_ c8_, i_ ∉ [b2_] := fun i_ hi_ hm_ => by have h_ := ho8_.off i_ hi_; rw [List.mem_singleton] at hm_; omega
 replace ho8_ := ho8_.le hI.size
 replace hI := hI.fr0 hF8_
 replace htd1 := htd1.fr0 hF8_
 replace htd2 := htd2.fr0 hF8_
 replace htd0 := htd0.fr0 hF8_
 replace ht2_ := ht2_.fr0 hF8_
 clear hF8_
 refine ⟨trivial, ?_⟩
 refine HSp (R_nilCheck rfl) rfl rfl (HSp (R_fieldAddr fo44_0 rfl) rfl rfl ?_)
 refine Exists.elim (ho8_.freeze hI) fun L11_ h11_ => Exists.elim h11_ fun H11_ h11_ => ?_
 replace hI := h11_.1
 have u11_ := h11_.2.1
 have hs11_ := h11_.2.2.2 (Le.refl _)
 have hc11_ := ho8_.cap
 replace hsd0_1 := hsd0_1.up u11_.hh
 replace htd1 := htd1.up u11_.hh u11_ (ho8_.old hlt_d1)
 replace hsd2_1 := hsd2_1.up u11_.hh
 replace hsd2_2 := hsd2_2.up u11_.hh
 replace hsd2_3 := hsd2_3.up u11_.hh
 replace htd2 := htd2.up u11_ (ho8_.old hlt_d2)
 replace htd0 := htd0.up u11_ (ho8_.old hlt_d0)
 replace hs1_1 := hs1_1.up u11_.hh
 replace ht2_ := ht2_.up u11_ (sep_tok hsq8_b2_)
 clear h11_ u11_ ho8_
 refine HS_to0 [] _ rfl (by rw [hops4_]; kernel_rfl) (R_store sz41 rfl rfl htd0.blk (by show 0 < 5; decide) rfl) rfl ?_
 rintro _ w10_ ⟨hB10_, hF10_⟩
 replace hI := hI.tok hF10_ (out1 htd0.out) (mem1 (by simp))
 replace htd1 := htd1.fr hF10_ (htd1.neT htd0)
 replace htd2 := htd2.fr hF10_ (htd2.apart htd0 (by decide))
 replace ht2_ := ht2_.fr hF10_ (ht2_.apart htd0 (by decide))
 replace htd0 : Tok H11_ _ d0 46 ([.slice A8_ (((cut z0.book_.l_ 0 (z0.book_.l_.length : Int)) ++ ([x1] : List journal_record)).length) c8_, .map (some d1), .pointer (some ⟨d2, 0, none⟩), vi z0.gen_, vi z0.place_]) := ⟨hB10_, htd0.out⟩
 clear hF10_ hB10_
 refine ⟨trivial, ?_⟩
 refine HS_nil ?_
 clear hops4_
 refine then_n (k3 _ _ ?_)
 clear k3 K3
 refine W_keepB [0, 3] fun B_ b_ => ?_
 simp only [e_, Nat.reduceAdd, Nat.reduceBEq] at b_
 subst b_
 refine W_drawF [25, 26, 27, 28, 29, 30, 31, 32, 33, 34, 35, none] [(0, true), (1, true), (2, true), (3, true), (4, true), (5, true), (7, true), (8, true), (9, true), (6, false), (10, true), (11, false)] TJtB.hm rfl (by kernel_rfl) fun ops13_ w13_ hops13_ hF13_ => ?_
 replace hI := hI.fr0 hF13_
 replace htd1 := htd1.fr0 hF13_
 replace htd2 := htd2.fr0 hF13_
 replace htd0 := htd0.fr0 hF13_
 replace ht2_ := ht2_.fr0 hF13_
 clear hF13_
 refine HSp (R_move rfl) rfl rfl (HSp (R_nilCheck rfl) rfl rfl (HSp (R_fieldAddr fo44_1 rfl) rfl rfl ?_))
 refine HS_loadB (v := .map (some d1)) ag42 rfl htd0.blk rfl rfl rfl ?_
 refine HSp (R_fieldAddr fo85_0 rfl) rfl rfl ?_
 refine HS_loadB (v := vi x1.label_) ag3 rfl ht2_.blk rfl rfl rfl ?_
 refine HSp (R_fieldAddr fo85_1 rfl) rfl rfl ?_
 refine HS_loadB (v := .slice A1_1 x1.data_.length c1_1) ag29 rfl ht2_.blk rfl rfl rfl ?_
 refine HSp (R_len Try.underlying29 rfl rfl) rfl rfl ?_
 refine HS_to [8] _ rfl (by rw [hops13_]; kernel_rfl) (Runs.to (R_lookup (z0 := (0 : Int)) Try.underlying42 Try.underlying3 zv3 rfl rfl htd1)) rfl rfl ?_
 rintro _ wq14_ ⟨rfl, hq14_⟩
 replace hq14_ := hq14_.symm
 subst hq14_
 refine ⟨⟨(ht2_.blk.at_ rfl), trivial⟩, ?_⟩
 have hk15_ := h.1
 replace h := h.2
 refine HSp (R_add rfl rfl (wI hk15_.1 hk15_.2)) rfl rfl ?_
 refine HS_to0 [] _ rfl (by rw [hops13_]; kernel_rfl) (R_mapUpdate (v := (((mget z1 x1.label_).getD 0) + (x1.data_.length : Int))) Try.underlying42 Try.underlying3 rfl rfl rfl rfl htd1) rfl ?_
 rintro _ w16_ ⟨hB16_, hF16_⟩
 replace hI := hI.tok hF16_ (out1 htd1.out) (mem1 (by simp))
 replace htd2 := htd2.fr hF16_ (htd2.neM htd1)
 replace htd0 := htd0.fr hF16_ (htd0.neM htd1)
 replace ht2_ := ht2_.fr hF16_ (ht2_.neM htd1)
 replace htd1 := hB16_
 clear hF16_ hB16_
 refine ⟨trivial, ?_⟩
 refine HS_nil ?_
 clear hops13_
 refine ⟨_, rfl, ?_⟩
 exact ⟨(journal_Journal.mk (journal_book.mk ((cut z0.book_.l_ 0 (z0.book_.l_.length : Int)) ++ ([x1] : List journal_record))) z0.gen_ z0.place_), A8_, c8_, (mput z1 x1.label_ (((mget z1 x1.label_).getD 0) + (x1.data_.length : Int))), _, _, rfl, hI, htd0, hc11_, hs11_, htd1, h⟩

theorem journal_Open_2_ok {G : Gh} {w : World} (hS : St G w) (hg : GL G) {x0 : Int} {x1 : Int} {d0 : Nat} {z0 : List journal_record} {Ad0_1 : Option Addr} {cd0_1 : Nat} (htd0 : Tok G w d0 41 ([.slice Ad0_1 z0.length cd0_1])) (hcd0_1 : z0.length ≤ cd0_1) (hsd0_1 : Sl G Ad0_1 z0) {d1 : Nat} {z1 : Unit} {d2 : Nat} {z2 : journal_Journal} {Ad2_1 : Option Addr} {cd2_1 : Nat} {d3 : Nat} {z3 : List (Int × Int)} (htd3 : MTok G G w d3 z3) {d4 : Nat} {z4 : disk_Disk} {Ad4_1 : Option Addr} {cd4_1 : Nat} {Ad4_2 : Option Addr} {cd4_2 : Nat} {Ad4_3 : Option Addr} {cd4_3 : Nat} (htd4 : Tok G w d4 53 ([.slice Ad4_1 z4.files_.e0_.length cd4_1, .slice Ad4_2 z4.files_.e1_.length cd4_2, .slice Ad4_3 z4.files_.e2_.length cd4_3, vi z4.room_, .bool z4.off_, .bool z4.armed_, vi z4.left_])) (hcd4_1 : z4.files_.e0_.length ≤ cd4_1) (hsd4_1 : Sl G Ad4_1 z4.files_.e0_) (hcd4_2 : z4.files_.e1_.length ≤ cd4_2) (hsd4_2 : Sl G Ad4_2 z4.files_.e1_) (hcd4_3 : z4.files_.e2_.length ≤ cd4_3) (hsd4_3 : Sl G Ad4_3 z4.files_.e2_) (htd2 : Tok G w d2 46 ([.slice Ad2_1 z2.book_.l_.length cd2_1, .map (some d3), .pointer (some ⟨d4, 0, none⟩), vi z2.gen_, vi z2.place_])) (hcd2_1 : z2.book_.l_.length ≤ cd2_1) (hsd2_1 : Sl G Ad2_1 z2.book_.l_) (htd1 : Tok G w d1 26 ([.pointer (some ⟨d2, 0, none⟩)])) {Q : Int → Bool → Prop} (h : journal_Open_2 x0 x1 z0 z1 z2 z3 z4 Q) : Calls Try.prog 47 #[vi x0, vi x1, .pointer (some ⟨d0, 0, none⟩), .pointer (some ⟨d1, 0, none⟩)] w fun e w2 => ∃ (r0 : Int) (r1 : Bool) (L H : Gh), e = .returned (.tuple #[vi r0, .bool r1]) ∧ Inv [] G w L H w2 ∧ Q r0 r1 := by
 unfold journal_Open_2 at h
 have hI := Inv.start (M := []) hS
 refine calls_W 22 Try.func47 rfl Try.ntmps47 rfl [.tmp 6, .tmp 7] rfl ?_
 have hlt_d0 := htd0.blk.lt
 have hlt_d1 := htd1.blk.lt
 have hlt_d2 := htd2.blk.lt
 have hlt_d3 := htd3.lt
 have hlt_d4 := htd4.blk.lt
 refine W_seq_k fun K1 k1 => ?_
 refine W_region [6, 7] rfl (Ops_step (R_assign rfl) rfl rfl (Ops_step (R_assign rfl) rfl rfl ?_))
 refine Ops_nil ?_
 refine then_n (k1 _ _ ?_)
 clear k1 K1
 refine W_seq_k fun K2 k2 => ?_
 refine W_drawF [8, 9, 10, 11, 12, 13, 14, 15, 16, 17, 18, 19, 20, 21, 6, 7] [(0, true), (1, true), (2, true), (3, true), (4, true), (5, true), (6, true), (7, true), (8, true), (9, true), (10, true), (11, true), (12, true), (13, true), (14, true), (15, true)] TJtB.hm rfl (by kernel_rfl) fun ops3_ w3_ hops3_ hF3_ => ?_
 replace hI := hI.fr0 hF3_
 replace htd0 := htd0.fr0 hF3_
 replace htd3 := htd3.fr0 hF3_
 replace htd4 := htd4.fr0 hF3_
 replace htd2 := htd2.fr0 hF3_
 replace htd1 := htd1.fr0 hF3_
 clear hF3_
 refine HS_loadB (v := .slice Ad0_1 z0.length cd0_1) ag41 rfl htd0.blk rfl rfl rfl ?_
 refine HSp (R_len Try.underlying41 rfl rfl) rfl rfl (HSp (R_move rfl) rfl rfl ?_)
 refine HS_loadB (v := .pointer (some ⟨d2, 0, none⟩)) ag26 rfl htd1.blk rfl rfl rfl ?_
 refine HSp (R_nilCheck rfl) rfl rfl (HSp (R_fieldAddr fo46_2 rfl) rfl rfl ?_)
 refine HS_loadB (v := vi z2.gen_) ag3 rfl htd2.blk rfl rfl rfl ?_
 refine HSp (R_eql rfl rfl) rfl rfl (HSp (R_move rfl) rfl rfl ?_)
 refine HS_split 16 rfl (fun hg4_ => ?_) (fun hg4_ => ?_)
 ·
  replace h := h.1 hg4_
  refine HSp (R_move rfl) rfl rfl ?_
  refine HS_loadB (v := .slice Ad0_1 z0.length cd0_1) ag41 rfl htd0.blk rfl rfl rfl ?_
  refine HSp (R_len Try.underlying41 rfl rfl) rfl rfl (HSp (R_eql rfl rfl) rfl rfl (HSp (R_pick_true rfl rfl) rfl rfl (HSp (R_assign rfl) rfl rfl (HSp (R_assign rfl) rfl rfl ?_))))
  refine HS_nil ?_
  clear hops3_
  refine then_n (k2 _ _ ?_)
  clear k2 K2
  refine W_keepB [6, 7] fun B_ b_ => ?_
  simp only [e_, Nat.reduceAdd, Nat.reduceBEq] at b_
  subst b_
  refine W_ret ?_
  refine ⟨_, ⟨_, _, rfl, rfl, ⟨_, _, rfl, rfl, rfl⟩⟩, ?_⟩
  exact ⟨(z0.length : Int), (decide (x1 = (z0.length : Int))), _, _, rfl, hI, h⟩
 ·
  replace h := h.2 hg4_
  refine HS_pass rfl rfl ?_
  refine HS_pass rfl rfl ?_
  refine HS_pass rfl rfl ?_
  refine HS_pass rfl rfl ?_
  refine HSp (R_pick_false rfl rfl) rfl rfl (HSp (R_assign rfl) rfl rfl (HSp (R_assign rfl) rfl rfl ?_))
  refine HS_nil ?_
  clear hops3_
  refine then_n (k2 _ _ ?_)
  clear k2 K2
  refine W_keepB [6, 7] fun B_ b_ => ?_
  simp only [e_, Nat.reduceAdd, Nat.reduceBEq] at b_
  subst b_
  refine W_ret ?_
  refine ⟨_, ⟨_, _, rfl, rfl, ⟨_, _, rfl, rfl, rfl⟩⟩, ?_⟩
  exact ⟨(z0.length : Int), false, _, _, rfl, hI, h⟩

theorem journal_opened_v1_ok {G : Gh} {w : World} (hS : St G w) (hg : GL G) {A0 : Option Addr} {c0 : Nat} {x0 : List UInt8} (hc0 : x0.length ≤ c0) (hs0 : Sl G A0 x0) {d0 : Nat} {z0 : List journal_record} {Ad0_1 : Option Addr} {cd0_1 : Nat} (htd0 : Tok G w d0 41 ([.slice Ad0_1 z0.length cd0_1])) (hcd0_1 : z0.length ≤ cd0_1) (hsd0_1 : Sl G Ad0_1 z0) {d1 : Nat} {z1 : Unit} {d2 : Nat} {z2 : journal_Journal} {Ad2_1 : Option Addr} {cd2_1 : Nat} {d3 : Nat} {z3 : List (Int × Int)} (htd3 : MTok G G w d3 z3) {d4 : Nat} {z4 : disk_Disk} {Ad4_1 : Option Addr} {cd4_1 : Nat} {Ad4_2 : Option Addr} {cd4_2 : Nat} {Ad4_3 : Option Addr} {cd4_3 : Nat} (htd4 : Tok G w d4 53 ([.slice Ad4_1 z4.files_.e0_.length cd4_1, .slice Ad4_2 z4.files_.e1_.length cd4_2, .slice Ad4_3 z4.files_.e2_.length cd4_3, vi z4.room_, .bool z4.off_, .bool z4.armed_, vi z4.left_])) (hcd4_1 : z4.files_.e0_.length ≤ cd4_1) (hsd4_1 : Sl G Ad4_1 z4.files_.e0_) (hcd4_2 : z4.files_.e1_.length ≤ cd4_2) (hsd4_2 : Sl G Ad4_2 z4.files_.e1_) (hcd4_3 : z4.files_.e2_.length ≤ cd4_3) (hsd4_3 : Sl G Ad4_3 z4.files_.e2_) (htd2 : Tok G w d2 46 ([.slice Ad2_1 z2.book_.l_.length cd2_1, .map (some d3), .pointer (some ⟨d4, 0, none⟩), vi z2.gen_, vi z2.place_])) (hcd2_1 : z2.book_.l_.length ≤ cd2_1) (hsd2_1 : Sl G Ad2_1 z2.book_.l_) (htd1 : Tok G w d1 26 ([.pointer (some ⟨d2, 0, none⟩)])) {Q : Int → Int → (List journal_record) → Bool → Bool → Prop} (h : journal_opened_v1 x0 z0 z1 z2 z3 z4 Q) : Calls Try.prog 45 #[.slice A0 x0.length c0, .func (.func 47) #[] #[.pointer (some ⟨d0, 0, none⟩), .pointer (some ⟨d1, 0, none⟩)]] w fun e w2 => ∃ (r0 : Int) (r1 : Int) (A2 : Option Addr) (c2 : Nat) (r2 : List journal_record) (r3 : Bool) (r4 : Bool) (L H : Gh), e = .returned (.tuple #[vi r0, vi r1, .slice A2 r2.length c2, .bool r3, .bool r4]) ∧ Inv [] G w L H w2 ∧ OwnS w.heap.size 85 L H w2 A2 c2 r2 ∧ Q r0 r1 r2 r3 r4 := by
 unfold journal_opened_v1 at h
 have hI := Inv.start (M := []) hS
 refine calls_W 78 Try.func45 rfl Try.ntmps45 rfl [.tmp 4, .tmp 5, .tmp 6, .tmp 7, .tmp 8] rfl ?_
 have hlt_d0 := htd0.blk.lt
 have hlt_d1 := htd1.blk.lt
 have hlt_d2 := htd2.blk.lt
 have hlt_d3 := htd3.lt
 have hlt_d4 := htd4.blk.lt
 refine W_seq_k fun K1 k1 => ?_
 refine W_region [4, 5, 6, 7, 8] rfl (Ops_step (R_assign rfl) rfl rfl (Ops_step (R_assign rfl) rfl rfl (Ops_step (R_assign rfl) rfl rfl (Ops_step (R_assign rfl) rfl rfl ?_))))
 refine Ops_step (R_assign rfl) rfl rfl ?_
 refine Ops_nil ?_
 refine then_n (k1 _ _ ?_)
 clear k1 K1
 refine W_seq_k fun K2 k2 => ?_
 refine W_region [18, 19, 17, 20, 21, 9, 10] rfl (Ops_step (R_move rfl) rfl rfl ?_)
 refine Ops_call (C_func bd66 rfl) rfl rfl ?_
 refine (octet_All_ok (x0 := x0) hI.st (hg.up hI.le) hc0 hs0 h).mono ?_
 rintro _ w3_ ⟨A3_0, c3_0, r3_0, r3_1, L3_, H3_, rfl, hI3_, ho3_0, h⟩
 refine Exists.elim (hI.call hI3_ (by simp)) fun L30_ h3_ => ?_
 have hz3_ := hI.size
 replace hI := h3_.1
 have u3_ := h3_.2.1
 have hl3_ := h3_.2.2
 clear h3_
 replace hs0 := hs0.up u3_.hh
 replace hsd0_1 := hsd0_1.up u3_.hh
 replace htd0 := htd0.up u3_ (by simp)
 replace hsd2_1 := hsd2_1.up u3_.hh
 replace htd3 := htd3.up u3_.hh u3_ (by simp)
 replace hsd4_1 := hsd4_1.up u3_.hh
 replace hsd4_2 := hsd4_2.up u3_.hh
 replace hsd4_3 := hsd4_3.up u3_.hh
 replace htd4 := htd4.up u3_ (by simp)
 replace htd2 := htd2.up u3_ (by simp)
 replace htd1 := htd1.up u3_ (by simp)
 replace ho3_0 := OwnS.back ho3_0 hz3_ hl3_ (Le.refl _)
 clear hI3_ u3_ hl3_
 refine ⟨_, rfl, ?_⟩
 refine Exists.elim (ho3_0.freeze hI) fun L4_ h4_ => Exists.elim h4_ fun H4_ h4_ => ?_
 replace hI := h4_.1
 have u4_ := h4_.2.1
 have hs4_ := h4_.2.2.1 (Le.refl _)
 have hc4_ := ho3_0.cap
 replace hs0 := hs0.up u4_.hh
 replace hsd0_1 := hsd0_1.up u4_.hh
 replace htd0 := htd0.up u4_ (ho3_0.old hlt_d0)
 replace hsd2_1 := hsd2_1.up u4_.hh
 replace htd3 := htd3.up u4_.hh u4_ (ho3_0.old hlt_d3)
 replace hsd4_1 := hsd4_1.up u4_.hh
 replace hsd4_2 := hsd4_2.up u4_.hh
 replace hsd4_3 := hsd4_3.up u4_.hh
 replace htd4 := htd4.up u4_ (ho3_0.old hlt_d4)
 replace htd2 := htd2.up u4_ (ho3_0.old hlt_d2)
 replace htd1 := htd1.up u4_ (ho3_0.old hlt_d1)
 clear h4_ u4_ ho3_0
 refine Ops_step (R_move rfl) rfl rfl ?_
 refine Ops_step (R_extract (v := .slice A3_0 r3_0.length c3_0) rfl rfl) rfl rfl ?_
 refine Ops_step (R_extract (v := vi r3_1) rfl rfl) rfl rfl ?_
 refine Ops_step (R_assign rfl) rfl rfl (Ops_step (R_assign rfl) rfl rfl ?_)
 refine Ops_nil ?_
 refine then_n (k2 _ _ ?_)
 clear k2 K2
 refine W_keepB [0, 1, 6, 9, 10] fun B_ b_ => ?_
 simp only [e_, Nat.reduceAdd, Nat.reduceBEq] at b_
 subst b_
 refine W_seq_k fun K6 k6 => ?_
 refine W_seq_k fun K7 k7 => ?_
 refine W_region [22, 23, 24] rfl (Ops_step (R_move rfl) rfl rfl (Ops_step (R_len Try.underlying67 rfl rfl) rfl rfl (Ops_step (R_eql rfl rfl) rfl rfl ?_)))
 refine Ops_nil ?_
 refine then_n (k7 _ _ ?_)
 clear k7 K7
 refine W_if rfl (fun hc8_ => ?_) (fun hc8_ => ?_)
 ·
  replace h := h.1 hc8_
  refine W_seq_k fun K9 k9 => ?_
  refine W_region [4, 5, 6, 7, 8] rfl (Ops_step (R_assign rfl) rfl rfl (Ops_step (R_assign rfl) rfl rfl (Ops_step (R_assign rfl) rfl rfl (Ops_step (R_assign rfl) rfl rfl ?_))))
  refine Ops_step (R_assign rfl) rfl rfl ?_
  refine Ops_nil ?_
  refine then_n (k9 _ _ ?_)
  clear k9 K9
  refine W_keepB [4, 5, 6, 7, 8] fun B_ b_ => ?_
  simp only [e_, Nat.reduceAdd, Nat.reduceBEq] at b_
  subst b_
  refine W_ret ?_
  refine then_ret ?_
  clear k6 K6
  refine ⟨_, ⟨_, _, rfl, rfl, ⟨_, _, rfl, rfl, ⟨_, _, rfl, rfl, ⟨_, _, rfl, rfl, ⟨_, _, rfl, rfl, rfl⟩⟩⟩⟩⟩, ?_⟩
  exact ⟨0, 0, none, 0, [], false, false, _, _, rfl, hI, OwnS.nil, h⟩
 ·
  replace h := h.2 hc8_
  refine W_skip ?_
  refine then_n (k6 _ _ ?_)
  clear k6 K6
  refine W_seq_k fun K11 k11 => ?_
  refine W_region [25, 26, 27, 28, 11] rfl (Ops_step (R_move rfl) rfl rfl ?_)
  refine ex_ h fun x12_ hx12_ h => ?_
  have ha12_ := ((hs4_.up hI.sub).atL hx12_).1
  refine Exists.elim ((hs4_.up hI.sub).atL hx12_).2 fun A12_ hA12_ => Exists.elim hA12_ fun c12_ hA12_ => ?_
  have hc12_ := hA12_.1
  have hs12_ := hA12_.2.1
  have hg12_ := hA12_.2.2
  clear hA12_
  refine Ops_step (R_indexSl Try.underlying67 sz29 rfl rfl hx12_.1 hx12_.lt ha12_) rfl rfl (Ops_step (R_load ag29 rfl (hI.st _ _ hg12_)) rfl rfl ?_)
  refine Ops_call (C_func bd67 rfl) rfl rfl ?_
  refine (octet_Read_ok (x0 := x12_) hI.st (hg.up hI.le) hc12_ hs12_ h).mono ?_
  rintro _ w13_ ⟨o0_13, y13_o0, A13_o0_1, c13_o0_1, L13_, H13_, rfl, hI13_, hge_o0_13, ht13_o0, hc13_o0_1, hs13_o0_1, h⟩
  have hge0_o0_13 := hge_o0_13
  replace hge_o0_13 := Nat.le_trans hI.size hge_o0_13
  refine Exists.elim (hI.call hI13_ (by simp)) fun L130_ h13_ => ?_
  have hz13_ := hI.size
  replace hI := h13_.1
  have u13_ := h13_.2.1
  have hl13_ := h13_.2.2
  clear h13_
  replace hs0 := hs0.up u13_.hh
  replace hsd0_1 := hsd0_1.up u13_.hh
  replace htd0 := htd0.up u13_ (by simp)
  replace hsd2_1 := hsd2_1.up u13_.hh
  replace htd3 := htd3.up u13_.hh u13_ (by simp)
  replace hsd4_1 := hsd4_1.up u13_.hh
  replace hsd4_2 := hsd4_2.up u13_.hh
  replace hsd4_3 := hsd4_3.up u13_.hh
  replace htd4 := htd4.up u13_ (by simp)
  replace htd2 := htd2.up u13_ (by simp)
  replace htd1 := htd1.up u13_ (by simp)
  replace hs4_ := hs4_.up u13_.ll
  replace hg12_ := u13_.hh _ _ hg12_
  clear hI13_ u13_ hl13_
  refine ⟨_, rfl, ?_⟩
  refine Ops_step (R_assign rfl) rfl rfl ?_
  refine Ops_nil ?_
  refine then_n (k11 _ _ ?_)
  clear k11 K11
  refine W_keepB [0, 1, 6, 9, 10, 11] fun B_ b_ => ?_
  simp only [e_, Nat.reduceAdd, Nat.reduceBEq] at b_
  subst b_
  refine W_seq_k fun K15 k15 => ?_
  refine W_region [29, 30, 31, 32, 4, 5] rfl (Ops_step (R_move rfl) rfl rfl ?_)
  refine Ops_call (C_func bd68 rfl) rfl rfl ?_
  refine (octet_Reader_Within_ok (x1 := 1) (x2 := 1099511627776) (z0 := y13_o0) hI.st (hg.up hI.le) ht13_o0 hc13_o0_1 hs13_o0_1 h).mono ?_
  rintro _ w16_ ⟨r16_0, y16_o0, A16_o0_1, c16_o0_1, L16_, H16_, rfl, hI16_, ht16_o0, hc16_o0_1, hs16_o0_1, h⟩
  refine Exists.elim (hI.call hI16_ (new1 hge_o0_13)) fun L160_ h16_ => ?_
  have hz16_ := hI.size
  replace hI := h16_.1
  have u16_ := h16_.2.1
  have hl16_ := h16_.2.2
  clear h16_
  replace hs0 := hs0.up u16_.hh
  replace hsd0_1 := hsd0_1.up u16_.hh
  replace htd0 := htd0.up u16_ (htd0.apart ht13_o0 (by decide))
  replace hsd2_1 := hsd2_1.up u16_.hh
  replace htd3 := htd3.up u16_.hh u16_ (htd3.neT ht13_o0)
  replace hsd4_1 := hsd4_1.up u16_.hh
  replace hsd4_2 := hsd4_2.up u16_.hh
  replace hsd4_3 := hsd4_3.up u16_.hh
  replace htd4 := htd4.up u16_ (htd4.apart ht13_o0 (by decide))
  replace htd2 := htd2.up u16_ (htd2.apart ht13_o0 (by decide))
  replace htd1 := htd1.up u16_ (htd1.apart ht13_o0 (by decide))
  replace hs4_ := hs4_.up u16_.ll
  replace hs13_o0_1 := hs13_o0_1.up u16_.hh
  clear ht13_o0
  clear hI16_ u16_ hl16_
  refine ⟨_, rfl, ?_⟩
  refine Ops_step (R_move rfl) rfl rfl ?_
  refine Ops_call (C_func bd68 rfl) rfl rfl ?_
  refine (octet_Reader_Within_ok (x1 := 0) (x2 := 1099511627776) (z0 := y16_o0) hI.st (hg.up hI.le) ht16_o0 hc16_o0_1 hs16_o0_1 h).mono ?_
  rintro _ w17_ ⟨r17_0, y17_o0, A17_o0_1, c17_o0_1, L17_, H17_, rfl, hI17_, ht17_o0, hc17_o0_1, hs17_o0_1, h⟩
  refine Exists.elim (hI.call hI17_ (new1 hge_o0_13)) fun L170_ h17_ => ?_
  have hz17_ := hI.size
  replace hI := h17_.1
  have u17_ := h17_.2.1
  have hl17_ := h17_.2.2
  clear h17_
  replace hs0 := hs0.up u17_.hh
  replace hsd0_1 := hsd0_1.up u17_.hh
  replace htd0 := htd0.up u17_ (htd0.apart ht16_o0 (by decide))
  replace hsd2_1 := hsd2_1.up u17_.hh
  replace htd3 := htd3.up u17_.hh u17_ (htd3.neT ht16_o0)
  replace hsd4_1 := hsd4_1.up u17_.hh
  replace hsd4_2 := hsd4_2.up u17_.hh
  replace hsd4_3 := hsd4_3.up u17_.hh
  replace htd4 := htd4.up u17_ (htd4.apart ht16_o0 (by decide))
  replace htd2 := htd2.up u17_ (htd2.apart ht16_o0 (by decide))
  replace htd1 := htd1.up u17_ (htd1.apart ht16_o0 (by decide))
  replace hs4_ := hs4_.up u17_.ll
  replace hs16_o0_1 := hs16_o0_1.up u17_.hh
  clear ht16_o0
  clear hI17_ u17_ hl17_
  refine ⟨_, rfl, ?_⟩
  refine Ops_step (R_assign rfl) rfl rfl (Ops_step (R_assign rfl) rfl rfl ?_)
  refine Ops_nil ?_
  refine then_n (k15 _ _ ?_)
  clear k15 K15
  refine W_seq_k fun K18 k18 => ?_
  refine W_seq_k fun K19 k19 => ?_
  refine W_region [33, 34, 35] rfl (Ops_step (R_move rfl) rfl rfl ?_)
  refine Ops_call (C_func bd69 rfl) rfl rfl ?_
  refine (octet_Reader_End_ok (z0 := y17_o0) hI.st (hg.up hI.le) ht17_o0 hc17_o0_1 hs17_o0_1 h).mono ?_
  rintro _ w20_ ⟨r20_0, L20_, H20_, rfl, hI20_, h⟩
  refine Exists.elim (hI.call hI20_ (by simp)) fun L200_ h20_ => ?_
  have hz20_ := hI.size
  replace hI := h20_.1
  have u20_ := h20_.2.1
  have hl20_ := h20_.2.2
  clear h20_
  replace hs0 := hs0.up u20_.hh
  replace hsd0_1 := hsd0_1.up u20_.hh
  replace htd0 := htd0.up u20_ (by simp)
  replace hsd2_1 := hsd2_1.up u20_.hh
  replace htd3 := htd3.up u20_.hh u20_ (by simp)
  replace hsd4_1 := hsd4_1.up u20_.hh
  replace hsd4_2 := hsd4_2.up u20_.hh
  replace hsd4_3 := hsd4_3.up u20_.hh
  replace htd4 := htd4.up u20_ (by simp)
  replace htd2 := htd2.up u20_ (by simp)
  replace htd1 := htd1.up u20_ (by simp)
  replace hs4_ := hs4_.up u20_.ll
  replace ht17_o0 := ht17_o0.up u20_ (by simp)
  replace hs17_o0_1 := hs17_o0_1.up u20_.hh
  clear hI20_ u20_ hl20_
  refine ⟨_, rfl, ?_⟩
  refine Ops_step (R_neq rfl rfl) rfl rfl ?_
  refine Ops_nil ?_
  refine then_n (k19 _ _ ?_)
  clear k19 K19
  refine W_keepB [0, 1, 4, 5, 6, 9, 10, 35] fun B_ b_ => ?_
  simp only [e_, Nat.reduceAdd, Nat.reduceBEq] at b_
  subst b_
  refine W_if rfl (fun hc22_ => ?_) (fun hc22_ => ?_)
  ·
   replace h := h.1 hc22_
   refine W_seq_k fun K23 k23 => ?_
   refine W_region [4, 5, 6, 7, 8] rfl (Ops_step (R_assign rfl) rfl rfl (Ops_step (R_assign rfl) rfl rfl (Ops_step (R_assign rfl) rfl rfl (Ops_step (R_assign rfl) rfl rfl ?_))))
   refine Ops_step (R_assign rfl) rfl rfl ?_
   refine Ops_nil ?_
   refine then_n (k23 _ _ ?_)
   clear k23 K23
   refine W_ret ?_
   refine then_ret ?_
   clear k18 K18
   refine ⟨_, ⟨_, _, rfl, rfl, ⟨_, _, rfl, rfl, ⟨_, _, rfl, rfl, ⟨_, _, rfl, rfl, ⟨_, _, rfl, rfl, rfl⟩⟩⟩⟩⟩, ?_⟩
   exact ⟨0, 0, none, 0, [], false, false, _, _, rfl, hI, OwnS.nil, h⟩
  ·
   replace h := h.2 hc22_
   refine W_skip ?_
   refine then_n (k18 _ _ ?_)
   clear k18 K18
   refine W_seq_k fun K24 k24 => ?_
   refine W_region [37, 38, 39, 40, 36, 41, 42, 12, 8] rfl (Ops_step (R_move rfl) rfl rfl (Ops_step (R_move rfl) rfl rfl (Ops_step (R_move rfl) rfl rfl ?_)))
   refine Ops_call (C_val bd47 rfl rfl) rfl rfl ?_
   refine (journal_Open_2_ok (x0 := r16_0) (x1 := r17_0) (z0 := z0) (z1 := ()) (z2 := z2) (z3 := z3) (z4 := z4) hI.st (hg.up hI.le) htd0 hcd0_1 hsd0_1 htd3 htd4 hcd4_1 hsd4_1 hcd4_2 hsd4_2 hcd4_3 hsd4_3 htd2 hcd2_1 hsd2_1 htd1 h).mono ?_
   rintro _ w25_ ⟨r25_0, r25_1, L25_, H25_, rfl, hI25_, h⟩
   refine Exists.elim (hI.call hI25_ (by simp)) fun L250_ h25_ => ?_
   have hz25_ := hI.size
   replace hI := h25_.1
   have u25_ := h25_.2.1
   have hl25_ := h25_.2.2
   clear h25_
   replace hs0 := hs0.up u25_.hh
   replace hsd0_1 := hsd0_1.up u25_.hh
   replace htd0 := htd0.up u25_ (by simp)
   replace hsd2_1 := hsd2_1.up u25_.hh
   replace htd3 := htd3.up u25_.hh u25_ (by simp)
   replace hsd4_1 := hsd4_1.up u25_.hh
   replace hsd4_2 := hsd4_2.up u25_.hh
   replace hsd4_3 := hsd4_3.up u25_.hh
   replace htd4 := htd4.up u25_ (by simp)
   replace htd2 := htd2.up u25_ (by simp)
   replace htd1 := htd1.up u25_ (by simp)
   replace hs4_ := hs4_.up u25_.ll
   clear hI25_ u25_ hl25_
   refine ⟨_, rfl, ?_⟩
   refine Ops_step (R_move rfl) rfl rfl ?_
   refine Ops_step (R_extract (v := vi r25_0) rfl rfl) rfl rfl ?_
   refine Ops_step (R_extract (v := .bool r25_1) rfl rfl) rfl rfl ?_
   refine Ops_step (R_assign rfl) rfl rfl (Ops_step (R_assign rfl) rfl rfl ?_)
   refine Ops_nil ?_
   refine then_n (k24 _ _ ?_)
   clear k24 K24
   refine W_keepB [0, 4, 5, 6, 8, 9, 10, 12] fun B_ b_ => ?_
   simp only [e_, Nat.reduceAdd, Nat.reduceBEq] at b_
   subst b_
   refine W_seq_k fun K27 k27 => ?_
   refine W_seq_k fun K28 k28 => ?_
   refine W_region [43, 44] rfl (Ops_step (R_move rfl) rfl rfl (Ops_step (R_not rfl) rfl rfl ?_))
   refine Ops_nil ?_
   refine then_n (k28 _ _ ?_)
   clear k28 K28
   refine W_cond rfl (fun hc29_ => ?_) (fun hc29_ => ?_)
   ·
    replace h := h.1 hc29_
    refine W_seq_k fun K30 k30 => ?_
    refine W_region [4, 5, 6, 7, 8] rfl (Ops_step (R_assign rfl) rfl rfl (Ops_step (R_assign rfl) rfl rfl (Ops_step (R_assign rfl) rfl rfl (Ops_step (R_assign rfl) rfl rfl ?_))))
    refine Ops_step (R_assign rfl) rfl rfl ?_
    refine Ops_nil ?_
    refine then_n (k30 _ _ ?_)
    clear k30 K30
    refine W_keepB [4, 5, 6, 7, 8] fun B_ b_ => ?_
    simp only [e_, Nat.reduceAdd, Nat.reduceBEq] at b_
    subst b_
    refine W_ret ?_
    refine then_ret ?_
    clear k27 K27
    refine ⟨_, ⟨_, _, rfl, rfl, ⟨_, _, rfl, rfl, ⟨_, _, rfl, rfl, ⟨_, _, rfl, rfl, ⟨_, _, rfl, rfl, rfl⟩⟩⟩⟩⟩, ?_⟩
    exact ⟨0, 0, none, 0, [], false, false, _, _, rfl, hI, OwnS.nil, h⟩
   ·
    replace h := h.2 hc29_
    refine W_skip ?_
    refine then_n (k27 _ _ ?_)
    clear k27 K27
    refine ex_ h fun J32_ hr32_ h => ?_
    refine W_seq_join [0, 10] [4, 5, 6] (fun vals_ w2 => ∃ (x4_32 : Int) (x5_32 : Int) (x6_32 : List journal_record) (A6_32 : Option Addr) (c6_32 : Nat) (L H : Gh), vals_ = [vi x4_32, vi x5_32, .slice A6_32 x6_32.length c6_32] ∧ J32_ x4_32 x5_32 x6_32 ∧ Inv [] G w L H w2 ∧ Le L250_ L ∧ Le H25_ H ∧ OwnS w.heap.size 85 L H w2 A6_32 c6_32 x6_32 ∧ Tok H w2 d0 41 ([.slice Ad0_1 z0.length cd0_1]) ∧ MTok H H w2 d3 z3 ∧ Tok H w2 d4 53 ([.slice Ad4_1 z4.files_.e0_.length cd4_1, .slice Ad4_2 z4.files_.e1_.length cd4_2, .slice Ad4_3 z4.files_.e2_.length cd4_3, vi z4.room_, .bool z4.off_, .bool z4.armed_, vi z4.left_]) ∧ Tok H w2 d2 46 ([.slice Ad2_1 z2.book_.l_.length cd2_1, .map (some d3), .pointer (some ⟨d4, 0, none⟩), vi z2.gen_, vi z2.place_]) ∧ Tok H w2 d1 26 ([.pointer (some ⟨d2, 0, none⟩)]) ∧ True) (fun B_ b_ => ?_) (fun B_ b_ => ?_)
    ·
     simp only [e_, Nat.reduceAdd, Nat.reduceBEq] at b_
     subst b_
     clear hr32_
     have hll32_ := Le.refl L250_
     have hhh32_ := Le.refl H25_
     refine W_seq_k fun K33 k33 => ?_
     refine W_region [45, 46, 47, 48] rfl (Ops_step (R_move rfl) rfl rfl ?_)
     have hk35_ := h.1
     replace h := h.2
     refine Exists.elim (cut_ex (n := 1) (l := 1) (h := (r3_0.length : Int)) (hs4_.up hI.sub) rfl (by decide) hc4_ (by decide) hk35_ (Int.le_refl _)) fun A34_ h34_ => Exists.elim h34_ fun c34_ h34_ => ?_
     have hr34_ := h34_.1
     have hc34_ := h34_.2.1
     have hs34_ := h34_.2.2
     clear h34_
     refine Ops_step (X_slice (xs := r3_0) Try.underlying67 sz29 rfl hr34_ hc4_ rfl rfl (by decide) hk35_ (Int.le_refl _)) rfl rfl ?_
     clear hr34_
     refine Ops_step (R_len Try.underlying67 rfl rfl) rfl rfl (Ops_step (R_move rfl) rfl rfl ?_)
     refine Ops_nil ?_
     refine then_n (k33 _ _ ?_)
     clear k33 K33
     refine W_block ?_
     refine Exists.elim h fun I36_ h => Exists.elim h fun n36_ h => ?_
     have h0_ := h.1
     have hs36_ := h.2
     clear h
     refine W_loopB [0, 10, 12, 46, 47] [4, 5, 6, 48] (fun m vals_ w2 => ∃ (x4_36 : Int) (x5_36 : Int) (x6_36 : List journal_record) (A6_36 : Option Addr) (c6_36 : Nat) (x48_36 : Int) (L H : Gh), vals_ = [vi x4_36, vi x5_36, .slice A6_36 x6_36.length c6_36, vi x48_36] ∧ I36_ m x4_36 x5_36 x6_36 x48_36 ∧ Inv [] G w L H w2 ∧ Le L250_ L ∧ Le H25_ H ∧ OwnS w.heap.size 85 L H w2 A6_36 c6_36 x6_36 ∧ Tok H w2 d0 41 ([.slice Ad0_1 z0.length cd0_1]) ∧ MTok H H w2 d3 z3 ∧ Tok H w2 d4 53 ([.slice Ad4_1 z4.files_.e0_.length cd4_1, .slice Ad4_2 z4.files_.e1_.length cd4_2, .slice Ad4_3 z4.files_.e2_.length cd4_3, vi z4.room_, .bool z4.off_, .bool z4.armed_, vi z4.left_]) ∧ Tok H w2 d2 46 ([.slice Ad2_1 z2.book_.l_.length cd2_1, .map (some d3), .pointer (some ⟨d4, 0, none⟩), vi z2.gen_, vi z2.place_]) ∧ Tok H w2 d1 26 ([.pointer (some ⟨d2, 0, none⟩)]) ∧ True) n36_ _ rfl ⟨r16_0, r17_0, [], none, 0, 0, _, _, rfl, h0_, hI, Le.refl _, Le.refl _, OwnS.nil, htd0, htd3, htd4, htd2, htd1, trivial⟩ fun B_ b_ => ?_
     clear h0_
     simp only [e_, Nat.reduceAdd, Nat.reduceBEq] at b_
     subst b_
     clear htd0
     clear htd1
     clear htd2
     clear htd3
     clear htd4
     rintro m36_ _ w36_ ⟨x4_36, x5_36, x6_36, A6_36, c6_36, x48_36, L36_, H36_, rfl, hJ36_, hI36_, hll36_, hhh36_, ho6_36, htd0, htd3, htd4, htd2, htd1, -⟩
     replace hI := hI36_
     clear hI36_
     have h := hs36_ m36_ x4_36 x5_36 x6_36 x48_36 hJ36_
     clear hs36_ hJ36_
     replace hs0 := hs0.up hhh36_
     replace hsd0_1 := hsd0_1.up hhh36_
     replace hsd2_1 := hsd2_1.up hhh36_
     replace hsd4_1 := hsd4_1.up hhh36_
     replace hsd4_2 := hsd4_2.up hhh36_
     replace hsd4_3 := hsd4_3.up hhh36_
     replace hll32_ := hll32_.trans hll36_
     replace hhh32_ := hhh32_.trans hhh36_
     replace hs34_ := hs34_.up hhh36_
     refine W_seq_k fun K37 k37 => ?_
     refine W_region [49] rfl (Ops_step (R_lss rfl rfl) rfl rfl ?_)
     refine Ops_nil ?_
     refine then_n (k37 _ _ ?_)
     clear k37 K37
     refine W_seq_k fun K38 k38 => ?_
     refine W_if rfl (fun hc39_ => ?_) (fun hc39_ => ?_)
     ·
      replace h := h.1 hc39_
      refine W_skip ?_
      refine then_n (k38 _ _ ?_)
      clear k38 K38
      refine W_seq_k fun K40 k40 => ?_
      refine W_block ?_
      refine W_seq_k fun K41 k41 => ?_
      refine W_region [50, 51, 14] rfl ?_
      refine ex_ h fun x42_ hx42_ h => ?_
      have ha42_ := (hs34_.atL hx42_).1
      refine Exists.elim (hs34_.atL hx42_).2 fun A42_ hA42_ => Exists.elim hA42_ fun c42_ hA42_ => ?_
      have hc42_ := hA42_.1
      have hs42_ := hA42_.2.1
      have hg42_ := hA42_.2.2
      clear hA42_
      refine Ops_step (R_indexSl Try.underlying67 sz29 rfl rfl hx42_.1 hx42_.lt ha42_) rfl rfl (Ops_step (R_load ag29 rfl (hI.st _ _ hg42_)) rfl rfl (Ops_step (R_assign rfl) rfl rfl ?_))
      refine Ops_nil ?_
      refine then_n (k41 _ _ ?_)
      clear k41 K41
      refine W_seq_k fun K43 k43 => ?_
      refine W_region [53, 54, 55, 56, 57, 58, 52, 59, 60, 15, none, 16] rfl (Ops_step (R_move rfl) rfl rfl (Ops_step (R_move rfl) rfl rfl (Ops_step (R_move rfl) rfl rfl (Ops_step (R_len Try.underlying41 rfl rfl) rfl rfl ?_))))
      have hk44_ := h.1
      replace h := h.2
      refine Ops_step (R_add rfl rfl (wI hk44_.1 hk44_.2)) rfl rfl ?_
      refine Ops_call (C_func bd70 rfl) rfl rfl ?_
      refine (journal_read_ok (x0 := x42_) (x1 := (r25_0 + (x6_36.length : Int))) hI.st (hg.up hI.le) hc42_ hs42_ h).mono ?_
      rintro _ w45_ ⟨l45_0, r45_0, r45_1, L45_, H45_, rfl, hI45_, hr45_0, h⟩
      refine Exists.elim (hI.call hI45_ (by simp)) fun L450_ h45_ => ?_
      have hz45_ := hI.size
      replace hI := h45_.1
      have u45_ := h45_.2.1
      have hl45_ := h45_.2.2
      clear h45_
      replace hs0 := hs0.up u45_.hh
      replace hsd0_1 := hsd0_1.up u45_.hh
      replace hsd2_1 := hsd2_1.up u45_.hh
      replace hsd4_1 := hsd4_1.up u45_.hh
      replace hsd4_2 := hsd4_2.up u45_.hh
      replace hsd4_3 := hsd4_3.up u45_.hh
      replace hll32_ := hll32_.trans u45_.ll
      replace hhh32_ := hhh32_.trans u45_.hh
      replace hs34_ := hs34_.up u45_.hh
      replace htd0 := htd0.up u45_ (by simp)
      replace htd3 := htd3.up u45_.hh u45_ (by simp)
      replace htd4 := htd4.up u45_ (by simp)
      replace htd2 := htd2.up u45_ (by simp)
      replace htd1 := htd1.up u45_ (by simp)
      replace ho6_36 := ho6_36.up u45_.ll u45_ (by simp)
      replace hll36_ := hll36_.trans u45_.ll
      replace hhh36_ := hhh36_.trans u45_.hh
      replace hr45_0 := Rp.mono hl45_ hr45_0
      obtain ⟨A45_0_1, c45_0_1, rfl, ⟨hc45_0_1, hs45_0_1⟩⟩ := hr45_0
      clear hI45_ u45_ hl45_
      refine ⟨_, rfl, ?_⟩
      refine Ops_step (R_move rfl) rfl rfl ?_
      refine Ops_step (R_extract (v := .agg #[vi r45_0.label_, .slice A45_0_1 r45_0.data_.length c45_0_1]) rfl rfl) rfl rfl ?_
      refine Ops_step (R_extract (v := .bool r45_1) rfl rfl) rfl rfl ?_
      have hlp46_ho6_36 := ho6_36.lt
      have hI0_ := hI
      refine Ops_to (R_alloc zr85) rfl rfl ?_
      rintro _ w46_ ⟨b46_, rfl, hb46_, hB46_, hF46_⟩
      replace hI := hI.fr0 hF46_
      replace htd0 := htd0.fr0 hF46_
      replace htd3 := htd3.fr0 hF46_
      replace htd4 := htd4.fr0 hF46_
      replace htd2 := htd2.fr0 hF46_
      replace htd1 := htd1.fr0 hF46_
      replace ho6_36 := ho6_36.fr0 hF46_
      have ht46_ : Tok H45_ _ b46_ 85 ([vi 0, .slice none 0 0]) := ⟨hB46_.to rfl, Out.ge hI0_.st (Nat.le_of_eq hb46_.symm)⟩
      have hge_b46_ : w.heap.size ≤ b46_ := hb46_ ▸ hI0_.size
      have hsq46_ho6_36 : ∀ i_ ∈ bk A6_36 c6_36, i_ ∉ [b46_] := fun i_ hi_ hm_ => by have h_ := hlp46_ho6_36 i_ hi_; rw [List.mem_singleton] at hm_; omega
      clear hB46_ hb46_ hI0_ hF46_
      refine Ops_to0 (R_storeN sz85 rfl rfl rfl ht46_.blk (Nat.le_of_ble_eq_true rfl) rfl) rfl ?_
      rintro _ w47_ ⟨hB47_, hF47_⟩
      replace hI := hI.tok hF47_ (out1 ht46_.out) (new1 hge_b46_)
      replace htd0 := htd0.fr hF47_ (htd0.apart ht46_ (by decide))
      replace htd3 := htd3.fr hF47_ (htd3.neT ht46_)
      replace htd4 := htd4.fr hF47_ (htd4.apart ht46_ (by decide))
      replace htd2 := htd2.fr hF47_ (htd2.apart ht46_ (by decide))
      replace htd1 := htd1.fr hF47_ (htd1.apart ht46_ (by decide))
      replace ho6_36 := ho6_36.fr hF47_ hsq46_ho6_36
      replace ht46_ : Tok H45_ _ b46_ 85 ([vi r45_0.label_, .slice A45_0_1 r45_0.data_.length c45_0_1]) := ⟨hB47_, ht46_.out⟩
      clear hF47_ hB47_
      refine Ops_step (R_assign rfl) rfl rfl ?_
      refine Ops_nil ?_
      refine then_n (k43 _ _ ?_)
      clear k43 K43
      refine W_keepB [0, 4, 5, 6, 10, 12, 15, 16, 46, 47, 48] fun B_ b_ => ?_
      simp only [e_, Nat.reduceAdd, Nat.reduceBEq] at b_
      subst b_
      refine W_seq_k fun K49 k49 => ?_
      refine W_seq_k fun K50 k50 => ?_
      refine W_region [61, 62] rfl (Ops_step (R_move rfl) rfl rfl (Ops_step (R_not rfl) rfl rfl ?_))
      refine Ops_nil ?_
      refine then_n (k50 _ _ ?_)
      clear k50 K50
      refine W_cond rfl (fun hc51_ => ?_) (fun hc51_ => ?_)
      ·
       replace h := h.1 hc51_
       refine W_seq_k fun K52 k52 => ?_
       refine W_region [63, 64, 65, 4, 5, 6, 7, 8] rfl (Ops_step (R_move rfl) rfl rfl (Ops_step (R_move rfl) rfl rfl (Ops_step (R_move rfl) rfl rfl (Ops_step (R_assign rfl) rfl rfl ?_))))
       refine Ops_step (R_assign rfl) rfl rfl (Ops_step (R_assign rfl) rfl rfl (Ops_step (R_assign rfl) rfl rfl (Ops_step (R_assign rfl) rfl rfl ?_)))
       refine Ops_nil ?_
       refine then_n (k52 _ _ ?_)
       clear k52 K52
       refine W_keepB [4, 5, 6, 7, 8] fun B_ b_ => ?_
       simp only [e_, Nat.reduceAdd, Nat.reduceBEq] at b_
       subst b_
       refine W_ret ?_
       refine then_ret ?_
       clear k49 K49
       refine block_ret ?_
       refine then_ret ?_
       clear k40 K40
       refine then_ret ?_
       refine block_ret ?_
       refine then_ret ?_
       refine ⟨_, ⟨_, _, rfl, rfl, ⟨_, _, rfl, rfl, ⟨_, _, rfl, rfl, ⟨_, _, rfl, rfl, ⟨_, _, rfl, rfl, rfl⟩⟩⟩⟩⟩, ?_⟩
       exact ⟨x4_36, x5_36, A6_36, c6_36, x6_36, false, true, _, _, rfl, hI, ho6_36, h⟩
      ·
       replace h := h.2 hc51_
       refine W_skip ?_
       refine then_n (k49 _ _ ?_)
       clear k49 K49
       refine W_region [66, 67, 68, 69, 6] rfl (Ops_step (R_move rfl) rfl rfl (Ops_step (R_loadN ag85 sz85 rfl ht46_.blk (Nat.le_of_ble_eq_true rfl)) rfl rfl ?_))
       have hlo54_ho6_36 := ho6_36.lt
       refine Ops_to (R_buildSlice el41 zr85 (by decide) (by decide) rfl rfl) rfl rfl ?_
       rintro _ w54_ ⟨b54_, rfl, hb54_, hB54_, hF54_⟩
       have ho54_ : OwnS w.heap.size 85 L450_ H45_ _ (some ⟨b54_, 0, none⟩) 1 ([r45_0] : List journal_record) := OwnS.ofBlk (css := [[vi r45_0.label_, .slice A45_0_1 r45_0.data_.length c45_0_1]]) hI.st hb54_ hB54_ (.cons ⟨A45_0_1, c45_0_1, rfl, ⟨hc45_0_1, hs45_0_1⟩⟩ .nil) rfl (by have := hI.size; omega) (by show 1 ≤ maxLen; decide)
       replace hI := hI.fr0 hF54_
       replace htd0 := htd0.fr0 hF54_
       replace htd3 := htd3.fr0 hF54_
       replace htd4 := htd4.fr0 hF54_
       replace htd2 := htd2.fr0 hF54_
       replace htd1 := htd1.fr0 hF54_
       replace ho6_36 := ho6_36.fr0 hF54_
       clear hF54_ hB54_
       have hsp54_ho6_36 : ∀ i ∈ bk (some ⟨b54_, 0, none⟩) 1, i ∉ bk A6_36 c6_36 := sep_new (fun i_ hi_ => by have := (bk_of hi_).1; simp only [blkOf, List.mem_singleton] at this; omega) hlo54_ho6_36
       have hk56_ := h.1
       replace h := h.2
       refine Ops_to (X_append (α := journal_record) (xs := x6_36) (ys := ([r45_0] : List journal_record)) el41 rfl rfl ho6_36 (Srcs.ofOwn Try.underlying41 ho54_ (by decide)) hI.st hk56_ (by decide) hI.size) rfl rfl ?_
       rintro _ w55_ ⟨A55_, c55_, rfl, ho55_, hF55_, hbk55_⟩
       clear hbk55_
       replace hI := hI.tok hF55_ ho6_36.out (ho6_36.new (Nat.le_refl _))
       replace htd0 := htd0.fr hF55_ (ho6_36.old hlt_d0)
       replace htd3 := htd3.fr hF55_ (ho6_36.old hlt_d3)
       replace htd4 := htd4.fr hF55_ (ho6_36.old hlt_d4)
       replace htd2 := htd2.fr hF55_ (ho6_36.old hlt_d2)
       replace htd1 := htd1.fr hF55_ (ho6_36.old hlt_d1)
       clear hF55_ ho6_36
       refine Ops_step (R_assign rfl) rfl rfl ?_
       refine Ops_nil ?_
       refine block_n ?_
       refine then_n (k40 _ _ ?_)
       clear k40 K40
       refine W_keepB [0, 4, 5, 6, 10, 12, 46, 47, 48] fun B_ b_ => ?_
       simp only [e_, Nat.reduceAdd, Nat.reduceBEq] at b_
       subst b_
       refine W_region [70, 48] rfl ?_
       have hk58_ := h.1
       replace h := h.2
       refine Ops_step (R_add rfl rfl (wI hk58_.1 hk58_.2)) rfl rfl (Ops_step (R_move rfl) rfl rfl ?_)
       refine Ops_nil ?_
       refine then_n ?_
       exact h.elim fun m_ h => ⟨m_, _, h.1, rfl, ⟨x4_36, x5_36, (x6_36 ++ ([r45_0] : List journal_record)), A55_, c55_, (x48_36 + 1), _, _, rfl, h.2, hI, hll36_, hhh36_, ho55_, htd0, htd3, htd4, htd2, htd1, trivial⟩, ⟨rfl, rfl, rfl, rfl, rfl, trivial⟩⟩
     ·
      replace h := h.2 hc39_
      refine W_exit ?_
      refine then_exit ?_
      clear k38 K38
      refine then_exit ?_
      refine block_exit ?_
      refine then_n ?_
      exact ⟨_, rfl, ⟨x4_36, x5_36, x6_36, A6_36, c6_36, _, _, rfl, h, hI, hll32_, hhh32_, ho6_36, htd0, htd3, htd4, htd2, htd1, trivial⟩, ⟨rfl, rfl, trivial⟩⟩
    ·
     simp only [e_, Nat.reduceAdd, Nat.reduceBEq] at b_
     subst b_
     clear h
     clear htd0
     clear htd1
     clear htd2
     clear htd3
     clear htd4
     rintro _ w32_ ⟨x4_32, x5_32, x6_32, A6_32, c6_32, L32_, H32_, rfl, hJ32_, hI32_, hll32_, hhh32_, ho6_32, htd0, htd3, htd4, htd2, htd1, -⟩
     replace hI := hI32_
     clear hI32_
     have h := hr32_ x4_32 x5_32 x6_32 hJ32_
     clear hr32_ hJ32_
     replace hs0 := hs0.up hhh32_
     replace hsd0_1 := hsd0_1.up hhh32_
     replace hsd2_1 := hsd2_1.up hhh32_
     replace hsd4_1 := hsd4_1.up hhh32_
     replace hsd4_2 := hsd4_2.up hhh32_
     replace hsd4_3 := hsd4_3.up hhh32_
     refine W_seq_k fun K59 k59 => ?_
     refine W_region [71, 72, 73, 74, 75, 76, 77, 4, 5, 6, 7, 8] rfl (Ops_step (R_move rfl) rfl rfl (Ops_step (R_move rfl) rfl rfl (Ops_step (R_move rfl) rfl rfl (Ops_step (R_move rfl) rfl rfl ?_))))
     refine Ops_step (R_move rfl) rfl rfl (Ops_step (R_len Try.underlying29 rfl rfl) rfl rfl (Ops_step (R_eql rfl rfl) rfl rfl (Ops_step (R_assign rfl) rfl rfl (Ops_step (R_assign rfl) rfl rfl ?_))))
     refine Ops_step (R_assign rfl) rfl rfl (Ops_step (R_assign rfl) rfl rfl (Ops_step (R_assign rfl) rfl rfl ?_))
     refine Ops_nil ?_
     refine then_n (k59 _ _ ?_)
     clear k59 K59
     refine W_keepB [4, 5, 6, 7, 8] fun B_ b_ => ?_
     simp only [e_, Nat.reduceAdd, Nat.reduceBEq] at b_
     subst b_
     refine W_ret ?_
     refine ⟨_, ⟨_, _, rfl, rfl, ⟨_, _, rfl, rfl, ⟨_, _, rfl, rfl, ⟨_, _, rfl, rfl, ⟨_, _, rfl, rfl, rfl⟩⟩⟩⟩⟩, ?_⟩
     exact ⟨x4_32, x5_32, A6_32, c6_32, x6_32, (decide (r3_1 = (x0.length : Int))), true, _, _, rfl, hI, ho6_32, h⟩

end Go.Proofs.Ytkmljjhjojolcaa

