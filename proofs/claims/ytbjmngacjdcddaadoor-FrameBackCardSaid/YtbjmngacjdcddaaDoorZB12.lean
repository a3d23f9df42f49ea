/- What is shown of the program on the way to the law. -/
import Derived.Test.YtbjmngacjdcddaaDoorZB2
import Derived.Test.YtbjmngacjdcddaaDoorZB7
import Derived.Test.YtbjmngacjdcddaaDoorProg
set_option linter.unusedVariables false
set_option linter.unusedSimpArgs false
set_option maxHeartbeats 4000000
namespace Go.Lx
open Go Go.Sx
instance : Rp octet_source where
 n := 4
 cs := fun G x l => ∃ A1 c1, l = [.slice A1 x.b_.length c1, vi x.at_, vi x.err_, .bool x.made_] ∧ (x.b_.length ≤ c1 ∧ Sl G A1 x.b_)
 mono := fun hl ⟨A1, c1, e, ⟨a0, b0⟩⟩ => ⟨A1, c1, e, ⟨a0, b0.up hl⟩⟩
 len := fun ⟨A1, c1, e, _⟩ => by rw [e]; rfl
 one := fun ⟨A1, c1, e, _⟩ => by rw [e]; rfl
instance : Rp octet_Reader where
 n := 4
 cs := fun G x l => ∃ A1 c1, l = [.slice A1 x.source_.b_.length c1, vi x.source_.at_, vi x.source_.err_, .bool x.source_.made_] ∧ (x.source_.b_.length ≤ c1 ∧ Sl G A1 x.source_.b_)
 mono := fun hl ⟨A1, c1, e, ⟨a0, b0⟩⟩ => ⟨A1, c1, e, ⟨a0, b0.up hl⟩⟩
 len := fun ⟨A1, c1, e, _⟩ => by rw [e]; rfl
 one := fun ⟨A1, c1, e, _⟩ => by rw [e]; rfl
end Go.Lx
namespace Go.Proofs.YtbjmngacjdcddaaDoor
open Go Go.Sx Go.Lx
namespace TFtB
theorem hm : Tryd.prog.follows .mixedOrders = true := by kernel_rfl
theorem ag22 : aggB Tryd.prog 22 = some false := by kernel_rfl
theorem ag3 : aggB Tryd.prog 3 = some false := by kernel_rfl
theorem ag30 : aggB Tryd.prog 30 = some false := by kernel_rfl
theorem ag4 : aggB Tryd.prog 4 = some false := by kernel_rfl
theorem ag5 : aggB Tryd.prog 5 = some false := by kernel_rfl
theorem bd46 : bodied Tryd.prog 46 = true := by kernel_rfl
theorem bd62 : bodied Tryd.prog 62 = true := by kernel_rfl
theorem bd70 : bodied Tryd.prog 70 = true := by kernel_rfl
theorem bd81 : bodied Tryd.prog 81 = true := by kernel_rfl
theorem bd82 : bodied Tryd.prog 82 = true := by kernel_rfl
theorem bd83 : bodied Tryd.prog 83 = true := by kernel_rfl
theorem bd84 : bodied Tryd.prog 84 = true := by kernel_rfl
theorem bd85 : bodied Tryd.prog 85 = true := by kernel_rfl
theorem el30 : Elem Tryd.prog 30 5 1 1 := Elem.of (by kernel_rfl)
theorem fo86_0 : offB Tryd.prog 86 0 = some 0 := by kernel_rfl
theorem fo86_1 : offB Tryd.prog 86 1 = some 1 := by kernel_rfl
theorem fo86_2 : offB Tryd.prog 86 2 = some 2 := by kernel_rfl
theorem fo86_3 : offB Tryd.prog 86 3 = some 3 := by kernel_rfl
theorem fo88_0 : offB Tryd.prog 88 0 = some 0 := by kernel_rfl
theorem pl86 : partPl Tryd.prog 86 = some [(0, 1), (1, 1), (2, 1), (3, 1)] := by kernel_rfl
theorem pl88 : partPl Tryd.prog 88 = some [(0, 4)] := by kernel_rfl
theorem sz22 : sz Tryd.prog 22 = some 1 := by kernel_rfl
theorem sz3 : sz Tryd.prog 3 = some 1 := by kernel_rfl
theorem sz5 : sz Tryd.prog 5 = some 1 := by kernel_rfl
theorem zr86 : zr Tryd.prog 86 = some ([.slice none 0 0] ++ [.int .i64 0] ++ [.int .i64 0] ++ [.bool false]) := by kernel_rfl
theorem zr88 : zr Tryd.prog 88 = some ([.slice none 0 0] ++ [.int .i64 0] ++ [.int .i64 0] ++ [.bool false]) := by kernel_rfl
end TFtB
open TFtB
theorem octet_Read_ok {G : Gh} {w : World} (hS : St G w) (hg : GL G) {A0 : Option Addr} {c0 : Nat} {x0 : List UInt8} (hc0 : x0.length ≤ c0) (hs0 : Sl G A0 x0) {Q : octet_Reader → Prop} (h : octet_Read x0 Q) : Calls Tryd.prog 44 #[.slice A0 x0.length c0] w fun e w2 => ∃ (d0 : Nat) (r0 : octet_Reader) (L H : Gh), e = .returned (.pointer (some ⟨d0, 0, none⟩)) ∧ Inv [] G w L H w2 ∧ w.heap.size ≤ d0 ∧ Ob 88 L H w2 d0 r0 ∧ Q r0 := by
 unfold octet_Read at h
 have hI := Inv.start (M := []) hS
 refine calls_W 9 Tryd.func44 rfl Tryd.ntmps44 rfl [.tmp 2] rfl ?_
 refine W_seq_k fun K1 k1 => ?_
 refine W_region [2] rfl (Ops_step (R_assign rfl) rfl rfl ?_)
 refine Ops_nil ?_
 refine then_n (k1 _ _ ?_)
 clear k1 K1
 refine W_seq_k fun K2 k2 => ?_
 refine W_region [3, 4, 5, 6, 7, 8, 2] rfl ?_
 refine Ops_to (R_buildSlice0 el30) rfl rfl ?_
 rintro _ w3_ ⟨b3_, rfl, hb3_, hB3_, hF3_⟩
 have ho3_ : OwnS w.heap.size 5 Gh.no G _ (some ⟨b3_, 0, none⟩) 0 ([] : List UInt8) := OwnS.ofBlk hI.st hb3_ hB3_ (all2_sc' _) rfl (by have := hI.size; omega) (by show 0 ≤ maxLen; decide)
 replace hI := hI.fr0 hF3_
 clear hF3_ hB3_
 refine Ops_step (R_move rfl) rfl rfl ?_
 have hk5_ := h.1
 replace h := h.2
 refine Ops_to (X_append (α := UInt8) (xs := ([] : List UInt8)) (ys := x0) el30 rfl rfl ho3_ (Srcs.sc (Srcs.ofSl Tryd.underlying30 hs0 hI.st (by decide))) hI.st hk5_ (by decide) hI.size) rfl rfl ?_
 rintro _ w4_ ⟨A4_, c4_, rfl, ho4_, hF4_, hbk4_⟩
 clear hbk4_
 replace hI := hI.tok hF4_ ho3_.out (ho3_.new (Nat.le_refl _))
 clear hF4_ ho3_
 refine Exists.elim (ho4_.freeze hI) fun L6_ h6_ => Exists.elim h6_ fun H6_ h6_ => ?_
 replace hI := h6_.1
 have u6_ := h6_.2.1
 have hs6_ := h6_.2.2.1 (Le.no _)
 have hc6_ := ho4_.cap
 clear h6_ u6_ ho4_
 refine Ops_step (R_build (pl := [(0, 1), (3, 1)]) (cs := [.slice A4_ ((([] : List UInt8) ++ x0).length) c4_, vi 0, vi 0, .bool true]) zr86 pl86 rfl rfl rfl) rfl rfl ?_
 refine Ops_step (R_build (pl := [(0, 4)]) (cs := [.slice A4_ ((([] : List UInt8) ++ x0).length) c4_, vi 0, vi 0, .bool true]) zr88 pl88 rfl rfl rfl) rfl rfl ?_
 have hI0_ := hI
 refine Ops_to (R_box rfl) rfl rfl ?_
 rintro _ w7_ ⟨b7_, rfl, hb7_, hB7_, hF7_⟩
 replace hI := hI.fr0 hF7_
 have ht7_ : Tok H6_ _ b7_ 88 ([.slice A4_ ((([] : List UInt8) ++ x0).length) c4_, vi 0, vi 0, .bool true]) := ⟨hB7_.to rfl, Out.ge hI0_.st (Nat.le_of_eq hb7_.symm)⟩
 have hge_b7_ : w.heap.size ≤ b7_ := hb7_ ▸ hI0_.size
 clear hB7_ hb7_ hI0_ hF7_
 refine Ops_step (R_assign rfl) rfl rfl ?_
 refine Ops_nil ?_
 refine then_n (k2 _ _ ?_)
 clear k2 K2
 refine W_keepB [2] fun B_ b_ => ?_
 simp only [e_, Nat.reduceAdd, Nat.reduceBEq] at b_
 subst b_
 refine W_ret ?_
 refine ⟨_, ⟨_, _, rfl, rfl, rfl⟩, ?_⟩
 exact ⟨b7_, (octet_Reader.mk (octet_source.mk (([] : List UInt8) ++ x0) 0 0 true)), _, _, rfl, hI, hge_b7_, ⟨_, ⟨A4_, c4_, rfl, ⟨hc6_, hs6_⟩⟩, ht7_⟩, h⟩

theorem octet_Reader_dead_ok {G : Gh} {w : World} (hS : St G w) (hg : GL G) {d0 tb0 : Nat} {x0 : octet_Reader} (hr0 : Ob tb0 G G w d0 x0) {Q : Bool → Prop} (h : octet_Reader_dead x0 Q) : Calls Tryd.prog 70 #[.pointer (some ⟨d0, 0, none⟩)] w fun e w2 => ∃ (r0 : Bool) (L H : Gh), e = .returned (.bool r0) ∧ Inv [] G w L H w2 ∧ Q r0 := by
 unfold octet_Reader_dead at h
 have hI := Inv.start (M := []) hS
 refine calls_W 13 Tryd.func70 rfl Tryd.ntmps70 rfl [.tmp 2] rfl ?_
 obtain ⟨l0_, hl0_, ht0⟩ := hr0
 obtain ⟨A0_1, c0_1, rfl, ⟨hc0_1, hs0_1⟩⟩ := hl0_
 have hlt_d0 := ht0.blk.lt
 refine W_seq_k fun K1 k1 => ?_
 refine W_region [2] rfl (Ops_step (R_assign rfl) rfl rfl ?_)
 refine Ops_nil ?_
 refine then_n (k1 _ _ ?_)
 clear k1 K1
 refine W_seq_k fun K2 k2 => ?_
 refine W_region [3, 4, 5, 6, 7, 8, 9, 10, 11, 12, 2] rfl (Ops_step (R_move rfl) rfl rfl (Ops_step (R_ptrNil Tryd.underlying63 rfl rfl) rfl rfl (Ops_step (R_move rfl) rfl rfl (Ops_step (R_move rfl) rfl rfl ?_))))
 refine Ops_step (R_nilCheck rfl) rfl rfl (Ops_step (R_fieldAddr fo88_0 rfl) rfl rfl (Ops_step (R_fieldAddr fo86_3 rfl) rfl rfl ?_))
 refine Ops_step (R_loadB (v := .bool x0.source_.made_) ag4 rfl ht0.blk rfl) rfl rfl ?_
 refine Ops_step (R_not rfl) rfl rfl (Ops_step (R_pick_false rfl rfl) rfl rfl (Ops_step (R_assign rfl) rfl rfl ?_))
 refine Ops_nil ?_
 refine then_n (k2 _ _ ?_)
 clear k2 K2
 refine W_keepB [2] fun B_ b_ => ?_
 simp only [e_, Nat.reduceAdd, Nat.reduceBEq] at b_
 subst b_
 refine W_ret ?_
 refine ⟨_, ⟨_, _, rfl, rfl, rfl⟩, ?_⟩
 exact ⟨(!x0.source_.made_), _, _, rfl, hI, h⟩

theorem octet_source_left_ok {G : Gh} {w : World} (hS : St G w) (hg : GL G) {d0 tb0 : Nat} {x0 : octet_source} (hr0 : Ob tb0 G G w d0 x0) {Q : Int → Prop} (h : octet_source_left x0 Q) : Calls Tryd.prog 85 #[.pointer (some ⟨d0, 0, none⟩)] w fun e w2 => ∃ (r0 : Int) (L H : Gh), e = .returned (vi r0) ∧ Inv [] G w L H w2 ∧ Q r0 := by
 unfold octet_source_left at h
 have hI := Inv.start (M := []) hS
 refine calls_W 13 Tryd.func85 rfl Tryd.ntmps85 rfl [.tmp 2] rfl ?_
 obtain ⟨l0_, hl0_, ht0⟩ := hr0
 obtain ⟨A0_1, c0_1, rfl, ⟨hc0_1, hs0_1⟩⟩ := hl0_
 have hlt_d0 := ht0.blk.lt
 refine W_seq_k fun K1 k1 => ?_
 refine W_region [2] rfl (Ops_step (R_assign rfl) rfl rfl ?_)
 refine Ops_nil ?_
 refine then_n (k1 _ _ ?_)
 clear k1 K1
 refine W_seq_k fun K2 k2 => ?_
 refine W_drawF [3, 4, 5, 6, 7, 8, 9, 10, 11, 12, 2] [(0, true), (1, true), (2, true), (3, true), (4, true), (5, true), (6, true), (7, true), (8, true), (9, true), (10, true)] TFtB.hm rfl (by kernel_rfl) fun ops3_ w3_ hops3_ hF3_ => ?_
 replace hI := hI.fr0 hF3_
 replace ht0 := ht0.fr0 hF3_
 clear hF3_
 refine HSp (R_move rfl) rfl rfl (HSp (R_nilCheck rfl) rfl rfl (HSp (R_fieldAddr fo86_0 rfl) rfl rfl ?_))
 refine HS_loadB (v := .slice A0_1 x0.b_.length c0_1) ag30 rfl ht0.blk rfl rfl rfl ?_
 refine HSp (R_len Tryd.underlying30 rfl rfl) rfl rfl (HSp (R_move rfl) rfl rfl (HSp (R_nilCheck rfl) rfl rfl (HSp (R_fieldAddr fo86_1 rfl) rfl rfl ?_)))
 refine HS_loadB (v := vi x0.at_) ag3 rfl ht0.blk rfl rfl rfl ?_
 have hk4_ := h.1
 replace h := h.2
 refine HSp (R_sub rfl rfl (wI hk4_.1 hk4_.2)) rfl rfl (HSp (R_assign rfl) rfl rfl ?_)
 refine HS_nil ?_
 clear hops3_
 refine then_n (k2 _ _ ?_)
 clear k2 K2
 refine W_keepB [2] fun B_ b_ => ?_
 simp only [e_, Nat.reduceAdd, Nat.reduceBEq] at b_
 subst b_
 refine W_ret ?_
 refine ⟨_, ⟨_, _, rfl, rfl, rfl⟩, ?_⟩
 exact ⟨((x0.b_.length : Int) - x0.at_), _, _, rfl, hI, h⟩

theorem octet_source_take_ok {G : Gh} {w : World} (hS : St G w) (hg : GL G) {d0 tb0 : Nat} {x0 : octet_source} (hr0 : Ob tb0 G G w d0 x0) {x1 : Int} {Q : (List UInt8) → octet_source → Prop} (h : octet_source_take x0 x1 Q) : Calls Tryd.prog 81 #[.pointer (some ⟨d0, 0, none⟩), vi x1] w fun e w2 => ∃ (A0 : Option Addr) (c0 : Nat) (r0 : List UInt8) (y0 : octet_source) (L H : Gh), e = .returned (.slice A0 r0.length c0) ∧ Inv [d0] G w L H w2 ∧ r0.length ≤ c0 ∧ Sl H A0 r0 ∧ Ob tb0 H H w2 d0 y0 ∧ Q r0 y0 := by
 unfold octet_source_take at h
 have hI := Inv.start (M := [d0]) hS
 refine calls_W 48 Tryd.func81 rfl Tryd.ntmps81 rfl [.tmp 4] rfl ?_
 obtain ⟨l0_, hl0_, ht0⟩ := hr0
 obtain ⟨A0_1, c0_1, rfl, ⟨hc0_1, hs0_1⟩⟩ := hl0_
 have hlt_d0 := ht0.blk.lt
 refine W_seq_k fun K1 k1 => ?_
 refine W_region [4] rfl (Ops_step (R_assign rfl) rfl rfl ?_)
 refine Ops_nil ?_
 refine then_n (k1 _ _ ?_)
 clear k1 K1
 refine W_seq_k fun K2 k2 => ?_
 refine W_seq_k fun K3 k3 => ?_
 refine W_region [5, 6, 7, 8, 9] rfl (Ops_step (R_move rfl) rfl rfl (Ops_step (R_nilCheck rfl) rfl rfl (Ops_step (R_fieldAddr fo86_2 rfl) rfl rfl ?_)))
 refine Ops_step (R_loadB (v := vi x0.err_) ag22 rfl ht0.blk rfl) rfl rfl ?_
 refine Ops_step (R_neq rfl rfl) rfl rfl ?_
 refine Ops_nil ?_
 refine then_n (k3 _ _ ?_)
 clear k3 K3
 refine W_if rfl (fun hc4_ => ?_) (fun hc4_ => ?_)
 ·
  replace h := h.1 hc4_
  refine W_seq_k fun K5 k5 => ?_
  refine W_region [4] rfl (Ops_step (R_assign rfl) rfl rfl ?_)
  refine Ops_nil ?_
  refine then_n (k5 _ _ ?_)
  clear k5 K5
  refine W_keepB [4] fun B_ b_ => ?_
  simp only [e_, Nat.reduceAdd, Nat.reduceBEq] at b_
  subst b_
  refine W_ret ?_
  refine then_ret ?_
  clear k2 K2
  refine ⟨_, ⟨_, _, rfl, rfl, rfl⟩, ?_⟩
  exact ⟨none, 0, [], x0, _, _, rfl, hI, (Nat.le_refl 0), Sl.nil, ⟨_, ⟨A0_1, c0_1, rfl, ⟨hc0_1, hs0_1⟩⟩, ht0⟩, h⟩
 ·
  replace h := h.2 hc4_
  refine W_skip ?_
  refine then_n (k2 _ _ ?_)
  clear k2 K2
  refine W_keepB [0, 1] fun B_ b_ => ?_
  simp only [e_, Nat.reduceAdd, Nat.reduceBEq] at b_
  subst b_
  refine W_seq_k fun K8 k8 => ?_
  refine W_seq_k fun K9 k9 => ?_
  refine W_drawF [10, 11, 12, 13, 14, 15, 16, 17, 18, 19, 20, 21] [(0, true), (1, true), (2, true), (3, true), (4, true), (5, true), (6, true), (7, true), (8, true), (9, true), (10, true), (11, true)] TFtB.hm rfl (by kernel_rfl) fun ops10_ w10_ hops10_ hF10_ => ?_
  replace hI := hI.fr0 hF10_
  replace ht0 := ht0.fr0 hF10_
  clear hF10_
  refine HSp (R_move rfl) rfl rfl (HSp (R_move rfl) rfl rfl (HSp (R_nilCheck rfl) rfl rfl (HSp (R_fieldAddr fo86_0 rfl) rfl rfl ?_)))
  refine HS_loadB (v := .slice A0_1 x0.b_.length c0_1) ag30 rfl ht0.blk rfl rfl rfl ?_
  refine HSp (R_len Tryd.underlying30 rfl rfl) rfl rfl (HSp (R_move rfl) rfl rfl (HSp (R_nilCheck rfl) rfl rfl (HSp (R_fieldAddr fo86_1 rfl) rfl rfl ?_)))
  refine HS_loadB (v := vi x0.at_) ag3 rfl ht0.blk rfl rfl rfl ?_
  have hk11_ := h.1
  replace h := h.2
  refine HSp (R_sub rfl rfl (wI hk11_.1 hk11_.2)) rfl rfl (HSp (R_gtr rfl rfl) rfl rfl ?_)
  refine HS_nil ?_
  clear hops10_
  refine then_n (k9 _ _ ?_)
  clear k9 K9
  refine W_keepB [0, 1, 21] fun B_ b_ => ?_
  simp only [e_, Nat.reduceAdd, Nat.reduceBEq] at b_
  subst b_
  refine W_if rfl (fun hc13_ => ?_) (fun hc13_ => ?_)
  ·
   replace h := h.1 hc13_
   refine W_seq_k fun K14 k14 => ?_
   refine W_region [22, 23, 24, none] rfl (Ops_step (R_move rfl) rfl rfl (Ops_step (R_nilCheck rfl) rfl rfl (Ops_step (R_fieldAddr fo86_2 rfl) rfl rfl ?_)))
   refine Ops_to0 (R_store sz22 rfl rfl ht0.blk (by show 2 < 4; decide) rfl) rfl ?_
   rintro _ w15_ ⟨hB15_, hF15_⟩
   replace hI := hI.tok hF15_ (out1 ht0.out) (mem1 (by simp))
   replace ht0 : Tok G _ d0 tb0 ([.slice A0_1 x0.b_.length c0_1, vi x0.at_, vi 2, .bool x0.made_]) := ⟨hB15_, ht0.out⟩
   clear hF15_ hB15_
   refine Ops_nil ?_
   refine then_n (k14 _ _ ?_)
   clear k14 K14
   refine W_keepB [] fun B_ b_ => ?_
   simp only [e_, Nat.reduceAdd, Nat.reduceBEq] at b_
   subst b_
   refine W_seq_k fun K17 k17 => ?_
   refine W_region [4] rfl (Ops_step (R_assign rfl) rfl rfl ?_)
   refine Ops_nil ?_
   refine then_n (k17 _ _ ?_)
   clear k17 K17
   refine W_ret ?_
   refine then_ret ?_
   clear k8 K8
   refine ⟨_, ⟨_, _, rfl, rfl, rfl⟩, ?_⟩
   exact ⟨none, 0, [], (octet_source.mk x0.b_ x0.at_ 2 x0.made_), _, _, rfl, hI, (Nat.le_refl 0), Sl.nil, ⟨_, ⟨A0_1, c0_1, rfl, ⟨hc0_1, hs0_1⟩⟩, ht0⟩, h⟩
  ·
   replace h := h.2 hc13_
   refine W_skip ?_
   refine then_n (k8 _ _ ?_)
   clear k8 K8
   refine W_seq_k fun K18 k18 => ?_
   refine W_region [25, 26, 27, 28, 29, 30, 31, 32, none] rfl (Ops_step (R_move rfl) rfl rfl (Ops_step (R_nilCheck rfl) rfl rfl (Ops_step (R_fieldAddr fo86_1 rfl) rfl rfl ?_)))
   refine Ops_step (R_loadB (v := vi x0.at_) ag3 rfl ht0.blk rfl) rfl rfl ?_
   refine Ops_step (R_move rfl) rfl rfl ?_
   have hk19_ := h.1
   replace h := h.2
   refine Ops_step (R_add rfl rfl (wI hk19_.1 hk19_.2)) rfl rfl (Ops_step (R_nilCheck rfl) rfl rfl (Ops_step (R_fieldAddr fo86_1 rfl) rfl rfl ?_))
   refine Ops_to0 (R_store sz3 rfl rfl ht0.blk (by show 1 < 4; decide) rfl) rfl ?_
   rintro _ w20_ ⟨hB20_, hF20_⟩
   replace hI := hI.tok hF20_ (out1 ht0.out) (mem1 (by simp))
   replace ht0 : Tok G _ d0 tb0 ([.slice A0_1 x0.b_.length c0_1, vi (x0.at_ + x1), vi x0.err_, .bool x0.made_]) := ⟨hB20_, ht0.out⟩
   clear hF20_ hB20_
   refine Ops_nil ?_
   refine then_n (k18 _ _ ?_)
   clear k18 K18
   refine W_keepB [0, 1] fun B_ b_ => ?_
   simp only [e_, Nat.reduceAdd, Nat.reduceBEq] at b_
   subst b_
   refine W_seq_k fun K22 k22 => ?_
   refine W_drawF [33, 34, 35, 36, 37, 38, 39, 40, 41, 42, 43, 44, 45, 46, 47, 4] [(0, true), (1, true), (2, true), (3, true), (4, true), (5, true), (6, true), (7, true), (8, true), (9, true), (10, true), (11, true), (12, true), (13, true), (14, true), (15, true)] TFtB.hm rfl (by kernel_rfl) fun ops23_ w23_ hops23_ hF23_ => ?_
   replace hI := hI.fr0 hF23_
   replace ht0 := ht0.fr0 hF23_
   clear hF23_
   refine HSp (R_move rfl) rfl rfl (HSp (R_nilCheck rfl) rfl rfl (HSp (R_fieldAddr fo86_0 rfl) rfl rfl ?_))
   refine HS_loadB (v := .slice A0_1 x0.b_.length c0_1) ag30 rfl ht0.blk rfl rfl rfl ?_
   refine HSp (R_move rfl) rfl rfl (HSp (R_nilCheck rfl) rfl rfl (HSp (R_fieldAddr fo86_1 rfl) rfl rfl ?_))
   refine HS_loadB (v := vi (x0.at_ + x1)) ag3 rfl ht0.blk rfl rfl rfl ?_
   refine HSp (R_move rfl) rfl rfl ?_
   have hk24_ := h.1
   replace h := h.2
   refine HSp (R_sub rfl rfl (wI hk24_.1 hk24_.2)) rfl rfl (HSp (R_move rfl) rfl rfl (HSp (R_nilCheck rfl) rfl rfl (HSp (R_fieldAddr fo86_1 rfl) rfl rfl ?_)))
   refine HS_loadB (v := vi (x0.at_ + x1)) ag3 rfl ht0.blk rfl rfl rfl ?_
   have hk26_ := h.1
   replace h := h.2
   have hk27_ := h.1
   replace h := h.2
   have hk28_ := h.1
   replace h := h.2
   refine Exists.elim (cut_ex (n := 1) (l := ((x0.at_ + x1) - x1)) (h := (x0.at_ + x1)) hs0_1 rfl (by decide) hc0_1 hk26_ hk27_ hk28_) fun A25_ h25_ => Exists.elim h25_ fun c25_ h25_ => ?_
   have hr25_ := h25_.1
   have hc25_ := h25_.2.1
   have hs25_ := h25_.2.2
   clear h25_
   refine HSp (X_slice (xs := x0.b_) Tryd.underlying30 sz5 rfl hr25_ hc0_1 rfl rfl hk26_ hk27_ hk28_) rfl rfl ?_
   clear hr25_
   refine HSp (R_assign rfl) rfl rfl ?_
   refine HS_nil ?_
   clear hops23_
   refine then_n (k22 _ _ ?_)
   clear k22 K22
   refine W_keepB [4] fun B_ b_ => ?_
   simp only [e_, Nat.reduceAdd, Nat.reduceBEq] at b_
   subst b_
   refine W_ret ?_
   refine ⟨_, ⟨_, _, rfl, rfl, rfl⟩, ?_⟩
   exact ⟨A25_, c25_, (cut x0.b_ ((x0.at_ + x1) - x1) (x0.at_ + x1)), (octet_source.mk x0.b_ (x0.at_ + x1) x0.err_ x0.made_), _, _, rfl, hI, hc25_, hs25_, ⟨_, ⟨A0_1, c0_1, rfl, ⟨hc0_1, hs0_1⟩⟩, ht0⟩, h⟩

theorem octet_Reader_Err_ok {G : Gh} {w : World} (hS : St G w) (hg : GL G) {d0 tb0 : Nat} {x0 : octet_Reader} (hr0 : Ob tb0 G G w d0 x0) {Q : Int → Prop} (h : octet_Reader_Err x0 Q) : Calls Tryd.prog 46 #[.pointer (some ⟨d0, 0, none⟩)] w fun e w2 => ∃ (r0 : Int) (L H : Gh), e = .returned (vi r0) ∧ Inv [] G w L H w2 ∧ Q r0 := by
 unfold octet_Reader_Err at h
 have hI := Inv.start (M := []) hS
 refine calls_W 10 Tryd.func46 rfl Tryd.ntmps46 rfl [.tmp 2] rfl ?_
 obtain ⟨l0_, hl0_, ht0⟩ := hr0
 obtain ⟨A0_1, c0_1, rfl, ⟨hc0_1, hs0_1⟩⟩ := hl0_
 have hlt_d0 := ht0.blk.lt
 refine W_seq_k fun K1 k1 => ?_
 refine W_region [2] rfl (Ops_step (R_assign rfl) rfl rfl ?_)
 refine Ops_nil ?_
 refine then_n (k1 _ _ ?_)
 clear k1 K1
 refine W_seq_k fun K2 k2 => ?_
 refine W_seq_k fun K3 k3 => ?_
 refine W_region [3, 4] rfl (Ops_step (R_move rfl) rfl rfl ?_)
 refine Ops_call (C_func bd70 rfl) rfl rfl ?_
 refine (octet_Reader_dead_ok (x0 := x0) hI.st (hg.up hI.le) ⟨_, ⟨A0_1, c0_1, rfl, ⟨hc0_1, hs0_1⟩⟩, ht0⟩ h).mono ?_
 rintro _ w4_ ⟨r4_0, L4_, H4_, rfl, hI4_, h⟩
 refine Exists.elim (hI.call hI4_ (by simp)) fun L40_ h4_ => ?_
 have hz4_ := hI.size
 replace hI := h4_.1
 have u4_ := h4_.2.1
 have hl4_ := h4_.2.2
 clear h4_
 replace hs0_1 := hs0_1.up u4_.hh
 replace ht0 := ht0.up u4_ (by simp)
 clear hI4_ u4_ hl4_
 refine ⟨_, rfl, ?_⟩
 refine Ops_nil ?_
 refine then_n (k3 _ _ ?_)
 clear k3 K3
 refine W_cond rfl (fun hc5_ => ?_) (fun hc5_ => ?_)
 ·
  replace h := h.1 hc5_
  refine W_seq_k fun K6 k6 => ?_
  refine W_region [2] rfl (Ops_step (R_assign rfl) rfl rfl ?_)
  refine Ops_nil ?_
  refine then_n (k6 _ _ ?_)
  clear k6 K6
  refine W_ret ?_
  refine then_ret ?_
  clear k2 K2
  refine ⟨_, ⟨_, _, rfl, rfl, rfl⟩, ?_⟩
  exact ⟨6, _, _, rfl, hI, h⟩
 ·
  replace h := h.2 hc5_
  refine W_skip ?_
  refine then_n (k2 _ _ ?_)
  clear k2 K2
  refine W_seq_k fun K7 k7 => ?_
  refine W_region [5, 6, 7, 8, 9, 2] rfl (Ops_step (R_move rfl) rfl rfl (Ops_step (R_nilCheck rfl) rfl rfl (Ops_step (R_fieldAddr fo88_0 rfl) rfl rfl (Ops_step (R_fieldAddr fo86_2 rfl) rfl rfl ?_))))
  refine Ops_step (R_loadB (v := vi x0.source_.err_) ag22 rfl ht0.blk rfl) rfl rfl ?_
  refine Ops_step (R_assign rfl) rfl rfl ?_
  refine Ops_nil ?_
  refine then_n (k7 _ _ ?_)
  clear k7 K7
  refine W_keepB [2] fun B_ b_ => ?_
  simp only [e_, Nat.reduceAdd, Nat.reduceBEq] at b_
  subst b_
  refine W_ret ?_
  refine ⟨_, ⟨_, _, rfl, rfl, rfl⟩, ?_⟩
  exact ⟨x0.source_.err_, _, _, rfl, hI, h⟩

theorem octet_Reader_End_ok {G : Gh} {w : World} (hS : St G w) (hg : GL G) {d0 tb0 : Nat} {x0 : octet_Reader} (hr0 : Ob tb0 G G w d0 x0) {Q : Int → Prop} (h : octet_Reader_End x0 Q) : Calls Tryd.prog 64 #[.pointer (some ⟨d0, 0, none⟩)] w fun e w2 => ∃ (r0 : Int) (L H : Gh), e = .returned (vi r0) ∧ Inv [] G w L H w2 ∧ Q r0 := by
 unfold octet_Reader_End at h
 have hI := Inv.start (M := []) hS
 refine calls_W 16 Tryd.func64 rfl Tryd.ntmps64 rfl [.tmp 2] rfl ?_
 obtain ⟨l0_, hl0_, ht0⟩ := hr0
 obtain ⟨A0_1, c0_1, rfl, ⟨hc0_1, hs0_1⟩⟩ := hl0_
 have hlt_d0 := ht0.blk.lt
 refine W_seq_k fun K1 k1 => ?_
 refine W_region [2] rfl (Ops_step (R_assign rfl) rfl rfl ?_)
 refine Ops_nil ?_
 refine then_n (k1 _ _ ?_)
 clear k1 K1
 refine W_seq_k fun K2 k2 => ?_
 refine W_region [4, 5, 3] rfl (Ops_step (R_move rfl) rfl rfl ?_)
 refine Ops_call (C_func bd46 rfl) rfl rfl ?_
 refine (octet_Reader_Err_ok (x0 := x0) hI.st (hg.up hI.le) ⟨_, ⟨A0_1, c0_1, rfl, ⟨hc0_1, hs0_1⟩⟩, ht0⟩ h).mono ?_
 rintro _ w3_ ⟨r3_0, L3_, H3_, rfl, hI3_, h⟩
 refine Exists.elim (hI.call hI3_ (by simp)) fun L30_ h3_ => ?_
 have hz3_ := hI.size
 replace hI := h3_.1
 have u3_ := h3_.2.1
 have hl3_ := h3_.2.2
 clear h3_
 replace hs0_1 := hs0_1.up u3_.hh
 replace ht0 := ht0.up u3_ (by simp)
 clear hI3_ u3_ hl3_
 refine ⟨_, rfl, ?_⟩
 refine Ops_step (R_assign rfl) rfl rfl ?_
 refine Ops_nil ?_
 refine then_n (k2 _ _ ?_)
 clear k2 K2
 refine W_seq_k fun K4 k4 => ?_
 refine ex_ h fun J5_ hr5_ h => ?_
 refine W_seq_join [3] [14] (fun vals_ w2 => ∃ (x14_5 : Bool) (L H : Gh), vals_ = [.bool x14_5] ∧ J5_ x14_5 ∧ Inv [] G w L H w2 ∧ Le L30_ L ∧ Le H3_ H ∧ Tok H w2 d0 tb0 ([.slice A0_1 x0.source_.b_.length c0_1, vi x0.source_.at_, vi x0.source_.err_, .bool x0.source_.made_]) ∧ True) (fun B_ b_ => ?_) (fun B_ b_ => ?_)
 ·
  simp only [e_, Nat.reduceAdd, Nat.reduceBEq] at b_
  subst b_
  clear hr5_
  have hll5_ := Le.refl L30_
  have hhh5_ := Le.refl H3_
  refine W_region [6, 7, 8, 9, 10, 11, 12, 13, 14] rfl (Ops_step (R_move rfl) rfl rfl (Ops_step (R_eql rfl rfl) rfl rfl (Ops_step (R_move rfl) rfl rfl ?_)))
  refine Ops_split 8 rfl (fun hg6_ => ?_) (fun hg6_ => ?_)
  ·
   replace h := h.1 hg6_
   refine Ops_step (R_move rfl) rfl rfl (Ops_step (R_nilCheck rfl) rfl rfl (Ops_step (R_fieldAddr fo88_0 rfl) rfl rfl ?_))
   refine Ops_call (C_func bd85 rfl) rfl rfl ?_
   refine (octet_source_left_ok (x0 := x0.source_) hI.st (hg.up hI.le) ⟨_, ⟨A0_1, c0_1, rfl, ⟨hc0_1, hs0_1⟩⟩, ht0⟩ h).mono ?_
   rintro _ w7_ ⟨r7_0, L7_, H7_, rfl, hI7_, h⟩
   refine Exists.elim (hI.call hI7_ (by simp)) fun L70_ h7_ => ?_
   have hz7_ := hI.size
   replace hI := h7_.1
   have u7_ := h7_.2.1
   have hl7_ := h7_.2.2
   clear h7_
   replace hs0_1 := hs0_1.up u7_.hh
   replace ht0 := ht0.up u7_ (by simp)
   replace hll5_ := hll5_.trans u7_.ll
   replace hhh5_ := hhh5_.trans u7_.hh
   clear hI7_ u7_ hl7_
   refine ⟨_, rfl, ?_⟩
   refine Ops_step (R_gtr rfl rfl) rfl rfl (Ops_step (R_pick_true rfl rfl) rfl rfl ?_)
   refine Ops_nil ?_
   refine then_n ?_
   exact ⟨_, rfl, ⟨(decide (r7_0 > 0)), _, _, rfl, h, hI, hll5_, hhh5_, ht0, trivial⟩, ⟨rfl, trivial⟩⟩
  ·
   replace h := h.2 hg6_
   refine Ops_pass rfl rfl (Ops_pass rfl rfl (Ops_pass rfl rfl (Ops_pass rfl rfl (Ops_pass rfl rfl ?_))))
   refine Ops_step (R_pick_false rfl rfl) rfl rfl ?_
   refine Ops_nil ?_
   refine then_n ?_
   exact ⟨_, rfl, ⟨false, _, _, rfl, h, hI, hll5_, hhh5_, ht0, trivial⟩, ⟨rfl, trivial⟩⟩
 ·
  simp only [e_, Nat.reduceAdd, Nat.reduceBEq] at b_
  subst b_
  clear h
  clear ht0
  rintro _ w5_ ⟨x14_5, L5_, H5_, rfl, hJ5_, hI5_, hll5_, hhh5_, ht0, -⟩
  replace hI := hI5_
  clear hI5_
  have h := hr5_ x14_5 hJ5_
  clear hr5_ hJ5_
  replace hs0_1 := hs0_1.up hhh5_
  refine W_cond rfl (fun hc8_ => ?_) (fun hc8_ => ?_)
  ·
   replace h := h.1 hc8_
   refine W_seq_k fun K9 k9 => ?_
   refine W_region [2] rfl (Ops_step (R_assign rfl) rfl rfl ?_)
   refine Ops_nil ?_
   refine then_n (k9 _ _ ?_)
   clear k9 K9
   refine W_ret ?_
   refine then_ret ?_
   clear k4 K4
   refine ⟨_, ⟨_, _, rfl, rfl, rfl⟩, ?_⟩
   exact ⟨3, _, _, rfl, hI, h⟩
  ·
   replace h := h.2 hc8_
   refine W_skip ?_
   refine then_n (k4 _ _ ?_)
   clear k4 K4
   refine W_seq_k fun K10 k10 => ?_
   refine W_region [15, 2] rfl (Ops_step (R_move rfl) rfl rfl (Ops_step (R_assign rfl) rfl rfl ?_))
   refine Ops_nil ?_
   refine then_n (k10 _ _ ?_)
   clear k10 K10
   refine W_ret ?_
   refine ⟨_, ⟨_, _, rfl, rfl, rfl⟩, ?_⟩
   exact ⟨r3_0, _, _, rfl, hI, h⟩

theorem octet_Reader_Number_ok {G : Gh} {w : World} (hS : St G w) (hg : GL G) {d0 tb0 : Nat} {x0 : octet_Reader} (hr0 : Ob tb0 G G w d0 x0) {Q : Int → octet_Reader → Prop} (h : octet_Reader_Number x0 Q) : Calls Tryd.prog 62 #[.pointer (some ⟨d0, 0, none⟩)] w fun e w2 => ∃ (r0 : Int) (y0 : octet_Reader) (L H : Gh), e = .returned (vi r0) ∧ Inv [d0] G w L H w2 ∧ Ob tb0 H H w2 d0 y0 ∧ Q r0 y0 := by
 unfold octet_Reader_Number at h
 have hI := Inv.start (M := [d0]) hS
 refine calls_W 43 Tryd.func62 rfl Tryd.ntmps62 rfl [.tmp 2] rfl ?_
 obtain ⟨l0_, hl0_, ht0⟩ := hr0
 obtain ⟨A0_1, c0_1, rfl, ⟨hc0_1, hs0_1⟩⟩ := hl0_
 have hlt_d0 := ht0.blk.lt
 refine W_seq_k fun K1 k1 => ?_
 refine W_region [2] rfl (Ops_step (R_assign rfl) rfl rfl ?_)
 refine Ops_nil ?_
 refine then_n (k1 _ _ ?_)
 clear k1 K1
 refine W_seq_k fun K2 k2 => ?_
 refine W_seq_k fun K3 k3 => ?_
 refine W_region [7, 8] rfl (Ops_step (R_move rfl) rfl rfl ?_)
 refine Ops_call (C_func bd70 rfl) rfl rfl ?_
 refine (octet_Reader_dead_ok (x0 := x0) hI.st (hg.up hI.le) ⟨_, ⟨A0_1, c0_1, rfl, ⟨hc0_1, hs0_1⟩⟩, ht0⟩ h).mono ?_
 rintro _ w4_ ⟨r4_0, L4_, H4_, rfl, hI4_, h⟩
 refine Exists.elim (hI.call hI4_ (by simp)) fun L40_ h4_ => ?_
 have hz4_ := hI.size
 replace hI := h4_.1
 have u4_ := h4_.2.1
 have hl4_ := h4_.2.2
 clear h4_
 replace hs0_1 := hs0_1.up u4_.hh
 replace ht0 := ht0.up u4_ (by simp)
 clear hI4_ u4_ hl4_
 refine ⟨_, rfl, ?_⟩
 refine Ops_nil ?_
 refine then_n (k3 _ _ ?_)
 clear k3 K3
 refine W_cond rfl (fun hc5_ => ?_) (fun hc5_ => ?_)
 ·
  replace h := h.1 hc5_
  refine W_seq_k fun K6 k6 => ?_
  refine W_region [2] rfl (Ops_step (R_assign rfl) rfl rfl ?_)
  refine Ops_nil ?_
  refine then_n (k6 _ _ ?_)
  clear k6 K6
  refine W_ret ?_
  refine then_ret ?_
  clear k2 K2
  refine ⟨_, ⟨_, _, rfl, rfl, rfl⟩, ?_⟩
  exact ⟨0, x0, _, _, rfl, hI, ⟨_, ⟨A0_1, c0_1, rfl, ⟨hc0_1, hs0_1⟩⟩, ht0⟩, h⟩
 ·
  replace h := h.2 hc5_
  refine W_skip ?_
  refine then_n (k2 _ _ ?_)
  clear k2 K2
  refine W_seq_k fun K7 k7 => ?_
  refine W_region [3] rfl (Ops_step (R_assign rfl) rfl rfl ?_)
  refine Ops_nil ?_
  refine then_n (k7 _ _ ?_)
  clear k7 K7
  refine W_seq_k fun K8 k8 => ?_
  refine W_region [9, 10, 11, 12, 4] rfl (Ops_step (R_move rfl) rfl rfl (Ops_step (R_nilCheck rfl) rfl rfl (Ops_step (R_fieldAddr fo88_0 rfl) rfl rfl ?_)))
  refine Ops_call (C_func bd81 rfl) rfl rfl ?_
  refine (octet_source_take_ok (x0 := x0.source_) (x1 := 8) hI.st (hg.up hI.le) ⟨_, ⟨A0_1, c0_1, rfl, ⟨hc0_1, hs0_1⟩⟩, ht0⟩ h).mono ?_
  rintro _ w9_ ⟨A9_0, c9_0, r9_0, y9_0, L9_, H9_, rfl, hI9_, hc9_0, hs9_0, hq9_0, h⟩
  refine Exists.elim (hI.call hI9_ (mem1 (by simp))) fun L90_ h9_ => ?_
  have hz9_ := hI.size
  replace hI := h9_.1
  have u9_ := h9_.2.1
  have hl9_ := h9_.2.2
  clear h9_
  replace hs0_1 := hs0_1.up u9_.hh
  replace hs9_0 := hs9_0.up (Le.refl _)
  clear ht0
  obtain ⟨l9_0_, hl9_0_, ht9_0⟩ := hq9_0
  obtain ⟨A9_0_1, c9_0_1, rfl, ⟨hc9_0_1, hs9_0_1⟩⟩ := hl9_0_
  clear hI9_ u9_ hl9_
  refine ⟨_, rfl, ?_⟩
  refine Ops_step (R_assign rfl) rfl rfl ?_
  refine Ops_nil ?_
  refine then_n (k8 _ _ ?_)
  clear k8 K8
  refine W_keepB [0, 3, 4] fun B_ b_ => ?_
  simp only [e_, Nat.reduceAdd, Nat.reduceBEq] at b_
  subst b_
  refine ex_ h fun J11_ hr11_ h => ?_
  refine W_seq_join [0] [3] (fun vals_ w2 => ∃ (x3_11 : BitVec 64) (L H : Gh), vals_ = [w64 x3_11] ∧ J11_ x3_11 ∧ Inv [d0] G w L H w2 ∧ Le L90_ L ∧ Le H9_ H ∧ Tok H w2 d0 tb0 ([.slice A9_0_1 y9_0.b_.length c9_0_1, vi y9_0.at_, vi y9_0.err_, .bool y9_0.made_]) ∧ True) (fun B_ b_ => ?_) (fun B_ b_ => ?_)
  ·
   simp only [e_, Nat.reduceAdd, Nat.reduceBEq] at b_
   subst b_
   clear hr11_
   have hll11_ := Le.refl L90_
   have hhh11_ := Le.refl H9_
   refine W_seq_k fun K12 k12 => ?_
   refine W_region [13, 14, 15] rfl (Ops_step (R_move rfl) rfl rfl (Ops_step (R_len Tryd.underlying30 rfl rfl) rfl rfl (Ops_step (R_move rfl) rfl rfl ?_)))
   refine Ops_nil ?_
   refine then_n (k12 _ _ ?_)
   clear k12 K12
   refine W_block ?_
   refine Exists.elim h fun I13_ h => Exists.elim h fun n13_ h => ?_
   have h0_ := h.1
   have hs13_ := h.2
   clear h
   refine W_loopB [0, 13, 14] [3, 15] (fun m vals_ w2 => ∃ (x3_13 : BitVec 64) (x15_13 : Int) (L H : Gh), vals_ = [w64 x3_13, vi x15_13] ∧ I13_ m x3_13 x15_13 ∧ Inv [d0] G w L H w2 ∧ Le L90_ L ∧ Le H9_ H ∧ Tok H w2 d0 tb0 ([.slice A9_0_1 y9_0.b_.length c9_0_1, vi y9_0.at_, vi y9_0.err_, .bool y9_0.made_]) ∧ True) n13_ _ rfl ⟨(0#64), 0, _, _, rfl, h0_, hI, Le.refl _, Le.refl _, ht9_0, trivial⟩ fun B_ b_ => ?_
   clear h0_
   simp only [e_, Nat.reduceAdd, Nat.reduceBEq] at b_
   subst b_
   clear ht9_0
   rintro m13_ _ w13_ ⟨x3_13, x15_13, L13_, H13_, rfl, hJ13_, hI13_, hll13_, hhh13_, ht9_0, -⟩
   replace hI := hI13_
   clear hI13_
   have h := hs13_ m13_ x3_13 x15_13 hJ13_
   clear hs13_ hJ13_
   replace hs9_0 := hs9_0.up hhh13_
   replace hs9_0_1 := hs9_0_1.up hhh13_
   replace hll11_ := hll11_.trans hll13_
   replace hhh11_ := hhh11_.trans hhh13_
   refine W_seq_k fun K14 k14 => ?_
   refine W_region [16] rfl (Ops_step (R_lss rfl rfl) rfl rfl ?_)
   refine Ops_nil ?_
   refine then_n (k14 _ _ ?_)
   clear k14 K14
   refine W_seq_k fun K15 k15 => ?_
   refine W_if rfl (fun hc16_ => ?_) (fun hc16_ => ?_)
   ·
    replace h := h.1 hc16_
    refine W_skip ?_
    refine then_n (k15 _ _ ?_)
    clear k15 K15
    refine W_seq_k fun K17 k17 => ?_
    refine W_block ?_
    refine W_seq_k fun K18 k18 => ?_
    refine W_region [17, 18, 6] rfl ?_
    refine ex_ h fun x19_ hx19_ h => ?_
    have ha19_ := (hs9_0.atS hx19_).1
    have hg19_ := (hs9_0.atS hx19_).2
    refine Ops_step (R_indexSl Tryd.underlying30 sz5 rfl rfl hx19_.1 hx19_.lt ha19_) rfl rfl (Ops_step (R_load ag5 rfl (hI.st _ _ hg19_)) rfl rfl (Ops_step (R_assign rfl) rfl rfl ?_))
    refine Ops_nil ?_
    refine then_n (k18 _ _ ?_)
    clear k18 K18
    refine W_region [19, 20, 21, 22, 23, 3] rfl (Ops_step (R_move rfl) rfl rfl (Ops_step (R_shl rfl rfl (by decide) (shl64 x3_13 8 (by decide))) rfl rfl (Ops_step (R_move rfl) rfl rfl (Ops_step (R_conv Tryd.underlying5 Tryd.underlying72 rfl (c8_64 _)) rfl rfl ?_))))
    refine Ops_step (R_or rfl rfl (or64 (x3_13 <<< (8 : Nat)) (x19_.toBitVec.setWidth 64))) rfl rfl (Ops_step (R_assign rfl) rfl rfl ?_)
    refine Ops_nil ?_
    refine block_n ?_
    refine then_n (k17 _ _ ?_)
    clear k17 K17
    refine W_keepB [0, 3, 13, 14, 15] fun B_ b_ => ?_
    simp only [e_, Nat.reduceAdd, Nat.reduceBEq] at b_
    subst b_
    refine W_region [24, 15] rfl ?_
    have hk21_ := h.1
    replace h := h.2
    refine Ops_step (R_add rfl rfl (wI hk21_.1 hk21_.2)) rfl rfl (Ops_step (R_move rfl) rfl rfl ?_)
    refine Ops_nil ?_
    refine then_n ?_
    exact h.elim fun m_ h => ⟨m_, _, h.1, rfl, ⟨((x3_13 <<< (8 : Nat)) ||| (x19_.toBitVec.setWidth 64)), (x15_13 + 1), _, _, rfl, h.2, hI, hll13_, hhh13_, ht9_0, trivial⟩, ⟨rfl, rfl, rfl, trivial⟩⟩
   ·
    replace h := h.2 hc16_
    refine W_exit ?_
    refine then_exit ?_
    clear k15 K15
    refine then_exit ?_
    refine block_exit ?_
    refine then_n ?_
    exact ⟨_, rfl, ⟨x3_13, _, _, rfl, h, hI, hll11_, hhh11_, ht9_0, trivial⟩, ⟨rfl, trivial⟩⟩
  ·
   simp only [e_, Nat.reduceAdd, Nat.reduceBEq] at b_
   subst b_
   clear h
   clear ht9_0
   rintro _ w11_ ⟨x3_11, L11_, H11_, rfl, hJ11_, hI11_, hll11_, hhh11_, ht9_0, -⟩
   replace hI := hI11_
   clear hI11_
   have h := hr11_ x3_11 hJ11_
   clear hr11_ hJ11_
   replace hs9_0_1 := hs9_0_1.up hhh11_
   refine W_seq_k fun K22 k22 => ?_
   refine W_seq_k fun K23 k23 => ?_
   refine W_region [25, 26] rfl (Ops_step (R_move rfl) rfl rfl (Ops_step (R_gtr rfl rfl) rfl rfl ?_))
   refine Ops_nil ?_
   refine then_n (k23 _ _ ?_)
   clear k23 K23
   refine W_if rfl (fun hc24_ => ?_) (fun hc24_ => ?_)
   ·
    replace h := h.1 hc24_
    refine W_seq_k fun K25 k25 => ?_
    refine W_region [27, 28, 29, 30, 31, 32, 33, 34, 35, 36, 37, none, 38, 39, 40, none] rfl (Ops_step (R_move rfl) rfl rfl (Ops_step (R_move rfl) rfl rfl (Ops_step (R_move rfl) rfl rfl (Ops_step (R_nilCheck rfl) rfl rfl ?_))))
    refine Ops_step (R_fieldAddr fo88_0 rfl) rfl rfl (Ops_step (R_fieldAddr fo86_1 rfl) rfl rfl ?_)
    refine Ops_step (R_loadB (v := vi y9_0.at_) ag3 rfl ht9_0.blk rfl) rfl rfl ?_
    have hk26_ := h.1
    replace h := h.2
    refine Ops_step (R_sub rfl rfl (wI hk26_.1 hk26_.2)) rfl rfl (Ops_step (R_nilCheck rfl) rfl rfl (Ops_step (R_fieldAddr fo88_0 rfl) rfl rfl (Ops_step (R_fieldAddr fo86_1 rfl) rfl rfl ?_)))
    refine Ops_to0 (R_store sz3 rfl rfl ht9_0.blk (by show 1 < 4; decide) rfl) rfl ?_
    rintro _ w27_ ⟨hB27_, hF27_⟩
    replace hI := hI.tok hF27_ (out1 ht9_0.out) (mem1 (by simp))
    replace ht9_0 : Tok H11_ _ d0 tb0 ([.slice A9_0_1 y9_0.b_.length c9_0_1, vi (y9_0.at_ - 8), vi y9_0.err_, .bool y9_0.made_]) := ⟨hB27_, ht9_0.out⟩
    clear hF27_ hB27_
    refine Ops_step (R_nilCheck rfl) rfl rfl (Ops_step (R_fieldAddr fo88_0 rfl) rfl rfl (Ops_step (R_fieldAddr fo86_2 rfl) rfl rfl ?_))
    refine Ops_to0 (R_store sz22 rfl rfl ht9_0.blk (by show 2 < 4; decide) rfl) rfl ?_
    rintro _ w28_ ⟨hB28_, hF28_⟩
    replace hI := hI.tok hF28_ (out1 ht9_0.out) (mem1 (by simp))
    replace ht9_0 : Tok H11_ _ d0 tb0 ([.slice A9_0_1 y9_0.b_.length c9_0_1, vi (y9_0.at_ - 8), vi 5, .bool y9_0.made_]) := ⟨hB28_, ht9_0.out⟩
    clear hF28_ hB28_
    refine Ops_nil ?_
    refine then_n (k25 _ _ ?_)
    clear k25 K25
    refine W_keepB [] fun B_ b_ => ?_
    simp only [e_, Nat.reduceAdd, Nat.reduceBEq] at b_
    subst b_
    refine W_seq_k fun K30 k30 => ?_
    refine W_region [2] rfl (Ops_step (R_assign rfl) rfl rfl ?_)
    refine Ops_nil ?_
    refine then_n (k30 _ _ ?_)
    clear k30 K30
    refine W_ret ?_
    refine then_ret ?_
    clear k22 K22
    refine ⟨_, ⟨_, _, rfl, rfl, rfl⟩, ?_⟩
    exact ⟨0, (octet_Reader.mk (octet_source.mk y9_0.b_ (y9_0.at_ - 8) 5 y9_0.made_)), _, _, rfl, hI, ⟨_, ⟨A9_0_1, c9_0_1, rfl, ⟨hc9_0_1, hs9_0_1⟩⟩, ht9_0⟩, h⟩
   ·
    replace h := h.2 hc24_
    refine W_skip ?_
    refine then_n (k22 _ _ ?_)
    clear k22 K22
    refine W_seq_k fun K31 k31 => ?_
    refine W_region [41, 42, 2] rfl (Ops_step (R_move rfl) rfl rfl ?_)
    have hk32_ := h.1
    replace h := h.2
    refine Ops_step (R_conv Tryd.underlying72 Tryd.underlying3 rfl (c64_I _ hk32_)) rfl rfl (Ops_step (R_assign rfl) rfl rfl ?_)
    refine Ops_nil ?_
    refine then_n (k31 _ _ ?_)
    clear k31 K31
    refine W_keepB [2] fun B_ b_ => ?_
    simp only [e_, Nat.reduceAdd, Nat.reduceBEq] at b_
    subst b_
    refine W_ret ?_
    refine ⟨_, ⟨_, _, rfl, rfl, rfl⟩, ?_⟩
    exact ⟨(x3_11.toNat : Int), (octet_Reader.mk y9_0), _, _, rfl, hI, ⟨_, ⟨A9_0_1, c9_0_1, rfl, ⟨hc9_0_1, hs9_0_1⟩⟩, ht9_0⟩, h⟩

theorem octet_Reader_Within_ok {G : Gh} {w : World} (hS : St G w) (hg : GL G) {d0 tb0 : Nat} {x0 : octet_Reader} (hr0 : Ob tb0 G G w d0 x0) {x1 : Int} {x2 : Int} {Q : Int → octet_Reader → Prop} (h : octet_Reader_Within x0 x1 x2 Q) : Calls Tryd.prog 45 #[.pointer (some ⟨d0, 0, none⟩), vi x1, vi x2] w fun e w2 => ∃ (r0 : Int) (y0 : octet_Reader) (L H : Gh), e = .returned (vi r0) ∧ Inv [d0] G w L H w2 ∧ Ob tb0 H H w2 d0 y0 ∧ Q r0 y0 := by
 unfold octet_Reader_Within at h
 have hI := Inv.start (M := [d0]) hS
 refine calls_W 57 Tryd.func45 rfl Tryd.ntmps45 rfl [.tmp 6] rfl ?_
 obtain ⟨l0_, hl0_, ht0⟩ := hr0
 obtain ⟨A0_1, c0_1, rfl, ⟨hc0_1, hs0_1⟩⟩ := hl0_
 have hlt_d0 := ht0.blk.lt
 refine W_seq_k fun K1 k1 => ?_
 refine W_region [6] rfl (Ops_step (R_assign rfl) rfl rfl ?_)
 refine Ops_nil ?_
 refine then_n (k1 _ _ ?_)
 clear k1 K1
 refine W_seq_k fun K2 k2 => ?_
 refine ex_ h fun J3_ hr3_ h => ?_
 refine W_seq_join [0, 1, 2] [17] (fun vals_ w2 => ∃ (x17_3 : Bool) (L H : Gh), vals_ = [.bool x17_3] ∧ J3_ x17_3 ∧ Inv [d0] G w L H w2 ∧ Le Gh.no L ∧ Le G H ∧ Tok H w2 d0 tb0 ([.slice A0_1 x0.source_.b_.length c0_1, vi x0.source_.at_, vi x0.source_.err_, .bool x0.source_.made_]) ∧ True) (fun B_ b_ => ?_) (fun B_ b_ => ?_)
 ·
  simp only [e_, Nat.reduceAdd, Nat.reduceBEq] at b_
  subst b_
  clear hr3_
  have hll3_ := Le.refl Gh.no
  have hhh3_ := Le.refl G
  refine W_region [8, 9, 10, 11, 12, 13, 14, 15, 16, 17] rfl (Ops_step (R_move rfl) rfl rfl ?_)
  refine Ops_call (C_func bd70 rfl) rfl rfl ?_
  refine (octet_Reader_dead_ok (x0 := x0) hI.st (hg.up hI.le) ⟨_, ⟨A0_1, c0_1, rfl, ⟨hc0_1, hs0_1⟩⟩, ht0⟩ h).mono ?_
  rintro _ w4_ ⟨r4_0, L4_, H4_, rfl, hI4_, h⟩
  refine Exists.elim (hI.call hI4_ (by simp)) fun L40_ h4_ => ?_
  have hz4_ := hI.size
  replace hI := h4_.1
  have u4_ := h4_.2.1
  have hl4_ := h4_.2.2
  clear h4_
  replace hs0_1 := hs0_1.up u4_.hh
  replace ht0 := ht0.up u4_ (by simp)
  replace hll3_ := hll3_.trans u4_.ll
  replace hhh3_ := hhh3_.trans u4_.hh
  clear hI4_ u4_ hl4_
  refine ⟨_, rfl, ?_⟩
  refine Ops_step (R_move rfl) rfl rfl ?_
  refine Ops_splitB 10 rfl (fun hg5_ => ?_) (fun hg5_ => ?_)
  ·
   replace h := h.1 hg5_
   refine Ops_pass rfl rfl (Ops_pass rfl rfl (Ops_pass rfl rfl (Ops_pass rfl rfl (Ops_pass rfl rfl ?_))))
   refine Ops_pass rfl rfl (Ops_step (R_pick_true rfl rfl) rfl rfl ?_)
   refine Ops_nil ?_
   refine then_n ?_
   exact ⟨_, rfl, ⟨true, _, _, rfl, h, hI, hll3_, hhh3_, ht0, trivial⟩, ⟨rfl, rfl, rfl, trivial⟩⟩
  ·
   replace h := h.2 hg5_
   refine Ops_step (R_move rfl) rfl rfl (Ops_step (R_nilCheck rfl) rfl rfl (Ops_step (R_fieldAddr fo88_0 rfl) rfl rfl (Ops_step (R_fieldAddr fo86_2 rfl) rfl rfl ?_)))
   refine Ops_step (R_loadB (v := vi x0.source_.err_) ag22 rfl ht0.blk rfl) rfl rfl ?_
   refine Ops_step (R_neq rfl rfl) rfl rfl (Ops_step (R_pick_false rfl rfl) rfl rfl ?_)
   refine Ops_nil ?_
   refine then_n ?_
   exact ⟨_, rfl, ⟨(decide (x0.source_.err_ ≠ 0)), _, _, rfl, h, hI, hll3_, hhh3_, ht0, trivial⟩, ⟨rfl, rfl, rfl, trivial⟩⟩
 ·
  simp only [e_, Nat.reduceAdd, Nat.reduceBEq] at b_
  subst b_
  clear h
  clear ht0
  rintro _ w3_ ⟨x17_3, L3_, H3_, rfl, hJ3_, hI3_, hll3_, hhh3_, ht0, -⟩
  replace hI := hI3_
  clear hI3_
  have h := hr3_ x17_3 hJ3_
  clear hr3_ hJ3_
  replace hs0_1 := hs0_1.up hhh3_
  refine W_cond rfl (fun hc6_ => ?_) (fun hc6_ => ?_)
  ·
   replace h := h.1 hc6_
   refine W_seq_k fun K7 k7 => ?_
   refine W_region [6] rfl (Ops_step (R_assign rfl) rfl rfl ?_)
   refine Ops_nil ?_
   refine then_n (k7 _ _ ?_)
   clear k7 K7
   refine W_ret ?_
   refine then_ret ?_
   clear k2 K2
   refine ⟨_, ⟨_, _, rfl, rfl, rfl⟩, ?_⟩
   exact ⟨0, x0, _, _, rfl, hI, ⟨_, ⟨A0_1, c0_1, rfl, ⟨hc0_1, hs0_1⟩⟩, ht0⟩, h⟩
  ·
   replace h := h.2 hc6_
   refine W_skip ?_
   refine then_n (k2 _ _ ?_)
   clear k2 K2
   refine W_seq_k fun K8 k8 => ?_
   refine W_region [18, 19, 7] rfl (Ops_step (R_move rfl) rfl rfl ?_)
   refine Ops_call (C_func bd62 rfl) rfl rfl ?_
   refine (octet_Reader_Number_ok (x0 := x0) hI.st (hg.up hI.le) ⟨_, ⟨A0_1, c0_1, rfl, ⟨hc0_1, hs0_1⟩⟩, ht0⟩ h).mono ?_
   rintro _ w9_ ⟨r9_0, y9_0, L9_, H9_, rfl, hI9_, hq9_0, h⟩
   refine Exists.elim (hI.call hI9_ (mem1 (by simp))) fun L90_ h9_ => ?_
   have hz9_ := hI.size
   replace hI := h9_.1
   have u9_ := h9_.2.1
   have hl9_ := h9_.2.2
   clear h9_
   replace hs0_1 := hs0_1.up u9_.hh
   clear ht0
   obtain ⟨l9_0_, hl9_0_, ht9_0⟩ := hq9_0
   obtain ⟨A9_0_1, c9_0_1, rfl, ⟨hc9_0_1, hs9_0_1⟩⟩ := hl9_0_
   clear hI9_ u9_ hl9_
   refine ⟨_, rfl, ?_⟩
   refine Ops_step (R_assign rfl) rfl rfl ?_
   refine Ops_nil ?_
   refine then_n (k8 _ _ ?_)
   clear k8 K8
   refine ex_ h fun J10_ hr10_ h => ?_
   refine W_seq_join [0, 7] [] (fun vals_ w2 => ∃ (yd0_10 : octet_Reader) (L H : Gh), vals_ = [] ∧ J10_ yd0_10 ∧ Inv [d0] G w L H w2 ∧ Le L90_ L ∧ Le H9_ H ∧ Ob tb0 H H w2 d0 yd0_10 ∧ True) (fun B_ b_ => ?_) (fun B_ b_ => ?_)
   ·
    simp only [e_, Nat.reduceAdd, Nat.reduceBEq] at b_
    subst b_
    clear hr10_
    have hll10_ := Le.refl L90_
    have hhh10_ := Le.refl H9_
    refine ex_ h fun J11_ hr11_ h => ?_
    refine W_seq_join [0, 7] [35] (fun vals_ w2 => ∃ (x35_11 : Bool) (L H : Gh), vals_ = [.bool x35_11] ∧ J11_ x35_11 ∧ Inv [d0] G w L H w2 ∧ Le L90_ L ∧ Le H9_ H ∧ Tok H w2 d0 tb0 ([.slice A9_0_1 y9_0.source_.b_.length c9_0_1, vi y9_0.source_.at_, vi y9_0.source_.err_, .bool y9_0.source_.made_]) ∧ True) (fun B_ b_ => ?_) (fun B_ b_ => ?_)
    ·
     simp only [e_, Nat.reduceAdd, Nat.reduceBEq] at b_
     subst b_
     clear hr11_
     have hll11_ := Le.refl L90_
     have hhh11_ := Le.refl H9_
     refine W_region [20, 21, 22, 23, 24, 25, 26, 27, 28, 29, 30, 31, 32, 33, 34, 35] rfl (Ops_step (R_move rfl) rfl rfl (Ops_step (R_nilCheck rfl) rfl rfl (Ops_step (R_fieldAddr fo88_0 rfl) rfl rfl (Ops_step (R_fieldAddr fo86_2 rfl) rfl rfl ?_))))
     refine Ops_step (R_loadB (v := vi y9_0.source_.err_) ag22 rfl ht9_0.blk rfl) rfl rfl ?_
     refine Ops_step (R_eql rfl rfl) rfl rfl (Ops_step (R_move rfl) rfl rfl ?_)
     refine Ops_split 26 rfl (fun hg12_ => ?_) (fun hg12_ => ?_)
     ·
      replace h := h.1 hg12_
      refine Ops_step (R_move rfl) rfl rfl (Ops_step (R_move rfl) rfl rfl (Ops_step (R_lss rfl rfl) rfl rfl (Ops_step (R_move rfl) rfl rfl ?_)))
      refine Ops_split 30 rfl (fun hg13_ => ?_) (fun hg13_ => ?_)
      ·
       replace h := h.1 hg13_
       refine Ops_pass rfl rfl (Ops_pass rfl rfl (Ops_pass rfl rfl (Ops_step (R_pick_true rfl rfl) rfl rfl (Ops_step (R_pick_true rfl rfl) rfl rfl ?_))))
       refine Ops_nil ?_
       refine then_n ?_
       exact ⟨_, rfl, ⟨true, _, _, rfl, h, hI, hll11_, hhh11_, ht9_0, trivial⟩, ⟨rfl, rfl, trivial⟩⟩
      ·
       replace h := h.2 hg13_
       refine Ops_step (R_move rfl) rfl rfl (Ops_step (R_move rfl) rfl rfl (Ops_step (R_gtr rfl rfl) rfl rfl (Ops_step (R_pick_false rfl rfl) rfl rfl (Ops_step (R_pick_true rfl rfl) rfl rfl ?_))))
       refine Ops_nil ?_
       refine then_n ?_
       exact ⟨_, rfl, ⟨(decide (r9_0 > x2)), _, _, rfl, h, hI, hll11_, hhh11_, ht9_0, trivial⟩, ⟨rfl, rfl, trivial⟩⟩
     ·
      replace h := h.2 hg12_
      refine Ops_pass rfl rfl (Ops_pass rfl rfl (Ops_pass rfl rfl (Ops_pass rfl rfl (Ops_passU rfl rfl ?_))))
      refine Ops_passU rfl rfl (Ops_passU rfl rfl (Ops_pass rfl rfl (Ops_step (R_pick_false rfl rfl) rfl rfl ?_)))
      refine Ops_nil ?_
      refine then_n ?_
      exact ⟨_, rfl, ⟨false, _, _, rfl, h, hI, hll11_, hhh11_, ht9_0, trivial⟩, ⟨rfl, rfl, trivial⟩⟩
    ·
     simp only [e_, Nat.reduceAdd, Nat.reduceBEq] at b_
     subst b_
     clear h
     clear ht9_0
     rintro _ w11_ ⟨x35_11, L11_, H11_, rfl, hJ11_, hI11_, hll11_, hhh11_, ht9_0, -⟩
     replace hI := hI11_
     clear hI11_
     have h := hr11_ x35_11 hJ11_
     clear hr11_ hJ11_
     replace hs9_0_1 := hs9_0_1.up hhh11_
     replace hll10_ := hll10_.trans hll11_
     replace hhh10_ := hhh10_.trans hhh11_
     refine W_cond rfl (fun hc14_ => ?_) (fun hc14_ => ?_)
     ·
      replace h := h.1 hc14_
      refine W_region [36, 37, 38, 39, 40, 41, 42, 43, 44, 45, 46, none, 47, 48, 49, none] rfl (Ops_step (R_move rfl) rfl rfl (Ops_step (R_move rfl) rfl rfl (Ops_step (R_move rfl) rfl rfl (Ops_step (R_nilCheck rfl) rfl rfl ?_))))
      refine Ops_step (R_fieldAddr fo88_0 rfl) rfl rfl (Ops_step (R_fieldAddr fo86_1 rfl) rfl rfl ?_)
      refine Ops_step (R_loadB (v := vi y9_0.source_.at_) ag3 rfl ht9_0.blk rfl) rfl rfl ?_
      have hk15_ := h.1
      replace h := h.2
      refine Ops_step (R_sub rfl rfl (wI hk15_.1 hk15_.2)) rfl rfl (Ops_step (R_nilCheck rfl) rfl rfl (Ops_step (R_fieldAddr fo88_0 rfl) rfl rfl (Ops_step (R_fieldAddr fo86_1 rfl) rfl rfl ?_)))
      refine Ops_to0 (R_store sz3 rfl rfl ht9_0.blk (by show 1 < 4; decide) rfl) rfl ?_
      rintro _ w16_ ⟨hB16_, hF16_⟩
      replace hI := hI.tok hF16_ (out1 ht9_0.out) (mem1 (by simp))
      replace ht9_0 : Tok H11_ _ d0 tb0 ([.slice A9_0_1 y9_0.source_.b_.length c9_0_1, vi (y9_0.source_.at_ - 8), vi y9_0.source_.err_, .bool y9_0.source_.made_]) := ⟨hB16_, ht9_0.out⟩
      clear hF16_ hB16_
      refine Ops_step (R_nilCheck rfl) rfl rfl (Ops_step (R_fieldAddr fo88_0 rfl) rfl rfl (Ops_step (R_fieldAddr fo86_2 rfl) rfl rfl ?_))
      refine Ops_to0 (R_store sz22 rfl rfl ht9_0.blk (by show 2 < 4; decide) rfl) rfl ?_
      rintro _ w17_ ⟨hB17_, hF17_⟩
      replace hI := hI.tok hF17_ (out1 ht9_0.out) (mem1 (by simp))
      replace ht9_0 : Tok H11_ _ d0 tb0 ([.slice A9_0_1 y9_0.source_.b_.length c9_0_1, vi (y9_0.source_.at_ - 8), vi 5, .bool y9_0.source_.made_]) := ⟨hB17_, ht9_0.out⟩
      clear hF17_ hB17_
      refine Ops_nil ?_
      refine then_n ?_
      exact ⟨_, rfl, ⟨(octet_Reader.mk (octet_source.mk y9_0.source_.b_ (y9_0.source_.at_ - 8) 5 y9_0.source_.made_)), _, _, rfl, h, hI, hll10_, hhh10_, ⟨_, ⟨A9_0_1, c9_0_1, rfl, ⟨hc9_0_1, hs9_0_1⟩⟩, ht9_0⟩, trivial⟩, ⟨rfl, rfl, trivial⟩⟩
     ·
      replace h := h.2 hc14_
      refine W_skip ?_
      refine then_n ?_
      exact ⟨_, rfl, ⟨y9_0, _, _, rfl, h, hI, hll10_, hhh10_, ⟨_, ⟨A9_0_1, c9_0_1, rfl, ⟨hc9_0_1, hs9_0_1⟩⟩, ht9_0⟩, trivial⟩, ⟨rfl, rfl, trivial⟩⟩
   ·
    simp only [e_, Nat.reduceAdd, Nat.reduceBEq] at b_
    subst b_
    clear h
    rintro _ w10_ ⟨yd0_10, L10_, H10_, rfl, hJ10_, hI10_, hll10_, hhh10_, hqd0_10, -⟩
    replace hI := hI10_
    clear hI10_
    have h := hr10_ yd0_10 hJ10_
    clear hr10_ hJ10_
    replace hs9_0_1 := hs9_0_1.up hhh10_
    obtain ⟨ld0_10_, hld0_10_, htd0_10⟩ := hqd0_10
    obtain ⟨Ad0_10_1, cd0_10_1, rfl, ⟨hcd0_10_1, hsd0_10_1⟩⟩ := hld0_10_
    refine W_seq_k fun K18 k18 => ?_
    refine W_seq_k fun K19 k19 => ?_
    refine W_region [50, 51, 52, 53, 54, 55] rfl (Ops_step (R_move rfl) rfl rfl (Ops_step (R_nilCheck rfl) rfl rfl (Ops_step (R_fieldAddr fo88_0 rfl) rfl rfl (Ops_step (R_fieldAddr fo86_2 rfl) rfl rfl ?_))))
    refine Ops_step (R_loadB (v := vi yd0_10.source_.err_) ag22 rfl htd0_10.blk rfl) rfl rfl ?_
    refine Ops_step (R_neq rfl rfl) rfl rfl ?_
    refine Ops_nil ?_
    refine then_n (k19 _ _ ?_)
    clear k19 K19
    refine W_keepB [7, 55] fun B_ b_ => ?_
    simp only [e_, Nat.reduceAdd, Nat.reduceBEq] at b_
    subst b_
    refine W_if rfl (fun hc21_ => ?_) (fun hc21_ => ?_)
    ·
     replace h := h.1 hc21_
     refine W_seq_k fun K22 k22 => ?_
     refine W_region [6] rfl (Ops_step (R_assign rfl) rfl rfl ?_)
     refine Ops_nil ?_
     refine then_n (k22 _ _ ?_)
     clear k22 K22
     refine W_ret ?_
     refine then_ret ?_
     clear k18 K18
     refine ⟨_, ⟨_, _, rfl, rfl, rfl⟩, ?_⟩
     exact ⟨0, yd0_10, _, _, rfl, hI, ⟨_, ⟨Ad0_10_1, cd0_10_1, rfl, ⟨hcd0_10_1, hsd0_10_1⟩⟩, htd0_10⟩, h⟩
    ·
     replace h := h.2 hc21_
     refine W_skip ?_
     refine then_n (k18 _ _ ?_)
     clear k18 K18
     refine W_seq_k fun K23 k23 => ?_
     refine W_region [56, 6] rfl (Ops_step (R_move rfl) rfl rfl (Ops_step (R_assign rfl) rfl rfl ?_))
     refine Ops_nil ?_
     refine then_n (k23 _ _ ?_)
     clear k23 K23
     refine W_ret ?_
     refine ⟨_, ⟨_, _, rfl, rfl, rfl⟩, ?_⟩
     exact ⟨r9_0, yd0_10, _, _, rfl, hI, ⟨_, ⟨Ad0_10_1, cd0_10_1, rfl, ⟨hcd0_10_1, hsd0_10_1⟩⟩, htd0_10⟩, h⟩

theorem octet_Reader_Bytes_ok {G : Gh} {w : World} (hS : St G w) (hg : GL G) {d0 tb0 : Nat} {x0 : octet_Reader} (hr0 : Ob tb0 G G w d0 x0) {x1 : Int} {Q : (List UInt8) → octet_Reader → Prop} (h : octet_Reader_Bytes x0 x1 Q) : Calls Tryd.prog 82 #[.pointer (some ⟨d0, 0, none⟩), vi x1] w fun e w2 => ∃ (A0 : Option Addr) (c0 : Nat) (r0 : List UInt8) (y0 : octet_Reader) (L H : Gh), e = .returned (.slice A0 r0.length c0) ∧ Inv [d0] G w L H w2 ∧ OwnS w.heap.size 5 L H w2 A0 c0 r0 ∧ Ob tb0 H H w2 d0 y0 ∧ Q r0 y0 := by
 unfold octet_Reader_Bytes at h
 have hI := Inv.start (M := [d0]) hS
 refine calls_W 60 Tryd.func82 rfl Tryd.ntmps82 rfl [.tmp 4] rfl ?_
 obtain ⟨l0_, hl0_, ht0⟩ := hr0
 obtain ⟨A0_1, c0_1, rfl, ⟨hc0_1, hs0_1⟩⟩ := hl0_
 have hlt_d0 := ht0.blk.lt
 refine W_seq_k fun K1 k1 => ?_
 refine W_region [4] rfl (Ops_step (R_assign rfl) rfl rfl ?_)
 refine Ops_nil ?_
 refine then_n (k1 _ _ ?_)
 clear k1 K1
 refine W_seq_k fun K2 k2 => ?_
 refine ex_ h fun J3_ hr3_ h => ?_
 refine W_seq_join [0, 1] [17] (fun vals_ w2 => ∃ (x17_3 : Bool) (L H : Gh), vals_ = [.bool x17_3] ∧ J3_ x17_3 ∧ Inv [d0] G w L H w2 ∧ Le Gh.no L ∧ Le G H ∧ Tok H w2 d0 tb0 ([.slice A0_1 x0.source_.b_.length c0_1, vi x0.source_.at_, vi x0.source_.err_, .bool x0.source_.made_]) ∧ True) (fun B_ b_ => ?_) (fun B_ b_ => ?_)
 ·
  simp only [e_, Nat.reduceAdd, Nat.reduceBEq] at b_
  subst b_
  clear hr3_
  have hll3_ := Le.refl Gh.no
  have hhh3_ := Le.refl G
  refine W_region [8, 9, 10, 11, 12, 13, 14, 15, 16, 17] rfl (Ops_step (R_move rfl) rfl rfl ?_)
  refine Ops_call (C_func bd70 rfl) rfl rfl ?_
  refine (octet_Reader_dead_ok (x0 := x0) hI.st (hg.up hI.le) ⟨_, ⟨A0_1, c0_1, rfl, ⟨hc0_1, hs0_1⟩⟩, ht0⟩ h).mono ?_
  rintro _ w4_ ⟨r4_0, L4_, H4_, rfl, hI4_, h⟩
  refine Exists.elim (hI.call hI4_ (by simp)) fun L40_ h4_ => ?_
  have hz4_ := hI.size
  replace hI := h4_.1
  have u4_ := h4_.2.1
  have hl4_ := h4_.2.2
  clear h4_
  replace hs0_1 := hs0_1.up u4_.hh
  replace ht0 := ht0.up u4_ (by simp)
  replace hll3_ := hll3_.trans u4_.ll
  replace hhh3_ := hhh3_.trans u4_.hh
  clear hI4_ u4_ hl4_
  refine ⟨_, rfl, ?_⟩
  refine Ops_step (R_move rfl) rfl rfl ?_
  refine Ops_splitB 10 rfl (fun hg5_ => ?_) (fun hg5_ => ?_)
  ·
   replace h := h.1 hg5_
   refine Ops_pass rfl rfl (Ops_pass rfl rfl (Ops_pass rfl rfl (Ops_pass rfl rfl (Ops_pass rfl rfl ?_))))
   refine Ops_pass rfl rfl (Ops_step (R_pick_true rfl rfl) rfl rfl ?_)
   refine Ops_nil ?_
   refine then_n ?_
   exact ⟨_, rfl, ⟨true, _, _, rfl, h, hI, hll3_, hhh3_, ht0, trivial⟩, ⟨rfl, rfl, trivial⟩⟩
  ·
   replace h := h.2 hg5_
   refine Ops_step (R_move rfl) rfl rfl (Ops_step (R_nilCheck rfl) rfl rfl (Ops_step (R_fieldAddr fo88_0 rfl) rfl rfl (Ops_step (R_fieldAddr fo86_2 rfl) rfl rfl ?_)))
   refine Ops_step (R_loadB (v := vi x0.source_.err_) ag22 rfl ht0.blk rfl) rfl rfl ?_
   refine Ops_step (R_neq rfl rfl) rfl rfl (Ops_step (R_pick_false rfl rfl) rfl rfl ?_)
   refine Ops_nil ?_
   refine then_n ?_
   exact ⟨_, rfl, ⟨(decide (x0.source_.err_ ≠ 0)), _, _, rfl, h, hI, hll3_, hhh3_, ht0, trivial⟩, ⟨rfl, rfl, trivial⟩⟩
 ·
  simp only [e_, Nat.reduceAdd, Nat.reduceBEq] at b_
  subst b_
  clear h
  clear ht0
  rintro _ w3_ ⟨x17_3, L3_, H3_, rfl, hJ3_, hI3_, hll3_, hhh3_, ht0, -⟩
  replace hI := hI3_
  clear hI3_
  have h := hr3_ x17_3 hJ3_
  clear hr3_ hJ3_
  replace hs0_1 := hs0_1.up hhh3_
  refine W_cond rfl (fun hc6_ => ?_) (fun hc6_ => ?_)
  ·
   replace h := h.1 hc6_
   refine W_seq_k fun K7 k7 => ?_
   refine W_region [4] rfl (Ops_step (R_assign rfl) rfl rfl ?_)
   refine Ops_nil ?_
   refine then_n (k7 _ _ ?_)
   clear k7 K7
   refine W_ret ?_
   refine then_ret ?_
   clear k2 K2
   refine ⟨_, ⟨_, _, rfl, rfl, rfl⟩, ?_⟩
   exact ⟨none, 0, [], x0, _, _, rfl, hI, OwnS.nil, ⟨_, ⟨A0_1, c0_1, rfl, ⟨hc0_1, hs0_1⟩⟩, ht0⟩, h⟩
  ·
   replace h := h.2 hc6_
   refine W_skip ?_
   refine then_n (k2 _ _ ?_)
   clear k2 K2
   refine W_seq_k fun K8 k8 => ?_
   refine W_region [18, 19, 20, 21, 22, 5] rfl (Ops_step (R_move rfl) rfl rfl (Ops_step (R_nilCheck rfl) rfl rfl (Ops_step (R_fieldAddr fo88_0 rfl) rfl rfl (Ops_step (R_fieldAddr fo86_1 rfl) rfl rfl ?_))))
   refine Ops_step (R_loadB (v := vi x0.source_.at_) ag3 rfl ht0.blk rfl) rfl rfl ?_
   refine Ops_step (R_assign rfl) rfl rfl ?_
   refine Ops_nil ?_
   refine then_n (k8 _ _ ?_)
   clear k8 K8
   refine W_keepB [0, 1, 5] fun B_ b_ => ?_
   simp only [e_, Nat.reduceAdd, Nat.reduceBEq] at b_
   subst b_
   refine W_seq_k fun K10 k10 => ?_
   refine W_region [23, 24, 6] rfl (Ops_step (R_move rfl) rfl rfl ?_)
   refine Ops_call (C_func bd62 rfl) rfl rfl ?_
   refine (octet_Reader_Number_ok (x0 := x0) hI.st (hg.up hI.le) ⟨_, ⟨A0_1, c0_1, rfl, ⟨hc0_1, hs0_1⟩⟩, ht0⟩ h).mono ?_
   rintro _ w11_ ⟨r11_0, y11_0, L11_, H11_, rfl, hI11_, hq11_0, h⟩
   refine Exists.elim (hI.call hI11_ (mem1 (by simp))) fun L110_ h11_ => ?_
   have hz11_ := hI.size
   replace hI := h11_.1
   have u11_ := h11_.2.1
   have hl11_ := h11_.2.2
   clear h11_
   replace hs0_1 := hs0_1.up u11_.hh
   clear ht0
   obtain ⟨l11_0_, hl11_0_, ht11_0⟩ := hq11_0
   obtain ⟨A11_0_1, c11_0_1, rfl, ⟨hc11_0_1, hs11_0_1⟩⟩ := hl11_0_
   clear hI11_ u11_ hl11_
   refine ⟨_, rfl, ?_⟩
   refine Ops_step (R_assign rfl) rfl rfl ?_
   refine Ops_nil ?_
   refine then_n (k10 _ _ ?_)
   clear k10 K10
   refine ex_ h fun J12_ hr12_ h => ?_
   refine W_seq_join [0, 5, 6] [] (fun vals_ w2 => ∃ (yd0_12 : octet_Reader) (L H : Gh), vals_ = [] ∧ J12_ yd0_12 ∧ Inv [d0] G w L H w2 ∧ Le L110_ L ∧ Le H11_ H ∧ Ob tb0 H H w2 d0 yd0_12 ∧ True) (fun B_ b_ => ?_) (fun B_ b_ => ?_)
   ·
    simp only [e_, Nat.reduceAdd, Nat.reduceBEq] at b_
    subst b_
    clear hr12_
    have hll12_ := Le.refl L110_
    have hhh12_ := Le.refl H11_
    refine ex_ h fun J13_ hr13_ h => ?_
    refine W_seq_join [0, 5, 6] [36] (fun vals_ w2 => ∃ (x36_13 : Bool) (L H : Gh), vals_ = [.bool x36_13] ∧ J13_ x36_13 ∧ Inv [d0] G w L H w2 ∧ Le L110_ L ∧ Le H11_ H ∧ Tok H w2 d0 tb0 ([.slice A11_0_1 y11_0.source_.b_.length c11_0_1, vi y11_0.source_.at_, vi y11_0.source_.err_, .bool y11_0.source_.made_]) ∧ True) (fun B_ b_ => ?_) (fun B_ b_ => ?_)
    ·
     simp only [e_, Nat.reduceAdd, Nat.reduceBEq] at b_
     subst b_
     clear hr13_
     have hll13_ := Le.refl L110_
     have hhh13_ := Le.refl H11_
     refine W_region [25, 26, 27, 28, 29, 30, 31, 32, 33, 34, 35, 36] rfl (Ops_step (R_move rfl) rfl rfl (Ops_step (R_nilCheck rfl) rfl rfl (Ops_step (R_fieldAddr fo88_0 rfl) rfl rfl (Ops_step (R_fieldAddr fo86_2 rfl) rfl rfl ?_))))
     refine Ops_step (R_loadB (v := vi y11_0.source_.err_) ag22 rfl ht11_0.blk rfl) rfl rfl ?_
     refine Ops_step (R_eql rfl rfl) rfl rfl (Ops_step (R_move rfl) rfl rfl ?_)
     refine Ops_split 31 rfl (fun hg14_ => ?_) (fun hg14_ => ?_)
     ·
      replace h := h.1 hg14_
      refine Ops_step (R_move rfl) rfl rfl (Ops_step (R_move rfl) rfl rfl (Ops_step (R_max rfl rfl _root_.rfl) rfl rfl (Ops_step (R_gtr rfl rfl) rfl rfl (Ops_step (R_pick_true rfl rfl) rfl rfl ?_))))
      refine Ops_nil ?_
      refine then_n ?_
      exact ⟨_, rfl, ⟨(decide (r11_0 > (max x1 0))), _, _, rfl, h, hI, hll13_, hhh13_, ht11_0, trivial⟩, ⟨rfl, rfl, rfl, trivial⟩⟩
     ·
      replace h := h.2 hg14_
      refine Ops_pass rfl rfl (Ops_pass rfl rfl (Ops_pass rfl rfl (Ops_pass rfl rfl (Ops_step (R_pick_false rfl rfl) rfl rfl ?_))))
      refine Ops_nil ?_
      refine then_n ?_
      exact ⟨_, rfl, ⟨false, _, _, rfl, h, hI, hll13_, hhh13_, ht11_0, trivial⟩, ⟨rfl, rfl, rfl, trivial⟩⟩
    ·
     simp only [e_, Nat.reduceAdd, Nat.reduceBEq] at b_
     subst b_
     clear h
     clear ht11_0
     rintro _ w13_ ⟨x36_13, L13_, H13_, rfl, hJ13_, hI13_, hll13_, hhh13_, ht11_0, -⟩
     replace hI := hI13_
     clear hI13_
     have h := hr13_ x36_13 hJ13_
     clear hr13_ hJ13_
     replace hs11_0_1 := hs11_0_1.up hhh13_
     replace hll12_ := hll12_.trans hll13_
     replace hhh12_ := hhh12_.trans hhh13_
     refine W_cond rfl (fun hc15_ => ?_) (fun hc15_ => ?_)
     ·
      replace h := h.1 hc15_
      refine W_region [37, 38, 39, 40, none] rfl (Ops_step (R_move rfl) rfl rfl (Ops_step (R_nilCheck rfl) rfl rfl (Ops_step (R_fieldAddr fo88_0 rfl) rfl rfl (Ops_step (R_fieldAddr fo86_2 rfl) rfl rfl ?_))))
      refine Ops_to0 (R_store sz22 rfl rfl ht11_0.blk (by show 2 < 4; decide) rfl) rfl ?_
      rintro _ w16_ ⟨hB16_, hF16_⟩
      replace hI := hI.tok hF16_ (out1 ht11_0.out) (mem1 (by simp))
      replace ht11_0 : Tok H13_ _ d0 tb0 ([.slice A11_0_1 y11_0.source_.b_.length c11_0_1, vi y11_0.source_.at_, vi 4, .bool y11_0.source_.made_]) := ⟨hB16_, ht11_0.out⟩
      clear hF16_ hB16_
      refine Ops_nil ?_
      refine then_n ?_
      exact ⟨_, rfl, ⟨(octet_Reader.mk (octet_source.mk y11_0.source_.b_ y11_0.source_.at_ 4 y11_0.source_.made_)), _, _, rfl, h, hI, hll12_, hhh12_, ⟨_, ⟨A11_0_1, c11_0_1, rfl, ⟨hc11_0_1, hs11_0_1⟩⟩, ht11_0⟩, trivial⟩, ⟨rfl, rfl, rfl, trivial⟩⟩
     ·
      replace h := h.2 hc15_
      refine W_skip ?_
      refine then_n ?_
      exact ⟨_, rfl, ⟨y11_0, _, _, rfl, h, hI, hll12_, hhh12_, ⟨_, ⟨A11_0_1, c11_0_1, rfl, ⟨hc11_0_1, hs11_0_1⟩⟩, ht11_0⟩, trivial⟩, ⟨rfl, rfl, rfl, trivial⟩⟩
   ·
    simp only [e_, Nat.reduceAdd, Nat.reduceBEq] at b_
    subst b_
    clear h
    rintro _ w12_ ⟨yd0_12, L12_, H12_, rfl, hJ12_, hI12_, hll12_, hhh12_, hqd0_12, -⟩
    replace hI := hI12_
    clear hI12_
    have h := hr12_ yd0_12 hJ12_
    clear hr12_ hJ12_
    replace hs11_0_1 := hs11_0_1.up hhh12_
    obtain ⟨ld0_12_, hld0_12_, htd0_12⟩ := hqd0_12
    obtain ⟨Ad0_12_1, cd0_12_1, rfl, ⟨hcd0_12_1, hsd0_12_1⟩⟩ := hld0_12_
    refine W_seq_k fun K17 k17 => ?_
    refine W_region [41, 42, 43, 44, 45, 7] rfl (Ops_step (R_move rfl) rfl rfl (Ops_step (R_nilCheck rfl) rfl rfl (Ops_step (R_fieldAddr fo88_0 rfl) rfl rfl (Ops_step (R_move rfl) rfl rfl ?_))))
    refine Ops_call (C_func bd81 rfl) rfl rfl ?_
    refine (octet_source_take_ok (x0 := yd0_12.source_) (x1 := r11_0) hI.st (hg.up hI.le) ⟨_, ⟨Ad0_12_1, cd0_12_1, rfl, ⟨hcd0_12_1, hsd0_12_1⟩⟩, htd0_12⟩ h).mono ?_
    rintro _ w18_ ⟨A18_0, c18_0, r18_0, y18_0, L18_, H18_, rfl, hI18_, hc18_0, hs18_0, hq18_0, h⟩
    refine Exists.elim (hI.call hI18_ (mem1 (by simp))) fun L180_ h18_ => ?_
    have hz18_ := hI.size
    replace hI := h18_.1
    have u18_ := h18_.2.1
    have hl18_ := h18_.2.2
    clear h18_
    replace hsd0_12_1 := hsd0_12_1.up u18_.hh
    replace hs18_0 := hs18_0.up (Le.refl _)
    clear htd0_12
    obtain ⟨l18_0_, hl18_0_, ht18_0⟩ := hq18_0
    obtain ⟨A18_0_1, c18_0_1, rfl, ⟨hc18_0_1, hs18_0_1⟩⟩ := hl18_0_
    clear hI18_ u18_ hl18_
    refine ⟨_, rfl, ?_⟩
    refine Ops_step (R_assign rfl) rfl rfl ?_
    refine Ops_nil ?_
    refine then_n (k17 _ _ ?_)
    clear k17 K17
    refine W_keepB [0, 5, 7] fun B_ b_ => ?_
    simp only [e_, Nat.reduceAdd, Nat.reduceBEq] at b_
    subst b_
    refine W_seq_k fun K20 k20 => ?_
    refine W_seq_k fun K21 k21 => ?_
    refine W_region [46, 47, 48, 49, 50, 51] rfl (Ops_step (R_move rfl) rfl rfl (Ops_step (R_nilCheck rfl) rfl rfl (Ops_step (R_fieldAddr fo88_0 rfl) rfl rfl (Ops_step (R_fieldAddr fo86_2 rfl) rfl rfl ?_))))
    refine Ops_step (R_loadB (v := vi y18_0.err_) ag22 rfl ht18_0.blk rfl) rfl rfl ?_
    refine Ops_step (R_neq rfl rfl) rfl rfl ?_
    refine Ops_nil ?_
    refine then_n (k21 _ _ ?_)
    clear k21 K21
    refine W_if rfl (fun hc22_ => ?_) (fun hc22_ => ?_)
    ·
     replace h := h.1 hc22_
     refine W_seq_k fun K23 k23 => ?_
     refine W_region [52, 53, 54, 55, 56, none] rfl (Ops_step (R_move rfl) rfl rfl (Ops_step (R_move rfl) rfl rfl (Ops_step (R_nilCheck rfl) rfl rfl (Ops_step (R_fieldAddr fo88_0 rfl) rfl rfl ?_))))
     refine Ops_step (R_fieldAddr fo86_1 rfl) rfl rfl ?_
     refine Ops_to0 (R_store sz3 rfl rfl ht18_0.blk (by show 1 < 4; decide) rfl) rfl ?_
     rintro _ w24_ ⟨hB24_, hF24_⟩
     replace hI := hI.tok hF24_ (out1 ht18_0.out) (mem1 (by simp))
     replace ht18_0 : Tok H18_ _ d0 tb0 ([.slice A18_0_1 y18_0.b_.length c18_0_1, vi x0.source_.at_, vi y18_0.err_, .bool y18_0.made_]) := ⟨hB24_, ht18_0.out⟩
     clear hF24_ hB24_
     refine Ops_nil ?_
     refine then_n (k23 _ _ ?_)
     clear k23 K23
     refine W_keepB [] fun B_ b_ => ?_
     simp only [e_, Nat.reduceAdd, Nat.reduceBEq] at b_
     subst b_
     refine W_seq_k fun K26 k26 => ?_
     refine W_region [4] rfl (Ops_step (R_assign rfl) rfl rfl ?_)
     refine Ops_nil ?_
     refine then_n (k26 _ _ ?_)
     clear k26 K26
     refine W_ret ?_
     refine then_ret ?_
     clear k20 K20
     refine ⟨_, ⟨_, _, rfl, rfl, rfl⟩, ?_⟩
     exact ⟨none, 0, [], (octet_Reader.mk (octet_source.mk y18_0.b_ x0.source_.at_ y18_0.err_ y18_0.made_)), _, _, rfl, hI, OwnS.nil, ⟨_, ⟨A18_0_1, c18_0_1, rfl, ⟨hc18_0_1, hs18_0_1⟩⟩, ht18_0⟩, h⟩
    ·
     replace h := h.2 hc22_
     refine W_skip ?_
     refine then_n (k20 _ _ ?_)
     clear k20 K20
     refine W_keepB [7] fun B_ b_ => ?_
     simp only [e_, Nat.reduceAdd, Nat.reduceBEq] at b_
     subst b_
     refine W_seq_k fun K28 k28 => ?_
     refine W_region [57, 58, 59, 4] rfl ?_
     refine Ops_to (R_buildSlice0 el30) rfl rfl ?_
     rintro _ w29_ ⟨b29_, rfl, hb29_, hB29_, hF29_⟩
     have ho29_ : OwnS w.heap.size 5 Gh.no H18_ _ (some ⟨b29_, 0, none⟩) 0 ([] : List UInt8) := OwnS.ofBlk hI.st hb29_ hB29_ (all2_sc' _) rfl (by have := hI.size; omega) (by show 0 ≤ maxLen; decide)
     replace hI := hI.fr0 hF29_
     replace ht18_0 := ht18_0.fr0 hF29_
     clear hF29_ hB29_
     refine Ops_step (R_move rfl) rfl rfl ?_
     have hk31_ := h.1
     replace h := h.2
     refine Ops_to (X_append (α := UInt8) (xs := ([] : List UInt8)) (ys := r18_0) el30 rfl rfl ho29_ (Srcs.sc (Srcs.ofSl Tryd.underlying30 hs18_0 hI.st (by decide))) hI.st hk31_ (by decide) hI.size) rfl rfl ?_
     rintro _ w30_ ⟨A30_, c30_, rfl, ho30_, hF30_, hbk30_⟩
     clear hbk30_
     replace hI := hI.tok hF30_ ho29_.out (ho29_.new (Nat.le_refl _))
     replace ht18_0 := ht18_0.fr hF30_ (ho29_.old hlt_d0)
     clear hF30_ ho29_
     refine Ops_step (R_assign rfl) rfl rfl ?_
     refine Ops_nil ?_
     refine then_n (k28 _ _ ?_)
     clear k28 K28
     refine W_ret ?_
     refine ⟨_, ⟨_, _, rfl, rfl, rfl⟩, ?_⟩
     exact ⟨A30_, c30_, (([] : List UInt8) ++ r18_0), (octet_Reader.mk y18_0), _, _, rfl, hI, (ho30_.hl (Le.no _)), ⟨_, ⟨A18_0_1, c18_0_1, rfl, ⟨hc18_0_1, hs18_0_1⟩⟩, ht18_0⟩, h⟩

theorem octet_Reader_Text_ok {G : Gh} {w : World} (hS : St G w) (hg : GL G) {d0 tb0 : Nat} {x0 : octet_Reader} (hr0 : Ob tb0 G G w d0 x0) {x1 : Int} {Q : Str → octet_Reader → Prop} (h : octet_Reader_Text x0 x1 Q) : Calls Tryd.prog 63 #[.pointer (some ⟨d0, 0, none⟩), vi x1] w fun e w2 => ∃ (r0 : Str) (y0 : octet_Reader) (L H : Gh), e = .returned (vs r0) ∧ Inv [d0] G w L H w2 ∧ Ob tb0 H H w2 d0 y0 ∧ Q r0 y0 := by
 unfold octet_Reader_Text at h
 have hI := Inv.start (M := [d0]) hS
 refine calls_W 71 Tryd.func63 rfl Tryd.ntmps63 rfl [.tmp 4] rfl ?_
 obtain ⟨l0_, hl0_, ht0⟩ := hr0
 obtain ⟨A0_1, c0_1, rfl, ⟨hc0_1, hs0_1⟩⟩ := hl0_
 have hlt_d0 := ht0.blk.lt
 refine W_seq_k fun K1 k1 => ?_
 refine W_region [4] rfl (Ops_step (R_assign rfl) rfl rfl ?_)
 refine Ops_nil ?_
 refine then_n (k1 _ _ ?_)
 clear k1 K1
 refine W_seq_k fun K2 k2 => ?_
 refine ex_ h fun J3_ hr3_ h => ?_
 refine W_seq_join [0, 1] [16] (fun vals_ w2 => ∃ (x16_3 : Bool) (L H : Gh), vals_ = [.bool x16_3] ∧ J3_ x16_3 ∧ Inv [d0] G w L H w2 ∧ Le Gh.no L ∧ Le G H ∧ Tok H w2 d0 tb0 ([.slice A0_1 x0.source_.b_.length c0_1, vi x0.source_.at_, vi x0.source_.err_, .bool x0.source_.made_]) ∧ True) (fun B_ b_ => ?_) (fun B_ b_ => ?_)
 ·
  simp only [e_, Nat.reduceAdd, Nat.reduceBEq] at b_
  subst b_
  clear hr3_
  have hll3_ := Le.refl Gh.no
  have hhh3_ := Le.refl G
  refine W_region [7, 8, 9, 10, 11, 12, 13, 14, 15, 16] rfl (Ops_step (R_move rfl) rfl rfl ?_)
  refine Ops_call (C_func bd70 rfl) rfl rfl ?_
  refine (octet_Reader_dead_ok (x0 := x0) hI.st (hg.up hI.le) ⟨_, ⟨A0_1, c0_1, rfl, ⟨hc0_1, hs0_1⟩⟩, ht0⟩ h).mono ?_
  rintro _ w4_ ⟨r4_0, L4_, H4_, rfl, hI4_, h⟩
  refine Exists.elim (hI.call hI4_ (by simp)) fun L40_ h4_ => ?_
  have hz4_ := hI.size
  replace hI := h4_.1
  have u4_ := h4_.2.1
  have hl4_ := h4_.2.2
  clear h4_
  replace hs0_1 := hs0_1.up u4_.hh
  replace ht0 := ht0.up u4_ (by simp)
  replace hll3_ := hll3_.trans u4_.ll
  replace hhh3_ := hhh3_.trans u4_.hh
  clear hI4_ u4_ hl4_
  refine ⟨_, rfl, ?_⟩
  refine Ops_step (R_move rfl) rfl rfl ?_
  refine Ops_splitB 9 rfl (fun hg5_ => ?_) (fun hg5_ => ?_)
  ·
   replace h := h.1 hg5_
   refine Ops_pass rfl rfl (Ops_pass rfl rfl (Ops_pass rfl rfl (Ops_pass rfl rfl (Ops_pass rfl rfl ?_))))
   refine Ops_pass rfl rfl (Ops_step (R_pick_true rfl rfl) rfl rfl ?_)
   refine Ops_nil ?_
   refine then_n ?_
   exact ⟨_, rfl, ⟨true, _, _, rfl, h, hI, hll3_, hhh3_, ht0, trivial⟩, ⟨rfl, rfl, trivial⟩⟩
  ·
   replace h := h.2 hg5_
   refine Ops_step (R_move rfl) rfl rfl (Ops_step (R_nilCheck rfl) rfl rfl (Ops_step (R_fieldAddr fo88_0 rfl) rfl rfl (Ops_step (R_fieldAddr fo86_2 rfl) rfl rfl ?_)))
   refine Ops_step (R_loadB (v := vi x0.source_.err_) ag22 rfl ht0.blk rfl) rfl rfl ?_
   refine Ops_step (R_neq rfl rfl) rfl rfl (Ops_step (R_pick_false rfl rfl) rfl rfl ?_)
   refine Ops_nil ?_
   refine then_n ?_
   exact ⟨_, rfl, ⟨(decide (x0.source_.err_ ≠ 0)), _, _, rfl, h, hI, hll3_, hhh3_, ht0, trivial⟩, ⟨rfl, rfl, trivial⟩⟩
 ·
  simp only [e_, Nat.reduceAdd, Nat.reduceBEq] at b_
  subst b_
  clear h
  clear ht0
  rintro _ w3_ ⟨x16_3, L3_, H3_, rfl, hJ3_, hI3_, hll3_, hhh3_, ht0, -⟩
  replace hI := hI3_
  clear hI3_
  have h := hr3_ x16_3 hJ3_
  clear hr3_ hJ3_
  replace hs0_1 := hs0_1.up hhh3_
  refine W_cond rfl (fun hc6_ => ?_) (fun hc6_ => ?_)
  ·
   replace h := h.1 hc6_
   refine W_seq_k fun K7 k7 => ?_
   refine W_region [4] rfl (Ops_step (R_assign rfl) rfl rfl ?_)
   refine Ops_nil ?_
   refine then_n (k7 _ _ ?_)
   clear k7 K7
   refine W_ret ?_
   refine then_ret ?_
   clear k2 K2
   refine ⟨_, ⟨_, _, rfl, rfl, rfl⟩, ?_⟩
   exact ⟨(Str.mk []), x0, _, _, rfl, hI, ⟨_, ⟨A0_1, c0_1, rfl, ⟨hc0_1, hs0_1⟩⟩, ht0⟩, h⟩
  ·
   replace h := h.2 hc6_
   refine W_skip ?_
   refine then_n (k2 _ _ ?_)
   clear k2 K2
   refine W_seq_k fun K8 k8 => ?_
   refine W_region [17, 18, 19, 20, 21, 5] rfl (Ops_step (R_move rfl) rfl rfl (Ops_step (R_nilCheck rfl) rfl rfl (Ops_step (R_fieldAddr fo88_0 rfl) rfl rfl (Ops_step (R_fieldAddr fo86_1 rfl) rfl rfl ?_))))
   refine Ops_step (R_loadB (v := vi x0.source_.at_) ag3 rfl ht0.blk rfl) rfl rfl ?_
   refine Ops_step (R_assign rfl) rfl rfl ?_
   refine Ops_nil ?_
   refine then_n (k8 _ _ ?_)
   clear k8 K8
   refine W_keepB [0, 1, 5] fun B_ b_ => ?_
   simp only [e_, Nat.reduceAdd, Nat.reduceBEq] at b_
   subst b_
   refine W_seq_k fun K10 k10 => ?_
   refine W_region [22, 23, 24, 25, 26, 27, 28, 6] rfl (Ops_step (R_move rfl) rfl rfl (Ops_step (R_move rfl) rfl rfl (Ops_step (R_max rfl rfl _root_.rfl) rfl rfl (Ops_step (R_min rfl rfl _root_.rfl) rfl rfl ?_))))
   have hk11_ := h.1
   replace h := h.2
   refine Ops_step (R_mul rfl rfl (wI hk11_.1 hk11_.2)) rfl rfl ?_
   refine Ops_call (C_func bd82 rfl) rfl rfl ?_
   refine (octet_Reader_Bytes_ok (x0 := x0) (x1 := (4 * (min (max x1 0) 16384))) hI.st (hg.up hI.le) ⟨_, ⟨A0_1, c0_1, rfl, ⟨hc0_1, hs0_1⟩⟩, ht0⟩ h).mono ?_
   rintro _ w12_ ⟨A12_0, c12_0, r12_0, y12_0, L12_, H12_, rfl, hI12_, ho12_0, hq12_0, h⟩
   refine Exists.elim (hI.call hI12_ (mem1 (by simp))) fun L120_ h12_ => ?_
   have hz12_ := hI.size
   replace hI := h12_.1
   have u12_ := h12_.2.1
   have hl12_ := h12_.2.2
   clear h12_
   replace hs0_1 := hs0_1.up u12_.hh
   replace ho12_0 := OwnS.backS ho12_0 hz12_ (Le.refl _)
   clear ht0
   obtain ⟨l12_0_, hl12_0_, ht12_0⟩ := hq12_0
   obtain ⟨A12_0_1, c12_0_1, rfl, ⟨hc12_0_1, hs12_0_1⟩⟩ := hl12_0_
   clear hI12_ u12_ hl12_
   refine ⟨_, rfl, ?_⟩
   refine Exists.elim (ho12_0.freeze hI) fun L13_ h13_ => Exists.elim h13_ fun H13_ h13_ => ?_
   replace hI := h13_.1
   have u13_ := h13_.2.1
   have hs13_ := h13_.2.2.1 (Le.no _)
   have hc13_ := ho12_0.cap
   replace hs12_0_1 := hs12_0_1.up u13_.hh
   replace ht12_0 := ht12_0.up u13_ (ho12_0.old hlt_d0)
   clear h13_ u13_ ho12_0
   refine Ops_step (X_bytesStr (bs := r12_0) Tryd.underlying30 Tryd.underlying5 Tryd.underlying9 rfl rfl ((hs13_.up hI.sub).fz.rd hI.st)) rfl rfl ?_
   refine Ops_step (R_assign rfl) rfl rfl ?_
   refine Ops_nil ?_
   refine then_n (k10 _ _ ?_)
   clear k10 K10
   refine W_keepB [0, 1, 5, 6] fun B_ b_ => ?_
   simp only [e_, Nat.reduceAdd, Nat.reduceBEq] at b_
   subst b_
   refine ex_ h fun J15_ hr15_ h => ?_
   refine W_seq_join [0, 6] [] (fun vals_ w2 => ∃ (yd0_15 : octet_Reader) (L H : Gh), vals_ = [] ∧ J15_ yd0_15 ∧ Inv [d0] G w L H w2 ∧ Le L13_ L ∧ Le H13_ H ∧ Ob tb0 H H w2 d0 yd0_15 ∧ True) (fun B_ b_ => ?_) (fun B_ b_ => ?_)
   ·
    simp only [e_, Nat.reduceAdd, Nat.reduceBEq] at b_
    subst b_
    clear hr15_
    have hll15_ := Le.refl L13_
    have hhh15_ := Le.refl H13_
    refine W_block ?_
    refine W_seq_k fun K16 k16 => ?_
    refine W_region [30, 31, 32, 33, 34, 35, 29] rfl (Ops_step (R_move rfl) rfl rfl (Ops_step (R_nilCheck rfl) rfl rfl (Ops_step (R_fieldAddr fo88_0 rfl) rfl rfl (Ops_step (R_fieldAddr fo86_2 rfl) rfl rfl ?_))))
    refine Ops_step (R_loadB (v := vi y12_0.source_.err_) ag22 rfl ht12_0.blk rfl) rfl rfl ?_
    refine Ops_step (R_neq rfl rfl) rfl rfl (Ops_step (R_assign rfl) rfl rfl ?_)
    refine Ops_nil ?_
    refine then_n (k16 _ _ ?_)
    clear k16 K16
    refine W_keepB [0, 1, 5, 6, 29] fun B_ b_ => ?_
    simp only [e_, Nat.reduceAdd, Nat.reduceBEq] at b_
    subst b_
    refine W_if rfl (fun hc18_ => ?_) (fun hc18_ => ?_)
    ·
     replace h := h.1 hc18_
     refine W_seq_k fun K19 k19 => ?_
     refine W_region [4] rfl (Ops_step (R_assign rfl) rfl rfl ?_)
     refine Ops_nil ?_
     refine then_n (k19 _ _ ?_)
     clear k19 K19
     refine W_ret ?_
     refine block_ret ?_
     refine then_ret ?_
     refine ⟨_, ⟨_, _, rfl, rfl, rfl⟩, ?_⟩
     exact ⟨(Str.mk []), y12_0, _, _, rfl, hI, ⟨_, ⟨A12_0_1, c12_0_1, rfl, ⟨hc12_0_1, hs12_0_1⟩⟩, ht12_0⟩, h⟩
    ·
     replace h := h.2 hc18_
     refine W_seq_k fun K20 k20 => ?_
     refine W_region [37, 38, 39, 36] rfl (Ops_step (R_move rfl) rfl rfl ?_)
     refine Ops_call (C_func bd83 rfl) rfl rfl ?_
     refine (utf8_ValidString_ok (x0 := (Str.mk r12_0)) hI.st (hg.up hI.le)  h).mono ?_
     rintro _ w21_ ⟨r21_0, L21_, H21_, rfl, hI21_, h⟩
     refine Exists.elim (hI.call hI21_ (by simp)) fun L210_ h21_ => ?_
     have hz21_ := hI.size
     replace hI := h21_.1
     have u21_ := h21_.2.1
     have hl21_ := h21_.2.2
     clear h21_
     replace hs12_0_1 := hs12_0_1.up u21_.hh
     replace ht12_0 := ht12_0.up u21_ (by simp)
     replace hll15_ := hll15_.trans u21_.ll
     replace hhh15_ := hhh15_.trans u21_.hh
     clear hI21_ u21_ hl21_
     refine ⟨_, rfl, ?_⟩
     refine Ops_step (R_not rfl) rfl rfl (Ops_step (R_assign rfl) rfl rfl ?_)
     refine Ops_nil ?_
     refine then_n (k20 _ _ ?_)
     clear k20 K20
     refine W_cond rfl (fun hc22_ => ?_) (fun hc22_ => ?_)
     ·
      replace h := h.1 hc22_
      refine W_region [40, 41, 42, 43, 44, 45, none, 46, 47, 48, none] rfl (Ops_step (R_move rfl) rfl rfl (Ops_step (R_move rfl) rfl rfl (Ops_step (R_move rfl) rfl rfl (Ops_step (R_nilCheck rfl) rfl rfl ?_))))
      refine Ops_step (R_fieldAddr fo88_0 rfl) rfl rfl (Ops_step (R_fieldAddr fo86_1 rfl) rfl rfl ?_)
      refine Ops_to0 (R_store sz3 rfl rfl ht12_0.blk (by show 1 < 4; decide) rfl) rfl ?_
      rintro _ w23_ ⟨hB23_, hF23_⟩
      replace hI := hI.tok hF23_ (out1 ht12_0.out) (mem1 (by simp))
      replace ht12_0 : Tok H21_ _ d0 tb0 ([.slice A12_0_1 y12_0.source_.b_.length c12_0_1, vi x0.source_.at_, vi y12_0.source_.err_, .bool y12_0.source_.made_]) := ⟨hB23_, ht12_0.out⟩
      clear hF23_ hB23_
      refine Ops_step (R_nilCheck rfl) rfl rfl (Ops_step (R_fieldAddr fo88_0 rfl) rfl rfl (Ops_step (R_fieldAddr fo86_2 rfl) rfl rfl ?_))
      refine Ops_to0 (R_store sz22 rfl rfl ht12_0.blk (by show 2 < 4; decide) rfl) rfl ?_
      rintro _ w24_ ⟨hB24_, hF24_⟩
      replace hI := hI.tok hF24_ (out1 ht12_0.out) (mem1 (by simp))
      replace ht12_0 : Tok H21_ _ d0 tb0 ([.slice A12_0_1 y12_0.source_.b_.length c12_0_1, vi x0.source_.at_, vi 21, .bool y12_0.source_.made_]) := ⟨hB24_, ht12_0.out⟩
      clear hF24_ hB24_
      refine Ops_nil ?_
      refine block_n ?_
      refine then_n ?_
      exact ⟨_, rfl, ⟨(octet_Reader.mk (octet_source.mk y12_0.source_.b_ x0.source_.at_ 21 y12_0.source_.made_)), _, _, rfl, h, hI, hll15_, hhh15_, ⟨_, ⟨A12_0_1, c12_0_1, rfl, ⟨hc12_0_1, hs12_0_1⟩⟩, ht12_0⟩, trivial⟩, ⟨rfl, rfl, trivial⟩⟩
     ·
      replace h := h.2 hc22_
      refine W_seq_k fun K25 k25 => ?_
      refine W_region [50, 51, 52, 53, 54, 49] rfl (Ops_step (R_move rfl) rfl rfl ?_)
      refine Ops_call (C_func bd84 rfl) rfl rfl ?_
      refine (utf8_RuneCountInString_ok (x0 := (Str.mk r12_0)) hI.st (hg.up hI.le)  h).mono ?_
      rintro _ w26_ ⟨r26_0, L26_, H26_, rfl, hI26_, h⟩
      refine Exists.elim (hI.call hI26_ (by simp)) fun L260_ h26_ => ?_
      have hz26_ := hI.size
      replace hI := h26_.1
      have u26_ := h26_.2.1
      have hl26_ := h26_.2.2
      clear h26_
      replace hs12_0_1 := hs12_0_1.up u26_.hh
      replace ht12_0 := ht12_0.up u26_ (by simp)
      replace hll15_ := hll15_.trans u26_.ll
      replace hhh15_ := hhh15_.trans u26_.hh
      clear hI26_ u26_ hl26_
      refine ⟨_, rfl, ?_⟩
      refine Ops_step (R_move rfl) rfl rfl (Ops_step (R_max rfl rfl _root_.rfl) rfl rfl (Ops_step (R_gtr rfl rfl) rfl rfl (Ops_step (R_assign rfl) rfl rfl ?_)))
      refine Ops_nil ?_
      refine then_n (k25 _ _ ?_)
      clear k25 K25
      refine W_keepB [0, 5, 6, 49] fun B_ b_ => ?_
      simp only [e_, Nat.reduceAdd, Nat.reduceBEq] at b_
      subst b_
      refine W_if rfl (fun hc28_ => ?_) (fun hc28_ => ?_)
      ·
       replace h := h.1 hc28_
       refine W_region [55, 56, 57, 58, 59, 60, none, 61, 62, 63, none] rfl (Ops_step (R_move rfl) rfl rfl (Ops_step (R_move rfl) rfl rfl (Ops_step (R_move rfl) rfl rfl (Ops_step (R_nilCheck rfl) rfl rfl ?_))))
       refine Ops_step (R_fieldAddr fo88_0 rfl) rfl rfl (Ops_step (R_fieldAddr fo86_1 rfl) rfl rfl ?_)
       refine Ops_to0 (R_store sz3 rfl rfl ht12_0.blk (by show 1 < 4; decide) rfl) rfl ?_
       rintro _ w29_ ⟨hB29_, hF29_⟩
       replace hI := hI.tok hF29_ (out1 ht12_0.out) (mem1 (by simp))
       replace ht12_0 : Tok H26_ _ d0 tb0 ([.slice A12_0_1 y12_0.source_.b_.length c12_0_1, vi x0.source_.at_, vi y12_0.source_.err_, .bool y12_0.source_.made_]) := ⟨hB29_, ht12_0.out⟩
       clear hF29_ hB29_
       refine Ops_step (R_nilCheck rfl) rfl rfl (Ops_step (R_fieldAddr fo88_0 rfl) rfl rfl (Ops_step (R_fieldAddr fo86_2 rfl) rfl rfl ?_))
       refine Ops_to0 (R_store sz22 rfl rfl ht12_0.blk (by show 2 < 4; decide) rfl) rfl ?_
       rintro _ w30_ ⟨hB30_, hF30_⟩
       replace hI := hI.tok hF30_ (out1 ht12_0.out) (mem1 (by simp))
       replace ht12_0 : Tok H26_ _ d0 tb0 ([.slice A12_0_1 y12_0.source_.b_.length c12_0_1, vi x0.source_.at_, vi 4, .bool y12_0.source_.made_]) := ⟨hB30_, ht12_0.out⟩
       clear hF30_ hB30_
       refine Ops_nil ?_
       refine block_n ?_
       refine then_n ?_
       exact ⟨_, rfl, ⟨(octet_Reader.mk (octet_source.mk y12_0.source_.b_ x0.source_.at_ 4 y12_0.source_.made_)), _, _, rfl, h, hI, hll15_, hhh15_, ⟨_, ⟨A12_0_1, c12_0_1, rfl, ⟨hc12_0_1, hs12_0_1⟩⟩, ht12_0⟩, trivial⟩, ⟨rfl, rfl, trivial⟩⟩
      ·
       replace h := h.2 hc28_
       refine W_skip ?_
       refine block_n ?_
       refine then_n ?_
       exact ⟨_, rfl, ⟨y12_0, _, _, rfl, h, hI, hll15_, hhh15_, ⟨_, ⟨A12_0_1, c12_0_1, rfl, ⟨hc12_0_1, hs12_0_1⟩⟩, ht12_0⟩, trivial⟩, ⟨rfl, rfl, trivial⟩⟩
   ·
    simp only [e_, Nat.reduceAdd, Nat.reduceBEq] at b_
    subst b_
    clear h
    rintro _ w15_ ⟨yd0_15, L15_, H15_, rfl, hJ15_, hI15_, hll15_, hhh15_, hqd0_15, -⟩
    replace hI := hI15_
    clear hI15_
    have h := hr15_ yd0_15 hJ15_
    clear hr15_ hJ15_
    replace hs12_0_1 := hs12_0_1.up hhh15_
    obtain ⟨ld0_15_, hld0_15_, htd0_15⟩ := hqd0_15
    obtain ⟨Ad0_15_1, cd0_15_1, rfl, ⟨hcd0_15_1, hsd0_15_1⟩⟩ := hld0_15_
    refine W_seq_k fun K31 k31 => ?_
    refine W_seq_k fun K32 k32 => ?_
    refine W_region [64, 65, 66, 67, 68, 69] rfl (Ops_step (R_move rfl) rfl rfl (Ops_step (R_nilCheck rfl) rfl rfl (Ops_step (R_fieldAddr fo88_0 rfl) rfl rfl (Ops_step (R_fieldAddr fo86_2 rfl) rfl rfl ?_))))
    refine Ops_step (R_loadB (v := vi yd0_15.source_.err_) ag22 rfl htd0_15.blk rfl) rfl rfl ?_
    refine Ops_step (R_neq rfl rfl) rfl rfl ?_
    refine Ops_nil ?_
    refine then_n (k32 _ _ ?_)
    clear k32 K32
    refine W_keepB [6, 69] fun B_ b_ => ?_
    simp only [e_, Nat.reduceAdd, Nat.reduceBEq] at b_
    subst b_
    refine W_if rfl (fun hc34_ => ?_) (fun hc34_ => ?_)
    ·
     replace h := h.1 hc34_
     refine W_seq_k fun K35 k35 => ?_
     refine W_region [4] rfl (Ops_step (R_assign rfl) rfl rfl ?_)
     refine Ops_nil ?_
     refine then_n (k35 _ _ ?_)
     clear k35 K35
     refine W_ret ?_
     refine then_ret ?_
     clear k31 K31
     refine ⟨_, ⟨_, _, rfl, rfl, rfl⟩, ?_⟩
     exact ⟨(Str.mk []), yd0_15, _, _, rfl, hI, ⟨_, ⟨Ad0_15_1, cd0_15_1, rfl, ⟨hcd0_15_1, hsd0_15_1⟩⟩, htd0_15⟩, h⟩
    ·
     replace h := h.2 hc34_
     refine W_skip ?_
     refine then_n (k31 _ _ ?_)
     clear k31 K31
     refine W_seq_k fun K36 k36 => ?_
     refine W_region [70, 4] rfl (Ops_step (R_move rfl) rfl rfl (Ops_step (R_assign rfl) rfl rfl ?_))
     refine Ops_nil ?_
     refine then_n (k36 _ _ ?_)
     clear k36 K36
     refine W_ret ?_
     refine ⟨_, ⟨_, _, rfl, rfl, rfl⟩, ?_⟩
     exact ⟨(Str.mk r12_0), yd0_15, _, _, rfl, hI, ⟨_, ⟨Ad0_15_1, cd0_15_1, rfl, ⟨hcd0_15_1, hsd0_15_1⟩⟩, htd0_15⟩, h⟩

end Go.Proofs.YtbjmngacjdcddaaDoor

