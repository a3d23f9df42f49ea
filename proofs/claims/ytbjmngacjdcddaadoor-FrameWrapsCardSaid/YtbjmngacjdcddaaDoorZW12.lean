/- What is shown of the program on the way to the law. -/
import Derived.Test.YtbjmngacjdcddaaDoorZW2
import Derived.Test.YtbjmngacjdcddaaDoorZW7
import Derived.Test.YtbjmngacjdcddaaDoorProg
set_option linter.unusedVariables false
set_option linter.unusedSimpArgs false
set_option maxHeartbeats 4000000
namespace Go.Lx
open Go Go.Sx
instance : Rp octet_source where
 n := 4
 cs := fun G x l => ∃ A1 c1, l = [.slice A1 x.b_.length c1, vi x.at_, vi x.err_, .bool x.made_] ∧ (x.b_.length ≤ c1 ∧ Sl G A1 x.b_)
 mono := fun hl ⟨A1, c1, e, ⟨a0, b0⟩⟩ => ⟨A1, c1, e, ⟨a0, b0.up hl⟩⟩
 len := fun ⟨A1, c1, e, _⟩ => by rw [e]; rfl
 one := fun ⟨A1, c1, e, _⟩ => by rw [e]; rfl
instance : Rp octet_Reader where
 n := 4
 cs := fun G x l => ∃ A1 c1, l = [.slice A1 x.source_.b_.length c1, vi x.source_.at_, vi x.source_.err_, .bool x.source_.made_] ∧ (x.source_.b_.length ≤ c1 ∧ Sl G A1 x.source_.b_)
 mono := fun hl ⟨A1, c1, e, ⟨a0, b0⟩⟩ => ⟨A1, c1, e, ⟨a0, b0.up hl⟩⟩
 len := fun ⟨A1, c1, e, _⟩ => by rw [e]; rfl
 one := fun ⟨A1, c1, e, _⟩ => by rw [e]; rfl
end Go.Lx
namespace Go.Proofs.YtbjmngacjdcddaaDoor
open Go Go.Sx Go.Lx
namespace TFtB
theorem hm : Tryd.prog.follows .mixedOrders = true := by kernel_rfl
theorem ag22 : aggB Tryd.prog 22 = some false := by kernel_rfl
theorem ag3 : aggB Tryd.prog 3 = some false := by kernel_rfl
theorem ag30 : aggB Tryd.prog 30 = some false := by kernel_rfl
theorem ag4 : aggB Tryd.prog 4 = some false := by kernel_rfl
theorem ag5 : aggB Tryd.prog 5 = some false := by kernel_rfl
theorem bd46 : bodied Tryd.prog 46 = true := by kernel_rfl
theorem bd62 : bodied Tryd.prog 62 = true := by kernel_rfl
theorem bd70 : bodied Tryd.prog 70 = true := by kernel_rfl
theorem bd81 : bodied Tryd.prog 81 = true := by kernel_rfl
theorem bd83 : bodied Tryd.prog 83 = true := by kernel_rfl
theorem bd84 : bodied Tryd.prog 84 = true := by kernel_rfl
theorem el30 : Elem Tryd.prog 30 5 1 1 := Elem.of (by kernel_rfl)
theorem fo86_0 : offB Tryd.prog 86 0 = some 0 := by kernel_rfl
theorem fo86_1 : offB Tryd.prog 86 1 = some 1 := by kernel_rfl
theorem fo86_2 : offB Tryd.prog 86 2 = some 2 := by kernel_rfl
theorem fo86_3 : offB Tryd.prog 86 3 = some 3 := by kernel_rfl
theorem fo88_0 : offB Tryd.prog 88 0 = some 0 := by kernel_rfl
theorem pl86 : partPl Tryd.prog 86 = some [(0, 1), (1, 1), (2, 1), (3, 1)] := by kernel_rfl
theorem pl88 : partPl Tryd.prog 88 = some [(0, 4)] := by kernel_rfl
theorem sz22 : sz Tryd.prog 22 = some 1 := by kernel_rfl
theorem sz3 : sz Tryd.prog 3 = some 1 := by kernel_rfl
theorem sz5 : sz Tryd.prog 5 = some 1 := by kernel_rfl
theorem zr86 : zr Tryd.prog 86 = some ([.slice none 0 0] ++ [.int .i64 0] ++ [.int .i64 0] ++ [.bool false]) := by kernel_rfl
theorem zr88 : zr Tryd.prog 88 = some ([.slice none 0 0] ++ [.int .i64 0] ++ [.int .i64 0] ++ [.bool false]) := by kernel_rfl
end TFtB
open TFtB
theorem octet_Read_ok {G : Gh} {w : World} (hS : St G w) (hg : GL G) {A0 : Option Addr} {c0 : Nat} {x0 : List UInt8} (hc0 : x0.length ≤ c0) (hs0 : Sl G A0 x0) {Q : octet_Reader → Prop} (h : octet_Read x0 Q) : Calls Tryd.prog 44 #[.slice A0 x0.length c0] w fun e w2 => ∃ (d0 : Nat) (r0 : octet_Reader) (L H : Gh), e = .returned (.pointer (some ⟨d0, 0, none⟩)) ∧ Inv [] G w L H w2 ∧ w.heap.size ≤ d0 ∧ Ob 88 L H w2 d0 r0 ∧ Q r0 := by
 unfold octet_Read at h
 have hI := Inv.start (M := []) hS
 refine calls_W 9 Tryd.func44 rfl Tryd.ntmps44 rfl [.tmp 2] rfl ?_
 refine W_seq_k fun K1 k1 => ?_
 refine W_region [2] rfl (Ops_step (R_assign rfl) rfl rfl ?_)
 refine Ops_nil ?_
 refine then_n (k1 _ _ ?_)
 clear k1 K1
 refine W_seq_k fun K2 k2 => ?_
 refine W_region [3, 4, 5, 6, 7, 8, 2] rfl ?_
 refine Ops_to (R_buildSlice0 el30) rfl rfl ?_
 rintro _ w3_ ⟨b3_, rfl, hb3_, hB3_, hF3_⟩
 have ho3_ : OwnS w.heap.size 5 Gh.no G _ (some ⟨b3_, 0, none⟩) 0 ([] : List UInt8) := OwnS.ofBlk hI.st hb3_ hB3_ (all2_sc' _) rfl (by have := hI.size; omega) (by show 0 ≤ maxLen; decide)
 replace hI := hI.fr0 hF3_
 clear hF3_ hB3_
 refine Ops_step (R_move rfl) rfl rfl ?_
 have hk5_ := h.1
 replace h := h.2
 refine Ops_to (X_append (α := UInt8) (xs := ([] : List UInt8)) (ys := x0) el30 rfl rfl ho3_ (Srcs.sc (Srcs.ofSl Tryd.underlying30 hs0 hI.st (by decide))) hI.st hk5_ (by decide) hI.size) rfl rfl ?_
 rintro _ w4_ ⟨A4_, c4_, rfl, ho4_, hF4_, hbk4_⟩
 clear hbk4_
 replace hI := hI.tok hF4_ ho3_.out (ho3_.new (Nat.le_refl _))
 clear hF4_ ho3_
 refine Exists.elim (ho4_.freeze hI) fun L6_ h6_ => Exists.elim h6_ fun H6_ h6_ => ?_
 replace hI := h6_.1
 have u6_ := h6_.2.1
 have hs6_ := h6_.2.2.1 (Le.no _)
 have hc6_ := ho4_.cap
 clear h6_ u6_ ho4_
 refine Ops_step (R_build (pl := [(0, 1), (3, 1)]) (cs := [.slice A4_ ((([] : List UInt8) ++ x0).length) c4_, vi 0, vi 0, .bool true]) zr86 pl86 rfl rfl rfl) rfl rfl ?_
 refine Ops_step (R_build (pl := [(0, 4)]) (cs := [.slice A4_ ((([] : List UInt8) ++ x0).length) c4_, vi 0, vi 0, .bool true]) zr88 pl88 rfl rfl rfl) rfl rfl ?_
 have hI0_ := hI
 refine Ops_to (R_box rfl) rfl rfl ?_
 rintro _ w7_ ⟨b7_, rfl, hb7_, hB7_, hF7_⟩
 replace hI := hI.fr0 hF7_
 have ht7_ : Tok H6_ _ b7_ 88 ([.slice A4_ ((([] : List UInt8) ++ x0).length) c4_, vi 0, vi 0, .bool true]) := ⟨hB7_.to rfl, Out.ge hI0_.st (Nat.le_of_eq hb7_.symm)⟩
 have hge_b7_ : w.heap.size ≤ b7_ := hb7_ ▸ hI0_.size
 clear hB7_ hb7_ hI0_ hF7_
 refine Ops_step (R_assign rfl) rfl rfl ?_
 refine Ops_nil ?_
 refine then_n (k2 _ _ ?_)
 clear k2 K2
 refine W_keepB [2] fun B_ b_ => ?_
 simp only [e_, Nat.reduceAdd, Nat.reduceBEq] at b_
 subst b_
 refine W_ret ?_
 refine ⟨_, ⟨_, _, rfl, rfl, rfl⟩, ?_⟩
 exact ⟨b7_, (octet_Reader.mk (octet_source.mk (([] : List UInt8) ++ x0) 0 0 true)), _, _, rfl, hI, hge_b7_, ⟨_, ⟨A4_, c4_, rfl, ⟨hc6_, hs6_⟩⟩, ht7_⟩, h⟩

theorem octet_Reader_dead_ok {G : Gh} {w : World} (hS : St G w) (hg : GL G) {d0 tb0 : Nat} {x0 : octet_Reader} (hr0 : Ob tb0 G G w d0 x0) {Q : Bool → Prop} (h : octet_Reader_dead x0 Q) : Calls Tryd.prog 70 #[.pointer (some ⟨d0, 0, none⟩)] w fun e w2 => ∃ (r0 : Bool) (L H : Gh), e = .returned (.bool r0) ∧ Inv [] G w L H w2 ∧ Q r0 := by
 unfold octet_Reader_dead at h
 have hI := Inv.start (M := []) hS
 refine calls_W 13 Tryd.func70 rfl Tryd.ntmps70 rfl [.tmp 2] rfl ?_
 obtain ⟨l0_, hl0_, ht0⟩ := hr0
 obtain ⟨A0_1, c0_1, rfl, ⟨hc0_1, hs0_1⟩⟩ := hl0_
 have hlt_d0 := ht0.blk.lt
 refine W_seq_k fun K1 k1 => ?_
 refine W_region [2] rfl (Ops_step (R_assign rfl) rfl rfl ?_)
 refine Ops_nil ?_
 refine then_n (k1 _ _ ?_)
 clear k1 K1
 refine W_seq_k fun K2 k2 => ?_
 refine W_region [3, 4, 5, 6, 7, 8, 9, 10, 11, 12, 2] rfl (Ops_step (R_move rfl) rfl rfl (Ops_step (R_ptrNil Tryd.underlying63 rfl rfl) rfl rfl (Ops_step (R_move rfl) rfl rfl (Ops_step (R_move rfl) rfl rfl ?_))))
 refine Ops_step (R_nilCheck rfl) rfl rfl (Ops_step (R_fieldAddr fo88_0 rfl) rfl rfl (Ops_step (R_fieldAddr fo86_3 rfl) rfl rfl ?_))
 refine Ops_step (R_loadB (v := .bool x0.source_.made_) ag4 rfl ht0.blk rfl) rfl rfl ?_
 refine Ops_step (R_not rfl) rfl rfl (Ops_step (R_pick_false rfl rfl) rfl rfl (Ops_step (R_assign rfl) rfl rfl ?_))
 refine Ops_nil ?_
 refine then_n (k2 _ _ ?_)
 clear k2 K2
 refine W_keepB [2] fun B_ b_ => ?_
 simp only [e_, Nat.reduceAdd, Nat.reduceBEq] at b_
 subst b_
 refine W_ret ?_
 refine ⟨_, ⟨_, _, rfl, rfl, rfl⟩, ?_⟩
 exact ⟨(!x0.source_.made_), _, _, rfl, hI, h⟩

theorem octet_source_take_ok {G : Gh} {w : World} (hS : St G w) (hg : GL G) {d0 tb0 : Nat} {x0 : octet_source} (hr0 : Ob tb0 G G w d0 x0) {x1 : Int} {Q : (List UInt8) → octet_source → Prop} (h : octet_source_take x0 x1 Q) : Calls Tryd.prog 81 #[.pointer (some ⟨d0, 0, none⟩), vi x1] w fun e w2 => ∃ (A0 : Option Addr) (c0 : Nat) (r0 : List UInt8) (y0 : octet_source) (L H : Gh), e = .returned (.slice A0 r0.length c0) ∧ Inv [d0] G w L H w2 ∧ r0.length ≤ c0 ∧ Sl H A0 r0 ∧ Ob tb0 H H w2 d0 y0 ∧ Q r0 y0 := by
 unfold octet_source_take at h
 have hI := Inv.start (M := [d0]) hS
 refine calls_W 48 Tryd.func81 rfl Tryd.ntmps81 rfl [.tmp 4] rfl ?_
 obtain ⟨l0_, hl0_, ht0⟩ := hr0
 obtain ⟨A0_1, c0_1, rfl, ⟨hc0_1, hs0_1⟩⟩ := hl0_
 have hlt_d0 := ht0.blk.lt
 refine W_seq_k fun K1 k1 => ?_
 refine W_region [4] rfl (Ops_step (R_assign rfl) rfl rfl ?_)
 refine Ops_nil ?_
 refine then_n (k1 _ _ ?_)
 clear k1 K1
 refine W_seq_k fun K2 k2 => ?_
 refine W_seq_k fun K3 k3 => ?_
 refine W_region [5, 6, 7, 8, 9] rfl (Ops_step (R_move rfl) rfl rfl (Ops_step (R_nilCheck rfl) rfl rfl (Ops_step (R_fieldAddr fo86_2 rfl) rfl rfl ?_)))
 refine Ops_step (R_loadB (v := vi x0.err_) ag22 rfl ht0.blk rfl) rfl rfl ?_
 refine Ops_step (R_neq rfl rfl) rfl rfl ?_
 refine Ops_nil ?_
 refine then_n (k3 _ _ ?_)
 clear k3 K3
 refine W_if rfl (fun hc4_ => ?_) (fun hc4_ => ?_)
 ·
  replace h := h.1 hc4_
  refine W_seq_k fun K5 k5 => ?_
  refine W_region [4] rfl (Ops_step (R_assign rfl) rfl rfl ?_)
  refine Ops_nil ?_
  refine then_n (k5 _ _ ?_)
  clear k5 K5
  refine W_keepB [4] fun B_ b_ => ?_
  simp only [e_, Nat.reduceAdd, Nat.reduceBEq] at b_
  subst b_
  refine W_ret ?_
  refine then_ret ?_
  clear k2 K2
  refine ⟨_, ⟨_, _, rfl, rfl, rfl⟩, ?_⟩
  exact ⟨none, 0, [], x0, _, _, rfl, hI, (Nat.le_refl 0), Sl.nil, ⟨_, ⟨A0_1, c0_1, rfl, ⟨hc0_1, hs0_1⟩⟩, ht0⟩, h⟩
 ·
  replace h := h.2 hc4_
  refine W_skip ?_
  refine then_n (k2 _ _ ?_)
  clear k2 K2
  refine W_keepB [0, 1] fun B_ b_ => ?_
  simp only [e_, Nat.reduceAdd, Nat.reduceBEq] at b_
  subst b_
  refine W_seq_k fun K8 k8 => ?_
  refine W_seq_k fun K9 k9 => ?_
  refine W_drawF [10, 11, 12, 13, 14, 15, 16, 17, 18, 19, 20, 21] [(0, true), (1, true), (2, true), (3, true), (4, true), (5, true), (6, true), (7, true), (8, true), (9, true), (10, true), (11, true)] TFtB.hm rfl (by kernel_rfl) fun ops10_ w10_ hops10_ hF10_ => ?_
  replace hI := hI.fr0 hF10_
  replace ht0 := ht0.fr0 hF10_
  clear hF10_
  refine HSp (R_move rfl) rfl rfl (HSp (R_move rfl) rfl rfl (HSp (R_nilCheck rfl) rfl rfl (HSp (R_fieldAddr fo86_0 rfl) rfl rfl ?_)))
  refine HS_loadB (v := .slice A0_1 x0.b_.length c0_1) ag30 rfl ht0.blk rfl rfl rfl ?_
  refine HSp (R_len Tryd.underlying30 rfl rfl) rfl rfl (HSp (R_move rfl) rfl rfl (HSp (R_nilCheck rfl) rfl rfl (HSp (R_fieldAddr fo86_1 rfl) rfl rfl ?_)))
  refine HS_loadB (v := vi x0.at_) ag3 rfl ht0.blk rfl rfl rfl ?_
  have hk11_ := h.1
  replace h := h.2
  refine HSp (R_sub rfl rfl (wI hk11_.1 hk11_.2)) rfl rfl (HSp (R_gtr rfl rfl) rfl rfl ?_)
  refine HS_nil ?_
  clear hops10_
  refine then_n (k9 _ _ ?_)
  clear k9 K9
  refine W_keepB [0, 1, 21] fun B_ b_ => ?_
  simp only [e_, Nat.reduceAdd, Nat.reduceBEq] at b_
  subst b_
  refine W_if rfl (fun hc13_ => ?_) (fun hc13_ => ?_)
  ·
   replace h := h.1 hc13_
   refine W_seq_k fun K14 k14 => ?_
   refine W_region [22, 23, 24, none] rfl (Ops_step (R_move rfl) rfl rfl (Ops_step (R_nilCheck rfl) rfl rfl (Ops_step (R_fieldAddr fo86_2 rfl) rfl rfl ?_)))
   refine Ops_to0 (R_store sz22 rfl rfl ht0.blk (by show 2 < 4; decide) rfl) rfl ?_
   rintro _ w15_ ⟨hB15_, hF15_⟩
   replace hI := hI.tok hF15_ (out1 ht0.out) (mem1 (by simp))
   replace ht0 : Tok G _ d0 tb0 ([.slice A0_1 x0.b_.length c0_1, vi x0.at_, vi 2, .bool x0.made_]) := ⟨hB15_, ht0.out⟩
   clear hF15_ hB15_
   refine Ops_nil ?_
   refine then_n (k14 _ _ ?_)
   clear k14 K14
   refine W_keepB [] fun B_ b_ => ?_
   simp only [e_, Nat.reduceAdd, Nat.reduceBEq] at b_
   subst b_
   refine W_seq_k fun K17 k17 => ?_
   refine W_region [4] rfl (Ops_step (R_assign rfl) rfl rfl ?_)
   refine Ops_nil ?_
   refine then_n (k17 _ _ ?_)
   clear k17 K17
   refine W_ret ?_
   refine then_ret ?_
   clear k8 K8
   refine ⟨_, ⟨_, _, rfl, rfl, rfl⟩, ?_⟩
   exact ⟨none, 0, [], (octet_source.mk x0.b_ x0.at_ 2 x0.made_), _, _, rfl, hI, (Nat.le_refl 0), Sl.nil, ⟨_, ⟨A0_1, c0_1, rfl, ⟨hc0_1, hs0_1⟩⟩, ht0⟩, h⟩
  ·
   replace h := h.2 hc13_
   refine W_skip ?_
   refine then_n (k8 _ _ ?_)
   clear k8 K8
   refine W_seq_k fun K18 k18 => ?_
   refine W_region [25, 26, 27, 28, 29, 30, 31, 32, none] rfl (Ops_step (R_move rfl) rfl rfl (Ops_step (R_nilCheck rfl) rfl rfl (Ops_step (R_fieldAddr fo86_1 rfl) rfl rfl ?_)))
   refine Ops_step (R_loadB (v := vi x0.at_) ag3 rfl ht0.blk rfl) rfl rfl ?_
   refine Ops_step (R_move rfl) rfl rfl ?_
   have hk19_ := h.1
   replace h := h.2
   refine Ops_step (R_add rfl rfl (wI hk19_.1 hk19_.2)) rfl rfl (Ops_step (R_nilCheck rfl) rfl rfl (Ops_step (R_fieldAddr fo86_1 rfl) rfl rfl ?_))
   refine Ops_to0 (R_store sz3 rfl rfl ht0.blk (by show 1 < 4; decide) rfl) rfl ?_
   rintro _ w20_ ⟨hB20_, hF20_⟩
   replace hI := hI.tok hF20_ (out1 ht0.out) (mem1 (by simp))
   replace ht0 : Tok G _ d0 tb0 ([.slice A0_1 x0.b_.length c0_1, vi (x0.at_ + x1), vi x0.err_, .bool x0.made_]) := ⟨hB20_, ht0.out⟩
   clear hF20_ hB20_
   refine Ops_nil ?_
   refine then_n (k18 _ _ ?_)
   clear k18 K18
   refine W_keepB [0, 1] fun B_ b_ => ?_
   simp only [e_, Nat.reduceAdd, Nat.reduceBEq] at b_
   subst b_
   refine W_seq_k fun K22 k22 => ?_
   refine W_drawF [33, 34, 35, 36, 37, 38, 39, 40, 41, 42, 43, 44, 45, 46, 47, 4] [(0, true), (1, true), (2, true), (3, true), (4, true), (5, true), (6, true), (7, true), (8, true), (9, true), (10, true), (11, true), (12, true), (13, true), (14, true), (15, true)] TFtB.hm rfl (by kernel_rfl) fun ops23_ w23_ hops23_ hF23_ => ?_
   replace hI := hI.fr0 hF23_
   replace ht0 := ht0.fr0 hF23_
   clear hF23_
   refine HSp (R_move rfl) rfl rfl (HSp (R_nilCheck rfl) rfl rfl (HSp (R_fieldAddr fo86_0 rfl) rfl rfl ?_))
   refine HS_loadB (v := .slice A0_1 x0.b_.length c0_1) ag30 rfl ht0.blk rfl rfl rfl ?_
   refine HSp (R_move rfl) rfl rfl (HSp (R_nilCheck rfl) rfl rfl (HSp (R_fieldAddr fo86_1 rfl) rfl rfl ?_))
   refine HS_loadB (v := vi (x0.at_ + x1)) ag3 rfl ht0.blk rfl rfl rfl ?_
   refine HSp (R_move rfl) rfl rfl ?_
   have hk24_ := h.1
   replace h := h.2
   refine HSp (R_sub rfl rfl (wI hk24_.1 hk24_.2)) rfl rfl (HSp (R_move rfl) rfl rfl (HSp (R_nilCheck rfl) rfl rfl (HSp (R_fieldAddr fo86_1 rfl) rfl rfl ?_)))
   refine HS_loadB (v := vi (x0.at_ + x1)) ag3 rfl ht0.blk rfl rfl rfl ?_
   have hk26_ := h.1
   replace h := h.2
   have hk27_ := h.1
   replace h := h.2
   have hk28_ := h.1
   replace h := h.2
   refine Exists.elim (cut_ex (n := 1) (l := ((x0.at_ + x1) - x1)) (h := (x0.at_ + x1)) hs0_1 rfl (by decide) hc0_1 hk26_ hk27_ hk28_) fun A25_ h25_ => Exists.elim h25_ fun c25_ h25_ => ?_
   have hr25_ := h25_.1
   have hc25_ := h25_.2.1
   have hs25_ := h25_.2.2
   clear h25_
   refine HSp (X_slice (xs := x0.b_) Tryd.underlying30 sz5 rfl hr25_ hc0_1 rfl rfl hk26_ hk27_ hk28_) rfl rfl ?_
   clear hr25_
   refine HSp (R_assign rfl) rfl rfl ?_
   refine HS_nil ?_
   clear hops23_
   refine then_n (k22 _ _ ?_)
   clear k22 K22
   refine W_keepB [4] fun B_ b_ => ?_
   simp only [e_, Nat.reduceAdd, Nat.reduceBEq] at b_
   subst b_
   refine W_ret ?_
   refine ⟨_, ⟨_, _, rfl, rfl, rfl⟩, ?_⟩
   exact ⟨A25_, c25_, (cut x0.b_ ((x0.at_ + x1) - x1) (x0.at_ + x1)), (octet_source.mk x0.b_ (x0.at_ + x1) x0.err_ x0.made_), _, _, rfl, hI, hc25_, hs25_, ⟨_, ⟨A0_1, c0_1, rfl, ⟨hc0_1, hs0_1⟩⟩, ht0⟩, h⟩

theorem octet_Reader_Err_ok {G : Gh} {w : World} (hS : St G w) (hg : GL G) {d0 tb0 : Nat} {x0 : octet_Reader} (hr0 : Ob tb0 G G w d0 x0) {Q : Int → Prop} (h : octet_Reader_Err x0 Q) : Calls Tryd.prog 46 #[.pointer (some ⟨d0, 0, none⟩)] w fun e w2 => ∃ (r0 : Int) (L H : Gh), e = .returned (vi r0) ∧ Inv [] G w L H w2 ∧ Q r0 := by
 unfold octet_Reader_Err at h
 have hI := Inv.start (M := []) hS
 refine calls_W 10 Tryd.func46 rfl Tryd.ntmps46 rfl [.tmp 2] rfl ?_
 obtain ⟨l0_, hl0_, ht0⟩ := hr0
 obtain ⟨A0_1, c0_1, rfl, ⟨hc0_1, hs0_1⟩⟩ := hl0_
 have hlt_d0 := ht0.blk.lt
 refine W_seq_k fun K1 k1 => ?_
 refine W_region [2] rfl (Ops_step (R_assign rfl) rfl rfl ?_)
 refine Ops_nil ?_
 refine then_n (k1 _ _ ?_)
 clear k1 K1
 refine W_seq_k fun K2 k2 => ?_
 refine W_seq_k fun K3 k3 => ?_
 refine W_region [3, 4] rfl (Ops_step (R_move rfl) rfl rfl ?_)
 refine Ops_call (C_func bd70 rfl) rfl rfl ?_
 refine (octet_Reader_dead_ok (x0 := x0) hI.st (hg.up hI.le) ⟨_, ⟨A0_1, c0_1, rfl, ⟨hc0_1, hs0_1⟩⟩, ht0⟩ h).mono ?_
 rintro _ w4_ ⟨r4_0, L4_, H4_, rfl, hI4_, h⟩
 refine Exists.elim (hI.call hI4_ (by simp)) fun L40_ h4_ => ?_
 have hz4_ := hI.size
 replace hI := h4_.1
 have u4_ := h4_.2.1
 have hl4_ := h4_.2.2
 clear h4_
 replace hs0_1 := hs0_1.up u4_.hh
 replace ht0 := ht0.up u4_ (by simp)
 clear hI4_ u4_ hl4_
 refine ⟨_, rfl, ?_⟩
 refine Ops_nil ?_
 refine then_n (k3 _ _ ?_)
 clear k3 K3
 refine W_cond rfl (fun hc5_ => ?_) (fun hc5_ => ?_)
 ·
  replace h := h.1 hc5_
  refine W_seq_k fun K6 k6 => ?_
  refine W_region [2] rfl (Ops_step (R_assign rfl) rfl rfl ?_)
  refine Ops_nil ?_
  refine then_n (k6 _ _ ?_)
  clear k6 K6
  refine W_ret ?_
  refine then_ret ?_
  clear k2 K2
  refine ⟨_, ⟨_, _, rfl, rfl, rfl⟩, ?_⟩
  exact ⟨6, _, _, rfl, hI, h⟩
 ·
  replace h := h.2 hc5_
  refine W_skip ?_
  refine then_n (k2 _ _ ?_)
  clear k2 K2
  refine W_seq_k fun K7 k7 => ?_
  refine W_region [5, 6, 7, 8, 9, 2] rfl (Ops_step (R_move rfl) rfl rfl (Ops_step (R_nilCheck rfl) rfl rfl (Ops_step (R_fieldAddr fo88_0 rfl) rfl rfl (Ops_step (R_fieldAddr fo86_2 rfl) rfl rfl ?_))))
  refine Ops_step (R_loadB (v := vi x0.source_.err_) ag22 rfl ht0.blk rfl) rfl rfl ?_
  refine Ops_step (R_assign rfl) rfl rfl ?_
  refine Ops_nil ?_
  refine then_n (k7 _ _ ?_)
  clear k7 K7
  refine W_keepB [2] fun B_ b_ => ?_
  simp only [e_, Nat.reduceAdd, Nat.reduceBEq] at b_
  subst b_
  refine W_ret ?_
  refine ⟨_, ⟨_, _, rfl, rfl, rfl⟩, ?_⟩
  exact ⟨x0.source_.err_, _, _, rfl, hI, h⟩

theorem octet_Reader_Number_ok {G : Gh} {w : World} (hS : St G w) (hg : GL G) {d0 tb0 : Nat} {x0 : octet_Reader} (hr0 : Ob tb0 G G w d0 x0) {Q : Int → octet_Reader → Prop} (h : octet_Reader_Number x0 Q) : Calls Tryd.prog 62 #[.pointer (some ⟨d0, 0, none⟩)] w fun e w2 => ∃ (r0 : Int) (y0 : octet_Reader) (L H : Gh), e = .returned (vi r0) ∧ Inv [d0] G w L H w2 ∧ Ob tb0 H H w2 d0 y0 ∧ Q r0 y0 := by
 unfold octet_Reader_Number at h
 have hI := Inv.start (M := [d0]) hS
 refine calls_W 43 Tryd.func62 rfl Tryd.ntmps62 rfl [.tmp 2] rfl ?_
 obtain ⟨l0_, hl0_, ht0⟩ := hr0
 obtain ⟨A0_1, c0_1, rfl, ⟨hc0_1, hs0_1⟩⟩ := hl0_
 have hlt_d0 := ht0.blk.lt
 refine W_seq_k fun K1 k1 => ?_
 refine W_region [2] rfl (Ops_step (R_assign rfl) rfl rfl ?_)
 refine Ops_nil ?_
 refine then_n (k1 _ _ ?_)
 clear k1 K1
 refine W_seq_k fun K2 k2 => ?_
 refine W_seq_k fun K3 k3 => ?_
 refine W_region [7, 8] rfl (Ops_step (R_move rfl) rfl rfl ?_)
 refine Ops_call (C_func bd70 rfl) rfl rfl ?_
 refine (octet_Reader_dead_ok (x0 := x0) hI.st (hg.up hI.le) ⟨_, ⟨A0_1, c0_1, rfl, ⟨hc0_1, hs0_1⟩⟩, ht0⟩ h).mono ?_
 rintro _ w4_ ⟨r4_0, L4_, H4_, rfl, hI4_, h⟩
 refine Exists.elim (hI.call hI4_ (by simp)) fun L40_ h4_ => ?_
 have hz4_ := hI.size
 replace hI := h4_.1
 have u4_ := h4_.2.1
 have hl4_ := h4_.2.2
 clear h4_
 replace hs0_1 := hs0_1.up u4_.hh
 replace ht0 := ht0.up u4_ (by simp)
 clear hI4_ u4_ hl4_
 refine ⟨_, rfl, ?_⟩
 refine Ops_nil ?_
 refine then_n (k3 _ _ ?_)
 clear k3 K3
 refine W_cond rfl (fun hc5_ => ?_) (fun hc5_ => ?_)
 ·
  replace h := h.1 hc5_
  refine W_seq_k fun K6 k6 => ?_
  refine W_region [2] rfl (Ops_step (R_assign rfl) rfl rfl ?_)
  refine Ops_nil ?_
  refine then_n (k6 _ _ ?_)
  clear k6 K6
  refine W_ret ?_
  refine then_ret ?_
  clear k2 K2
  refine ⟨_, ⟨_, _, rfl, rfl, rfl⟩, ?_⟩
  exact ⟨0, x0, _, _, rfl, hI, ⟨_, ⟨A0_1, c0_1, rfl, ⟨hc0_1, hs0_1⟩⟩, ht0⟩, h⟩
 ·
  replace h := h.2 hc5_
  refine W_skip ?_
  refine then_n (k2 _ _ ?_)
  clear k2 K2
  refine W_seq_k fun K7 k7 => ?_
  refine W_region [3] rfl (Ops_step (R_assign rfl) rfl rfl ?_)
  refine Ops_nil ?_
  refine then_n (k7 _ _ ?_)
  clear k7 K7
  refine W_seq_k fun K8 k8 => ?_
  refine W_region [9, 10, 11, 12, 4] rfl (Ops_step (R_move rfl) rfl rfl (Ops_step (R_nilCheck rfl) rfl rfl (Ops_step (R_fieldAddr fo88_0 rfl) rfl rfl ?_)))
  refine Ops_call (C_func bd81 rfl) rfl rfl ?_
  refine (octet_source_take_ok (x0 := x0.source_) (x1 := 8) hI.st (hg.up hI.le) ⟨_, ⟨A0_1, c0_1, rfl, ⟨hc0_1, hs0_1⟩⟩, ht0⟩ h).mono ?_
  rintro _ w9_ ⟨A9_0, c9_0, r9_0, y9_0, L9_, H9_, rfl, hI9_, hc9_0, hs9_0, hq9_0, h⟩
  refine Exists.elim (hI.call hI9_ (mem1 (by simp))) fun L90_ h9_ => ?_
  have hz9_ := hI.size
  replace hI := h9_.1
  have u9_ := h9_.2.1
  have hl9_ := h9_.2.2
  clear h9_
  replace hs0_1 := hs0_1.up u9_.hh
  replace hs9_0 := hs9_0.up (Le.refl _)
  clear ht0
  obtain ⟨l9_0_, hl9_0_, ht9_0⟩ := hq9_0
  obtain ⟨A9_0_1, c9_0_1, rfl, ⟨hc9_0_1, hs9_0_1⟩⟩ := hl9_0_
  clear hI9_ u9_ hl9_
  refine ⟨_, rfl, ?_⟩
  refine Ops_step (R_assign rfl) rfl rfl ?_
  refine Ops_nil ?_
  refine then_n (k8 _ _ ?_)
  clear k8 K8
  refine W_keepB [0, 3, 4] fun B_ b_ => ?_
  simp only [e_, Nat.reduceAdd, Nat.reduceBEq] at b_
  subst b_
  refine ex_ h fun J11_ hr11_ h => ?_
  refine W_seq_join [0] [3] (fun vals_ w2 => ∃ (x3_11 : BitVec 64) (L H : Gh), vals_ = [w64 x3_11] ∧ J11_ x3_11 ∧ Inv [d0] G w L H w2 ∧ Le L90_ L ∧ Le H9_ H ∧ Tok H w2 d0 tb0 ([.slice A9_0_1 y9_0.b_.length c9_0_1, vi y9_0.at_, vi y9_0.err_, .bool y9_0.made_]) ∧ True) (fun B_ b_ => ?_) (fun B_ b_ => ?_)
  ·
   simp only [e_, Nat.reduceAdd, Nat.reduceBEq] at b_
   subst b_
   clear hr11_
   have hll11_ := Le.refl L90_
   have hhh11_ := Le.refl H9_
   refine W_seq_k fun K12 k12 => ?_
   refine W_region [13, 14, 15] rfl (Ops_step (R_move rfl) rfl rfl (Ops_step (R_len Tryd.underlying30 rfl rfl) rfl rfl (Ops_step (R_move rfl) rfl rfl ?_)))
   refine Ops_nil ?_
   refine then_n (k12 _ _ ?_)
   clear k12 K12
   refine W_block ?_
   refine Exists.elim h fun I13_ h => Exists.elim h fun n13_ h => ?_
   have h0_ := h.1
   have hs13_ := h.2
   clear h
   refine W_loopB [0, 13, 14] [3, 15] (fun m vals_ w2 => ∃ (x3_13 : BitVec 64) (x15_13 : Int) (L H : Gh), vals_ = [w64 x3_13, vi x15_13] ∧ I13_ m x3_13 x15_13 ∧ Inv [d0] G w L H w2 ∧ Le L90_ L ∧ Le H9_ H ∧ Tok H w2 d0 tb0 ([.slice A9_0_1 y9_0.b_.length c9_0_1, vi y9_0.at_, vi y9_0.err_, .bool y9_0.made_]) ∧ True) n13_ _ rfl ⟨(0#64), 0, _, _, rfl, h0_, hI, Le.refl _, Le.refl _, ht9_0, trivial⟩ fun B_ b_ => ?_
   clear h0_
   simp only [e_, Nat.reduceAdd, Nat.reduceBEq] at b_
   subst b_
   clear ht9_0
   rintro m13_ _ w13_ ⟨x3_13, x15_13, L13_, H13_, rfl, hJ13_, hI13_, hll13_, hhh13_, ht9_0, -⟩
   replace hI := hI13_
   clear hI13_
   have h := hs13_ m13_ x3_13 x15_13 hJ13_
   clear hs13_ hJ13_
   replace hs9_0 := hs9_0.up hhh13_
   replace hs9_0_1 := hs9_0_1.up hhh13_
   replace hll11_ := hll11_.trans hll13_
   replace hhh11_ := hhh11_.trans hhh13_
   refine W_seq_k fun K14 k14 => ?_
   refine W_region [16] rfl (Ops_step (R_lss rfl rfl) rfl rfl ?_)
   refine Ops_nil ?_
   refine then_n (k14 _ _ ?_)
   clear k14 K14
   refine W_seq_k fun K15 k15 => ?_
   refine W_if rfl (fun hc16_ => ?_) (fun hc16_ => ?_)
   ·
    replace h := h.1 hc16_
    refine W_skip ?_
    refine then_n (k15 _ _ ?_)
    clear k15 K15
    refine W_seq_k fun K17 k17 => ?_
    refine W_block ?_
    refine W_seq_k fun K18 k18 => ?_
    refine W_region [17, 18, 6] rfl ?_
    refine ex_ h fun x19_ hx19_ h => ?_
    have ha19_ := (hs9_0.atS hx19_).1
    have hg19_ := (hs9_0.atS hx19_).2
    refine Ops_step (R_indexSl Tryd.underlying30 sz5 rfl rfl hx19_.1 hx19_.lt ha19_) rfl rfl (Ops_step (R_load ag5 rfl (hI.st _ _ hg19_)) rfl rfl (Ops_step (R_assign rfl) rfl rfl ?_))
    refine Ops_nil ?_
    refine then_n (k18 _ _ ?_)
    clear k18 K18
    refine W_region [19, 20, 21, 22, 23, 3] rfl (Ops_step (R_move rfl) rfl rfl (Ops_step (R_shl rfl rfl (by decide) (shl64 x3_13 8 (by decide))) rfl rfl (Ops_step (R_move rfl) rfl rfl (Ops_step (R_conv Tryd.underlying5 Tryd.underlying72 rfl (c8_64 _)) rfl rfl ?_))))
    refine Ops_step (R_or rfl rfl (or64 (x3_13 <<< (8 : Nat)) (x19_.toBitVec.setWidth 64))) rfl rfl (Ops_step (R_assign rfl) rfl rfl ?_)
    refine Ops_nil ?_
    refine block_n ?_
    refine then_n (k17 _ _ ?_)
    clear k17 K17
    refine W_keepB [0, 3, 13, 14, 15] fun B_ b_ => ?_
    simp only [e_, Nat.reduceAdd, Nat.reduceBEq] at b_
    subst b_
    refine W_region [24, 15] rfl ?_
    have hk21_ := h.1
    replace h := h.2
    refine Ops_step (R_add rfl rfl (wI hk21_.1 hk21_.2)) rfl rfl (Ops_step (R_move rfl) rfl rfl ?_)
    refine Ops_nil ?_
    refine then_n ?_
    exact h.elim fun m_ h => ⟨m_, _, h.1, rfl, ⟨((x3_13 <<< (8 : Nat)) ||| (x19_.toBitVec.setWidth 64)), (x15_13 + 1), _, _, rfl, h.2, hI, hll13_, hhh13_, ht9_0, trivial⟩, ⟨rfl, rfl, rfl, trivial⟩⟩
   ·
    replace h := h.2 hc16_
    refine W_exit ?_
    refine then_exit ?_
    clear k15 K15
    refine then_exit ?_
    refine block_exit ?_
    refine then_n ?_
    exact ⟨_, rfl, ⟨x3_13, _, _, rfl, h, hI, hll11_, hhh11_, ht9_0, trivial⟩, ⟨rfl, trivial⟩⟩
  ·
   simp only [e_, Nat.reduceAdd, Nat.reduceBEq] at b_
   subst b_
   clear h
   clear ht9_0
   rintro _ w11_ ⟨x3_11, L11_, H11_, rfl, hJ11_, hI11_, hll11_, hhh11_, ht9_0, -⟩
   replace hI := hI11_
   clear hI11_
   have h := hr11_ x3_11 hJ11_
   clear hr11_ hJ11_
   replace hs9_0_1 := hs9_0_1.up hhh11_
   refine W_seq_k fun K22 k22 => ?_
   refine W_seq_k fun K23 k23 => ?_
   refine W_region [25, 26] rfl (Ops_step (R_move rfl) rfl rfl (Ops_step (R_gtr rfl rfl) rfl rfl ?_))
   refine Ops_nil ?_
   refine then_n (k23 _ _ ?_)
   clear k23 K23
   refine W_if rfl (fun hc24_ => ?_) (fun hc24_ => ?_)
   ·
    replace h := h.1 hc24_
    refine W_seq_k fun K25 k25 => ?_
    refine W_region [27, 28, 29, 30, 31, 32, 33, 34, 35, 36, 37, none, 38, 39, 40, none] rfl (Ops_step (R_move rfl) rfl rfl (Ops_step (R_move rfl) rfl rfl (Ops_step (R_move rfl) rfl rfl (Ops_step (R_nilCheck rfl) rfl rfl ?_))))
    refine Ops_step (R_fieldAddr fo88_0 rfl) rfl rfl (Ops_step (R_fieldAddr fo86_1 rfl) rfl rfl ?_)
    refine Ops_step (R_loadB (v := vi y9_0.at_) ag3 rfl ht9_0.blk rfl) rfl rfl ?_
    have hk26_ := h.1
    replace h := h.2
    refine Ops_step (R_sub rfl rfl (wI hk26_.1 hk26_.2)) rfl rfl (Ops_step (R_nilCheck rfl) rfl rfl (Ops_step (R_fieldAddr fo88_0 rfl) rfl rfl (Ops_step (R_fieldAddr fo86_1 rfl) rfl rfl ?_)))
    refine Ops_to0 (R_store sz3 rfl rfl ht9_0.blk (by show 1 < 4; decide) rfl) rfl ?_
    rintro _ w27_ ⟨hB27_, hF27_⟩
    replace hI := hI.tok hF27_ (out1 ht9_0.out) (mem1 (by simp))
    replace ht9_0 : Tok H11_ _ d0 tb0 ([.slice A9_0_1 y9_0.b_.length c9_0_1, vi (y9_0.at_ - 8), vi y9_0.err_, .bool y9_0.made_]) := ⟨hB27_, ht9_0.out⟩
    clear hF27_ hB27_
    refine Ops_step (R_nilCheck rfl) rfl rfl (Ops_step (R_fieldAddr fo88_0 rfl) rfl rfl (Ops_step (R_fieldAddr fo86_2 rfl) rfl rfl ?_))
    refine Ops_to0 (R_store sz22 rfl rfl ht9_0.blk (by show 2 < 4; decide) rfl) rfl ?_
    rintro _ w28_ ⟨hB28_, hF28_⟩
    replace hI := hI.tok hF28_ (out1 ht9_0.out) (mem1 (by simp))
    replace ht9_0 : Tok H11_ _ d0 tb0 ([.slice A9_0_1 y9_0.b_.length c9_0_1, vi (y9_0.at_ - 8), vi 5, .bool y9_0.made_]) := ⟨hB28_, ht9_0.out⟩
    clear hF28_ hB28_
    refine Ops_nil ?_
    refine then_n (k25 _ _ ?_)
    clear k25 K25
    refine W_keepB [] fun B_ b_ => ?_
    simp only [e_, Nat.reduceAdd, Nat.reduceBEq] at b_
    subst b_
    refine W_seq_k fun K30 k30 => ?_
    refine W_region [2] rfl (Ops_step (R_assign rfl) rfl rfl ?_)
    refine Ops_nil ?_
    refine then_n (k30 _ _ ?_)
    clear k30 K30
    refine W_ret ?_
    refine then_ret ?_
    clear k22 K22
    refine ⟨_, ⟨_, _, rfl, rfl, rfl⟩, ?_⟩
    exact ⟨0, (octet_Reader.mk (octet_source.mk y9_0.b_ (y9_0.at_ - 8) 5 y9_0.made_)), _, _, rfl, hI, ⟨_, ⟨A9_0_1, c9_0_1, rfl, ⟨hc9_0_1, hs9_0_1⟩⟩, ht9_0⟩, h⟩
   ·
    replace h := h.2 hc24_
    refine W_skip ?_
    refine then_n (k22 _ _ ?_)
    clear k22 K22
    refine W_seq_k fun K31 k31 => ?_
    refine W_region [41, 42, 2] rfl (Ops_step (R_move rfl) rfl rfl ?_)
    have hk32_ := h.1
    replace h := h.2
    refine Ops_step (R_conv Tryd.underlying72 Tryd.underlying3 rfl (c64_I _ hk32_)) rfl rfl (Ops_step (R_assign rfl) rfl rfl ?_)
    refine Ops_nil ?_
    refine then_n (k31 _ _ ?_)
    clear k31 K31
    refine W_keepB [2] fun B_ b_ => ?_
    simp only [e_, Nat.reduceAdd, Nat.reduceBEq] at b_
    subst b_
    refine W_ret ?_
    refine ⟨_, ⟨_, _, rfl, rfl, rfl⟩, ?_⟩
    exact ⟨(x3_11.toNat : Int), (octet_Reader.mk y9_0), _, _, rfl, hI, ⟨_, ⟨A9_0_1, c9_0_1, rfl, ⟨hc9_0_1, hs9_0_1⟩⟩, ht9_0⟩, h⟩

theorem octet_Reader_Within_ok {G : Gh} {w : World} (hS : St G w) (hg : GL G) {d0 tb0 : Nat} {x0 : octet_Reader} (hr0 : Ob tb0 G G w d0 x0) {x1 : Int} {x2 : Int} {Q : Int → octet_Reader → Prop} (h : octet_Reader_Within x0 x1 x2 Q) : Calls Tryd.prog 45 #[.pointer (some ⟨d0, 0, none⟩), vi x1, vi x2] w fun e w2 => ∃ (r0 : Int) (y0 : octet_Reader) (L H : Gh), e = .returned (vi r0) ∧ Inv [d0] G w L H w2 ∧ Ob tb0 H H w2 d0 y0 ∧ Q r0 y0 := by
 unfold octet_Reader_Within at h
 have hI := Inv.start (M := [d0]) hS
 refine calls_W 57 Tryd.func45 rfl Tryd.ntmps45 rfl [.tmp 6] rfl ?_
 obtain ⟨l0_, hl0_, ht0⟩ := hr0
 obtain ⟨A0_1, c0_1, rfl, ⟨hc0_1, hs0_1⟩⟩ := hl0_
 have hlt_d0 := ht0.blk.lt
 refine W_seq_k fun K1 k1 => ?_
 refine W_region [6] rfl (Ops_step (R_assign rfl) rfl rfl ?_)
 refine Ops_nil ?_
 refine then_n (k1 _ _ ?_)
 clear k1 K1
 refine W_seq_k fun K2 k2 => ?_
 refine ex_ h fun J3_ hr3_ h => ?_
 refine W_seq_join [0, 1, 2] [17] (fun vals_ w2 => ∃ (x17_3 : Bool) (L H : Gh), vals_ = [.bool x17_3] ∧ J3_ x17_3 ∧ Inv [d0] G w L H w2 ∧ Le Gh.no L ∧ Le G H ∧ Tok H w2 d0 tb0 ([.slice A0_1 x0.source_.b_.length c0_1, vi x0.source_.at_, vi x0.source_.err_, .bool x0.source_.made_]) ∧ True) (fun B_ b_ => ?_) (fun B_ b_ => ?_)
 ·
  simp only [e_, Nat.reduceAdd, Nat.reduceBEq] at b_
  subst b_
  clear hr3_
  have hll3_ := Le.refl Gh.no
  have hhh3_ := Le.refl G
  refine W_region [8, 9, 10, 11, 12, 13, 14, 15, 16, 17] rfl (Ops_step (R_move rfl) rfl rfl ?_)
  refine Ops_call (C_func bd70 rfl) rfl rfl ?_
  refine (octet_Reader_dead_ok (x0 := x0) hI.st (hg.up hI.le) ⟨_, ⟨A0_1, c0_1, rfl, ⟨hc0_1, hs0_1⟩⟩, ht0⟩ h).mono ?_
  rintro _ w4_ ⟨r4_0, L4_, H4_, rfl, hI4_, h⟩
  refine Exists.elim (hI.call hI4_ (by simp)) fun L40_ h4_ => ?_
  have hz4_ := hI.size
  replace hI := h4_.1
  have u4_ := h4_.2.1
  have hl4_ := h4_.2.2
  clear h4_
  replace hs0_1 := hs0_1.up u4_.hh
  replace ht0 := ht0.up u4_ (by simp)
  replace hll3_ := hll3_.trans u4_.ll
  replace hhh3_ := hhh3_.trans u4_.hh
  clear hI4_ u4_ hl4_
  refine ⟨_, rfl, ?_⟩
  refine Ops_step (R_move rfl) rfl rfl ?_
  refine Ops_splitB 10 rfl (fun hg5_ => ?_) (fun hg5_ => ?_)
  ·
   replace h := h.1 hg5_
   refine Ops_pass rfl rfl (Ops_pass rfl rfl (Ops_pass rfl rfl (Ops_pass rfl rfl (Ops_pass rfl rfl ?_))))
   refine Ops_pass rfl rfl (Ops_step (R_pick_true rfl rfl) rfl rfl ?_)
   refine Ops_nil ?_
   refine then_n ?_
   exact ⟨_, rfl, ⟨true, _, _, rfl, h, hI, hll3_, hhh3_, ht0, trivial⟩, ⟨rfl, rfl, rfl, trivial⟩⟩
  ·
   replace h := h.2 hg5_
   refine Ops_step (R_move rfl) rfl rfl (Ops_step (R_nilCheck rfl) rfl rfl (Ops_step (R_fieldAddr fo88_0 rfl) rfl rfl (Ops_step (R_fieldAddr fo86_2 rfl) rfl rfl ?_)))
   refine Ops_step (R_loadB (v := vi x0.source_.err_) ag22 rfl ht0.blk rfl) rfl rfl ?_
   refine Ops_step (R_neq rfl rfl) rfl rfl (Ops_step (R_pick_false rfl rfl) rfl rfl ?_)
   refine Ops_nil ?_
   refine then_n ?_
   exact ⟨_, rfl, ⟨(decide (x0.source_.err_ ≠ 0)), _, _, rfl, h, hI, hll3_, hhh3_, ht0, trivial⟩, ⟨rfl, rfl, rfl, trivial⟩⟩
 ·
  simp only [e_, Nat.reduceAdd, Nat.reduceBEq] at b_
  subst b_
  clear h
  clear ht0
  rintro _ w3_ ⟨x17_3, L3_, H3_, rfl, hJ3_, hI3_, hll3_, hhh3_, ht0, -⟩
  replace hI := hI3_
  clear hI3_
  have h := hr3_ x17_3 hJ3_
  clear hr3_ hJ3_
  replace hs0_1 := hs0_1.up hhh3_
  refine W_cond rfl (fun hc6_ => ?_) (fun hc6_ => ?_)
  ·
   replace h := h.1 hc6_
   refine W_seq_k fun K7 k7 => ?_
   refine W_region [6] rfl (Ops_step (R_assign rfl) rfl rfl ?_)
   refine Ops_nil ?_
   refine then_n (k7 _ _ ?_)
   clear k7 K7
   refine W_ret ?_
   refine then_ret ?_
   clear k2 K2
   refine ⟨_, ⟨_, _, rfl, rfl, rfl⟩, ?_⟩
   exact ⟨0, x0, _, _, rfl, hI, ⟨_, ⟨A0_1, c0_1, rfl, ⟨hc0_1, hs0_1⟩⟩, ht0⟩, h⟩
  ·
   replace h := h.2 hc6_
   refine W_skip ?_
   refine then_n (k2 _ _ ?_)
   clear k2 K2
   refine W_seq_k fun K8 k8 => ?_
   refine W_region [18, 19, 7] rfl (Ops_step (R_move rfl) rfl rfl ?_)
   refine Ops_call (C_func bd62 rfl) rfl rfl ?_
   refine (octet_Reader_Number_ok (x0 := x0) hI.st (hg.up hI.le) ⟨_, ⟨A0_1, c0_1, rfl, ⟨hc0_1, hs0_1⟩⟩, ht0⟩ h).mono ?_
   rintro _ w9_ ⟨r9_0, y9_0, L9_, H9_, rfl, hI9_, hq9_0, h⟩
   refine Exists.elim (hI.call hI9_ (mem1 (by simp))) fun L90_ h9_ => ?_
   have hz9_ := hI.size
   replace hI := h9_.1
   have u9_ := h9_.2.1
   have hl9_ := h9_.2.2
   clear h9_
   replace hs0_1 := hs0_1.up u9_.hh
   clear ht0
   obtain ⟨l9_0_, hl9_0_, ht9_0⟩ := hq9_0
   obtain ⟨A9_0_1, c9_0_1, rfl, ⟨hc9_0_1, hs9_0_1⟩⟩ := hl9_0_
   clear hI9_ u9_ hl9_
   refine ⟨_, rfl, ?_⟩
   refine Ops_step (R_assign rfl) rfl rfl ?_
   refine Ops_nil ?_
   refine then_n (k8 _ _ ?_)
   clear k8 K8
   refine ex_ h fun J10_ hr10_ h => ?_
   refine W_seq_join [0, 7] [] (fun vals_ w2 => ∃ (yd0_10 : octet_Reader) (L H : Gh), vals_ = [] ∧ J10_ yd0_10 ∧ Inv [d0] G w L H w2 ∧ Le L90_ L ∧ Le H9_ H ∧ Ob tb0 H H w2 d0 yd0_10 ∧ True) (fun B_ b_ => ?_) (fun B_ b_ => ?_)
   ·
    simp only [e_, Nat.reduceAdd, Nat.reduceBEq] at b_
    subst b_
    clear hr10_
    have hll10_ := Le.refl L90_
    have hhh10_ := Le.refl H9_
    refine ex_ h fun J11_ hr11_ h => ?_
    refine W_seq_join [0, 7] [35] (fun vals_ w2 => ∃ (x35_11 : Bool) (L H : Gh), vals_ = [.bool x35_11] ∧ J11_ x35_11 ∧ Inv [d0] G w L H w2 ∧ Le L90_ L ∧ Le H9_ H ∧ Tok H w2 d0 tb0 ([.slice A9_0_1 y9_0.source_.b_.length c9_0_1, vi y9_0.source_.at_, vi y9_0.source_.err_, .bool y9_0.source_.made_]) ∧ True) (fun B_ b_ => ?_) (fun B_ b_ => ?_)
    ·
     simp only [e_, Nat.reduceAdd, Nat.reduceBEq] at b_
     subst b_
     clear hr11_
     have hll11_ := Le.refl L90_
     have hhh11_ := Le.refl H9_
     refine W_region [20, 21, 22, 23, 24, 25, 26, 27, 28, 29, 30, 31, 32, 33, 34, 35] rfl (Ops_step (R_move rfl) rfl rfl (Ops_step (R_nilCheck rfl) rfl rfl (Ops_step (R_fieldAddr fo88_0 rfl) rfl rfl (Ops_step (R_fieldAddr fo86_2 rfl) rfl rfl ?_))))
     refine Ops_step (R_loadB (v := vi y9_0.source_.err_) ag22 rfl ht9_0.blk rfl) rfl rfl ?_
     refine Ops_step (R_eql rfl rfl) rfl rfl (Ops_step (R_move rfl) rfl rfl ?_)
     refine Ops_split 26 rfl (fun hg12_ => ?_) (fun hg12_ => ?_)
     ·
      replace h := h.1 hg12_
      refine Ops_step (R_move rfl) rfl rfl (Ops_step (R_move rfl) rfl rfl (Ops_step (R_lss rfl rfl) rfl rfl (Ops_step (R_move rfl) rfl rfl ?_)))
      refine Ops_split 30 rfl (fun hg13_ => ?_) (fun hg13_ => ?_)
      ·
       replace h := h.1 hg13_
       refine Ops_pass rfl rfl (Ops_pass rfl rfl (Ops_pass rfl rfl (Ops_step (R_pick_true rfl rfl) rfl rfl (Ops_step (R_pick_true rfl rfl) rfl rfl ?_))))
       refine Ops_nil ?_
       refine then_n ?_
       exact ⟨_, rfl, ⟨true, _, _, rfl, h, hI, hll11_, hhh11_, ht9_0, trivial⟩, ⟨rfl, rfl, trivial⟩⟩
      ·
       replace h := h.2 hg13_
       refine Ops_step (R_move rfl) rfl rfl (Ops_step (R_move rfl) rfl rfl (Ops_step (R_gtr rfl rfl) rfl rfl (Ops_step (R_pick_false rfl rfl) rfl rfl (Ops_step (R_pick_true rfl rfl) rfl rfl ?_))))
       refine Ops_nil ?_
       refine then_n ?_
       exact ⟨_, rfl, ⟨(decide (r9_0 > x2)), _, _, rfl, h, hI, hll11_, hhh11_, ht9_0, trivial⟩, ⟨rfl, rfl, trivial⟩⟩
     ·
      replace h := h.2 hg12_
      refine Ops_pass rfl rfl (Ops_pass rfl rfl (Ops_pass rfl rfl (Ops_pass rfl rfl (Ops_passU rfl rfl ?_))))
      refine Ops_passU rfl rfl (Ops_passU rfl rfl (Ops_pass rfl rfl (Ops_step (R_pick_false rfl rfl) rfl rfl ?_)))
      refine Ops_nil ?_
      refine then_n ?_
      exact ⟨_, rfl, ⟨false, _, _, rfl, h, hI, hll11_, hhh11_, ht9_0, trivial⟩, ⟨rfl, rfl, trivial⟩⟩
    ·
     simp only [e_, Nat.reduceAdd, Nat.reduceBEq] at b_
     subst b_
     clear h
     clear ht9_0
     rintro _ w11_ ⟨x35_11, L11_, H11_, rfl, hJ11_, hI11_, hll11_, hhh11_, ht9_0, -⟩
     replace hI := hI11_
     clear hI11_
     have h := hr11_ x35_11 hJ11_
     clear hr11_ hJ11_
     replace hs9_0_1 := hs9_0_1.up hhh11_
     replace hll10_ := hll10_.trans hll11_
     replace hhh10_ := hhh10_.trans hhh11_
     refine W_cond rfl (fun hc14_ => ?_) (fun hc14_ => ?_)
     ·
      replace h := h.1 hc14_
      refine W_region [36, 37, 38, 39, 40, 41, 42, 43, 44, 45, 46, none, 47, 48, 49, none] rfl (Ops_step (R_move rfl) rfl rfl (Ops_step (R_move rfl) rfl rfl (Ops_step (R_move rfl) rfl rfl (Ops_step (R_nilCheck rfl) rfl rfl ?_))))
      refine Ops_step (R_fieldAddr fo88_0 rfl) rfl rfl (Ops_step (R_fieldAddr fo86_1 rfl) rfl rfl ?_)
      refine Ops_step (R_loadB (v := vi y9_0.source_.at_) ag3 rfl ht9_0.blk rfl) rfl rfl ?_
      have hk15_ := h.1
      replace h := h.2
      refine Ops_step (R_sub rfl rfl (wI hk15_.1 hk15_.2)) rfl rfl (Ops_step (R_nilCheck rfl) rfl rfl (Ops_step (R_fieldAddr fo88_0 rfl) rfl rfl (Ops_step (R_fieldAddr fo86_1 rfl) rfl rfl ?_)))
      refine Ops_to0 (R_store sz3 rfl rfl ht9_0.blk (by show 1 < 4; decide) rfl) rfl ?_
      rintro _ w16_ ⟨hB16_, hF16_⟩
      replace hI := hI.tok hF16_ (out1 ht9_0.out) (mem1 (by simp))
      replace ht9_0 : Tok H11_ _ d0 tb0 ([.slice A9_0_1 y9_0.source_.b_.length c9_0_1, vi (y9_0.source_.at_ - 8), vi y9_0.source_.err_, .bool y9_0.source_.made_]) := ⟨hB16_, ht9_0.out⟩
      clear hF16_ hB16_
      refine Ops_step (R_nilCheck rfl) rfl rfl (Ops_step (R_fieldAddr fo88_0 rfl) rfl rfl (Ops_step (R_fieldAddr fo86_2 rfl) rfl rfl ?_))
      refine Ops_to0 (R_store sz22 rfl rfl ht9_0.blk (by show 2 < 4; decide) rfl) rfl ?_
      rintro _ w17_ ⟨hB17_, hF17_⟩
      replace hI := hI.tok hF17_ (out1 ht9_0.out) (mem1 (by simp))
      replace ht9_0 : Tok H11_ _ d0 tb0 ([.slice A9_0_1 y9_0.source_.b_.length c9_0_1, vi (y9_0.source_.at_ - 8), vi 5, .bool y9_0.source_.made_]) := ⟨hB17_, ht9_0.out⟩
      clear hF17_ hB17_
      refine Ops_nil ?_
      refine then_n ?_
      exact ⟨_, rfl, ⟨(octet_Reader.mk (octet_source.mk y9_0.source_.b_ (y9_0.source_.at_ - 8) 5 y9_0.source_.made_)), _, _, rfl, h, hI, hll10_, hhh10_, ⟨_, ⟨A9_0_1, c9_0_1, rfl, ⟨hc9_0_1, hs9_0_1⟩⟩, ht9_0⟩, trivial⟩, ⟨rfl, rfl, trivial⟩⟩
     ·
      replace h := h.2 hc14_
      refine W_skip ?_
      refine then_n ?_
      exact ⟨_, rfl, ⟨y9_0, _, _, rfl, h, hI, hll10_, hhh10_, ⟨_, ⟨A9_0_1, c9_0_1, rfl, ⟨hc9_0_1, hs9_0_1⟩⟩, ht9_0⟩, trivial⟩, ⟨rfl, rfl, trivial⟩⟩
   ·
    simp only [e_, Nat.reduceAdd, Nat.reduceBEq] at b_
    subst b_
    clear h
    rintro _ w10_ ⟨yd0_10, L10_, H10_, rfl, hJ10_, hI10_, hll10_, hhh10_, hqd0_10, -⟩
    replace hI := hI10_
    clear hI10_
    have h := hr10_ yd0_10 hJ10_
    clear hr10_ hJ10_
    replace hs9_0_1 := hs9_0_1.up hhh10_
    obtain ⟨ld0_10_, hld0_10_, htd0_10⟩ := hqd0_10
    obtain ⟨Ad0_10_1, cd0_10_1, rfl, ⟨hcd0_10_1, hsd0_10_1⟩⟩ := hld0_10_
    refine W_seq_k fun K18 k18 => ?_
    refine W_seq_k fun K19 k19 => ?_
    refine W_region [50, 51, 52, 53, 54, 55] rfl (Ops_step (R_move rfl) rfl rfl (Ops_step (R_nilCheck rfl) rfl rfl (Ops_step (R_fieldAddr fo88_0 rfl) rfl rfl (Ops_step (R_fieldAddr fo86_2 rfl) rfl rfl ?_))))
    refine Ops_step (R_loadB (v := vi yd0_10.source_.err_) ag22 rfl htd0_10.blk rfl) rfl rfl ?_
    refine Ops_step (R_neq rfl rfl) rfl rfl ?_
    refine Ops_nil ?_
    refine then_n (k19 _ _ ?_)
    clear k19 K19
    refine W_keepB [7, 55] fun B_ b_ => ?_
    simp only [e_, Nat.reduceAdd, Nat.reduceBEq] at b_
    subst b_
    refine W_if rfl (fun hc21_ => ?_) (fun hc21_ => ?_)
    ·
     replace h := h.1 hc21_
     refine W_seq_k fun K22 k22 => ?_
     refine W_region [6] rfl (Ops_step (R_assign rfl) rfl rfl ?_)
     refine Ops_nil ?_
     refine then_n (k22 _ _ ?_)
     clear k22 K22
     refine W_ret ?_
     refine then_ret ?_
     clear k18 K18
     refine ⟨_, ⟨_, _, rfl, rfl, rfl⟩, ?_⟩
     exact ⟨0, yd0_10, _, _, rfl, hI, ⟨_, ⟨Ad0_10_1, cd0_10_1, rfl, ⟨hcd0_10_1, hsd0_10_1⟩⟩, htd0_10⟩, h⟩
    ·
     replace h := h.2 hc21_
     refine W_skip ?_
     refine then_n (k18 _ _ ?_)
     clear k18 K18
     refine W_seq_k fun K23 k23 => ?_
     refine W_region [56, 6] rfl (Ops_step (R_move rfl) rfl rfl (Ops_step (R_assign rfl) rfl rfl ?_))
     refine Ops_nil ?_
     refine then_n (k23 _ _ ?_)
     clear k23 K23
     refine W_ret ?_
     refine ⟨_, ⟨_, _, rfl, rfl, rfl⟩, ?_⟩
     exact ⟨r9_0, yd0_10, _, _, rfl, hI, ⟨_, ⟨Ad0_10_1, cd0_10_1, rfl, ⟨hcd0_10_1, hsd0_10_1⟩⟩, htd0_10⟩, h⟩

end Go.Proofs.YtbjmngacjdcddaaDoor

