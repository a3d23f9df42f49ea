/- What the walks of this seat show of OtV. -/
import Derived.Test.YtdnpdljnjoegiaaDoorOtVp
import Derived.Test.YtdnpdljnjoegiaaDoorOgT
import Derived.Test.YtdnpdljnjoegiaaDoorOb
import Derived.Test.YtdnpdljnjoegiaaDoorProg
set_option linter.unusedVariables false
set_option linter.unusedSimpArgs false
namespace Go.Lx
open Go Go.Sx
instance : Rp utf8_acceptRange where
  n := 2
  cs := fun G x l => l = [vb x.lo_, vb x.hi_]
  mono := fun hl e => e
  len := fun e => by rw [e]; rfl
  one := fun e => by rw [e]; rfl
end Go.Lx
namespace Go.Proofs.YtdnpdljnjoegiaaDoor
open Go Go.Sx Go.Lx
namespace TOtV
theorem hm : Tryd.prog.follows .mixedOrders = true := by kernel_rfl
theorem ag5 : aggB Tryd.prog 5 = some false := by kernel_rfl
theorem ag75 : aggB Tryd.prog 75 = some true := by kernel_rfl
theorem bd23 : bodied Tryd.prog 23 = true := by kernel_rfl
theorem bd58 : bodied Tryd.prog 58 = true := by kernel_rfl
theorem fo75_0 : offB Tryd.prog 75 0 = some 0 := by kernel_rfl
theorem fo75_1 : offB Tryd.prog 75 1 = some 1 := by kernel_rfl
theorem sz5 : sz Tryd.prog 5 = some 1 := by kernel_rfl
theorem sz75 : sz Tryd.prog 75 = some 2 := by kernel_rfl
theorem zr75 : zr Tryd.prog 75 = some ([.int .u8 0] ++ [.int .u8 0]) := by kernel_rfl
end TOtV
set_option maxHeartbeats 4000000 in
theorem utf8_word_sl_byte_ok {G : Gh} {w : World} (hS : St G w) (hg : GL G) {A0 : Option Addr} {c0 : Nat} {x0 : List UInt8} (hc0 : x0.length ≤ c0) (hs0 : Sl G A0 x0) {Q : (BitVec 64) → Prop} (h : utf8_word_sl_byte x0 Q) : Calls Tryd.prog 58 #[.slice A0 x0.length c0] w fun e w2 => ∃ (r0 : BitVec 64) (L H : Gh), e = .returned (w64 r0) ∧ Inv [] G w L H w2 ∧ Q r0 := by
  unfold utf8_word_sl_byte at h
  have hI := Inv.start (M := []) hS
  refine calls_W 71 Tryd.func58 rfl Tryd.ntmps58 rfl [.tmp 2] rfl ?_
  refine W_seq_k fun K1_ hK1_ => ?_
  refine W_region [some 2] rfl ?_
  refine Ops_step (R_assign rfl) rfl rfl ?_
  refine Ops_nil ?_
  refine then_n (hK1_ _ _ ?_)
  clear hK1_ K1_
  refine W_seq_k fun K2_ hK2_ => ?_
  refine W_cond_false rfl ?_
  refine W_skip ?_
  refine then_n (hK2_ _ _ ?_)
  clear hK2_ K2_
  refine W_seq_k fun K3_ hK3_ => ?_
  refine W_drawF [some 25, some 26, some 27, some 28, some 29, some 30, some 31, some 32, some 33, some 34, some 35, some 36, some 37, some 38, some 39, some 40, some 41, some 42, some 43, some 44, some 45, some 46, some 47, some 48, some 49, some 50, some 51, some 52, some 53, some 54, some 55, some 56, some 57, some 58, some 59, some 60, some 61, some 62, some 63, some 64, some 65, some 66, some 67, some 68, some 69, some 70, some 2] [(0, true), (1, true), (2, true), (3, true), (4, true), (5, true), (6, true), (7, true), (8, true), (9, true), (10, true), (11, true), (12, true), (13, true), (14, true), (15, true), (16, true), (17, true), (18, true), (19, true), (20, true), (21, true), (22, true), (23, true), (24, true), (25, true), (26, true), (27, true), (28, true), (29, true), (30, true), (31, true), (32, true), (33, true), (34, true), (35, true), (36, true), (37, true), (38, true), (39, true), (40, true), (41, true), (42, true), (43, true), (44, true), (45, true), (46, true)] TOtV.hm rfl (by kernel_rfl) fun ops4_ w4_ hops4_ hF4_ => ?_
  replace hI := hI.fr0 hF4_
  clear hF4_
  refine HS_pure (fun w_ => R_move rfl) rfl rfl ?_
  refine Exists.elim h fun x5_ h => ?_
  have hx5_ := h.1
  replace h := h.2
  have ha5_ := (hs0.atS hx5_).1
  have hg5_ := (hs0.atS hx5_).2
  refine HS_pure (fun w_ => R_indexSl Tryd.underlying22 TOtV.sz5 rfl rfl hx5_.1 hx5_.lt ha5_) rfl rfl ?_
  refine HS_load TOtV.ag5 rfl (hI.st _ _ hg5_) rfl rfl ?_
  refine HS_pure (fun w_ => R_conv Tryd.underlying5 Tryd.underlying77 rfl (c8_64 _)) rfl rfl ?_
  refine HS_pure (fun w_ => R_move rfl) rfl rfl ?_
  refine Exists.elim h fun x6_ h => ?_
  have hx6_ := h.1
  replace h := h.2
  have ha6_ := (hs0.atS hx6_).1
  have hg6_ := (hs0.atS hx6_).2
  refine HS_pure (fun w_ => R_indexSl Tryd.underlying22 TOtV.sz5 rfl rfl hx6_.1 hx6_.lt ha6_) rfl rfl ?_
  refine HS_load TOtV.ag5 rfl (hI.st _ _ hg6_) rfl rfl ?_
  refine HS_pure (fun w_ => R_conv Tryd.underlying5 Tryd.underlying77 rfl (c8_64 _)) rfl rfl ?_
  refine HS_pure (fun w_ => R_shl rfl rfl (by decide) (shl64 (x6_.toBitVec.setWidth 64) 8 (by decide))) rfl rfl ?_
  refine HS_pure (fun w_ => R_or rfl rfl (or64 (x5_.toBitVec.setWidth 64) ((x6_.toBitVec.setWidth 64) <<< (8 : Nat)))) rfl rfl ?_
  refine HS_pure (fun w_ => R_move rfl) rfl rfl ?_
  refine Exists.elim h fun x7_ h => ?_
  have hx7_ := h.1
  replace h := h.2
  have ha7_ := (hs0.atS hx7_).1
  have hg7_ := (hs0.atS hx7_).2
  refine HS_pure (fun w_ => R_indexSl Tryd.underlying22 TOtV.sz5 rfl rfl hx7_.1 hx7_.lt ha7_) rfl rfl ?_
  refine HS_load TOtV.ag5 rfl (hI.st _ _ hg7_) rfl rfl ?_
  refine HS_pure (fun w_ => R_conv Tryd.underlying5 Tryd.underlying77 rfl (c8_64 _)) rfl rfl ?_
  refine HS_pure (fun w_ => R_shl rfl rfl (by decide) (shl64 (x7_.toBitVec.setWidth 64) 16 (by decide))) rfl rfl ?_
  refine HS_pure (fun w_ => R_or rfl rfl (or64 ((x5_.toBitVec.setWidth 64) ||| ((x6_.toBitVec.setWidth 64) <<< (8 : Nat))) ((x7_.toBitVec.setWidth 64) <<< (16 : Nat)))) rfl rfl ?_
  refine HS_pure (fun w_ => R_move rfl) rfl rfl ?_
  refine Exists.elim h fun x8_ h => ?_
  have hx8_ := h.1
  replace h := h.2
  have ha8_ := (hs0.atS hx8_).1
  have hg8_ := (hs0.atS hx8_).2
  refine HS_pure (fun w_ => R_indexSl Tryd.underlying22 TOtV.sz5 rfl rfl hx8_.1 hx8_.lt ha8_) rfl rfl ?_
  refine HS_load TOtV.ag5 rfl (hI.st _ _ hg8_) rfl rfl ?_
  refine HS_pure (fun w_ => R_conv Tryd.underlying5 Tryd.underlying77 rfl (c8_64 _)) rfl rfl ?_
  refine HS_pure (fun w_ => R_shl rfl rfl (by decide) (shl64 (x8_.toBitVec.setWidth 64) 24 (by decide))) rfl rfl ?_
  refine HS_pure (fun w_ => R_or rfl rfl (or64 (((x5_.toBitVec.setWidth 64) ||| ((x6_.toBitVec.setWidth 64) <<< (8 : Nat))) ||| ((x7_.toBitVec.setWidth 64) <<< (16 : Nat))) ((x8_.toBitVec.setWidth 64) <<< (24 : Nat)))) rfl rfl ?_
  refine HS_pure (fun w_ => R_move rfl) rfl rfl ?_
  refine Exists.elim h fun x9_ h => ?_
  have hx9_ := h.1
  replace h := h.2
  have ha9_ := (hs0.atS hx9_).1
  have hg9_ := (hs0.atS hx9_).2
  refine HS_pure (fun w_ => R_indexSl Tryd.underlying22 TOtV.sz5 rfl rfl hx9_.1 hx9_.lt ha9_) rfl rfl ?_
  refine HS_load TOtV.ag5 rfl (hI.st _ _ hg9_) rfl rfl ?_
  refine HS_pure (fun w_ => R_conv Tryd.underlying5 Tryd.underlying77 rfl (c8_64 _)) rfl rfl ?_
  refine HS_pure (fun w_ => R_shl rfl rfl (by decide) (shl64 (x9_.toBitVec.setWidth 64) 32 (by decide))) rfl rfl ?_
  refine HS_pure (fun w_ => R_or rfl rfl (or64 ((((x5_.toBitVec.setWidth 64) ||| ((x6_.toBitVec.setWidth 64) <<< (8 : Nat))) ||| ((x7_.toBitVec.setWidth 64) <<< (16 : Nat))) ||| ((x8_.toBitVec.setWidth 64) <<< (24 : Nat))) ((x9_.toBitVec.setWidth 64) <<< (32 : Nat)))) rfl rfl ?_
  refine HS_pure (fun w_ => R_move rfl) rfl rfl ?_
  refine Exists.elim h fun x10_ h => ?_
  have hx10_ := h.1
  replace h := h.2
  have ha10_ := (hs0.atS hx10_).1
  have hg10_ := (hs0.atS hx10_).2
  refine HS_pure (fun w_ => R_indexSl Tryd.underlying22 TOtV.sz5 rfl rfl hx10_.1 hx10_.lt ha10_) rfl rfl ?_
  refine HS_load TOtV.ag5 rfl (hI.st _ _ hg10_) rfl rfl ?_
  refine HS_pure (fun w_ => R_conv Tryd.underlying5 Tryd.underlying77 rfl (c8_64 _)) rfl rfl ?_
  refine HS_pure (fun w_ => R_shl rfl rfl (by decide) (shl64 (x10_.toBitVec.setWidth 64) 40 (by decide))) rfl rfl ?_
  refine HS_pure (fun w_ => R_or rfl rfl (or64 (((((x5_.toBitVec.setWidth 64) ||| ((x6_.toBitVec.setWidth 64) <<< (8 : Nat))) ||| ((x7_.toBitVec.setWidth 64) <<< (16 : Nat))) ||| ((x8_.toBitVec.setWidth 64) <<< (24 : Nat))) ||| ((x9_.toBitVec.setWidth 64) <<< (32 : Nat))) ((x10_.toBitVec.setWidth 64) <<< (40 : Nat)))) rfl rfl ?_
  refine HS_pure (fun w_ => R_move rfl) rfl rfl ?_
  refine Exists.elim h fun x11_ h => ?_
  have hx11_ := h.1
  replace h := h.2
  have ha11_ := (hs0.atS hx11_).1
  have hg11_ := (hs0.atS hx11_).2
  refine HS_pure (fun w_ => R_indexSl Tryd.underlying22 TOtV.sz5 rfl rfl hx11_.1 hx11_.lt ha11_) rfl rfl ?_
  refine HS_load TOtV.ag5 rfl (hI.st _ _ hg11_) rfl rfl ?_
  refine HS_pure (fun w_ => R_conv Tryd.underlying5 Tryd.underlying77 rfl (c8_64 _)) rfl rfl ?_
  refine HS_pure (fun w_ => R_shl rfl rfl (by decide) (shl64 (x11_.toBitVec.setWidth 64) 48 (by decide))) rfl rfl ?_
  refine HS_pure (fun w_ => R_or rfl rfl (or64 ((((((x5_.toBitVec.setWidth 64) ||| ((x6_.toBitVec.setWidth 64) <<< (8 : Nat))) ||| ((x7_.toBitVec.setWidth 64) <<< (16 : Nat))) ||| ((x8_.toBitVec.setWidth 64) <<< (24 : Nat))) ||| ((x9_.toBitVec.setWidth 64) <<< (32 : Nat))) ||| ((x10_.toBitVec.setWidth 64) <<< (40 : Nat))) ((x11_.toBitVec.setWidth 64) <<< (48 : Nat)))) rfl rfl ?_
  refine HS_pure (fun w_ => R_move rfl) rfl rfl ?_
  refine Exists.elim h fun x12_ h => ?_
  have hx12_ := h.1
  replace h := h.2
  have ha12_ := (hs0.atS hx12_).1
  have hg12_ := (hs0.atS hx12_).2
  refine HS_pure (fun w_ => R_indexSl Tryd.underlying22 TOtV.sz5 rfl rfl hx12_.1 hx12_.lt ha12_) rfl rfl ?_
  refine HS_load TOtV.ag5 rfl (hI.st _ _ hg12_) rfl rfl ?_
  refine HS_pure (fun w_ => R_conv Tryd.underlying5 Tryd.underlying77 rfl (c8_64 _)) rfl rfl ?_
  refine HS_pure (fun w_ => R_shl rfl rfl (by decide) (shl64 (x12_.toBitVec.setWidth 64) 56 (by decide))) rfl rfl ?_
  refine HS_pure (fun w_ => R_or rfl rfl (or64 (((((((x5_.toBitVec.setWidth 64) ||| ((x6_.toBitVec.setWidth 64) <<< (8 : Nat))) ||| ((x7_.toBitVec.setWidth 64) <<< (16 : Nat))) ||| ((x8_.toBitVec.setWidth 64) <<< (24 : Nat))) ||| ((x9_.toBitVec.setWidth 64) <<< (32 : Nat))) ||| ((x10_.toBitVec.setWidth 64) <<< (40 : Nat))) ||| ((x11_.toBitVec.setWidth 64) <<< (48 : Nat))) ((x12_.toBitVec.setWidth 64) <<< (56 : Nat)))) rfl rfl ?_
  refine HS_pure (fun w_ => R_assign rfl) rfl rfl ?_
  refine HS_nil ?_
  clear hops4_
  refine then_n (hK3_ _ _ ?_)
  clear hK3_ K3_
  refine W_keepB [2] fun B13 hB13_ => ?_
  simp only [pickE, lookE, putE, zipE, args0, Nat.reduceAdd, Nat.zero_add, List.cons_append, List.nil_append, Nat.reduceBEq, cond_true, cond_false] at hB13_
  subst hB13_
  refine W_ret ?_
  refine ⟨_, ⟨_, _, rfl, rfl, rfl⟩, ?_⟩
  exact ⟨((((((((x5_.toBitVec.setWidth 64) ||| ((x6_.toBitVec.setWidth 64) <<< (8 : Nat))) ||| ((x7_.toBitVec.setWidth 64) <<< (16 : Nat))) ||| ((x8_.toBitVec.setWidth 64) <<< (24 : Nat))) ||| ((x9_.toBitVec.setWidth 64) <<< (32 : Nat))) ||| ((x10_.toBitVec.setWidth 64) <<< (40 : Nat))) ||| ((x11_.toBitVec.setWidth 64) <<< (48 : Nat))) ||| ((x12_.toBitVec.setWidth 64) <<< (56 : Nat))), _, _, rfl, hI, h⟩

set_option maxHeartbeats 4000000 in
theorem utf8_Valid_ok {G : Gh} {w : World} (hS : St G w) (hg : GL G) {A0 : Option Addr} {c0 : Nat} {x0 : List UInt8} (hc0 : x0.length ≤ c0) (hs0 : Sl G A0 x0) {Q : Bool → Prop} (h : utf8_Valid x0 Q) : Calls Tryd.prog 49 #[.slice A0 x0.length c0] w fun e w2 => ∃ (r0 : Bool) (L H : Gh), e = .returned (.bool r0) ∧ Inv [] G w L H w2 ∧ Q r0 := by
  unfold utf8_Valid at h
  have hI := Inv.start (M := []) hS
  refine calls_W 188 Tryd.func49 rfl Tryd.ntmps49 rfl [.tmp 2] rfl ?_
  refine W_seq_k fun K1_ hK1_ => ?_
  refine W_region [some 2] rfl ?_
  refine Ops_step (R_assign rfl) rfl rfl ?_
  refine Ops_nil ?_
  refine then_n (hK1_ _ _ ?_)
  clear hK1_ K1_
  refine W_seq_k fun K2_ hK2_ => ?_
  refine W_region [some 7, some 8, some 9, some 10, some 11, some 12, some 0] rfl ?_
  refine Ops_step (R_move rfl) rfl rfl ?_
  refine Ops_step (R_move rfl) rfl rfl ?_
  refine Ops_step (R_len Tryd.underlying22 rfl rfl) rfl rfl ?_
  refine Ops_step (R_move rfl) rfl rfl ?_
  refine Ops_step (R_len Tryd.underlying22 rfl rfl) rfl rfl ?_
  have hk4_ := h.1
  replace h := h.2
  refine Exists.elim (cut_ex3 (n := 1) hs0 rfl (by decide) (Int.le_refl 0) hk4_ (Int.le_refl _)) fun A3_ h3_ => ?_
  have hr3_ := h3_.1
  have hs3_ := h3_.2
  clear h3_
  refine Ops_step (X_slice3 (xs := x0) Tryd.underlying22 TOtV.sz5 rfl hr3_ hc0 rfl rfl rfl (Int.le_refl 0) hk4_ (Int.le_refl _)) rfl rfl ?_
  clear hr3_
  refine Ops_step (R_assign rfl) rfl rfl ?_
  refine Ops_nil ?_
  refine then_n (hK2_ _ _ ?_)
  clear hK2_ K2_
  refine W_keepB [0] fun B5 hB5_ => ?_
  simp only [pickE, lookE, putE, zipE, args0, Nat.reduceAdd, Nat.zero_add, List.cons_append, List.nil_append, Nat.reduceBEq, cond_true, cond_false] at hB5_
  subst hB5_
  refine Exists.elim h fun J6_ h => ?_
  have hr6_ := h.1
  replace h := h.2
  refine W_seq_join [] [] (fun vs w2 => ∃  (L H : Gh), vs = [] ∧ J6_ ∧ Inv [] G w L H w2 ∧ Le Gh.no L ∧ Le G H ∧ True) (fun B6 hB6_ => ?_) (fun B6 hB6_ => ?_)
  · simp only [pickE, lookE, putE, zipE, args0, Nat.reduceAdd, Nat.zero_add, List.cons_append, List.nil_append, Nat.reduceBEq, cond_true, cond_false] at hB6_
    subst hB6_
    clear hr6_
    have hll6_ := Le.refl Gh.no
    have hhh6_ := Le.refl G
    refine W_block ?_
    refine Exists.elim h fun I7_ h => Exists.elim h fun n7_ h => ?_
    have h0_ := h.1
    have hs7_ := h.2
    clear h
    refine W_loopB [] [0] (fun m vs w2 => ∃ (x0_7 : List UInt8) (A0_7 : Option Addr) (c0_7 : Nat) (L H : Gh), vs = [.slice A0_7 x0_7.length c0_7] ∧ I7_ m x0_7 ∧ Inv [] G w L H w2 ∧ Le Gh.no L ∧ Le G H ∧ x0_7.length ≤ c0_7 ∧ Sl H A0_7 x0_7 ∧ True) n7_ _ rfl ⟨(cut x0 0 (x0.length : Int)), A3_, (cut x0 0 (x0.length : Int)).length, _, _, rfl, h0_, hI, Le.refl _, Le.refl _, (Nat.le_refl _), hs3_, trivial⟩ fun B7 hB7_ => ?_
    clear h0_
    simp only [pickE, lookE, putE, zipE, args0, Nat.reduceAdd, Nat.zero_add, List.cons_append, List.nil_append, Nat.reduceBEq, cond_true, cond_false] at hB7_
    subst hB7_
    rintro m7_ _ w7_ ⟨x0_7, A0_7, c0_7, L7_, H7_, rfl, hJ7_, hI7_, hll7_, hhh7_, hc0_7, hs0_7, -⟩
    replace hI := hI7_
    clear hI7_
    have h := hs7_ m7_ x0_7 hJ7_
    clear hs7_ hJ7_
    replace hll6_ := hll6_.trans hll7_
    replace hhh6_ := hhh6_.trans hhh7_
    refine W_seq_k fun K8_ hK8_ => ?_
    refine W_seq_k fun K9_ hK9_ => ?_
    refine W_region [some 13, some 14, some 15] rfl ?_
    refine Ops_step (R_move rfl) rfl rfl ?_
    refine Ops_step (R_len Tryd.underlying22 rfl rfl) rfl rfl ?_
    refine Ops_step (R_gtr rfl rfl) rfl rfl ?_
    refine Ops_nil ?_
    refine then_n (hK9_ _ _ ?_)
    clear hK9_ K9_
    refine W_if rfl (fun hc10_ => ?_) (fun hc10_ => ?_)
    · replace h := h.1 hc10_
      refine W_skip ?_
      refine then_n (hK8_ _ _ ?_)
      clear hK8_ K8_
      refine W_block ?_
      refine W_seq_k fun K11_ hK11_ => ?_
      refine W_region [some 16, some 17, some 18, some 3] rfl ?_
      refine Ops_step (R_move rfl) rfl rfl ?_
      refine Exists.elim h fun x12_ h => ?_
      have hx12_ := h.1
      replace h := h.2
      have ha12_ := (hs0_7.atS hx12_).1
      have hg12_ := (hs0_7.atS hx12_).2
      refine Ops_step (R_indexSl Tryd.underlying22 TOtV.sz5 rfl rfl hx12_.1 hx12_.lt ha12_) rfl rfl ?_
      refine Ops_step (R_load TOtV.ag5 rfl (hI.st _ _ hg12_)) rfl rfl ?_
      refine Ops_step (R_assign rfl) rfl rfl ?_
      refine Ops_nil ?_
      refine then_n (hK11_ _ _ ?_)
      clear hK11_ K11_
      refine W_keepB [0, 3] fun B13 hB13_ => ?_
      simp only [pickE, lookE, putE, zipE, args0, Nat.reduceAdd, Nat.zero_add, List.cons_append, List.nil_append, Nat.reduceBEq, cond_true, cond_false] at hB13_
      subst hB13_
      refine Exists.elim h fun J14_ h => ?_
      have hr14_ := h.1
      replace h := h.2
      refine W_seq_join [3] [0] (fun vs w2 => ∃ (x0_14 : List UInt8) (A0_14 : Option Addr) (c0_14 : Nat) (L H : Gh), vs = [.slice A0_14 x0_14.length c0_14] ∧ J14_ x0_14 ∧ Inv [] G w L H w2 ∧ Le L7_ L ∧ Le H7_ H ∧ x0_14.length ≤ c0_14 ∧ Sl H A0_14 x0_14 ∧ True) (fun B14 hB14_ => ?_) (fun B14 hB14_ => ?_)
      · simp only [pickE, lookE, putE, zipE, args0, Nat.reduceAdd, Nat.zero_add, List.cons_append, List.nil_append, Nat.reduceBEq, cond_true, cond_false] at hB14_
        subst hB14_
        clear hr14_
        have hll14_ := Le.refl L7_
        have hhh14_ := Le.refl H7_
        refine W_seq_k fun K15_ hK15_ => ?_
        refine W_region [some 19, some 20] rfl ?_
        refine Ops_step (R_move rfl) rfl rfl ?_
        refine Ops_step (R_lss rfl rfl) rfl rfl ?_
        refine Ops_nil ?_
        refine then_n (hK15_ _ _ ?_)
        clear hK15_ K15_
        refine W_if rfl (fun hc16_ => ?_) (fun hc16_ => ?_)
        · replace h := h.1 hc16_
          refine W_seq_k fun K17_ hK17_ => ?_
          refine W_region [some 21, some 22, some 0] rfl ?_
          refine Ops_step (R_move rfl) rfl rfl ?_
          have hk19_ := h.1
          replace h := h.2
          refine Exists.elim (cut_ex (n := 1) hs0_7 rfl (by decide) hc0_7 (by decide) hk19_ (Int.le_refl _)) fun A18_ h18_ => Exists.elim h18_ fun c18_ h18_ => ?_
          have hr18_ := h18_.1
          have hc18_ := h18_.2.1
          have hs18_ := h18_.2.2
          clear h18_
          refine Ops_step (X_slice (xs := x0_7) Tryd.underlying22 TOtV.sz5 rfl hr18_ hc0_7 rfl rfl (by decide) hk19_ (Int.le_refl _)) rfl rfl ?_
          clear hr18_
          refine Ops_step (R_assign rfl) rfl rfl ?_
          refine Ops_nil ?_
          refine then_n (hK17_ _ _ ?_)
          clear hK17_ K17_
          refine W_seq_k fun K20_ hK20_ => ?_
          refine Exists.elim h fun J21_ h => ?_
          have hr21_ := h.1
          replace h := h.2
          refine W_seq_join [0] [31] (fun vs w2 => ∃ (x31_21 : Bool) (L H : Gh), vs = [.bool x31_21] ∧ J21_ x31_21 ∧ Inv [] G w L H w2 ∧ Le L7_ L ∧ Le H7_ H ∧ True) (fun B21 hB21_ => ?_) (fun B21 hB21_ => ?_)
          · simp only [pickE, lookE, putE, zipE, args0, Nat.reduceAdd, Nat.zero_add, List.cons_append, List.nil_append, Nat.reduceBEq, cond_true, cond_false] at hB21_
            subst hB21_
            clear hr21_
            have hll21_ := Le.refl L7_
            have hhh21_ := Le.refl H7_
            refine W_region [some 23, some 24, some 25, some 26, some 27, some 28, some 29, some 30, some 31] rfl ?_
            refine Ops_step (R_move rfl) rfl rfl ?_
            refine Ops_step (R_len Tryd.underlying22 rfl rfl) rfl rfl ?_
            refine Ops_step (R_gtr rfl rfl) rfl rfl ?_
            refine Ops_step (R_move rfl) rfl rfl ?_
            refine Ops_split 26 rfl (fun hg22_ => ?_) (fun hg22_ => ?_)
            · replace h := h.1 hg22_
              refine Ops_step (R_move rfl) rfl rfl ?_
              refine Ops_call (C_func TOtV.bd58 rfl) rfl rfl ?_
              refine (utf8_word_sl_byte_ok (x0 := (cut x0_7 1 (x0_7.length : Int))) hI.st (hg.up hI.le) hc18_ hs18_ h).mono ?_
              rintro _ w23_ ⟨r23_0, L23_, H23_, rfl, hI23_, h⟩
              refine Exists.elim (hI.call hI23_ (by simp)) fun L230_ h23_ => ?_
              have hz23_ := hI.size
              replace hI := h23_.1
              have u23_ := h23_.2.1
              have hl23_ := h23_.2.2
              clear h23_
              replace hll6_ := hll6_.trans u23_.ll
              replace hhh6_ := hhh6_.trans u23_.hh
              replace hll7_ := hll7_.trans u23_.ll
              replace hhh7_ := hhh7_.trans u23_.hh
              replace hll14_ := hll14_.trans u23_.ll
              replace hhh14_ := hhh14_.trans u23_.hh
              replace hs18_ := hs18_.up u23_.hh
              replace hll21_ := hll21_.trans u23_.ll
              replace hhh21_ := hhh21_.trans u23_.hh
              clear hI23_ u23_ hl23_
              refine ⟨_, rfl, ?_⟩
              refine Ops_step (R_and rfl rfl (and64 r23_0 (9259542123273814144#64))) rfl rfl ?_
              refine Ops_step (R_eql rfl rfl) rfl rfl ?_
              refine Ops_step (R_pick_true rfl rfl) rfl rfl ?_
              refine Ops_nil ?_
              refine then_n ?_
              exact ⟨_, rfl, ⟨(decide (((r23_0 &&& (9259542123273814144#64)).toNat : Int) = 0)), _, _, rfl, h, hI, hll21_, hhh21_, trivial⟩, ⟨rfl, trivial⟩⟩
            · replace h := h.2 hg22_
              refine Ops_pass rfl rfl ?_
              refine Ops_pass rfl rfl ?_
              refine Ops_pass rfl rfl ?_
              refine Ops_pass rfl rfl ?_
              refine Ops_step (R_pick_false rfl rfl) rfl rfl ?_
              refine Ops_nil ?_
              refine then_n ?_
              exact ⟨_, rfl, ⟨false, _, _, rfl, h, hI, hll21_, hhh21_, trivial⟩, ⟨rfl, trivial⟩⟩
          · simp only [pickE, lookE, putE, zipE, args0, Nat.reduceAdd, Nat.zero_add, List.cons_append, List.nil_append, Nat.reduceBEq, cond_true, cond_false] at hB21_
            subst hB21_
            clear h
            rintro _ w21_ ⟨x31_21, L21_, H21_, rfl, hJ21_, hI21_, hll21_, hhh21_, -⟩
            replace hI := hI21_
            clear hI21_
            have h := hr21_ x31_21 hJ21_
            clear hr21_ hJ21_
            replace hll6_ := hll6_.trans hll21_
            replace hhh6_ := hhh6_.trans hhh21_
            replace hll7_ := hll7_.trans hll21_
            replace hhh7_ := hhh7_.trans hhh21_
            replace hll14_ := hll14_.trans hll21_
            replace hhh14_ := hhh14_.trans hhh21_
            replace hs18_ := hs18_.up hhh21_
            refine W_cond rfl (fun hc24_ => ?_) (fun hc24_ => ?_)
            · replace h := h.1 hc24_
              refine W_seq_k fun K25_ hK25_ => ?_
              refine W_region [some 32, some 33, some 0] rfl ?_
              refine Ops_step (R_move rfl) rfl rfl ?_
              have hk27_ := h.1
              replace h := h.2
              refine Exists.elim (cut_ex (n := 1) hs18_ rfl (by decide) hc18_ (by decide) hk27_ (Int.le_refl _)) fun A26_ h26_ => Exists.elim h26_ fun c26_ h26_ => ?_
              have hr26_ := h26_.1
              have hc26_ := h26_.2.1
              have hs26_ := h26_.2.2
              clear h26_
              refine Ops_step (X_slice (xs := (cut x0_7 1 (x0_7.length : Int))) Tryd.underlying22 TOtV.sz5 rfl hr26_ hc18_ rfl rfl (by decide) hk27_ (Int.le_refl _)) rfl rfl ?_
              clear hr26_
              refine Ops_step (R_assign rfl) rfl rfl ?_
              refine Ops_nil ?_
              refine then_n (hK25_ _ _ ?_)
              clear hK25_ K25_
              refine Exists.elim h fun J28_ h => ?_
              have hr28_ := h.1
              replace h := h.2
              refine W_seq_join [0] [46] (fun vs w2 => ∃ (x46_28 : Bool) (L H : Gh), vs = [.bool x46_28] ∧ J28_ x46_28 ∧ Inv [] G w L H w2 ∧ Le L21_ L ∧ Le H21_ H ∧ True) (fun B28 hB28_ => ?_) (fun B28 hB28_ => ?_)
              · simp only [pickE, lookE, putE, zipE, args0, Nat.reduceAdd, Nat.zero_add, List.cons_append, List.nil_append, Nat.reduceBEq, cond_true, cond_false] at hB28_
                subst hB28_
                clear hr28_
                have hll28_ := Le.refl L21_
                have hhh28_ := Le.refl H21_
                refine W_drawF [some 34, some 35, some 36, some 37, some 38, some 39, some 40, some 41, some 42, some 43, some 44, some 45, some 46] [(0, true), (1, true), (2, true), (3, true), (4, true), (6, true), (7, true), (5, false), (8, false), (9, true), (10, true), (11, true), (12, true)] TOtV.hm rfl (by kernel_rfl) fun ops29_ w29_ hops29_ hF29_ => ?_
                replace hI := hI.fr0 hF29_
                clear hF29_
                refine HS_pure (fun w_ => R_move rfl) rfl rfl ?_
                refine HS_pure (fun w_ => R_len Tryd.underlying22 rfl rfl) rfl rfl ?_
                refine HS_pure (fun w_ => R_gtr rfl rfl) rfl rfl ?_
                refine HS_pure (fun w_ => R_move rfl) rfl rfl ?_
                refine HS_split 37 rfl (fun hg30_ => ?_) (fun hg30_ => ?_)
                · replace h := h.1 hg30_
                  refine HS_pure (fun w_ => R_move rfl) rfl rfl ?_
                  refine HS_pure (fun w_ => R_move rfl) rfl rfl ?_
                  have hk32_ := h.1
                  replace h := h.2
                  refine Exists.elim (cut_ex (n := 1) hs26_ rfl (by decide) hc26_ (by decide) hk32_ (Int.le_refl _)) fun A31_ h31_ => Exists.elim h31_ fun c31_ h31_ => ?_
                  have hr31_ := h31_.1
                  have hc31_ := h31_.2.1
                  have hs31_ := h31_.2.2
                  clear h31_
                  refine HS_pure (fun w_ => X_slice (xs := (cut (cut x0_7 1 (x0_7.length : Int)) 8 ((cut x0_7 1 (x0_7.length : Int)).length : Int))) Tryd.underlying22 TOtV.sz5 rfl hr31_ hc26_ rfl rfl (by decide) hk32_ (Int.le_refl _)) rfl rfl ?_
                  clear hr31_
                  refine HS_call [] _ rfl (by rw [hops29_]; kernel_rfl) (C_func TOtV.bd58 rfl) rfl rfl ?_
                  refine (utf8_word_sl_byte_ok (x0 := (cut (cut x0_7 1 (x0_7.length : Int)) 8 ((cut x0_7 1 (x0_7.length : Int)).length : Int))) hI.st (hg.up hI.le) hc26_ hs26_ h).mono ?_
                  rintro _ w33_ ⟨r33_0, L33_, H33_, rfl, hI33_, h⟩
                  refine Exists.elim (hI.call hI33_ (by simp)) fun L330_ h33_ => ?_
                  have hz33_ := hI.size
                  replace hI := h33_.1
                  have u33_ := h33_.2.1
                  have hl33_ := h33_.2.2
                  clear h33_
                  replace hll6_ := hll6_.trans u33_.ll
                  replace hhh6_ := hhh6_.trans u33_.hh
                  replace hll7_ := hll7_.trans u33_.ll
                  replace hhh7_ := hhh7_.trans u33_.hh
                  replace hll14_ := hll14_.trans u33_.ll
                  replace hhh14_ := hhh14_.trans u33_.hh
                  replace hs26_ := hs26_.up u33_.hh
                  replace hll28_ := hll28_.trans u33_.ll
                  replace hhh28_ := hhh28_.trans u33_.hh
                  replace hs31_ := hs31_.up u33_.hh
                  clear hI33_ u33_ hl33_
                  refine ⟨_, rfl, trivial, ?_⟩
                  refine HS_call [] _ rfl (by rw [hops29_]; kernel_rfl) (C_func TOtV.bd58 rfl) rfl rfl ?_
                  refine (utf8_word_sl_byte_ok (x0 := (cut (cut (cut x0_7 1 (x0_7.length : Int)) 8 ((cut x0_7 1 (x0_7.length : Int)).length : Int)) 8 ((cut (cut x0_7 1 (x0_7.length : Int)) 8 ((cut x0_7 1 (x0_7.length : Int)).length : Int)).length : Int))) hI.st (hg.up hI.le) hc31_ hs31_ h).mono ?_
                  rintro _ w34_ ⟨r34_0, L34_, H34_, rfl, hI34_, h⟩
                  refine Exists.elim (hI.call hI34_ (by simp)) fun L340_ h34_ => ?_
                  have hz34_ := hI.size
                  replace hI := h34_.1
                  have u34_ := h34_.2.1
                  have hl34_ := h34_.2.2
                  clear h34_
                  replace hll6_ := hll6_.trans u34_.ll
                  replace hhh6_ := hhh6_.trans u34_.hh
                  replace hll7_ := hll7_.trans u34_.ll
                  replace hhh7_ := hhh7_.trans u34_.hh
                  replace hll14_ := hll14_.trans u34_.ll
                  replace hhh14_ := hhh14_.trans u34_.hh
                  replace hs26_ := hs26_.up u34_.hh
                  replace hll28_ := hll28_.trans u34_.ll
                  replace hhh28_ := hhh28_.trans u34_.hh
                  replace hs31_ := hs31_.up u34_.hh
                  clear hI34_ u34_ hl34_
                  refine ⟨_, rfl, trivial, ?_⟩
                  refine HS_pure (fun w_ => R_or rfl rfl (or64 r33_0 r34_0)) rfl rfl ?_
                  refine HS_pure (fun w_ => R_and rfl rfl (and64 (r33_0 ||| r34_0) (9259542123273814144#64))) rfl rfl ?_
                  refine HS_pure (fun w_ => R_eql rfl rfl) rfl rfl ?_
                  refine HS_pure (fun w_ => R_pick_true rfl rfl) rfl rfl ?_
                  refine HS_nil ?_
                  clear hops29_
                  refine then_n ?_
                  exact ⟨_, rfl, ⟨(decide ((((r33_0 ||| r34_0) &&& (9259542123273814144#64)).toNat : Int) = 0)), _, _, rfl, h, hI, hll28_, hhh28_, trivial⟩, ⟨rfl, trivial⟩⟩
                · replace h := h.2 hg30_
                  refine HS_pass rfl rfl ?_
                  refine HS_pass rfl rfl ?_
                  refine HS_pass rfl rfl ?_
                  refine HS_passL rfl rfl ?_
                  refine HS_passL rfl rfl ?_
                  refine HS_pass rfl rfl ?_
                  refine HS_pass rfl rfl ?_
                  refine HS_pass rfl rfl ?_
                  refine HS_pure (fun w_ => R_pick_false rfl rfl) rfl rfl ?_
                  refine HS_nil ?_
                  clear hops29_
                  refine then_n ?_
                  exact ⟨_, rfl, ⟨false, _, _, rfl, h, hI, hll28_, hhh28_, trivial⟩, ⟨rfl, trivial⟩⟩
              · simp only [pickE, lookE, putE, zipE, args0, Nat.reduceAdd, Nat.zero_add, List.cons_append, List.nil_append, Nat.reduceBEq, cond_true, cond_false] at hB28_
                subst hB28_
                clear h
                rintro _ w28_ ⟨x46_28, L28_, H28_, rfl, hJ28_, hI28_, hll28_, hhh28_, -⟩
                replace hI := hI28_
                clear hI28_
                have h := hr28_ x46_28 hJ28_
                clear hr28_ hJ28_
                replace hll6_ := hll6_.trans hll28_
                replace hhh6_ := hhh6_.trans hhh28_
                replace hll7_ := hll7_.trans hll28_
                replace hhh7_ := hhh7_.trans hhh28_
                replace hll14_ := hll14_.trans hll28_
                replace hhh14_ := hhh14_.trans hhh28_
                replace hs26_ := hs26_.up hhh28_
                refine W_cond rfl (fun hc35_ => ?_) (fun hc35_ => ?_)
                · replace h := h.1 hc35_
                  refine W_seq_k fun K36_ hK36_ => ?_
                  refine W_region [some 47, some 48, some 0] rfl ?_
                  refine Ops_step (R_move rfl) rfl rfl ?_
                  have hk38_ := h.1
                  replace h := h.2
                  refine Exists.elim (cut_ex (n := 1) hs26_ rfl (by decide) hc26_ (by decide) hk38_ (Int.le_refl _)) fun A37_ h37_ => Exists.elim h37_ fun c37_ h37_ => ?_
                  have hr37_ := h37_.1
                  have hc37_ := h37_.2.1
                  have hs37_ := h37_.2.2
                  clear h37_
                  refine Ops_step (X_slice (xs := (cut (cut x0_7 1 (x0_7.length : Int)) 8 ((cut x0_7 1 (x0_7.length : Int)).length : Int))) Tryd.underlying22 TOtV.sz5 rfl hr37_ hc26_ rfl rfl (by decide) hk38_ (Int.le_refl _)) rfl rfl ?_
                  clear hr37_
                  refine Ops_step (R_assign rfl) rfl rfl ?_
                  refine Ops_nil ?_
                  refine then_n (hK36_ _ _ ?_)
                  clear hK36_ K36_
                  refine W_block ?_
                  refine Exists.elim h fun I39_ h => Exists.elim h fun n39_ h => ?_
                  have h0_ := h.1
                  have hs39_ := h.2
                  clear h
                  refine W_loopB [] [0] (fun m vs w2 => ∃ (x0_39 : List UInt8) (A0_39 : Option Addr) (c0_39 : Nat) (L H : Gh), vs = [.slice A0_39 x0_39.length c0_39] ∧ I39_ m x0_39 ∧ Inv [] G w L H w2 ∧ Le L28_ L ∧ Le H28_ H ∧ x0_39.length ≤ c0_39 ∧ Sl H A0_39 x0_39 ∧ True) n39_ _ rfl ⟨(cut (cut (cut x0_7 1 (x0_7.length : Int)) 8 ((cut x0_7 1 (x0_7.length : Int)).length : Int)) 16 ((cut (cut x0_7 1 (x0_7.length : Int)) 8 ((cut x0_7 1 (x0_7.length : Int)).length : Int)).length : Int)), A37_, c37_, _, _, rfl, h0_, hI, Le.refl _, Le.refl _, hc37_, hs37_, trivial⟩ fun B39 hB39_ => ?_
                  clear h0_
                  simp only [pickE, lookE, putE, zipE, args0, Nat.reduceAdd, Nat.zero_add, List.cons_append, List.nil_append, Nat.reduceBEq, cond_true, cond_false] at hB39_
                  subst hB39_
                  rintro m39_ _ w39_ ⟨x0_39, A0_39, c0_39, L39_, H39_, rfl, hJ39_, hI39_, hll39_, hhh39_, hc0_39, hs0_39, -⟩
                  replace hI := hI39_
                  clear hI39_
                  have h := hs39_ m39_ x0_39 hJ39_
                  clear hs39_ hJ39_
                  replace hll6_ := hll6_.trans hll39_
                  replace hhh6_ := hhh6_.trans hhh39_
                  replace hll7_ := hll7_.trans hll39_
                  replace hhh7_ := hhh7_.trans hhh39_
                  replace hll14_ := hll14_.trans hll39_
                  replace hhh14_ := hhh14_.trans hhh39_
                  refine W_seq_k fun K40_ hK40_ => ?_
                  refine Exists.elim h fun J41_ h => ?_
                  have hr41_ := h.1
                  replace h := h.2
                  refine W_seq_join [0] [69] (fun vs w2 => ∃ (x69_41 : Bool) (L H : Gh), vs = [.bool x69_41] ∧ J41_ x69_41 ∧ Inv [] G w L H w2 ∧ Le L39_ L ∧ Le H39_ H ∧ True) (fun B41 hB41_ => ?_) (fun B41 hB41_ => ?_)
                  · simp only [pickE, lookE, putE, zipE, args0, Nat.reduceAdd, Nat.zero_add, List.cons_append, List.nil_append, Nat.reduceBEq, cond_true, cond_false] at hB41_
                    subst hB41_
                    clear hr41_
                    have hll41_ := Le.refl L39_
                    have hhh41_ := Le.refl H39_
                    refine W_drawF [some 49, some 50, some 51, some 52, some 53, some 54, some 55, some 56, some 57, some 58, some 59, some 60, some 61, some 62, some 63, some 64, some 65, some 66, some 67, some 68, some 69] [(0, true), (1, true), (2, true), (3, true), (4, true), (6, true), (7, true), (10, true), (11, true), (13, true), (14, true), (5, false), (8, false), (9, true), (12, false), (15, false), (16, true), (17, true), (18, true), (19, true), (20, true)] TOtV.hm rfl (by kernel_rfl) fun ops42_ w42_ hops42_ hF42_ => ?_
                    replace hI := hI.fr0 hF42_
                    clear hF42_
                    refine HS_pure (fun w_ => R_move rfl) rfl rfl ?_
                    refine HS_pure (fun w_ => R_len Tryd.underlying22 rfl rfl) rfl rfl ?_
                    refine HS_pure (fun w_ => R_gtr rfl rfl) rfl rfl ?_
                    refine HS_pure (fun w_ => R_move rfl) rfl rfl ?_
                    refine HS_split 52 rfl (fun hg43_ => ?_) (fun hg43_ => ?_)
                    · replace h := h.1 hg43_
                      refine HS_pure (fun w_ => R_move rfl) rfl rfl ?_
                      refine HS_pure (fun w_ => R_move rfl) rfl rfl ?_
                      have hk45_ := h.1
                      replace h := h.2
                      refine Exists.elim (cut_ex (n := 1) hs0_39 rfl (by decide) hc0_39 (by decide) hk45_ (Int.le_refl _)) fun A44_ h44_ => Exists.elim h44_ fun c44_ h44_ => ?_
                      have hr44_ := h44_.1
                      have hc44_ := h44_.2.1
                      have hs44_ := h44_.2.2
                      clear h44_
                      refine HS_pure (fun w_ => X_slice (xs := x0_39) Tryd.underlying22 TOtV.sz5 rfl hr44_ hc0_39 rfl rfl (by decide) hk45_ (Int.le_refl _)) rfl rfl ?_
                      clear hr44_
                      refine HS_pure (fun w_ => R_move rfl) rfl rfl ?_
                      have hk47_ := h.1
                      replace h := h.2
                      refine Exists.elim (cut_ex (n := 1) hs0_39 rfl (by decide) hc0_39 (by decide) hk47_ (Int.le_refl _)) fun A46_ h46_ => Exists.elim h46_ fun c46_ h46_ => ?_
                      have hr46_ := h46_.1
                      have hc46_ := h46_.2.1
                      have hs46_ := h46_.2.2
                      clear h46_
                      refine HS_pure (fun w_ => X_slice (xs := x0_39) Tryd.underlying22 TOtV.sz5 rfl hr46_ hc0_39 rfl rfl (by decide) hk47_ (Int.le_refl _)) rfl rfl ?_
                      clear hr46_
                      refine HS_pure (fun w_ => R_move rfl) rfl rfl ?_
                      have hk49_ := h.1
                      replace h := h.2
                      refine Exists.elim (cut_ex (n := 1) hs0_39 rfl (by decide) hc0_39 (by decide) hk49_ (Int.le_refl _)) fun A48_ h48_ => Exists.elim h48_ fun c48_ h48_ => ?_
                      have hr48_ := h48_.1
                      have hc48_ := h48_.2.1
                      have hs48_ := h48_.2.2
                      clear h48_
                      refine HS_pure (fun w_ => X_slice (xs := x0_39) Tryd.underlying22 TOtV.sz5 rfl hr48_ hc0_39 rfl rfl (by decide) hk49_ (Int.le_refl _)) rfl rfl ?_
                      clear hr48_
                      refine HS_call [] _ rfl (by rw [hops42_]; kernel_rfl) (C_func TOtV.bd58 rfl) rfl rfl ?_
                      refine (utf8_word_sl_byte_ok (x0 := x0_39) hI.st (hg.up hI.le) hc0_39 hs0_39 h).mono ?_
                      rintro _ w50_ ⟨r50_0, L50_, H50_, rfl, hI50_, h⟩
                      refine Exists.elim (hI.call hI50_ (by simp)) fun L500_ h50_ => ?_
                      have hz50_ := hI.size
                      replace hI := h50_.1
                      have u50_ := h50_.2.1
                      have hl50_ := h50_.2.2
                      clear h50_
                      replace hll6_ := hll6_.trans u50_.ll
                      replace hhh6_ := hhh6_.trans u50_.hh
                      replace hll7_ := hll7_.trans u50_.ll
                      replace hhh7_ := hhh7_.trans u50_.hh
                      replace hll14_ := hll14_.trans u50_.ll
                      replace hhh14_ := hhh14_.trans u50_.hh
                      replace hs0_39 := hs0_39.up u50_.hh
                      replace hll39_ := hll39_.trans u50_.ll
                      replace hhh39_ := hhh39_.trans u50_.hh
                      replace hll41_ := hll41_.trans u50_.ll
                      replace hhh41_ := hhh41_.trans u50_.hh
                      replace hs44_ := hs44_.up u50_.hh
                      replace hs46_ := hs46_.up u50_.hh
                      replace hs48_ := hs48_.up u50_.hh
                      clear hI50_ u50_ hl50_
                      refine ⟨_, rfl, trivial, ?_⟩
                      refine HS_call [] _ rfl (by rw [hops42_]; kernel_rfl) (C_func TOtV.bd58 rfl) rfl rfl ?_
                      refine (utf8_word_sl_byte_ok (x0 := (cut x0_39 8 (x0_39.length : Int))) hI.st (hg.up hI.le) hc44_ hs44_ h).mono ?_
                      rintro _ w51_ ⟨r51_0, L51_, H51_, rfl, hI51_, h⟩
                      refine Exists.elim (hI.call hI51_ (by simp)) fun L510_ h51_ => ?_
                      have hz51_ := hI.size
                      replace hI := h51_.1
                      have u51_ := h51_.2.1
                      have hl51_ := h51_.2.2
                      clear h51_
                      replace hll6_ := hll6_.trans u51_.ll
                      replace hhh6_ := hhh6_.trans u51_.hh
                      replace hll7_ := hll7_.trans u51_.ll
                      replace hhh7_ := hhh7_.trans u51_.hh
                      replace hll14_ := hll14_.trans u51_.ll
                      replace hhh14_ := hhh14_.trans u51_.hh
                      replace hs0_39 := hs0_39.up u51_.hh
                      replace hll39_ := hll39_.trans u51_.ll
                      replace hhh39_ := hhh39_.trans u51_.hh
                      replace hll41_ := hll41_.trans u51_.ll
                      replace hhh41_ := hhh41_.trans u51_.hh
                      replace hs44_ := hs44_.up u51_.hh
                      replace hs46_ := hs46_.up u51_.hh
                      replace hs48_ := hs48_.up u51_.hh
                      clear hI51_ u51_ hl51_
                      refine ⟨_, rfl, trivial, ?_⟩
                      refine HS_pure (fun w_ => R_or rfl rfl (or64 r50_0 r51_0)) rfl rfl ?_
                      refine HS_call [] _ rfl (by rw [hops42_]; kernel_rfl) (C_func TOtV.bd58 rfl) rfl rfl ?_
                      refine (utf8_word_sl_byte_ok (x0 := (cut x0_39 16 (x0_39.length : Int))) hI.st (hg.up hI.le) hc46_ hs46_ h).mono ?_
                      rintro _ w52_ ⟨r52_0, L52_, H52_, rfl, hI52_, h⟩
                      refine Exists.elim (hI.call hI52_ (by simp)) fun L520_ h52_ => ?_
                      have hz52_ := hI.size
                      replace hI := h52_.1
                      have u52_ := h52_.2.1
                      have hl52_ := h52_.2.2
                      clear h52_
                      replace hll6_ := hll6_.trans u52_.ll
                      replace hhh6_ := hhh6_.trans u52_.hh
                      replace hll7_ := hll7_.trans u52_.ll
                      replace hhh7_ := hhh7_.trans u52_.hh
                      replace hll14_ := hll14_.trans u52_.ll
                      replace hhh14_ := hhh14_.trans u52_.hh
                      replace hs0_39 := hs0_39.up u52_.hh
                      replace hll39_ := hll39_.trans u52_.ll
                      replace hhh39_ := hhh39_.trans u52_.hh
                      replace hll41_ := hll41_.trans u52_.ll
                      replace hhh41_ := hhh41_.trans u52_.hh
                      replace hs44_ := hs44_.up u52_.hh
                      replace hs46_ := hs46_.up u52_.hh
                      replace hs48_ := hs48_.up u52_.hh
                      clear hI52_ u52_ hl52_
                      refine ⟨_, rfl, trivial, ?_⟩
                      refine HS_call [] _ rfl (by rw [hops42_]; kernel_rfl) (C_func TOtV.bd58 rfl) rfl rfl ?_
                      refine (utf8_word_sl_byte_ok (x0 := (cut x0_39 24 (x0_39.length : Int))) hI.st (hg.up hI.le) hc48_ hs48_ h).mono ?_
                      rintro _ w53_ ⟨r53_0, L53_, H53_, rfl, hI53_, h⟩
                      refine Exists.elim (hI.call hI53_ (by simp)) fun L530_ h53_ => ?_
                      have hz53_ := hI.size
                      replace hI := h53_.1
                      have u53_ := h53_.2.1
                      have hl53_ := h53_.2.2
                      clear h53_
                      replace hll6_ := hll6_.trans u53_.ll
                      replace hhh6_ := hhh6_.trans u53_.hh
                      replace hll7_ := hll7_.trans u53_.ll
                      replace hhh7_ := hhh7_.trans u53_.hh
                      replace hll14_ := hll14_.trans u53_.ll
                      replace hhh14_ := hhh14_.trans u53_.hh
                      replace hs0_39 := hs0_39.up u53_.hh
                      replace hll39_ := hll39_.trans u53_.ll
                      replace hhh39_ := hhh39_.trans u53_.hh
                      replace hll41_ := hll41_.trans u53_.ll
                      replace hhh41_ := hhh41_.trans u53_.hh
                      replace hs44_ := hs44_.up u53_.hh
                      replace hs46_ := hs46_.up u53_.hh
                      replace hs48_ := hs48_.up u53_.hh
                      clear hI53_ u53_ hl53_
                      refine ⟨_, rfl, trivial, ?_⟩
                      refine HS_pure (fun w_ => R_or rfl rfl (or64 r52_0 r53_0)) rfl rfl ?_
                      refine HS_pure (fun w_ => R_or rfl rfl (or64 (r50_0 ||| r51_0) (r52_0 ||| r53_0))) rfl rfl ?_
                      refine HS_pure (fun w_ => R_and rfl rfl (and64 ((r50_0 ||| r51_0) ||| (r52_0 ||| r53_0)) (9259542123273814144#64))) rfl rfl ?_
                      refine HS_pure (fun w_ => R_eql rfl rfl) rfl rfl ?_
                      refine HS_pure (fun w_ => R_pick_true rfl rfl) rfl rfl ?_
                      refine HS_nil ?_
                      clear hops42_
                      refine then_n ?_
                      exact ⟨_, rfl, ⟨(decide (((((r50_0 ||| r51_0) ||| (r52_0 ||| r53_0)) &&& (9259542123273814144#64)).toNat : Int) = 0)), _, _, rfl, h, hI, hll41_, hhh41_, trivial⟩, ⟨rfl, trivial⟩⟩
                    · replace h := h.2 hg43_
                      refine HS_pass rfl rfl ?_
                      refine HS_pass rfl rfl ?_
                      refine HS_pass rfl rfl ?_
                      refine HS_pass rfl rfl ?_
                      refine HS_pass rfl rfl ?_
                      refine HS_pass rfl rfl ?_
                      refine HS_pass rfl rfl ?_
                      refine HS_passL rfl rfl ?_
                      refine HS_passL rfl rfl ?_
                      refine HS_pass rfl rfl ?_
                      refine HS_passL rfl rfl ?_
                      refine HS_passL rfl rfl ?_
                      refine HS_pass rfl rfl ?_
                      refine HS_pass rfl rfl ?_
                      refine HS_pass rfl rfl ?_
                      refine HS_pass rfl rfl ?_
                      refine HS_pure (fun w_ => R_pick_false rfl rfl) rfl rfl ?_
                      refine HS_nil ?_
                      clear hops42_
                      refine then_n ?_
                      exact ⟨_, rfl, ⟨false, _, _, rfl, h, hI, hll41_, hhh41_, trivial⟩, ⟨rfl, trivial⟩⟩
                  · simp only [pickE, lookE, putE, zipE, args0, Nat.reduceAdd, Nat.zero_add, List.cons_append, List.nil_append, Nat.reduceBEq, cond_true, cond_false] at hB41_
                    subst hB41_
                    clear h
                    rintro _ w41_ ⟨x69_41, L41_, H41_, rfl, hJ41_, hI41_, hll41_, hhh41_, -⟩
                    replace hI := hI41_
                    clear hI41_
                    have h := hr41_ x69_41 hJ41_
                    clear hr41_ hJ41_
                    replace hll6_ := hll6_.trans hll41_
                    replace hhh6_ := hhh6_.trans hhh41_
                    replace hll7_ := hll7_.trans hll41_
                    replace hhh7_ := hhh7_.trans hhh41_
                    replace hll14_ := hll14_.trans hll41_
                    replace hhh14_ := hhh14_.trans hhh41_
                    replace hs0_39 := hs0_39.up hhh41_
                    replace hll39_ := hll39_.trans hll41_
                    replace hhh39_ := hhh39_.trans hhh41_
                    refine W_cond rfl (fun hc54_ => ?_) (fun hc54_ => ?_)
                    · replace h := h.1 hc54_
                      refine W_skip ?_
                      refine then_n (hK40_ _ _ ?_)
                      clear hK40_ K40_
                      refine W_block ?_
                      refine W_region [some 70, some 71, some 0] rfl ?_
                      refine Ops_step (R_move rfl) rfl rfl ?_
                      have hk56_ := h.1
                      replace h := h.2
                      refine Exists.elim (cut_ex (n := 1) hs0_39 rfl (by decide) hc0_39 (by decide) hk56_ (Int.le_refl _)) fun A55_ h55_ => Exists.elim h55_ fun c55_ h55_ => ?_
                      have hr55_ := h55_.1
                      have hc55_ := h55_.2.1
                      have hs55_ := h55_.2.2
                      clear h55_
                      refine Ops_step (X_slice (xs := x0_39) Tryd.underlying22 TOtV.sz5 rfl hr55_ hc0_39 rfl rfl (by decide) hk56_ (Int.le_refl _)) rfl rfl ?_
                      clear hr55_
                      refine Ops_step (R_assign rfl) rfl rfl ?_
                      refine Ops_nil ?_
                      refine block_n ?_
                      refine then_n ?_
                      exact h.elim fun m_ h => ⟨m_, _, h.1, rfl, ⟨(cut x0_39 32 (x0_39.length : Int)), A55_, c55_, _, _, rfl, h.2, hI, hll39_, hhh39_, hc55_, hs55_, trivial⟩, trivial⟩
                    · replace h := h.2 hc54_
                      refine W_exit ?_
                      refine then_exit ?_
                      clear hK40_ K40_
                      refine then_exit ?_
                      refine block_exit ?_
                      refine then_n (hK20_ _ _ ?_)
                      clear hK20_ K20_
                      refine W_exit ?_
                      refine then_exit ?_
                      refine block_exit ?_
                      refine then_n ?_
                      exact h.elim fun m_ h => ⟨m_, _, h.1, rfl, ⟨x0_39, A0_39, c0_39, _, _, rfl, h.2, hI, hll7_, hhh7_, hc0_39, hs0_39, trivial⟩, trivial⟩
                · replace h := h.2 hc35_
                  refine W_skip ?_
                  refine then_n (hK20_ _ _ ?_)
                  clear hK20_ K20_
                  refine W_exit ?_
                  refine then_exit ?_
                  refine block_exit ?_
                  refine then_n ?_
                  exact h.elim fun m_ h => ⟨m_, _, h.1, rfl, ⟨(cut (cut x0_7 1 (x0_7.length : Int)) 8 ((cut x0_7 1 (x0_7.length : Int)).length : Int)), A26_, c26_, _, _, rfl, h.2, hI, hll7_, hhh7_, hc26_, hs26_, trivial⟩, trivial⟩
            · replace h := h.2 hc24_
              refine W_skip ?_
              refine then_n (hK20_ _ _ ?_)
              clear hK20_ K20_
              refine W_exit ?_
              refine then_exit ?_
              refine block_exit ?_
              refine then_n ?_
              exact h.elim fun m_ h => ⟨m_, _, h.1, rfl, ⟨(cut x0_7 1 (x0_7.length : Int)), A18_, c18_, _, _, rfl, h.2, hI, hll7_, hhh7_, hc18_, hs18_, trivial⟩, trivial⟩
        · replace h := h.2 hc16_
          refine W_skip ?_
          refine then_n ?_
          exact ⟨_, rfl, ⟨x0_7, A0_7, c0_7, _, _, rfl, h, hI, hll14_, hhh14_, hc0_7, hs0_7, trivial⟩, ⟨rfl, trivial⟩⟩
      · simp only [pickE, lookE, putE, zipE, args0, Nat.reduceAdd, Nat.zero_add, List.cons_append, List.nil_append, Nat.reduceBEq, cond_true, cond_false] at hB14_
        subst hB14_
        clear h
        rintro _ w14_ ⟨x0_14, A0_14, c0_14, L14_, H14_, rfl, hJ14_, hI14_, hll14_, hhh14_, hc0_14, hs0_14, -⟩
        replace hI := hI14_
        clear hI14_
        have h := hr14_ x0_14 hJ14_
        clear hr14_ hJ14_
        replace hll6_ := hll6_.trans hll14_
        replace hhh6_ := hhh6_.trans hhh14_
        replace hll7_ := hll7_.trans hll14_
        replace hhh7_ := hhh7_.trans hhh14_
        refine W_seq_k fun K57_ hK57_ => ?_
        refine W_region [some 72, some 73, some 74, some 4] rfl ?_
        refine Ops_step (R_move rfl) rfl rfl ?_
        refine Ops_step (R_indexArr Tryd.underlying73 TOtV.sz5 rfl rfl (Int.natCast_nonneg _) (u8_lt _)) rfl rfl ?_
        refine Ops_step (R_load TOtV.ag5 rfl ((hg.up hI.le).first hI.st (Int.natCast_nonneg _) (u8_lt _))) rfl rfl ?_
        refine Ops_step (R_assign rfl) rfl rfl ?_
        refine Ops_nil ?_
        refine then_n (hK57_ _ _ ?_)
        clear hK57_ K57_
        refine W_seq_k fun K58_ hK58_ => ?_
        refine W_region [some 75, some 76, some 77, some 5] rfl ?_
        refine Ops_step (R_move rfl) rfl rfl ?_
        refine Ops_step (R_and rfl rfl (and8 (fstT (x12_.toNat : Int)) (7 : UInt8))) rfl rfl ?_
        refine Ops_step (R_conv Tryd.underlying5 Tryd.underlying3 rfl (c8_I _)) rfl rfl ?_
        refine Ops_step (R_assign rfl) rfl rfl ?_
        refine Ops_nil ?_
        refine then_n (hK58_ _ _ ?_)
        clear hK58_ K58_
        refine W_keepB [0, 4, 5] fun B59 hB59_ => ?_
        simp only [pickE, lookE, putE, zipE, args0, Nat.reduceAdd, Nat.zero_add, List.cons_append, List.nil_append, Nat.reduceBEq, cond_true, cond_false] at hB59_
        subst hB59_
        refine W_seq_k fun K60_ hK60_ => ?_
        refine W_region [some 78, some 79, some 80, some 81, some 6, none] rfl ?_
        refine Ops_step (R_move rfl) rfl rfl ?_
        refine Ops_step (R_shr rfl rfl (by decide) (shr8 (fstT (x12_.toNat : Int)) 4 (by decide))) rfl rfl ?_
        have hk61_ := h.1
        replace h := h.2
        refine Ops_step (R_indexArr Tryd.underlying76 TOtV.sz75 rfl rfl (Int.natCast_nonneg _) hk61_) rfl rfl ?_
        refine Ops_step (R_loadCs (cs := [vb (accLoT ((UInt8.ofBitVec ((fstT (x12_.toNat : Int)).toBitVec >>> (4 : Nat))).toNat : Int)), vb (accHiT ((UInt8.ofBitVec ((fstT (x12_.toNat : Int)).toBitVec >>> (4 : Nat))).toNat : Int))]) TOtV.ag75 TOtV.sz75 rfl ((hg.up hI.le).acc hI.st (Int.natCast_nonneg _) hk61_)) rfl rfl ?_
        have hI0_ := hI
        refine Ops_to (R_alloc TOtV.zr75) rfl rfl ?_
        rintro _ w62_ ⟨b62_, rfl, hb62_, hB62_, hF62_⟩
        replace hI := hI.fr0 hF62_
        have ht62_ : Tok H14_ _ b62_ 75 ([.int .u8 0, .int .u8 0]) := ⟨hB62_.to rfl, Out.ge hI0_.st (Nat.le_of_eq hb62_.symm)⟩
        have hge_b62_ : w.heap.size ≤ b62_ := hb62_ ▸ hI0_.size
        clear hB62_ hb62_ hI0_ hF62_
        refine Ops_to0 (R_storeN TOtV.sz75 rfl rfl rfl ht62_.blk (by decide) rfl) rfl ?_
        rintro _ w63_ ⟨hB63_, hF63_⟩
        replace hI := hI.tok hF63_ (out1 ht62_.out) (new1 hge_b62_)
        replace ht62_ : Tok H14_ _ b62_ 75 ([vb (accLoT ((UInt8.ofBitVec ((fstT (x12_.toNat : Int)).toBitVec >>> (4 : Nat))).toNat : Int)), vb (accHiT ((UInt8.ofBitVec ((fstT (x12_.toNat : Int)).toBitVec >>> (4 : Nat))).toNat : Int))]) := ⟨hB63_, ht62_.out⟩
        clear hF63_ hB63_
        refine Ops_nil ?_
        refine then_n (hK60_ _ _ ?_)
        clear hK60_ K60_
        refine W_seq_k fun K64_ hK64_ => ?_
        refine W_region [some 82] rfl ?_
        refine Ops_step (R_move rfl) rfl rfl ?_
        refine Ops_nil ?_
        refine then_n (hK64_ _ _ ?_)
        clear hK64_ K64_
        refine W_keepB [0, 6, 82] fun B65 hB65_ => ?_
        simp only [pickE, lookE, putE, zipE, args0, Nat.reduceAdd, Nat.zero_add, List.cons_append, List.nil_append, Nat.reduceBEq, cond_true, cond_false] at hB65_
        subst hB65_
        refine W_block ?_
        refine W_seq_k fun K66_ hK66_ => ?_
        refine W_region [some 84, some 83] rfl ?_
        refine Ops_step (R_eql rfl rfl) rfl rfl ?_
        refine Ops_step (R_assign rfl) rfl rfl ?_
        refine Ops_nil ?_
        refine then_n (hK66_ _ _ ?_)
        clear hK66_ K66_
        refine W_if rfl (fun hc67_ => ?_) (fun hc67_ => ?_)
        · replace h := h.1 hc67_
          refine W_seq_k fun K68_ hK68_ => ?_
          refine Exists.elim h fun J69_ h => ?_
          have hr69_ := h.1
          replace h := h.2
          refine W_seq_join [0] [103] (fun vs w2 => ∃ (x103_69 : Bool) (L H : Gh), vs = [.bool x103_69] ∧ J69_ x103_69 ∧ Inv [] G w L H w2 ∧ Le L14_ L ∧ Le H14_ H ∧ True) (fun B69 hB69_ => ?_) (fun B69 hB69_ => ?_)
          · simp only [pickE, lookE, putE, zipE, args0, Nat.reduceAdd, Nat.zero_add, List.cons_append, List.nil_append, Nat.reduceBEq, cond_true, cond_false] at hB69_
            subst hB69_
            clear hr69_
            have hll69_ := Le.refl L14_
            have hhh69_ := Le.refl H14_
            refine W_drawF [some 85, some 86, some 87, some 88, some 89, some 90, some 91, some 92, some 93, some 94, some 95, some 96, some 97, some 98, some 99, some 100, some 101, some 102, some 103] [(0, true), (1, true), (2, true), (3, true), (4, true), (5, true), (6, true), (7, true), (8, true), (9, true), (10, true), (11, true), (12, true), (13, true), (14, true), (15, true), (16, true), (17, true), (18, true)] TOtV.hm rfl (by kernel_rfl) fun ops70_ w70_ hops70_ hF70_ => ?_
            replace hI := hI.fr0 hF70_
            replace ht62_ := ht62_.fr0 hF70_
            clear hF70_
            refine HS_pure (fun w_ => R_move rfl) rfl rfl ?_
            refine HS_pure (fun w_ => R_len Tryd.underlying22 rfl rfl) rfl rfl ?_
            refine HS_pure (fun w_ => R_lss rfl rfl) rfl rfl ?_
            refine HS_pure (fun w_ => R_move rfl) rfl rfl ?_
            refine HS_split 88 rfl (fun hg71_ => ?_) (fun hg71_ => ?_)
            · replace h := h.1 hg71_
              refine HS_pass rfl rfl ?_
              refine HS_pass rfl rfl ?_
              refine HS_pass rfl rfl ?_
              refine HS_pass rfl rfl ?_
              refine HS_pass rfl rfl ?_
              refine HS_pass rfl rfl ?_
              refine HS_pure (fun w_ => R_pick_true rfl rfl) rfl rfl ?_
              refine HS_pure (fun w_ => R_move rfl) rfl rfl ?_
              refine HS_pass rfl rfl ?_
              refine HS_pass rfl rfl ?_
              refine HS_pass rfl rfl ?_
              refine HS_pass rfl rfl ?_
              refine HS_pass rfl rfl ?_
              refine HS_pass rfl rfl ?_
              refine HS_pure (fun w_ => R_pick_true rfl rfl) rfl rfl ?_
              refine HS_nil ?_
              clear hops70_
              refine then_n ?_
              exact ⟨_, rfl, ⟨true, _, _, rfl, h, hI, hll69_, hhh69_, trivial⟩, ⟨rfl, trivial⟩⟩
            · replace h := h.2 hg71_
              refine HS_pure (fun w_ => R_move rfl) rfl rfl ?_
              refine Exists.elim h fun x72_ h => ?_
              have hx72_ := h.1
              replace h := h.2
              have ha72_ := (hs0_14.atS hx72_).1
              have hg72_ := (hs0_14.atS hx72_).2
              refine HS_pure (fun w_ => R_indexSl Tryd.underlying22 TOtV.sz5 rfl rfl hx72_.1 hx72_.lt ha72_) rfl rfl ?_
              refine HS_load TOtV.ag5 rfl (hI.st _ _ hg72_) rfl rfl ?_
              refine HS_pure (fun w_ => R_fieldAddr TOtV.fo75_0 rfl) rfl rfl ?_
              refine HS_loadB (v := vb (accLoT ((UInt8.ofBitVec ((fstT (x12_.toNat : Int)).toBitVec >>> (4 : Nat))).toNat : Int))) TOtV.ag5 rfl ht62_.blk rfl rfl rfl ?_
              refine HS_pure (fun w_ => R_lss rfl rfl) rfl rfl ?_
              refine HS_pure (fun w_ => R_pick_false rfl rfl) rfl rfl ?_
              refine HS_pure (fun w_ => R_move rfl) rfl rfl ?_
              refine HS_split 96 rfl (fun hg73_ => ?_) (fun hg73_ => ?_)
              · replace h := h.1 hg73_
                refine HS_pass rfl rfl ?_
                refine HS_pass rfl rfl ?_
                refine HS_pass rfl rfl ?_
                refine HS_pass rfl rfl ?_
                refine HS_pass rfl rfl ?_
                refine HS_pass rfl rfl ?_
                refine HS_pure (fun w_ => R_pick_true rfl rfl) rfl rfl ?_
                refine HS_nil ?_
                clear hops70_
                refine then_n ?_
                exact ⟨_, rfl, ⟨true, _, _, rfl, h, hI, hll69_, hhh69_, trivial⟩, ⟨rfl, trivial⟩⟩
              · replace h := h.2 hg73_
                refine HS_pure (fun w_ => R_fieldAddr TOtV.fo75_1 rfl) rfl rfl ?_
                refine HS_loadB (v := vb (accHiT ((UInt8.ofBitVec ((fstT (x12_.toNat : Int)).toBitVec >>> (4 : Nat))).toNat : Int))) TOtV.ag5 rfl ht62_.blk rfl rfl rfl ?_
                refine HS_pure (fun w_ => R_move rfl) rfl rfl ?_
                refine Exists.elim h fun x74_ h => ?_
                have hx74_ := h.1
                replace h := h.2
                have ha74_ := (hs0_14.atS hx74_).1
                have hg74_ := (hs0_14.atS hx74_).2
                refine HS_pure (fun w_ => R_indexSl Tryd.underlying22 TOtV.sz5 rfl rfl hx74_.1 hx74_.lt ha74_) rfl rfl ?_
                refine HS_load TOtV.ag5 rfl (hI.st _ _ hg74_) rfl rfl ?_
                refine HS_pure (fun w_ => R_lss rfl rfl) rfl rfl ?_
                refine HS_pure (fun w_ => R_pick_false rfl rfl) rfl rfl ?_
                refine HS_nil ?_
                clear hops70_
                refine then_n ?_
                exact ⟨_, rfl, ⟨(decide (((accHiT ((UInt8.ofBitVec ((fstT (x12_.toNat : Int)).toBitVec >>> (4 : Nat))).toNat : Int)).toNat : Int) < (x74_.toNat : Int))), _, _, rfl, h, hI, hll69_, hhh69_, trivial⟩, ⟨rfl, trivial⟩⟩
          · simp only [pickE, lookE, putE, zipE, args0, Nat.reduceAdd, Nat.zero_add, List.cons_append, List.nil_append, Nat.reduceBEq, cond_true, cond_false] at hB69_
            subst hB69_
            clear h
            rintro _ w69_ ⟨x103_69, L69_, H69_, rfl, hJ69_, hI69_, hll69_, hhh69_, -⟩
            replace hI := hI69_
            clear hI69_
            have h := hr69_ x103_69 hJ69_
            clear hr69_ hJ69_
            replace hll6_ := hll6_.trans hll69_
            replace hhh6_ := hhh6_.trans hhh69_
            replace hll7_ := hll7_.trans hll69_
            replace hhh7_ := hhh7_.trans hhh69_
            replace hs0_14 := hs0_14.up hhh69_
            refine W_cond rfl (fun hc75_ => ?_) (fun hc75_ => ?_)
            · replace h := h.1 hc75_
              refine W_seq_k fun K76_ hK76_ => ?_
              refine W_region [some 2] rfl ?_
              refine Ops_step (R_assign rfl) rfl rfl ?_
              refine Ops_nil ?_
              refine then_n (hK76_ _ _ ?_)
              clear hK76_ K76_
              refine W_ret ?_
              refine then_ret ?_
              clear hK68_ K68_
              refine block_ret ?_
              refine block_ret ?_
              refine then_ret ?_
              refine block_ret ?_
              refine then_ret ?_
              refine ⟨_, ⟨_, _, rfl, rfl, rfl⟩, ?_⟩
              exact ⟨false, _, _, rfl, hI, h⟩
            · replace h := h.2 hc75_
              refine W_skip ?_
              refine then_n (hK68_ _ _ ?_)
              clear hK68_ K68_
              refine W_region [some 104, some 105, some 0] rfl ?_
              refine Ops_step (R_move rfl) rfl rfl ?_
              have hk78_ := h.1
              replace h := h.2
              refine Exists.elim (cut_ex (n := 1) hs0_14 rfl (by decide) hc0_14 (by decide) hk78_ (Int.le_refl _)) fun A77_ h77_ => Exists.elim h77_ fun c77_ h77_ => ?_
              have hr77_ := h77_.1
              have hc77_ := h77_.2.1
              have hs77_ := h77_.2.2
              clear h77_
              refine Ops_step (X_slice (xs := x0_14) Tryd.underlying22 TOtV.sz5 rfl hr77_ hc0_14 rfl rfl (by decide) hk78_ (Int.le_refl _)) rfl rfl ?_
              clear hr77_
              refine Ops_step (R_assign rfl) rfl rfl ?_
              refine Ops_nil ?_
              refine block_n ?_
              refine block_n ?_
              refine then_n ?_
              exact h.elim fun m_ h => ⟨m_, _, h.1, rfl, ⟨(cut x0_14 2 (x0_14.length : Int)), A77_, c77_, _, _, rfl, h.2, hI, hll7_, hhh7_, hc77_, hs77_, trivial⟩, trivial⟩
        · replace h := h.2 hc67_
          refine W_seq_k fun K79_ hK79_ => ?_
          refine W_region [some 107, some 106] rfl ?_
          refine Ops_step (R_eql rfl rfl) rfl rfl ?_
          refine Ops_step (R_assign rfl) rfl rfl ?_
          refine Ops_nil ?_
          refine then_n (hK79_ _ _ ?_)
          clear hK79_ K79_
          refine W_if rfl (fun hc80_ => ?_) (fun hc80_ => ?_)
          · replace h := h.1 hc80_
            refine W_seq_k fun K81_ hK81_ => ?_
            refine Exists.elim h fun J82_ h => ?_
            have hr82_ := h.1
            replace h := h.2
            refine W_seq_join [0] [138] (fun vs w2 => ∃ (x138_82 : Bool) (L H : Gh), vs = [.bool x138_82] ∧ J82_ x138_82 ∧ Inv [] G w L H w2 ∧ Le L14_ L ∧ Le H14_ H ∧ True) (fun B82 hB82_ => ?_) (fun B82 hB82_ => ?_)
            · simp only [pickE, lookE, putE, zipE, args0, Nat.reduceAdd, Nat.zero_add, List.cons_append, List.nil_append, Nat.reduceBEq, cond_true, cond_false] at hB82_
              subst hB82_
              clear hr82_
              have hll82_ := Le.refl L14_
              have hhh82_ := Le.refl H14_
              refine W_drawF [some 108, some 109, some 110, some 111, some 112, some 113, some 114, some 115, some 116, some 117, some 118, some 119, some 120, some 121, some 122, some 123, some 124, some 125, some 126, some 127, some 128, some 129, some 130, some 131, some 132, some 133, some 134, some 135, some 136, some 137, some 138] [(0, true), (1, true), (2, true), (3, true), (4, true), (5, true), (6, true), (7, true), (8, true), (9, true), (10, true), (11, true), (12, true), (13, true), (14, true), (15, true), (16, true), (17, true), (18, true), (19, true), (20, true), (21, true), (22, true), (23, true), (24, true), (25, true), (26, true), (27, true), (28, true), (29, true), (30, true)] TOtV.hm rfl (by kernel_rfl) fun ops83_ w83_ hops83_ hF83_ => ?_
              replace hI := hI.fr0 hF83_
              replace ht62_ := ht62_.fr0 hF83_
              clear hF83_
              refine HS_pure (fun w_ => R_move rfl) rfl rfl ?_
              refine HS_pure (fun w_ => R_len Tryd.underlying22 rfl rfl) rfl rfl ?_
              refine HS_pure (fun w_ => R_lss rfl rfl) rfl rfl ?_
              refine HS_pure (fun w_ => R_move rfl) rfl rfl ?_
              refine HS_split 111 rfl (fun hg84_ => ?_) (fun hg84_ => ?_)
              · replace h := h.1 hg84_
                refine HS_pass rfl rfl ?_
                refine HS_pass rfl rfl ?_
                refine HS_pass rfl rfl ?_
                refine HS_pass rfl rfl ?_
                refine HS_pass rfl rfl ?_
                refine HS_pass rfl rfl ?_
                refine HS_pure (fun w_ => R_pick_true rfl rfl) rfl rfl ?_
                refine HS_pure (fun w_ => R_move rfl) rfl rfl ?_
                refine HS_pass rfl rfl ?_
                refine HS_pass rfl rfl ?_
                refine HS_pass rfl rfl ?_
                refine HS_pass rfl rfl ?_
                refine HS_pass rfl rfl ?_
                refine HS_pass rfl rfl ?_
                refine HS_pure (fun w_ => R_pick_true rfl rfl) rfl rfl ?_
                refine HS_pure (fun w_ => R_move rfl) rfl rfl ?_
                refine HS_pass rfl rfl ?_
                refine HS_pass rfl rfl ?_
                refine HS_pass rfl rfl ?_
                refine HS_pass rfl rfl ?_
                refine HS_pure (fun w_ => R_pick_true rfl rfl) rfl rfl ?_
                refine HS_pure (fun w_ => R_move rfl) rfl rfl ?_
                refine HS_pass rfl rfl ?_
                refine HS_pass rfl rfl ?_
                refine HS_pass rfl rfl ?_
                refine HS_pass rfl rfl ?_
                refine HS_pure (fun w_ => R_pick_true rfl rfl) rfl rfl ?_
                refine HS_nil ?_
                clear hops83_
                refine then_n ?_
                exact ⟨_, rfl, ⟨true, _, _, rfl, h, hI, hll82_, hhh82_, trivial⟩, ⟨rfl, trivial⟩⟩
              · replace h := h.2 hg84_
                refine HS_pure (fun w_ => R_move rfl) rfl rfl ?_
                refine Exists.elim h fun x85_ h => ?_
                have hx85_ := h.1
                replace h := h.2
                have ha85_ := (hs0_14.atS hx85_).1
                have hg85_ := (hs0_14.atS hx85_).2
                refine HS_pure (fun w_ => R_indexSl Tryd.underlying22 TOtV.sz5 rfl rfl hx85_.1 hx85_.lt ha85_) rfl rfl ?_
                refine HS_load TOtV.ag5 rfl (hI.st _ _ hg85_) rfl rfl ?_
                refine HS_pure (fun w_ => R_fieldAddr TOtV.fo75_0 rfl) rfl rfl ?_
                refine HS_loadB (v := vb (accLoT ((UInt8.ofBitVec ((fstT (x12_.toNat : Int)).toBitVec >>> (4 : Nat))).toNat : Int))) TOtV.ag5 rfl ht62_.blk rfl rfl rfl ?_
                refine HS_pure (fun w_ => R_lss rfl rfl) rfl rfl ?_
                refine HS_pure (fun w_ => R_pick_false rfl rfl) rfl rfl ?_
                refine HS_pure (fun w_ => R_move rfl) rfl rfl ?_
                refine HS_split 119 rfl (fun hg86_ => ?_) (fun hg86_ => ?_)
                · replace h := h.1 hg86_
                  refine HS_pass rfl rfl ?_
                  refine HS_pass rfl rfl ?_
                  refine HS_pass rfl rfl ?_
                  refine HS_pass rfl rfl ?_
                  refine HS_pass rfl rfl ?_
                  refine HS_pass rfl rfl ?_
                  refine HS_pure (fun w_ => R_pick_true rfl rfl) rfl rfl ?_
                  refine HS_pure (fun w_ => R_move rfl) rfl rfl ?_
                  refine HS_pass rfl rfl ?_
                  refine HS_pass rfl rfl ?_
                  refine HS_pass rfl rfl ?_
                  refine HS_pass rfl rfl ?_
                  refine HS_pure (fun w_ => R_pick_true rfl rfl) rfl rfl ?_
                  refine HS_pure (fun w_ => R_move rfl) rfl rfl ?_
                  refine HS_pass rfl rfl ?_
                  refine HS_pass rfl rfl ?_
                  refine HS_pass rfl rfl ?_
                  refine HS_pass rfl rfl ?_
                  refine HS_pure (fun w_ => R_pick_true rfl rfl) rfl rfl ?_
                  refine HS_nil ?_
                  clear hops83_
                  refine then_n ?_
                  exact ⟨_, rfl, ⟨true, _, _, rfl, h, hI, hll82_, hhh82_, trivial⟩, ⟨rfl, trivial⟩⟩
                · replace h := h.2 hg86_
                  refine HS_pure (fun w_ => R_fieldAddr TOtV.fo75_1 rfl) rfl rfl ?_
                  refine HS_loadB (v := vb (accHiT ((UInt8.ofBitVec ((fstT (x12_.toNat : Int)).toBitVec >>> (4 : Nat))).toNat : Int))) TOtV.ag5 rfl ht62_.blk rfl rfl rfl ?_
                  refine HS_pure (fun w_ => R_move rfl) rfl rfl ?_
                  refine Exists.elim h fun x87_ h => ?_
                  have hx87_ := h.1
                  replace h := h.2
                  have ha87_ := (hs0_14.atS hx87_).1
                  have hg87_ := (hs0_14.atS hx87_).2
                  refine HS_pure (fun w_ => R_indexSl Tryd.underlying22 TOtV.sz5 rfl rfl hx87_.1 hx87_.lt ha87_) rfl rfl ?_
                  refine HS_load TOtV.ag5 rfl (hI.st _ _ hg87_) rfl rfl ?_
                  refine HS_pure (fun w_ => R_lss rfl rfl) rfl rfl ?_
                  refine HS_pure (fun w_ => R_pick_false rfl rfl) rfl rfl ?_
                  refine HS_pure (fun w_ => R_move rfl) rfl rfl ?_
                  refine HS_split 127 rfl (fun hg88_ => ?_) (fun hg88_ => ?_)
                  · replace h := h.1 hg88_
                    refine HS_pass rfl rfl ?_
                    refine HS_pass rfl rfl ?_
                    refine HS_pass rfl rfl ?_
                    refine HS_pass rfl rfl ?_
                    refine HS_pure (fun w_ => R_pick_true rfl rfl) rfl rfl ?_
                    refine HS_pure (fun w_ => R_move rfl) rfl rfl ?_
                    refine HS_pass rfl rfl ?_
                    refine HS_pass rfl rfl ?_
                    refine HS_pass rfl rfl ?_
                    refine HS_pass rfl rfl ?_
                    refine HS_pure (fun w_ => R_pick_true rfl rfl) rfl rfl ?_
                    refine HS_nil ?_
                    clear hops83_
                    refine then_n ?_
                    exact ⟨_, rfl, ⟨true, _, _, rfl, h, hI, hll82_, hhh82_, trivial⟩, ⟨rfl, trivial⟩⟩
                  · replace h := h.2 hg88_
                    refine HS_pure (fun w_ => R_move rfl) rfl rfl ?_
                    refine Exists.elim h fun x89_ h => ?_
                    have hx89_ := h.1
                    replace h := h.2
                    have ha89_ := (hs0_14.atS hx89_).1
                    have hg89_ := (hs0_14.atS hx89_).2
                    refine HS_pure (fun w_ => R_indexSl Tryd.underlying22 TOtV.sz5 rfl rfl hx89_.1 hx89_.lt ha89_) rfl rfl ?_
                    refine HS_load TOtV.ag5 rfl (hI.st _ _ hg89_) rfl rfl ?_
                    refine HS_pure (fun w_ => R_lss rfl rfl) rfl rfl ?_
                    refine HS_pure (fun w_ => R_pick_false rfl rfl) rfl rfl ?_
                    refine HS_pure (fun w_ => R_move rfl) rfl rfl ?_
                    refine HS_split 133 rfl (fun hg90_ => ?_) (fun hg90_ => ?_)
                    · replace h := h.1 hg90_
                      refine HS_pass rfl rfl ?_
                      refine HS_pass rfl rfl ?_
                      refine HS_pass rfl rfl ?_
                      refine HS_pass rfl rfl ?_
                      refine HS_pure (fun w_ => R_pick_true rfl rfl) rfl rfl ?_
                      refine HS_nil ?_
                      clear hops83_
                      refine then_n ?_
                      exact ⟨_, rfl, ⟨true, _, _, rfl, h, hI, hll82_, hhh82_, trivial⟩, ⟨rfl, trivial⟩⟩
                    · replace h := h.2 hg90_
                      refine HS_pure (fun w_ => R_move rfl) rfl rfl ?_
                      refine Exists.elim h fun x91_ h => ?_
                      have hx91_ := h.1
                      replace h := h.2
                      have ha91_ := (hs0_14.atS hx91_).1
                      have hg91_ := (hs0_14.atS hx91_).2
                      refine HS_pure (fun w_ => R_indexSl Tryd.underlying22 TOtV.sz5 rfl rfl hx91_.1 hx91_.lt ha91_) rfl rfl ?_
                      refine HS_load TOtV.ag5 rfl (hI.st _ _ hg91_) rfl rfl ?_
                      refine HS_pure (fun w_ => R_lss rfl rfl) rfl rfl ?_
                      refine HS_pure (fun w_ => R_pick_false rfl rfl) rfl rfl ?_
                      refine HS_nil ?_
                      clear hops83_
                      refine then_n ?_
                      exact ⟨_, rfl, ⟨(decide (191 < (x91_.toNat : Int))), _, _, rfl, h, hI, hll82_, hhh82_, trivial⟩, ⟨rfl, trivial⟩⟩
            · simp only [pickE, lookE, putE, zipE, args0, Nat.reduceAdd, Nat.zero_add, List.cons_append, List.nil_append, Nat.reduceBEq, cond_true, cond_false] at hB82_
              subst hB82_
              clear h
              rintro _ w82_ ⟨x138_82, L82_, H82_, rfl, hJ82_, hI82_, hll82_, hhh82_, -⟩
              replace hI := hI82_
              clear hI82_
              have h := hr82_ x138_82 hJ82_
              clear hr82_ hJ82_
              replace hll6_ := hll6_.trans hll82_
              replace hhh6_ := hhh6_.trans hhh82_
              replace hll7_ := hll7_.trans hll82_
              replace hhh7_ := hhh7_.trans hhh82_
              replace hs0_14 := hs0_14.up hhh82_
              refine W_cond rfl (fun hc92_ => ?_) (fun hc92_ => ?_)
              · replace h := h.1 hc92_
                refine W_seq_k fun K93_ hK93_ => ?_
                refine W_region [some 2] rfl ?_
                refine Ops_step (R_assign rfl) rfl rfl ?_
                refine Ops_nil ?_
                refine then_n (hK93_ _ _ ?_)
                clear hK93_ K93_
                refine W_ret ?_
                refine then_ret ?_
                clear hK81_ K81_
                refine block_ret ?_
                refine block_ret ?_
                refine then_ret ?_
                refine block_ret ?_
                refine then_ret ?_
                refine ⟨_, ⟨_, _, rfl, rfl, rfl⟩, ?_⟩
                exact ⟨false, _, _, rfl, hI, h⟩
              · replace h := h.2 hc92_
                refine W_skip ?_
                refine then_n (hK81_ _ _ ?_)
                clear hK81_ K81_
                refine W_region [some 139, some 140, some 0] rfl ?_
                refine Ops_step (R_move rfl) rfl rfl ?_
                have hk95_ := h.1
                replace h := h.2
                refine Exists.elim (cut_ex (n := 1) hs0_14 rfl (by decide) hc0_14 (by decide) hk95_ (Int.le_refl _)) fun A94_ h94_ => Exists.elim h94_ fun c94_ h94_ => ?_
                have hr94_ := h94_.1
                have hc94_ := h94_.2.1
                have hs94_ := h94_.2.2
                clear h94_
                refine Ops_step (X_slice (xs := x0_14) Tryd.underlying22 TOtV.sz5 rfl hr94_ hc0_14 rfl rfl (by decide) hk95_ (Int.le_refl _)) rfl rfl ?_
                clear hr94_
                refine Ops_step (R_assign rfl) rfl rfl ?_
                refine Ops_nil ?_
                refine block_n ?_
                refine block_n ?_
                refine then_n ?_
                exact h.elim fun m_ h => ⟨m_, _, h.1, rfl, ⟨(cut x0_14 3 (x0_14.length : Int)), A94_, c94_, _, _, rfl, h.2, hI, hll7_, hhh7_, hc94_, hs94_, trivial⟩, trivial⟩
          · replace h := h.2 hc80_
            refine W_seq_k fun K96_ hK96_ => ?_
            refine W_region [some 142, some 141] rfl ?_
            refine Ops_step (R_eql rfl rfl) rfl rfl ?_
            refine Ops_step (R_assign rfl) rfl rfl ?_
            refine Ops_nil ?_
            refine then_n (hK96_ _ _ ?_)
            clear hK96_ K96_
            refine W_keepB [0, 6, 141] fun B97 hB97_ => ?_
            simp only [pickE, lookE, putE, zipE, args0, Nat.reduceAdd, Nat.zero_add, List.cons_append, List.nil_append, Nat.reduceBEq, cond_true, cond_false] at hB97_
            subst hB97_
            refine W_if rfl (fun hc98_ => ?_) (fun hc98_ => ?_)
            · replace h := h.1 hc98_
              refine W_seq_k fun K99_ hK99_ => ?_
              refine Exists.elim h fun J100_ h => ?_
              have hr100_ := h.1
              replace h := h.2
              refine W_seq_join [0] [185] (fun vs w2 => ∃ (x185_100 : Bool) (L H : Gh), vs = [.bool x185_100] ∧ J100_ x185_100 ∧ Inv [] G w L H w2 ∧ Le L14_ L ∧ Le H14_ H ∧ True) (fun B100 hB100_ => ?_) (fun B100 hB100_ => ?_)
              · simp only [pickE, lookE, putE, zipE, args0, Nat.reduceAdd, Nat.zero_add, List.cons_append, List.nil_append, Nat.reduceBEq, cond_true, cond_false] at hB100_
                subst hB100_
                clear hr100_
                have hll100_ := Le.refl L14_
                have hhh100_ := Le.refl H14_
                refine W_drawF [some 143, some 144, some 145, some 146, some 147, some 148, some 149, some 150, some 151, some 152, some 153, some 154, some 155, some 156, some 157, some 158, some 159, some 160, some 161, some 162, some 163, some 164, some 165, some 166, some 167, some 168, some 169, some 170, some 171, some 172, some 173, some 174, some 175, some 176, some 177, some 178, some 179, some 180, some 181, some 182, some 183, some 184, some 185] [(0, true), (1, true), (2, true), (3, true), (4, true), (5, true), (6, true), (7, true), (8, true), (9, true), (10, true), (11, true), (12, true), (13, true), (14, true), (15, true), (16, true), (17, true), (18, true), (19, true), (20, true), (21, true), (22, true), (23, true), (24, true), (25, true), (26, true), (27, true), (28, true), (29, true), (30, true), (31, true), (32, true), (33, true), (34, true), (35, true), (36, true), (37, true), (38, true), (39, true), (40, true), (41, true), (42, true)] TOtV.hm rfl (by kernel_rfl) fun ops101_ w101_ hops101_ hF101_ => ?_
                replace hI := hI.fr0 hF101_
                replace ht62_ := ht62_.fr0 hF101_
                clear hF101_
                refine HS_pure (fun w_ => R_move rfl) rfl rfl ?_
                refine HS_pure (fun w_ => R_len Tryd.underlying22 rfl rfl) rfl rfl ?_
                refine HS_pure (fun w_ => R_lss rfl rfl) rfl rfl ?_
                refine HS_pure (fun w_ => R_move rfl) rfl rfl ?_
                refine HS_split 146 rfl (fun hg102_ => ?_) (fun hg102_ => ?_)
                · replace h := h.1 hg102_
                  refine HS_pass rfl rfl ?_
                  refine HS_pass rfl rfl ?_
                  refine HS_pass rfl rfl ?_
                  refine HS_pass rfl rfl ?_
                  refine HS_pass rfl rfl ?_
                  refine HS_pass rfl rfl ?_
                  refine HS_pure (fun w_ => R_pick_true rfl rfl) rfl rfl ?_
                  refine HS_pure (fun w_ => R_move rfl) rfl rfl ?_
                  refine HS_pass rfl rfl ?_
                  refine HS_pass rfl rfl ?_
                  refine HS_pass rfl rfl ?_
                  refine HS_pass rfl rfl ?_
                  refine HS_pass rfl rfl ?_
                  refine HS_pass rfl rfl ?_
                  refine HS_pure (fun w_ => R_pick_true rfl rfl) rfl rfl ?_
                  refine HS_pure (fun w_ => R_move rfl) rfl rfl ?_
                  refine HS_pass rfl rfl ?_
                  refine HS_pass rfl rfl ?_
                  refine HS_pass rfl rfl ?_
                  refine HS_pass rfl rfl ?_
                  refine HS_pure (fun w_ => R_pick_true rfl rfl) rfl rfl ?_
                  refine HS_pure (fun w_ => R_move rfl) rfl rfl ?_
                  refine HS_pass rfl rfl ?_
                  refine HS_pass rfl rfl ?_
                  refine HS_pass rfl rfl ?_
                  refine HS_pass rfl rfl ?_
                  refine HS_pure (fun w_ => R_pick_true rfl rfl) rfl rfl ?_
                  refine HS_pure (fun w_ => R_move rfl) rfl rfl ?_
                  refine HS_pass rfl rfl ?_
                  refine HS_pass rfl rfl ?_
                  refine HS_pass rfl rfl ?_
                  refine HS_pass rfl rfl ?_
                  refine HS_pure (fun w_ => R_pick_true rfl rfl) rfl rfl ?_
                  refine HS_pure (fun w_ => R_move rfl) rfl rfl ?_
                  refine HS_pass rfl rfl ?_
                  refine HS_pass rfl rfl ?_
                  refine HS_pass rfl rfl ?_
                  refine HS_pass rfl rfl ?_
                  refine HS_pure (fun w_ => R_pick_true rfl rfl) rfl rfl ?_
                  refine HS_nil ?_
                  clear hops101_
                  refine then_n ?_
                  exact ⟨_, rfl, ⟨true, _, _, rfl, h, hI, hll100_, hhh100_, trivial⟩, ⟨rfl, trivial⟩⟩
                · replace h := h.2 hg102_
                  refine HS_pure (fun w_ => R_move rfl) rfl rfl ?_
                  refine Exists.elim h fun x103_ h => ?_
                  have hx103_ := h.1
                  replace h := h.2
                  have ha103_ := (hs0_14.atS hx103_).1
                  have hg103_ := (hs0_14.atS hx103_).2
                  refine HS_pure (fun w_ => R_indexSl Tryd.underlying22 TOtV.sz5 rfl rfl hx103_.1 hx103_.lt ha103_) rfl rfl ?_
                  refine HS_load TOtV.ag5 rfl (hI.st _ _ hg103_) rfl rfl ?_
                  refine HS_pure (fun w_ => R_fieldAddr TOtV.fo75_0 rfl) rfl rfl ?_
                  refine HS_loadB (v := vb (accLoT ((UInt8.ofBitVec ((fstT (x12_.toNat : Int)).toBitVec >>> (4 : Nat))).toNat : Int))) TOtV.ag5 rfl ht62_.blk rfl rfl rfl ?_
                  refine HS_pure (fun w_ => R_lss rfl rfl) rfl rfl ?_
                  refine HS_pure (fun w_ => R_pick_false rfl rfl) rfl rfl ?_
                  refine HS_pure (fun w_ => R_move rfl) rfl rfl ?_
                  refine HS_split 154 rfl (fun hg104_ => ?_) (fun hg104_ => ?_)
                  · replace h := h.1 hg104_
                    refine HS_pass rfl rfl ?_
                    refine HS_pass rfl rfl ?_
                    refine HS_pass rfl rfl ?_
                    refine HS_pass rfl rfl ?_
                    refine HS_pass rfl rfl ?_
                    refine HS_pass rfl rfl ?_
                    refine HS_pure (fun w_ => R_pick_true rfl rfl) rfl rfl ?_
                    refine HS_pure (fun w_ => R_move rfl) rfl rfl ?_
                    refine HS_pass rfl rfl ?_
                    refine HS_pass rfl rfl ?_
                    refine HS_pass rfl rfl ?_
                    refine HS_pass rfl rfl ?_
                    refine HS_pure (fun w_ => R_pick_true rfl rfl) rfl rfl ?_
                    refine HS_pure (fun w_ => R_move rfl) rfl rfl ?_
                    refine HS_pass rfl rfl ?_
                    refine HS_pass rfl rfl ?_
                    refine HS_pass rfl rfl ?_
                    refine HS_pass rfl rfl ?_
                    refine HS_pure (fun w_ => R_pick_true rfl rfl) rfl rfl ?_
                    refine HS_pure (fun w_ => R_move rfl) rfl rfl ?_
                    refine HS_pass rfl rfl ?_
                    refine HS_pass rfl rfl ?_
                    refine HS_pass rfl rfl ?_
                    refine HS_pass rfl rfl ?_
                    refine HS_pure (fun w_ => R_pick_true rfl rfl) rfl rfl ?_
                    refine HS_pure (fun w_ => R_move rfl) rfl rfl ?_
                    refine HS_pass rfl rfl ?_
                    refine HS_pass rfl rfl ?_
                    refine HS_pass rfl rfl ?_
                    refine HS_pass rfl rfl ?_
                    refine HS_pure (fun w_ => R_pick_true rfl rfl) rfl rfl ?_
                    refine HS_nil ?_
                    clear hops101_
                    refine then_n ?_
                    exact ⟨_, rfl, ⟨true, _, _, rfl, h, hI, hll100_, hhh100_, trivial⟩, ⟨rfl, trivial⟩⟩
                  · replace h := h.2 hg104_
                    refine HS_pure (fun w_ => R_fieldAddr TOtV.fo75_1 rfl) rfl rfl ?_
                    refine HS_loadB (v := vb (accHiT ((UInt8.ofBitVec ((fstT (x12_.toNat : Int)).toBitVec >>> (4 : Nat))).toNat : Int))) TOtV.ag5 rfl ht62_.blk rfl rfl rfl ?_
                    refine HS_pure (fun w_ => R_move rfl) rfl rfl ?_
                    refine Exists.elim h fun x105_ h => ?_
                    have hx105_ := h.1
                    replace h := h.2
                    have ha105_ := (hs0_14.atS hx105_).1
                    have hg105_ := (hs0_14.atS hx105_).2
                    refine HS_pure (fun w_ => R_indexSl Tryd.underlying22 TOtV.sz5 rfl rfl hx105_.1 hx105_.lt ha105_) rfl rfl ?_
                    refine HS_load TOtV.ag5 rfl (hI.st _ _ hg105_) rfl rfl ?_
                    refine HS_pure (fun w_ => R_lss rfl rfl) rfl rfl ?_
                    refine HS_pure (fun w_ => R_pick_false rfl rfl) rfl rfl ?_
                    refine HS_pure (fun w_ => R_move rfl) rfl rfl ?_
                    refine HS_split 162 rfl (fun hg106_ => ?_) (fun hg106_ => ?_)
                    · replace h := h.1 hg106_
                      refine HS_pass rfl rfl ?_
                      refine HS_pass rfl rfl ?_
                      refine HS_pass rfl rfl ?_
                      refine HS_pass rfl rfl ?_
                      refine HS_pure (fun w_ => R_pick_true rfl rfl) rfl rfl ?_
                      refine HS_pure (fun w_ => R_move rfl) rfl rfl ?_
                      refine HS_pass rfl rfl ?_
                      refine HS_pass rfl rfl ?_
                      refine HS_pass rfl rfl ?_
                      refine HS_pass rfl rfl ?_
                      refine HS_pure (fun w_ => R_pick_true rfl rfl) rfl rfl ?_
                      refine HS_pure (fun w_ => R_move rfl) rfl rfl ?_
                      refine HS_pass rfl rfl ?_
                      refine HS_pass rfl rfl ?_
                      refine HS_pass rfl rfl ?_
                      refine HS_pass rfl rfl ?_
                      refine HS_pure (fun w_ => R_pick_true rfl rfl) rfl rfl ?_
                      refine HS_pure (fun w_ => R_move rfl) rfl rfl ?_
                      refine HS_pass rfl rfl ?_
                      refine HS_pass rfl rfl ?_
                      refine HS_pass rfl rfl ?_
                      refine HS_pass rfl rfl ?_
                      refine HS_pure (fun w_ => R_pick_true rfl rfl) rfl rfl ?_
                      refine HS_nil ?_
                      clear hops101_
                      refine then_n ?_
                      exact ⟨_, rfl, ⟨true, _, _, rfl, h, hI, hll100_, hhh100_, trivial⟩, ⟨rfl, trivial⟩⟩
                    · replace h := h.2 hg106_
                      refine HS_pure (fun w_ => R_move rfl) rfl rfl ?_
                      refine Exists.elim h fun x107_ h => ?_
                      have hx107_ := h.1
                      replace h := h.2
                      have ha107_ := (hs0_14.atS hx107_).1
                      have hg107_ := (hs0_14.atS hx107_).2
                      refine HS_pure (fun w_ => R_indexSl Tryd.underlying22 TOtV.sz5 rfl rfl hx107_.1 hx107_.lt ha107_) rfl rfl ?_
                      refine HS_load TOtV.ag5 rfl (hI.st _ _ hg107_) rfl rfl ?_
                      refine HS_pure (fun w_ => R_lss rfl rfl) rfl rfl ?_
                      refine HS_pure (fun w_ => R_pick_false rfl rfl) rfl rfl ?_
                      refine HS_pure (fun w_ => R_move rfl) rfl rfl ?_
                      refine HS_split 168 rfl (fun hg108_ => ?_) (fun hg108_ => ?_)
                      · replace h := h.1 hg108_
                        refine HS_pass rfl rfl ?_
                        refine HS_pass rfl rfl ?_
                        refine HS_pass rfl rfl ?_
                        refine HS_pass rfl rfl ?_
                        refine HS_pure (fun w_ => R_pick_true rfl rfl) rfl rfl ?_
                        refine HS_pure (fun w_ => R_move rfl) rfl rfl ?_
                        refine HS_pass rfl rfl ?_
                        refine HS_pass rfl rfl ?_
                        refine HS_pass rfl rfl ?_
                        refine HS_pass rfl rfl ?_
                        refine HS_pure (fun w_ => R_pick_true rfl rfl) rfl rfl ?_
                        refine HS_pure (fun w_ => R_move rfl) rfl rfl ?_
                        refine HS_pass rfl rfl ?_
                        refine HS_pass rfl rfl ?_
                        refine HS_pass rfl rfl ?_
                        refine HS_pass rfl rfl ?_
                        refine HS_pure (fun w_ => R_pick_true rfl rfl) rfl rfl ?_
                        refine HS_nil ?_
                        clear hops101_
                        refine then_n ?_
                        exact ⟨_, rfl, ⟨true, _, _, rfl, h, hI, hll100_, hhh100_, trivial⟩, ⟨rfl, trivial⟩⟩
                      · replace h := h.2 hg108_
                        refine HS_pure (fun w_ => R_move rfl) rfl rfl ?_
                        refine Exists.elim h fun x109_ h => ?_
                        have hx109_ := h.1
                        replace h := h.2
                        have ha109_ := (hs0_14.atS hx109_).1
                        have hg109_ := (hs0_14.atS hx109_).2
                        refine HS_pure (fun w_ => R_indexSl Tryd.underlying22 TOtV.sz5 rfl rfl hx109_.1 hx109_.lt ha109_) rfl rfl ?_
                        refine HS_load TOtV.ag5 rfl (hI.st _ _ hg109_) rfl rfl ?_
                        refine HS_pure (fun w_ => R_lss rfl rfl) rfl rfl ?_
                        refine HS_pure (fun w_ => R_pick_false rfl rfl) rfl rfl ?_
                        refine HS_pure (fun w_ => R_move rfl) rfl rfl ?_
                        refine HS_split 174 rfl (fun hg110_ => ?_) (fun hg110_ => ?_)
                        · replace h := h.1 hg110_
                          refine HS_pass rfl rfl ?_
                          refine HS_pass rfl rfl ?_
                          refine HS_pass rfl rfl ?_
                          refine HS_pass rfl rfl ?_
                          refine HS_pure (fun w_ => R_pick_true rfl rfl) rfl rfl ?_
                          refine HS_pure (fun w_ => R_move rfl) rfl rfl ?_
                          refine HS_pass rfl rfl ?_
                          refine HS_pass rfl rfl ?_
                          refine HS_pass rfl rfl ?_
                          refine HS_pass rfl rfl ?_
                          refine HS_pure (fun w_ => R_pick_true rfl rfl) rfl rfl ?_
                          refine HS_nil ?_
                          clear hops101_
                          refine then_n ?_
                          exact ⟨_, rfl, ⟨true, _, _, rfl, h, hI, hll100_, hhh100_, trivial⟩, ⟨rfl, trivial⟩⟩
                        · replace h := h.2 hg110_
                          refine HS_pure (fun w_ => R_move rfl) rfl rfl ?_
                          refine Exists.elim h fun x111_ h => ?_
                          have hx111_ := h.1
                          replace h := h.2
                          have ha111_ := (hs0_14.atS hx111_).1
                          have hg111_ := (hs0_14.atS hx111_).2
                          refine HS_pure (fun w_ => R_indexSl Tryd.underlying22 TOtV.sz5 rfl rfl hx111_.1 hx111_.lt ha111_) rfl rfl ?_
                          refine HS_load TOtV.ag5 rfl (hI.st _ _ hg111_) rfl rfl ?_
                          refine HS_pure (fun w_ => R_lss rfl rfl) rfl rfl ?_
                          refine HS_pure (fun w_ => R_pick_false rfl rfl) rfl rfl ?_
                          refine HS_pure (fun w_ => R_move rfl) rfl rfl ?_
                          refine HS_split 180 rfl (fun hg112_ => ?_) (fun hg112_ => ?_)
                          · replace h := h.1 hg112_
                            refine HS_pass rfl rfl ?_
                            refine HS_pass rfl rfl ?_
                            refine HS_pass rfl rfl ?_
                            refine HS_pass rfl rfl ?_
                            refine HS_pure (fun w_ => R_pick_true rfl rfl) rfl rfl ?_
                            refine HS_nil ?_
                            clear hops101_
                            refine then_n ?_
                            exact ⟨_, rfl, ⟨true, _, _, rfl, h, hI, hll100_, hhh100_, trivial⟩, ⟨rfl, trivial⟩⟩
                          · replace h := h.2 hg112_
                            refine HS_pure (fun w_ => R_move rfl) rfl rfl ?_
                            refine Exists.elim h fun x113_ h => ?_
                            have hx113_ := h.1
                            replace h := h.2
                            have ha113_ := (hs0_14.atS hx113_).1
                            have hg113_ := (hs0_14.atS hx113_).2
                            refine HS_pure (fun w_ => R_indexSl Tryd.underlying22 TOtV.sz5 rfl rfl hx113_.1 hx113_.lt ha113_) rfl rfl ?_
                            refine HS_load TOtV.ag5 rfl (hI.st _ _ hg113_) rfl rfl ?_
                            refine HS_pure (fun w_ => R_lss rfl rfl) rfl rfl ?_
                            refine HS_pure (fun w_ => R_pick_false rfl rfl) rfl rfl ?_
                            refine HS_nil ?_
                            clear hops101_
                            refine then_n ?_
                            exact ⟨_, rfl, ⟨(decide (191 < (x113_.toNat : Int))), _, _, rfl, h, hI, hll100_, hhh100_, trivial⟩, ⟨rfl, trivial⟩⟩
              · simp only [pickE, lookE, putE, zipE, args0, Nat.reduceAdd, Nat.zero_add, List.cons_append, List.nil_append, Nat.reduceBEq, cond_true, cond_false] at hB100_
                subst hB100_
                clear h
                rintro _ w100_ ⟨x185_100, L100_, H100_, rfl, hJ100_, hI100_, hll100_, hhh100_, -⟩
                replace hI := hI100_
                clear hI100_
                have h := hr100_ x185_100 hJ100_
                clear hr100_ hJ100_
                replace hll6_ := hll6_.trans hll100_
                replace hhh6_ := hhh6_.trans hhh100_
                replace hll7_ := hll7_.trans hll100_
                replace hhh7_ := hhh7_.trans hhh100_
                replace hs0_14 := hs0_14.up hhh100_
                refine W_cond rfl (fun hc114_ => ?_) (fun hc114_ => ?_)
                · replace h := h.1 hc114_
                  refine W_seq_k fun K115_ hK115_ => ?_
                  refine W_region [some 2] rfl ?_
                  refine Ops_step (R_assign rfl) rfl rfl ?_
                  refine Ops_nil ?_
                  refine then_n (hK115_ _ _ ?_)
                  clear hK115_ K115_
                  refine W_ret ?_
                  refine then_ret ?_
                  clear hK99_ K99_
                  refine block_ret ?_
                  refine block_ret ?_
                  refine then_ret ?_
                  refine block_ret ?_
                  refine then_ret ?_
                  refine ⟨_, ⟨_, _, rfl, rfl, rfl⟩, ?_⟩
                  exact ⟨false, _, _, rfl, hI, h⟩
                · replace h := h.2 hc114_
                  refine W_skip ?_
                  refine then_n (hK99_ _ _ ?_)
                  clear hK99_ K99_
                  refine W_region [some 186, some 187, some 0] rfl ?_
                  refine Ops_step (R_move rfl) rfl rfl ?_
                  have hk117_ := h.1
                  replace h := h.2
                  refine Exists.elim (cut_ex (n := 1) hs0_14 rfl (by decide) hc0_14 (by decide) hk117_ (Int.le_refl _)) fun A116_ h116_ => Exists.elim h116_ fun c116_ h116_ => ?_
                  have hr116_ := h116_.1
                  have hc116_ := h116_.2.1
                  have hs116_ := h116_.2.2
                  clear h116_
                  refine Ops_step (X_slice (xs := x0_14) Tryd.underlying22 TOtV.sz5 rfl hr116_ hc0_14 rfl rfl (by decide) hk117_ (Int.le_refl _)) rfl rfl ?_
                  clear hr116_
                  refine Ops_step (R_assign rfl) rfl rfl ?_
                  refine Ops_nil ?_
                  refine block_n ?_
                  refine block_n ?_
                  refine then_n ?_
                  exact h.elim fun m_ h => ⟨m_, _, h.1, rfl, ⟨(cut x0_14 4 (x0_14.length : Int)), A116_, c116_, _, _, rfl, h.2, hI, hll7_, hhh7_, hc116_, hs116_, trivial⟩, trivial⟩
            · replace h := h.2 hc98_
              refine W_seq_k fun K118_ hK118_ => ?_
              refine W_region [some 2] rfl ?_
              refine Ops_step (R_assign rfl) rfl rfl ?_
              refine Ops_nil ?_
              refine then_n (hK118_ _ _ ?_)
              clear hK118_ K118_
              refine W_ret ?_
              refine block_ret ?_
              refine block_ret ?_
              refine then_ret ?_
              refine block_ret ?_
              refine then_ret ?_
              refine ⟨_, ⟨_, _, rfl, rfl, rfl⟩, ?_⟩
              exact ⟨false, _, _, rfl, hI, h⟩
    · replace h := h.2 hc10_
      refine W_exit ?_
      refine then_exit ?_
      clear hK8_ K8_
      refine then_exit ?_
      refine block_exit ?_
      refine then_n ?_
      exact ⟨_, rfl, ⟨_, _, rfl, h, hI, hll6_, hhh6_, trivial⟩, trivial⟩
  · simp only [pickE, lookE, putE, zipE, args0, Nat.reduceAdd, Nat.zero_add, List.cons_append, List.nil_append, Nat.reduceBEq, cond_true, cond_false] at hB6_
    subst hB6_
    clear h
    rintro _ w6_ ⟨L6_, H6_, rfl, hJ6_, hI6_, hll6_, hhh6_, -⟩
    replace hI := hI6_
    clear hI6_
    have h := hr6_ hJ6_
    clear hr6_ hJ6_
    refine W_seq_k fun K119_ hK119_ => ?_
    refine W_region [some 2] rfl ?_
    refine Ops_step (R_assign rfl) rfl rfl ?_
    refine Ops_nil ?_
    refine then_n (hK119_ _ _ ?_)
    clear hK119_ K119_
    refine W_ret ?_
    refine ⟨_, ⟨_, _, rfl, rfl, rfl⟩, ?_⟩
    exact ⟨true, _, _, rfl, hI, h⟩

set_option maxHeartbeats 4000000 in
theorem utf8_RuneCount_ok {G : Gh} {w : World} (hS : St G w) (hg : GL G) {A0 : Option Addr} {c0 : Nat} {x0 : List UInt8} (hc0 : x0.length ≤ c0) (hs0 : Sl G A0 x0) {Q : Int → Prop} (h : utf8_RuneCount x0 Q) : Calls Tryd.prog 50 #[.slice A0 x0.length c0] w fun e w2 => ∃ (r0 : Int) (L H : Gh), e = .returned (vi r0) ∧ Inv [] G w L H w2 ∧ Q r0 := by
  unfold utf8_RuneCount at h
  have hI := Inv.start (M := []) hS
  refine calls_W 27 Tryd.func50 rfl Tryd.ntmps50 rfl [.tmp 2] rfl ?_
  refine W_seq_k fun K1_ hK1_ => ?_
  refine W_region [some 2] rfl ?_
  refine Ops_step (R_assign rfl) rfl rfl ?_
  refine Ops_nil ?_
  refine then_n (hK1_ _ _ ?_)
  clear hK1_ K1_
  refine W_seq_k fun K2_ hK2_ => ?_
  refine W_region [some 6, some 7, some 3] rfl ?_
  refine Ops_step (R_move rfl) rfl rfl ?_
  refine Ops_step (R_len Tryd.underlying22 rfl rfl) rfl rfl ?_
  refine Ops_step (R_assign rfl) rfl rfl ?_
  refine Ops_nil ?_
  refine then_n (hK2_ _ _ ?_)
  clear hK2_ K2_
  refine W_seq_k fun K3_ hK3_ => ?_
  refine W_region [some 4] rfl ?_
  refine Ops_step (R_assign rfl) rfl rfl ?_
  refine Ops_nil ?_
  refine then_n (hK3_ _ _ ?_)
  clear hK3_ K3_
  refine Exists.elim h fun J4_ h => ?_
  have hr4_ := h.1
  replace h := h.2
  refine W_seq_join [] [4] (fun vs w2 => ∃ (x4_4 : Int) (L H : Gh), vs = [vi x4_4] ∧ J4_ x4_4 ∧ Inv [] G w L H w2 ∧ Le Gh.no L ∧ Le G H ∧ True) (fun B4 hB4_ => ?_) (fun B4 hB4_ => ?_)
  · simp only [pickE, lookE, putE, zipE, args0, Nat.reduceAdd, Nat.zero_add, List.cons_append, List.nil_append, Nat.reduceBEq, cond_true, cond_false] at hB4_
    subst hB4_
    clear hr4_
    have hll4_ := Le.refl Gh.no
    have hhh4_ := Le.refl G
    refine W_block ?_
    refine Exists.elim h fun I5_ h => Exists.elim h fun n5_ h => ?_
    have h0_ := h.1
    have hs5_ := h.2
    clear h
    refine W_loopB [0, 3] [4] (fun m vs w2 => ∃ (x4_5 : Int) (L H : Gh), vs = [vi x4_5] ∧ I5_ m x4_5 ∧ Inv [] G w L H w2 ∧ Le Gh.no L ∧ Le G H ∧ True) n5_ _ rfl ⟨0, _, _, rfl, h0_, hI, Le.refl _, Le.refl _, trivial⟩ fun B5 hB5_ => ?_
    clear h0_
    simp only [pickE, lookE, putE, zipE, args0, Nat.reduceAdd, Nat.zero_add, List.cons_append, List.nil_append, Nat.reduceBEq, cond_true, cond_false] at hB5_
    subst hB5_
    rintro m5_ _ w5_ ⟨x4_5, L5_, H5_, rfl, hJ5_, hI5_, hll5_, hhh5_, -⟩
    replace hI := hI5_
    clear hI5_
    have h := hs5_ m5_ x4_5 hJ5_
    clear hs5_ hJ5_
    replace hs0 := hs0.up hhh5_
    replace hll4_ := hll4_.trans hll5_
    replace hhh4_ := hhh4_.trans hhh5_
    refine W_seq_k fun K6_ hK6_ => ?_
    refine W_seq_k fun K7_ hK7_ => ?_
    refine W_region [some 8, some 9, some 10] rfl ?_
    refine Ops_step (R_move rfl) rfl rfl ?_
    refine Ops_step (R_move rfl) rfl rfl ?_
    refine Ops_step (R_lss rfl rfl) rfl rfl ?_
    refine Ops_nil ?_
    refine then_n (hK7_ _ _ ?_)
    clear hK7_ K7_
    refine W_if rfl (fun hc8_ => ?_) (fun hc8_ => ?_)
    · replace h := h.1 hc8_
      refine W_skip ?_
      refine then_n (hK6_ _ _ ?_)
      clear hK6_ K6_
      refine W_seq_k fun K9_ hK9_ => ?_
      refine W_block ?_
      refine W_seq_k fun K10_ hK10_ => ?_
      refine W_region [some 13, some 14, some 15, some 16, some 5] rfl ?_
      refine Ops_step (R_move rfl) rfl rfl ?_
      refine Ops_step (R_move rfl) rfl rfl ?_
      refine Exists.elim h fun x11_ h => ?_
      have hx11_ := h.1
      replace h := h.2
      have ha11_ := (hs0.atS hx11_).1
      have hg11_ := (hs0.atS hx11_).2
      refine Ops_step (R_indexSl Tryd.underlying22 TOtV.sz5 rfl rfl hx11_.1 hx11_.lt ha11_) rfl rfl ?_
      refine Ops_step (R_load TOtV.ag5 rfl (hI.st _ _ hg11_)) rfl rfl ?_
      refine Ops_step (R_assign rfl) rfl rfl ?_
      refine Ops_nil ?_
      refine then_n (hK10_ _ _ ?_)
      clear hK10_ K10_
      refine W_keepB [0, 3, 4, 5] fun B12 hB12_ => ?_
      simp only [pickE, lookE, putE, zipE, args0, Nat.reduceAdd, Nat.zero_add, List.cons_append, List.nil_append, Nat.reduceBEq, cond_true, cond_false] at hB12_
      subst hB12_
      refine W_seq_k fun K13_ hK13_ => ?_
      refine W_region [some 17, some 18] rfl ?_
      refine Ops_step (R_move rfl) rfl rfl ?_
      refine Ops_step (R_geq rfl rfl) rfl rfl ?_
      refine Ops_nil ?_
      refine then_n (hK13_ _ _ ?_)
      clear hK13_ K13_
      refine W_if rfl (fun hc14_ => ?_) (fun hc14_ => ?_)
      · replace h := h.1 hc14_
        refine W_seq_k fun K15_ hK15_ => ?_
        refine W_region [some 19, some 20, some 21, some 22, some 23, some 24, some 25, some 2] rfl ?_
        refine Ops_step (R_move rfl) rfl rfl ?_
        refine Ops_step (R_move rfl) rfl rfl ?_
        refine Ops_step (R_move rfl) rfl rfl ?_
        have hk17_ := h.1
        replace h := h.2
        have hk18_ := h.1
        replace h := h.2
        refine Exists.elim (cut_ex (n := 1) hs0 rfl (by decide) hc0 hk17_ hk18_ (Int.le_refl _)) fun A16_ h16_ => Exists.elim h16_ fun c16_ h16_ => ?_
        have hr16_ := h16_.1
        have hc16_ := h16_.2.1
        have hs16_ := h16_.2.2
        clear h16_
        refine Ops_step (X_slice (xs := x0) Tryd.underlying22 TOtV.sz5 rfl hr16_ hc0 rfl rfl hk17_ hk18_ (Int.le_refl _)) rfl rfl ?_
        clear hr16_
        refine Ops_step (X_bytesStr (bs := (cut x0 x4_5 (x0.length : Int))) Tryd.underlying22 Tryd.underlying5 Tryd.underlying9 rfl rfl (hs16_.fz.rd hI.st)) rfl rfl ?_
        refine Ops_call (C_func TOtV.bd23 rfl) rfl rfl ?_
        refine (utf8_RuneCountInString_ok (x0 := (Str.mk (cut x0 x4_5 (x0.length : Int)))) hI.st (hg.up hI.le)  h).mono ?_
        rintro _ w19_ ⟨r19_0, L19_, H19_, rfl, hI19_, h⟩
        refine Exists.elim (hI.call hI19_ (by simp)) fun L190_ h19_ => ?_
        have hz19_ := hI.size
        replace hI := h19_.1
        have u19_ := h19_.2.1
        have hl19_ := h19_.2.2
        clear h19_
        replace hll4_ := hll4_.trans u19_.ll
        replace hhh4_ := hhh4_.trans u19_.hh
        replace hll5_ := hll5_.trans u19_.ll
        replace hhh5_ := hhh5_.trans u19_.hh
        clear hI19_ u19_ hl19_
        refine ⟨_, rfl, ?_⟩
        have hk20_ := h.1
        replace h := h.2
        refine Ops_step (R_add rfl rfl (wI hk20_.1 hk20_.2)) rfl rfl ?_
        refine Ops_step (R_assign rfl) rfl rfl ?_
        refine Ops_nil ?_
        refine then_n (hK15_ _ _ ?_)
        clear hK15_ K15_
        refine W_keepB [2] fun B21 hB21_ => ?_
        simp only [pickE, lookE, putE, zipE, args0, Nat.reduceAdd, Nat.zero_add, List.cons_append, List.nil_append, Nat.reduceBEq, cond_true, cond_false] at hB21_
        subst hB21_
        refine W_ret ?_
        refine block_ret ?_
        refine then_ret ?_
        clear hK9_ K9_
        refine then_ret ?_
        refine block_ret ?_
        refine then_ret ?_
        refine ⟨_, ⟨_, _, rfl, rfl, rfl⟩, ?_⟩
        exact ⟨(x4_5 + r19_0), _, _, rfl, hI, h⟩
      · replace h := h.2 hc14_
        refine W_skip ?_
        refine block_n ?_
        refine then_n (hK9_ _ _ ?_)
        clear hK9_ K9_
        refine W_region [some 11, some 12, some 4] rfl ?_
        refine Ops_step (R_move rfl) rfl rfl ?_
        have hk22_ := h.1
        replace h := h.2
        refine Ops_step (R_add rfl rfl (wI hk22_.1 hk22_.2)) rfl rfl ?_
        refine Ops_step (R_assign rfl) rfl rfl ?_
        refine Ops_nil ?_
        refine then_n ?_
        exact h.elim fun m_ h => ⟨m_, _, h.1, rfl, ⟨(x4_5 + 1), _, _, rfl, h.2, hI, hll5_, hhh5_, trivial⟩, ⟨rfl, rfl, trivial⟩⟩
    · replace h := h.2 hc8_
      refine W_exit ?_
      refine then_exit ?_
      clear hK6_ K6_
      refine then_exit ?_
      refine block_exit ?_
      refine then_n ?_
      exact ⟨_, rfl, ⟨x4_5, _, _, rfl, h, hI, hll4_, hhh4_, trivial⟩, trivial⟩
  · simp only [pickE, lookE, putE, zipE, args0, Nat.reduceAdd, Nat.zero_add, List.cons_append, List.nil_append, Nat.reduceBEq, cond_true, cond_false] at hB4_
    subst hB4_
    clear h
    rintro _ w4_ ⟨x4_4, L4_, H4_, rfl, hJ4_, hI4_, hll4_, hhh4_, -⟩
    replace hI := hI4_
    clear hI4_
    have h := hr4_ x4_4 hJ4_
    clear hr4_ hJ4_
    refine W_seq_k fun K23_ hK23_ => ?_
    refine W_region [some 26, some 2] rfl ?_
    refine Ops_step (R_move rfl) rfl rfl ?_
    refine Ops_step (R_assign rfl) rfl rfl ?_
    refine Ops_nil ?_
    refine then_n (hK23_ _ _ ?_)
    clear hK23_ K23_
    refine W_ret ?_
    refine ⟨_, ⟨_, _, rfl, rfl, rfl⟩, ?_⟩
    exact ⟨x4_4, _, _, rfl, hI, h⟩

end Go.Proofs.YtdnpdljnjoegiaaDoor
