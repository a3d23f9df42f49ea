/- What the walks of this seat show of OtC. -/
import Derived.Test.YtdnpdljnjoegiaaDoorOtCp
import Derived.Test.YtdnpdljnjoegiaaDoorOtB
import Derived.Test.YtdnpdljnjoegiaaDoorProg
set_option linter.unusedVariables false
set_option linter.unusedSimpArgs false
namespace Go.Proofs.YtdnpdljnjoegiaaDoor
open Go Go.Sx Go.Lx
namespace TOtC
theorem hm : Tryd.prog.follows .mixedOrders = true := by kernel_rfl
theorem ag3 : aggB Tryd.prog 3 = some false := by kernel_rfl
theorem ag35 : aggB Tryd.prog 35 = some false := by kernel_rfl
theorem ag5 : aggB Tryd.prog 5 = some false := by kernel_rfl
theorem bd14 : bodied Tryd.prog 14 = true := by kernel_rfl
theorem bd16 : bodied Tryd.prog 16 = true := by kernel_rfl
theorem bd21 : bodied Tryd.prog 21 = true := by kernel_rfl
theorem bd23 : bodied Tryd.prog 23 = true := by kernel_rfl
theorem bd24 : bodied Tryd.prog 24 = true := by kernel_rfl
theorem bd25 : bodied Tryd.prog 25 = true := by kernel_rfl
theorem bd26 : bodied Tryd.prog 26 = true := by kernel_rfl
theorem bd28 : bodied Tryd.prog 28 = true := by kernel_rfl
theorem bd35 : bodied Tryd.prog 35 = true := by kernel_rfl
theorem bd52 : bodied Tryd.prog 52 = true := by kernel_rfl
theorem bd53 : bodied Tryd.prog 53 = true := by kernel_rfl
theorem el22 : Elem Tryd.prog 22 5 1 1 := Elem.of (by kernel_rfl)
theorem el67 : Elem Tryd.prog 67 22 1 24 := Elem.of (by kernel_rfl)
theorem fo56_1 : offB Tryd.prog 56 1 = some 1 := by kernel_rfl
theorem fo56_2 : offB Tryd.prog 56 2 = some 2 := by kernel_rfl
theorem fo58_0 : offB Tryd.prog 58 0 = some 0 := by kernel_rfl
theorem sz3 : sz Tryd.prog 3 = some 1 := by kernel_rfl
theorem sz35 : sz Tryd.prog 35 = some 1 := by kernel_rfl
theorem sz5 : sz Tryd.prog 5 = some 1 := by kernel_rfl
theorem zr22 : zr Tryd.prog 22 = some ([.slice none 0 0]) := by kernel_rfl
end TOtC
set_option maxHeartbeats 4000000 in
theorem octet_Reader_Text_ok {G : Gh} {w : World} (hS : St G w) (hg : GL G) {d0 tb0 : Nat} {x0 : octet_Reader} (hr0 : Ob tb0 G G w d0 x0) {x1 : Int} {Q : Str → octet_Reader → Prop} (h : octet_Reader_Text x0 x1 Q) : Calls Tryd.prog 22 #[.pointer (some ⟨d0, 0, none⟩), vi x1] w fun e w2 => ∃ (r0 : Str) (y0 : octet_Reader) (L H : Gh), e = .returned (vs r0) ∧ Inv [d0] G w L H w2 ∧ Ob tb0 H H w2 d0 y0 ∧ Q r0 y0 := by
  unfold octet_Reader_Text at h
  have hI := Inv.start (M := [d0]) hS
  refine calls_W 71 Tryd.func22 rfl Tryd.ntmps22 rfl [.tmp 4] rfl ?_
  obtain ⟨l0_, hl0_, ht0⟩ := hr0
  obtain ⟨A0_1, c0_1, rfl, ⟨hc0_1, hs0_1⟩⟩ := hl0_
  have hlt_d0 := ht0.blk.lt
  refine W_seq_k fun K1_ hK1_ => ?_
  refine W_region [some 4] rfl ?_
  refine Ops_step (R_assign rfl) rfl rfl ?_
  refine Ops_nil ?_
  refine then_n (hK1_ _ _ ?_)
  clear hK1_ K1_
  refine W_seq_k fun K2_ hK2_ => ?_
  refine Exists.elim h fun J3_ h => ?_
  have hr3_ := h.1
  replace h := h.2
  refine W_seq_join [0, 1] [16] (fun vs w2 => ∃ (x16_3 : Bool) (L H : Gh), vs = [.bool x16_3] ∧ J3_ x16_3 ∧ Inv [d0] G w L H w2 ∧ Le Gh.no L ∧ Le G H ∧ Tok H w2 d0 tb0 ([.slice A0_1 x0.source_.b_.length c0_1, vi x0.source_.at_, vi x0.source_.err_, .bool x0.source_.made_]) ∧ True) (fun B3 hB3_ => ?_) (fun B3 hB3_ => ?_)
  · simp only [pickE, lookE, putE, zipE, args0, Nat.reduceAdd, Nat.zero_add, List.cons_append, List.nil_append, Nat.reduceBEq, cond_true, cond_false] at hB3_
    subst hB3_
    clear hr3_
    have hll3_ := Le.refl Gh.no
    have hhh3_ := Le.refl G
    refine W_region [some 7, some 8, some 9, some 10, some 11, some 12, some 13, some 14, some 15, some 16] rfl ?_
    refine Ops_step (R_move rfl) rfl rfl ?_
    refine Ops_call (C_func TOtC.bd52 rfl) rfl rfl ?_
    refine (octet_Reader_dead_ok (x0 := x0) hI.st (hg.up hI.le) ⟨_, ⟨A0_1, c0_1, rfl, ⟨hc0_1, hs0_1⟩⟩, ht0⟩ h).mono ?_
    rintro _ w4_ ⟨r4_0, L4_, H4_, rfl, hI4_, h⟩
    refine Exists.elim (hI.call hI4_ (by simp)) fun L40_ h4_ => ?_
    have hz4_ := hI.size
    replace hI := h4_.1
    have u4_ := h4_.2.1
    have hl4_ := h4_.2.2
    clear h4_
    replace hs0_1 := hs0_1.up u4_.hh
    replace ht0 := ht0.up u4_ (by simp)
    replace hll3_ := hll3_.trans u4_.ll
    replace hhh3_ := hhh3_.trans u4_.hh
    clear hI4_ u4_ hl4_
    refine ⟨_, rfl, ?_⟩
    refine Ops_step (R_move rfl) rfl rfl ?_
    refine Ops_splitB 9 rfl (fun hg5_ => ?_) (fun hg5_ => ?_)
    · replace h := h.1 hg5_
      refine Ops_pass rfl rfl ?_
      refine Ops_pass rfl rfl ?_
      refine Ops_pass rfl rfl ?_
      refine Ops_pass rfl rfl ?_
      refine Ops_pass rfl rfl ?_
      refine Ops_pass rfl rfl ?_
      refine Ops_step (R_pick_true rfl rfl) rfl rfl ?_
      refine Ops_nil ?_
      refine then_n ?_
      exact ⟨_, rfl, ⟨true, _, _, rfl, h, hI, hll3_, hhh3_, ht0, trivial⟩, ⟨rfl, rfl, trivial⟩⟩
    · replace h := h.2 hg5_
      refine Ops_step (R_move rfl) rfl rfl ?_
      refine Ops_step (R_nilCheck rfl) rfl rfl ?_
      refine Ops_step (R_fieldAddr TOtC.fo58_0 rfl) rfl rfl ?_
      refine Ops_step (R_fieldAddr TOtC.fo56_2 rfl) rfl rfl ?_
      refine Ops_step (R_loadB (v := vi x0.source_.err_) TOtC.ag35 rfl ht0.blk rfl) rfl rfl ?_
      refine Ops_step (R_neq rfl rfl) rfl rfl ?_
      refine Ops_step (R_pick_false rfl rfl) rfl rfl ?_
      refine Ops_nil ?_
      refine then_n ?_
      exact ⟨_, rfl, ⟨(decide (x0.source_.err_ ≠ 0)), _, _, rfl, h, hI, hll3_, hhh3_, ht0, trivial⟩, ⟨rfl, rfl, trivial⟩⟩
  · simp only [pickE, lookE, putE, zipE, args0, Nat.reduceAdd, Nat.zero_add, List.cons_append, List.nil_append, Nat.reduceBEq, cond_true, cond_false] at hB3_
    subst hB3_
    clear h
    clear ht0
    rintro _ w3_ ⟨x16_3, L3_, H3_, rfl, hJ3_, hI3_, hll3_, hhh3_, ht0, -⟩
    replace hI := hI3_
    clear hI3_
    have h := hr3_ x16_3 hJ3_
    clear hr3_ hJ3_
    replace hs0_1 := hs0_1.up hhh3_
    refine W_cond rfl (fun hc6_ => ?_) (fun hc6_ => ?_)
    · replace h := h.1 hc6_
      refine W_seq_k fun K7_ hK7_ => ?_
      refine W_region [some 4] rfl ?_
      refine Ops_step (R_assign rfl) rfl rfl ?_
      refine Ops_nil ?_
      refine then_n (hK7_ _ _ ?_)
      clear hK7_ K7_
      refine W_ret ?_
      refine then_ret ?_
      clear hK2_ K2_
      refine ⟨_, ⟨_, _, rfl, rfl, rfl⟩, ?_⟩
      exact ⟨(Str.mk []), x0, _, _, rfl, hI, ⟨_, ⟨A0_1, c0_1, rfl, ⟨hc0_1, hs0_1⟩⟩, ht0⟩, h⟩
    · replace h := h.2 hc6_
      refine W_skip ?_
      refine then_n (hK2_ _ _ ?_)
      clear hK2_ K2_
      refine W_seq_k fun K8_ hK8_ => ?_
      refine W_region [some 17, some 18, some 19, some 20, some 21, some 5] rfl ?_
      refine Ops_step (R_move rfl) rfl rfl ?_
      refine Ops_step (R_nilCheck rfl) rfl rfl ?_
      refine Ops_step (R_fieldAddr TOtC.fo58_0 rfl) rfl rfl ?_
      refine Ops_step (R_fieldAddr TOtC.fo56_1 rfl) rfl rfl ?_
      refine Ops_step (R_loadB (v := vi x0.source_.at_) TOtC.ag3 rfl ht0.blk rfl) rfl rfl ?_
      refine Ops_step (R_assign rfl) rfl rfl ?_
      refine Ops_nil ?_
      refine then_n (hK8_ _ _ ?_)
      clear hK8_ K8_
      refine W_keepB [0, 1, 5] fun B9 hB9_ => ?_
      simp only [pickE, lookE, putE, zipE, args0, Nat.reduceAdd, Nat.zero_add, List.cons_append, List.nil_append, Nat.reduceBEq, cond_true, cond_false] at hB9_
      subst hB9_
      refine W_seq_k fun K10_ hK10_ => ?_
      refine W_region [some 22, some 23, some 24, some 25, some 26, some 27, some 28, some 6] rfl ?_
      refine Ops_step (R_move rfl) rfl rfl ?_
      refine Ops_step (R_move rfl) rfl rfl ?_
      refine Ops_step (R_max rfl rfl _root_.rfl) rfl rfl ?_
      refine Ops_step (R_min rfl rfl _root_.rfl) rfl rfl ?_
      have hk11_ := h.1
      replace h := h.2
      refine Ops_step (R_mul rfl rfl (wI hk11_.1 hk11_.2)) rfl rfl ?_
      refine Ops_call (C_func TOtC.bd21 rfl) rfl rfl ?_
      refine (octet_Reader_Bytes_ok (x0 := x0) (x1 := (4 * (min (max x1 0) 16384))) hI.st (hg.up hI.le) ⟨_, ⟨A0_1, c0_1, rfl, ⟨hc0_1, hs0_1⟩⟩, ht0⟩ h).mono ?_
      rintro _ w12_ ⟨A12_0, c12_0, r12_0, y12_0, L12_, H12_, rfl, hI12_, ho12_0, hq12_0, h⟩
      refine Exists.elim (hI.call hI12_ (mem1 (by simp))) fun L120_ h12_ => ?_
      have hz12_ := hI.size
      replace hI := h12_.1
      have u12_ := h12_.2.1
      have hl12_ := h12_.2.2
      clear h12_
      replace hs0_1 := hs0_1.up u12_.hh
      replace ho12_0 := OwnS.backS ho12_0 hz12_ (Le.refl _)
      clear ht0
      obtain ⟨l12_0_, hl12_0_, ht12_0⟩ := hq12_0
      obtain ⟨A12_0_1, c12_0_1, rfl, ⟨hc12_0_1, hs12_0_1⟩⟩ := hl12_0_
      clear hI12_ u12_ hl12_
      refine ⟨_, rfl, ?_⟩
      refine Exists.elim (ho12_0.freeze hI) fun L13_ h13_ => Exists.elim h13_ fun H13_ h13_ => ?_
      replace hI := h13_.1
      have u13_ := h13_.2.1
      have hs13_ := h13_.2.2.1 (Le.no _)
      have hc13_ := ho12_0.cap
      replace hs12_0_1 := hs12_0_1.up u13_.hh
      replace ht12_0 := ht12_0.up u13_ (ho12_0.old hlt_d0)
      clear h13_ u13_ ho12_0
      refine Ops_step (X_bytesStr (bs := r12_0) Tryd.underlying22 Tryd.underlying5 Tryd.underlying9 rfl rfl ((hs13_.up hI.sub).fz.rd hI.st)) rfl rfl ?_
      refine Ops_step (R_assign rfl) rfl rfl ?_
      refine Ops_nil ?_
      refine then_n (hK10_ _ _ ?_)
      clear hK10_ K10_
      refine W_keepB [0, 1, 5, 6] fun B14 hB14_ => ?_
      simp only [pickE, lookE, putE, zipE, args0, Nat.reduceAdd, Nat.zero_add, List.cons_append, List.nil_append, Nat.reduceBEq, cond_true, cond_false] at hB14_
      subst hB14_
      refine Exists.elim h fun J15_ h => ?_
      have hr15_ := h.1
      replace h := h.2
      refine W_seq_join [0, 6] [] (fun vs w2 => ∃ (yd0_15 : octet_Reader) (L H : Gh), vs = [] ∧ J15_ yd0_15 ∧ Inv [d0] G w L H w2 ∧ Le L13_ L ∧ Le H13_ H ∧ Ob tb0 H H w2 d0 yd0_15 ∧ True) (fun B15 hB15_ => ?_) (fun B15 hB15_ => ?_)
      · simp only [pickE, lookE, putE, zipE, args0, Nat.reduceAdd, Nat.zero_add, List.cons_append, List.nil_append, Nat.reduceBEq, cond_true, cond_false] at hB15_
        subst hB15_
        clear hr15_
        have hll15_ := Le.refl L13_
        have hhh15_ := Le.refl H13_
        refine W_block ?_
        refine W_seq_k fun K16_ hK16_ => ?_
        refine W_region [some 30, some 31, some 32, some 33, some 34, some 35, some 29] rfl ?_
        refine Ops_step (R_move rfl) rfl rfl ?_
        refine Ops_step (R_nilCheck rfl) rfl rfl ?_
        refine Ops_step (R_fieldAddr TOtC.fo58_0 rfl) rfl rfl ?_
        refine Ops_step (R_fieldAddr TOtC.fo56_2 rfl) rfl rfl ?_
        refine Ops_step (R_loadB (v := vi y12_0.source_.err_) TOtC.ag35 rfl ht12_0.blk rfl) rfl rfl ?_
        refine Ops_step (R_neq rfl rfl) rfl rfl ?_
        refine Ops_step (R_assign rfl) rfl rfl ?_
        refine Ops_nil ?_
        refine then_n (hK16_ _ _ ?_)
        clear hK16_ K16_
        refine W_keepB [0, 1, 5, 6, 29] fun B17 hB17_ => ?_
        simp only [pickE, lookE, putE, zipE, args0, Nat.reduceAdd, Nat.zero_add, List.cons_append, List.nil_append, Nat.reduceBEq, cond_true, cond_false] at hB17_
        subst hB17_
        refine W_if rfl (fun hc18_ => ?_) (fun hc18_ => ?_)
        · replace h := h.1 hc18_
          refine W_seq_k fun K19_ hK19_ => ?_
          refine W_region [some 4] rfl ?_
          refine Ops_step (R_assign rfl) rfl rfl ?_
          refine Ops_nil ?_
          refine then_n (hK19_ _ _ ?_)
          clear hK19_ K19_
          refine W_ret ?_
          refine block_ret ?_
          refine then_ret ?_
          refine ⟨_, ⟨_, _, rfl, rfl, rfl⟩, ?_⟩
          exact ⟨(Str.mk []), y12_0, _, _, rfl, hI, ⟨_, ⟨A12_0_1, c12_0_1, rfl, ⟨hc12_0_1, hs12_0_1⟩⟩, ht12_0⟩, h⟩
        · replace h := h.2 hc18_
          refine W_seq_k fun K20_ hK20_ => ?_
          refine W_region [some 37, some 38, some 39, some 36] rfl ?_
          refine Ops_step (R_move rfl) rfl rfl ?_
          refine Ops_call (C_func TOtC.bd14 rfl) rfl rfl ?_
          refine (utf8_ValidString_ok (x0 := (Str.mk r12_0)) hI.st (hg.up hI.le)  h).mono ?_
          rintro _ w21_ ⟨r21_0, L21_, H21_, rfl, hI21_, h⟩
          refine Exists.elim (hI.call hI21_ (by simp)) fun L210_ h21_ => ?_
          have hz21_ := hI.size
          replace hI := h21_.1
          have u21_ := h21_.2.1
          have hl21_ := h21_.2.2
          clear h21_
          replace hs12_0_1 := hs12_0_1.up u21_.hh
          replace ht12_0 := ht12_0.up u21_ (by simp)
          replace hll15_ := hll15_.trans u21_.ll
          replace hhh15_ := hhh15_.trans u21_.hh
          clear hI21_ u21_ hl21_
          refine ⟨_, rfl, ?_⟩
          refine Ops_step (R_not rfl) rfl rfl ?_
          refine Ops_step (R_assign rfl) rfl rfl ?_
          refine Ops_nil ?_
          refine then_n (hK20_ _ _ ?_)
          clear hK20_ K20_
          refine W_cond rfl (fun hc22_ => ?_) (fun hc22_ => ?_)
          · replace h := h.1 hc22_
            refine W_region [some 40, some 41, some 42, some 43, some 44, some 45, none, some 46, some 47, some 48, none] rfl ?_
            refine Ops_step (R_move rfl) rfl rfl ?_
            refine Ops_step (R_move rfl) rfl rfl ?_
            refine Ops_step (R_move rfl) rfl rfl ?_
            refine Ops_step (R_nilCheck rfl) rfl rfl ?_
            refine Ops_step (R_fieldAddr TOtC.fo58_0 rfl) rfl rfl ?_
            refine Ops_step (R_fieldAddr TOtC.fo56_1 rfl) rfl rfl ?_
            refine Ops_to0 (R_store TOtC.sz3 rfl rfl ht12_0.blk (by show 1 < 4; decide) rfl) rfl ?_
            rintro _ w23_ ⟨hB23_, hF23_⟩
            replace hI := hI.tok hF23_ (out1 ht12_0.out) (mem1 (by simp))
            replace ht12_0 : Tok H21_ _ d0 tb0 ([.slice A12_0_1 y12_0.source_.b_.length c12_0_1, vi x0.source_.at_, vi y12_0.source_.err_, .bool y12_0.source_.made_]) := ⟨hB23_, ht12_0.out⟩
            clear hF23_ hB23_
            refine Ops_step (R_nilCheck rfl) rfl rfl ?_
            refine Ops_step (R_fieldAddr TOtC.fo58_0 rfl) rfl rfl ?_
            refine Ops_step (R_fieldAddr TOtC.fo56_2 rfl) rfl rfl ?_
            refine Ops_to0 (R_store TOtC.sz35 rfl rfl ht12_0.blk (by show 2 < 4; decide) rfl) rfl ?_
            rintro _ w24_ ⟨hB24_, hF24_⟩
            replace hI := hI.tok hF24_ (out1 ht12_0.out) (mem1 (by simp))
            replace ht12_0 : Tok H21_ _ d0 tb0 ([.slice A12_0_1 y12_0.source_.b_.length c12_0_1, vi x0.source_.at_, vi 21, .bool y12_0.source_.made_]) := ⟨hB24_, ht12_0.out⟩
            clear hF24_ hB24_
            refine Ops_nil ?_
            refine block_n ?_
            refine then_n ?_
            exact ⟨_, rfl, ⟨(octet_Reader.mk (octet_source.mk y12_0.source_.b_ x0.source_.at_ 21 y12_0.source_.made_)), _, _, rfl, h, hI, hll15_, hhh15_, ⟨_, ⟨A12_0_1, c12_0_1, rfl, ⟨hc12_0_1, hs12_0_1⟩⟩, ht12_0⟩, trivial⟩, ⟨rfl, rfl, trivial⟩⟩
          · replace h := h.2 hc22_
            refine W_seq_k fun K25_ hK25_ => ?_
            refine W_region [some 50, some 51, some 52, some 53, some 54, some 49] rfl ?_
            refine Ops_step (R_move rfl) rfl rfl ?_
            refine Ops_call (C_func TOtC.bd23 rfl) rfl rfl ?_
            refine (utf8_RuneCountInString_ok (x0 := (Str.mk r12_0)) hI.st (hg.up hI.le)  h).mono ?_
            rintro _ w26_ ⟨r26_0, L26_, H26_, rfl, hI26_, h⟩
            refine Exists.elim (hI.call hI26_ (by simp)) fun L260_ h26_ => ?_
            have hz26_ := hI.size
            replace hI := h26_.1
            have u26_ := h26_.2.1
            have hl26_ := h26_.2.2
            clear h26_
            replace hs12_0_1 := hs12_0_1.up u26_.hh
            replace ht12_0 := ht12_0.up u26_ (by simp)
            replace hll15_ := hll15_.trans u26_.ll
            replace hhh15_ := hhh15_.trans u26_.hh
            clear hI26_ u26_ hl26_
            refine ⟨_, rfl, ?_⟩
            refine Ops_step (R_move rfl) rfl rfl ?_
            refine Ops_step (R_max rfl rfl _root_.rfl) rfl rfl ?_
            refine Ops_step (R_gtr rfl rfl) rfl rfl ?_
            refine Ops_step (R_assign rfl) rfl rfl ?_
            refine Ops_nil ?_
            refine then_n (hK25_ _ _ ?_)
            clear hK25_ K25_
            refine W_keepB [0, 5, 6, 49] fun B27 hB27_ => ?_
            simp only [pickE, lookE, putE, zipE, args0, Nat.reduceAdd, Nat.zero_add, List.cons_append, List.nil_append, Nat.reduceBEq, cond_true, cond_false] at hB27_
            subst hB27_
            refine W_if rfl (fun hc28_ => ?_) (fun hc28_ => ?_)
            · replace h := h.1 hc28_
              refine W_region [some 55, some 56, some 57, some 58, some 59, some 60, none, some 61, some 62, some 63, none] rfl ?_
              refine Ops_step (R_move rfl) rfl rfl ?_
              refine Ops_step (R_move rfl) rfl rfl ?_
              refine Ops_step (R_move rfl) rfl rfl ?_
              refine Ops_step (R_nilCheck rfl) rfl rfl ?_
              refine Ops_step (R_fieldAddr TOtC.fo58_0 rfl) rfl rfl ?_
              refine Ops_step (R_fieldAddr TOtC.fo56_1 rfl) rfl rfl ?_
              refine Ops_to0 (R_store TOtC.sz3 rfl rfl ht12_0.blk (by show 1 < 4; decide) rfl) rfl ?_
              rintro _ w29_ ⟨hB29_, hF29_⟩
              replace hI := hI.tok hF29_ (out1 ht12_0.out) (mem1 (by simp))
              replace ht12_0 : Tok H26_ _ d0 tb0 ([.slice A12_0_1 y12_0.source_.b_.length c12_0_1, vi x0.source_.at_, vi y12_0.source_.err_, .bool y12_0.source_.made_]) := ⟨hB29_, ht12_0.out⟩
              clear hF29_ hB29_
              refine Ops_step (R_nilCheck rfl) rfl rfl ?_
              refine Ops_step (R_fieldAddr TOtC.fo58_0 rfl) rfl rfl ?_
              refine Ops_step (R_fieldAddr TOtC.fo56_2 rfl) rfl rfl ?_
              refine Ops_to0 (R_store TOtC.sz35 rfl rfl ht12_0.blk (by show 2 < 4; decide) rfl) rfl ?_
              rintro _ w30_ ⟨hB30_, hF30_⟩
              replace hI := hI.tok hF30_ (out1 ht12_0.out) (mem1 (by simp))
              replace ht12_0 : Tok H26_ _ d0 tb0 ([.slice A12_0_1 y12_0.source_.b_.length c12_0_1, vi x0.source_.at_, vi 4, .bool y12_0.source_.made_]) := ⟨hB30_, ht12_0.out⟩
              clear hF30_ hB30_
              refine Ops_nil ?_
              refine block_n ?_
              refine then_n ?_
              exact ⟨_, rfl, ⟨(octet_Reader.mk (octet_source.mk y12_0.source_.b_ x0.source_.at_ 4 y12_0.source_.made_)), _, _, rfl, h, hI, hll15_, hhh15_, ⟨_, ⟨A12_0_1, c12_0_1, rfl, ⟨hc12_0_1, hs12_0_1⟩⟩, ht12_0⟩, trivial⟩, ⟨rfl, rfl, trivial⟩⟩
            · replace h := h.2 hc28_
              refine W_skip ?_
              refine block_n ?_
              refine then_n ?_
              exact ⟨_, rfl, ⟨y12_0, _, _, rfl, h, hI, hll15_, hhh15_, ⟨_, ⟨A12_0_1, c12_0_1, rfl, ⟨hc12_0_1, hs12_0_1⟩⟩, ht12_0⟩, trivial⟩, ⟨rfl, rfl, trivial⟩⟩
      · simp only [pickE, lookE, putE, zipE, args0, Nat.reduceAdd, Nat.zero_add, List.cons_append, List.nil_append, Nat.reduceBEq, cond_true, cond_false] at hB15_
        subst hB15_
        clear h
        rintro _ w15_ ⟨yd0_15, L15_, H15_, rfl, hJ15_, hI15_, hll15_, hhh15_, hqd0_15, -⟩
        replace hI := hI15_
        clear hI15_
        have h := hr15_ yd0_15 hJ15_
        clear hr15_ hJ15_
        replace hs12_0_1 := hs12_0_1.up hhh15_
        obtain ⟨ld0_15_, hld0_15_, htd0_15⟩ := hqd0_15
        obtain ⟨Ad0_15_1, cd0_15_1, rfl, ⟨hcd0_15_1, hsd0_15_1⟩⟩ := hld0_15_
        refine W_seq_k fun K31_ hK31_ => ?_
        refine W_seq_k fun K32_ hK32_ => ?_
        refine W_region [some 64, some 65, some 66, some 67, some 68, some 69] rfl ?_
        refine Ops_step (R_move rfl) rfl rfl ?_
        refine Ops_step (R_nilCheck rfl) rfl rfl ?_
        refine Ops_step (R_fieldAddr TOtC.fo58_0 rfl) rfl rfl ?_
        refine Ops_step (R_fieldAddr TOtC.fo56_2 rfl) rfl rfl ?_
        refine Ops_step (R_loadB (v := vi yd0_15.source_.err_) TOtC.ag35 rfl htd0_15.blk rfl) rfl rfl ?_
        refine Ops_step (R_neq rfl rfl) rfl rfl ?_
        refine Ops_nil ?_
        refine then_n (hK32_ _ _ ?_)
        clear hK32_ K32_
        refine W_keepB [6, 69] fun B33 hB33_ => ?_
        simp only [pickE, lookE, putE, zipE, args0, Nat.reduceAdd, Nat.zero_add, List.cons_append, List.nil_append, Nat.reduceBEq, cond_true, cond_false] at hB33_
        subst hB33_
        refine W_if rfl (fun hc34_ => ?_) (fun hc34_ => ?_)
        · replace h := h.1 hc34_
          refine W_seq_k fun K35_ hK35_ => ?_
          refine W_region [some 4] rfl ?_
          refine Ops_step (R_assign rfl) rfl rfl ?_
          refine Ops_nil ?_
          refine then_n (hK35_ _ _ ?_)
          clear hK35_ K35_
          refine W_ret ?_
          refine then_ret ?_
          clear hK31_ K31_
          refine ⟨_, ⟨_, _, rfl, rfl, rfl⟩, ?_⟩
          exact ⟨(Str.mk []), yd0_15, _, _, rfl, hI, ⟨_, ⟨Ad0_15_1, cd0_15_1, rfl, ⟨hcd0_15_1, hsd0_15_1⟩⟩, htd0_15⟩, h⟩
        · replace h := h.2 hc34_
          refine W_skip ?_
          refine then_n (hK31_ _ _ ?_)
          clear hK31_ K31_
          refine W_seq_k fun K36_ hK36_ => ?_
          refine W_region [some 70, some 4] rfl ?_
          refine Ops_step (R_move rfl) rfl rfl ?_
          refine Ops_step (R_assign rfl) rfl rfl ?_
          refine Ops_nil ?_
          refine then_n (hK36_ _ _ ?_)
          clear hK36_ K36_
          refine W_ret ?_
          refine ⟨_, ⟨_, _, rfl, rfl, rfl⟩, ?_⟩
          exact ⟨(Str.mk r12_0), yd0_15, _, _, rfl, hI, ⟨_, ⟨Ad0_15_1, cd0_15_1, rfl, ⟨hcd0_15_1, hsd0_15_1⟩⟩, htd0_15⟩, h⟩

set_option maxHeartbeats 4000000 in
theorem octet_Open_ok {G : Gh} {w : World} (hS : St G w) (hg : GL G) {A0 : Option Addr} {c0 : Nat} {x0 : List UInt8} (hc0 : x0.length ≤ c0) (hs0 : Sl G A0 x0) {Q : (List UInt8) → Int → Int → Prop} (h : octet_Open x0 Q) : Calls Tryd.prog 28 #[.slice A0 x0.length c0] w fun e w2 => ∃ (A0 : Option Addr) (c0 : Nat) (r0 : List UInt8) (r1 : Int) (r2 : Int) (L H : Gh), e = .returned (.tuple #[.slice A0 r0.length c0, vi r1, vi r2]) ∧ Inv [] G w L H w2 ∧ OwnS w.heap.size 5 L H w2 A0 c0 r0 ∧ Q r0 r1 r2 := by
  unfold octet_Open at h
  have hI := Inv.start (M := []) hS
  refine calls_W 71 Tryd.func28 rfl Tryd.ntmps28 rfl [.tmp 2, .tmp 3, .tmp 4] rfl ?_
  refine W_seq_k fun K1_ hK1_ => ?_
  refine W_region [some 2, some 3, some 4] rfl ?_
  refine Ops_step (R_assign rfl) rfl rfl ?_
  refine Ops_step (R_assign rfl) rfl rfl ?_
  refine Ops_step (R_assign rfl) rfl rfl ?_
  refine Ops_nil ?_
  refine then_n (hK1_ _ _ ?_)
  clear hK1_ K1_
  refine W_seq_k fun K2_ hK2_ => ?_
  refine W_region [some 10, some 11, some 5] rfl ?_
  refine Ops_step (R_move rfl) rfl rfl ?_
  refine Ops_call (C_func TOtC.bd16 rfl) rfl rfl ?_
  refine (octet_Read_ok (x0 := x0) hI.st (hg.up hI.le) hc0 hs0 h).mono ?_
  rintro _ w3_ ⟨d3_0, r3_0, L3_, H3_, rfl, hI3_, hge_d3_0, hr3_0, h⟩
  have hge0_3 := hge_d3_0
  replace hge_d3_0 := Nat.le_trans hI.size hge_d3_0
  refine Exists.elim (hI.call hI3_ (by simp)) fun L30_ h3_ => ?_
  have hz3_ := hI.size
  replace hI := h3_.1
  have u3_ := h3_.2.1
  have hl3_ := h3_.2.2
  clear h3_
  replace hs0 := hs0.up u3_.hh
  replace hr3_0 := hr3_0.back hl3_ (Le.refl _)
  obtain ⟨l3_0_, hl3_0_, ht3_0⟩ := hr3_0
  obtain ⟨A3_0_1, c3_0_1, rfl, ⟨hc3_0_1, hs3_0_1⟩⟩ := hl3_0_
  clear hI3_ u3_ hl3_
  refine ⟨_, rfl, ?_⟩
  refine Ops_step (R_assign rfl) rfl rfl ?_
  refine Ops_nil ?_
  refine then_n (hK2_ _ _ ?_)
  clear hK2_ K2_
  refine W_seq_k fun K4_ hK4_ => ?_
  refine W_region [some 12, some 13, some 6] rfl ?_
  refine Ops_step (R_move rfl) rfl rfl ?_
  refine Ops_call (C_func TOtC.bd21 rfl) rfl rfl ?_
  refine (octet_Reader_Bytes_ok (x0 := r3_0) (x1 := 16384) hI.st (hg.up hI.le) ⟨_, ⟨A3_0_1, c3_0_1, rfl, ⟨hc3_0_1, (hs3_0_1.up hI.sub)⟩⟩, ht3_0⟩ h).mono ?_
  rintro _ w5_ ⟨A5_0, c5_0, r5_0, y5_0, L5_, H5_, rfl, hI5_, ho5_0, hq5_0, h⟩
  refine Exists.elim (hI.call hI5_ (new1 hge_d3_0)) fun L50_ h5_ => ?_
  have hz5_ := hI.size
  replace hI := h5_.1
  have u5_ := h5_.2.1
  have hl5_ := h5_.2.2
  clear h5_
  replace hs0 := hs0.up u5_.hh
  replace hs3_0_1 := hs3_0_1.up u5_.ll
  replace ho5_0 := OwnS.backS ho5_0 hz5_ (Le.refl _)
  clear ht3_0
  obtain ⟨l5_0_, hl5_0_, ht5_0⟩ := hq5_0
  obtain ⟨A5_0_1, c5_0_1, rfl, ⟨hc5_0_1, hs5_0_1⟩⟩ := hl5_0_
  clear hI5_ u5_ hl5_
  refine ⟨_, rfl, ?_⟩
  refine Ops_step (R_assign rfl) rfl rfl ?_
  refine Ops_nil ?_
  refine then_n (hK4_ _ _ ?_)
  clear hK4_ K4_
  refine W_keepB [0, 5, 6] fun B6 hB6_ => ?_
  simp only [pickE, lookE, putE, zipE, args0, Nat.reduceAdd, Nat.zero_add, List.cons_append, List.nil_append, Nat.reduceBEq, cond_true, cond_false] at hB6_
  subst hB6_
  refine W_seq_k fun K7_ hK7_ => ?_
  refine W_seq_k fun K8_ hK8_ => ?_
  refine W_region [some 14, some 15, some 16] rfl ?_
  refine Ops_step (R_move rfl) rfl rfl ?_
  refine Ops_call (C_func TOtC.bd26 rfl) rfl rfl ?_
  refine (octet_Reader_Err_ok (x0 := y5_0) hI.st (hg.up hI.le) ⟨_, ⟨A5_0_1, c5_0_1, rfl, ⟨hc5_0_1, hs5_0_1⟩⟩, ht5_0⟩ h).mono ?_
  rintro _ w9_ ⟨r9_0, L9_, H9_, rfl, hI9_, h⟩
  refine Exists.elim (hI.call hI9_ (by simp)) fun L90_ h9_ => ?_
  have hz9_ := hI.size
  replace hI := h9_.1
  have u9_ := h9_.2.1
  have hl9_ := h9_.2.2
  clear h9_
  replace hs0 := hs0.up u9_.hh
  replace ho5_0 := ho5_0.up (Le.refl _) u9_ (by simp)
  replace hs5_0_1 := hs5_0_1.up u9_.hh
  replace ht5_0 := ht5_0.up u9_ (by simp)
  clear hI9_ u9_ hl9_
  refine ⟨_, rfl, ?_⟩
  refine Ops_step (R_neq rfl rfl) rfl rfl ?_
  refine Ops_nil ?_
  refine then_n (hK8_ _ _ ?_)
  clear hK8_ K8_
  refine W_if rfl (fun hc10_ => ?_) (fun hc10_ => ?_)
  · replace h := h.1 hc10_
    refine W_seq_k fun K11_ hK11_ => ?_
    refine W_region [some 17, some 18, some 2, some 3, some 4] rfl ?_
    refine Ops_step (R_move rfl) rfl rfl ?_
    refine Ops_call (C_func TOtC.bd26 rfl) rfl rfl ?_
    refine (octet_Reader_Err_ok (x0 := y5_0) hI.st (hg.up hI.le) ⟨_, ⟨A5_0_1, c5_0_1, rfl, ⟨hc5_0_1, hs5_0_1⟩⟩, ht5_0⟩ h).mono ?_
    rintro _ w12_ ⟨r12_0, L12_, H12_, rfl, hI12_, h⟩
    refine Exists.elim (hI.call hI12_ (by simp)) fun L120_ h12_ => ?_
    have hz12_ := hI.size
    replace hI := h12_.1
    have u12_ := h12_.2.1
    have hl12_ := h12_.2.2
    clear h12_
    clear hI12_ u12_ hl12_
    refine ⟨_, rfl, ?_⟩
    refine Ops_step (R_assign rfl) rfl rfl ?_
    refine Ops_step (R_assign rfl) rfl rfl ?_
    refine Ops_step (R_assign rfl) rfl rfl ?_
    refine Ops_nil ?_
    refine then_n (hK11_ _ _ ?_)
    clear hK11_ K11_
    refine W_keepB [2, 3, 4] fun B13 hB13_ => ?_
    simp only [pickE, lookE, putE, zipE, args0, Nat.reduceAdd, Nat.zero_add, List.cons_append, List.nil_append, Nat.reduceBEq, cond_true, cond_false] at hB13_
    subst hB13_
    refine W_ret ?_
    refine then_ret ?_
    clear hK7_ K7_
    refine ⟨_, ⟨_, _, rfl, rfl, ⟨_, _, rfl, rfl, ⟨_, _, rfl, rfl, rfl⟩⟩⟩, ?_⟩
    exact ⟨none, 0, [], 0, r12_0, _, _, rfl, hI, OwnS.nil, h⟩
  · replace h := h.2 hc10_
    refine W_skip ?_
    refine then_n (hK7_ _ _ ?_)
    clear hK7_ K7_
    refine W_seq_k fun K14_ hK14_ => ?_
    refine W_region [some 19, some 20, some 21, some 22, some 23, some 7] rfl ?_
    refine Ops_step (R_move rfl) rfl rfl ?_
    refine Ops_step (R_len Tryd.underlying22 rfl rfl) rfl rfl ?_
    refine Ops_step (R_move rfl) rfl rfl ?_
    refine Ops_call (C_func TOtC.bd25 rfl) rfl rfl ?_
    refine (octet_Reader_Left_ok (x0 := y5_0) hI.st (hg.up hI.le) ⟨_, ⟨A5_0_1, c5_0_1, rfl, ⟨hc5_0_1, hs5_0_1⟩⟩, ht5_0⟩ h).mono ?_
    rintro _ w15_ ⟨r15_0, L15_, H15_, rfl, hI15_, h⟩
    refine Exists.elim (hI.call hI15_ (by simp)) fun L150_ h15_ => ?_
    have hz15_ := hI.size
    replace hI := h15_.1
    have u15_ := h15_.2.1
    have hl15_ := h15_.2.2
    clear h15_
    replace hs0 := hs0.up u15_.hh
    replace ho5_0 := ho5_0.up (Le.refl _) u15_ (by simp)
    replace hs5_0_1 := hs5_0_1.up u15_.hh
    replace ht5_0 := ht5_0.up u15_ (by simp)
    clear hI15_ u15_ hl15_
    refine ⟨_, rfl, ?_⟩
    have hk16_ := h.1
    replace h := h.2
    refine Ops_step (R_sub rfl rfl (wI hk16_.1 hk16_.2)) rfl rfl ?_
    refine Ops_step (R_assign rfl) rfl rfl ?_
    refine Ops_nil ?_
    refine then_n (hK14_ _ _ ?_)
    clear hK14_ K14_
    refine W_keepB [0, 5, 6, 7] fun B17 hB17_ => ?_
    simp only [pickE, lookE, putE, zipE, args0, Nat.reduceAdd, Nat.zero_add, List.cons_append, List.nil_append, Nat.reduceBEq, cond_true, cond_false] at hB17_
    subst hB17_
    refine W_seq_k fun K18_ hK18_ => ?_
    refine W_region [some 24, some 25, some 26, some 27, some 8] rfl ?_
    refine Ops_step (R_move rfl) rfl rfl ?_
    refine Ops_step (R_nilCheck rfl) rfl rfl ?_
    refine Ops_step (R_fieldAddr TOtC.fo58_0 rfl) rfl rfl ?_
    refine Ops_call (C_func TOtC.bd53 rfl) rfl rfl ?_
    refine (octet_source_take_ok (x0 := y5_0.source_) (x1 := 4) hI.st (hg.up hI.le) ⟨_, ⟨A5_0_1, c5_0_1, rfl, ⟨hc5_0_1, hs5_0_1⟩⟩, ht5_0⟩ h).mono ?_
    rintro _ w19_ ⟨A19_0, c19_0, r19_0, y19_0, L19_, H19_, rfl, hI19_, hc19_0, hs19_0, hq19_0, h⟩
    refine Exists.elim (hI.call hI19_ (new1 hge_d3_0)) fun L190_ h19_ => ?_
    have hz19_ := hI.size
    replace hI := h19_.1
    have u19_ := h19_.2.1
    have hl19_ := h19_.2.2
    clear h19_
    replace hs0 := hs0.up u19_.hh
    replace ho5_0 := ho5_0.up (Le.refl _) u19_ (ho5_0.ne ht5_0.blk (by decide))
    replace hs19_0 := hs19_0.up (Le.refl _)
    clear ht5_0
    obtain ⟨l19_0_, hl19_0_, ht19_0⟩ := hq19_0
    obtain ⟨A19_0_1, c19_0_1, rfl, ⟨hc19_0_1, hs19_0_1⟩⟩ := hl19_0_
    clear hI19_ u19_ hl19_
    refine ⟨_, rfl, ?_⟩
    refine Ops_step (R_assign rfl) rfl rfl ?_
    refine Ops_nil ?_
    refine then_n (hK18_ _ _ ?_)
    clear hK18_ K18_
    refine W_seq_k fun K20_ hK20_ => ?_
    refine W_seq_k fun K21_ hK21_ => ?_
    refine W_region [some 28, some 29, some 30] rfl ?_
    refine Ops_step (R_move rfl) rfl rfl ?_
    refine Ops_step (R_len Tryd.underlying22 rfl rfl) rfl rfl ?_
    refine Ops_step (R_lss rfl rfl) rfl rfl ?_
    refine Ops_nil ?_
    refine then_n (hK21_ _ _ ?_)
    clear hK21_ K21_
    refine W_keepB [0, 6, 7, 8, 30] fun B22 hB22_ => ?_
    simp only [pickE, lookE, putE, zipE, args0, Nat.reduceAdd, Nat.zero_add, List.cons_append, List.nil_append, Nat.reduceBEq, cond_true, cond_false] at hB22_
    subst hB22_
    refine W_if rfl (fun hc23_ => ?_) (fun hc23_ => ?_)
    · replace h := h.1 hc23_
      refine W_seq_k fun K24_ hK24_ => ?_
      refine W_region [some 2, some 3, some 4] rfl ?_
      refine Ops_step (R_assign rfl) rfl rfl ?_
      refine Ops_step (R_assign rfl) rfl rfl ?_
      refine Ops_step (R_assign rfl) rfl rfl ?_
      refine Ops_nil ?_
      refine then_n (hK24_ _ _ ?_)
      clear hK24_ K24_
      refine W_ret ?_
      refine then_ret ?_
      clear hK20_ K20_
      refine ⟨_, ⟨_, _, rfl, rfl, ⟨_, _, rfl, rfl, ⟨_, _, rfl, rfl, rfl⟩⟩⟩, ?_⟩
      exact ⟨none, 0, [], 0, 2, _, _, rfl, hI, OwnS.nil, h⟩
    · replace h := h.2 hc23_
      refine W_skip ?_
      refine then_n (hK20_ _ _ ?_)
      clear hK20_ K20_
      refine W_seq_k fun K25_ hK25_ => ?_
      refine W_seq_k fun K26_ hK26_ => ?_
      refine W_region [some 31, some 32, some 33, some 34, some 9] rfl ?_
      refine Ops_step (R_move rfl) rfl rfl ?_
      refine Ops_step (R_move rfl) rfl rfl ?_
      have hk28_ := h.1
      replace h := h.2
      have hk29_ := h.1
      replace h := h.2
      refine Exists.elim (cut_ex (n := 1) hs0 rfl (by decide) hc0 (Int.le_refl 0) hk28_ hk29_) fun A27_ h27_ => Exists.elim h27_ fun c27_ h27_ => ?_
      have hr27_ := h27_.1
      have hc27_ := h27_.2.1
      have hs27_ := h27_.2.2
      clear h27_
      refine Ops_step (X_slice (xs := x0) Tryd.underlying22 TOtC.sz5 rfl hr27_ hc0 rfl rfl (Int.le_refl 0) hk28_ hk29_) rfl rfl ?_
      clear hr27_
      refine Ops_call (C_func TOtC.bd35 rfl) rfl rfl ?_
      refine (octet_Sum_ok (x0 := (cut x0 0 ((x0.length : Int) - r15_0))) hI.st (hg.up hI.le) hc27_ hs27_ h).mono ?_
      rintro _ w30_ ⟨r30_0, L30_, H30_, rfl, hI30_, h⟩
      refine Exists.elim (hI.call hI30_ (by simp)) fun L300_ h30_ => ?_
      have hz30_ := hI.size
      replace hI := h30_.1
      have u30_ := h30_.2.1
      have hl30_ := h30_.2.2
      clear h30_
      replace ho5_0 := ho5_0.up (Le.refl _) u30_ (by simp)
      replace hs19_0 := hs19_0.up u30_.hh
      clear hI30_ u30_ hl30_
      refine ⟨_, rfl, ?_⟩
      refine Ops_step (R_assign rfl) rfl rfl ?_
      refine Ops_nil ?_
      refine then_n (hK26_ _ _ ?_)
      clear hK26_ K26_
      refine W_keepB [6, 7, 8, 9] fun B31 hB31_ => ?_
      simp only [pickE, lookE, putE, zipE, args0, Nat.reduceAdd, Nat.zero_add, List.cons_append, List.nil_append, Nat.reduceBEq, cond_true, cond_false] at hB31_
      subst hB31_
      refine Exists.elim h fun J32_ h => ?_
      have hr32_ := h.1
      replace h := h.2
      refine W_seq_join [6, 7] [67] (fun vs w2 => ∃ (x67_32 : Bool) (L H : Gh), vs = [.bool x67_32] ∧ J32_ x67_32 ∧ Inv [] G w L H w2 ∧ Le L300_ L ∧ Le H30_ H ∧ OwnS w.heap.size 5 Gh.no H w2 A5_0 c5_0 r5_0 ∧ True) (fun B32 hB32_ => ?_) (fun B32 hB32_ => ?_)
      · simp only [pickE, lookE, putE, zipE, args0, Nat.reduceAdd, Nat.zero_add, List.cons_append, List.nil_append, Nat.reduceBEq, cond_true, cond_false] at hB32_
        subst hB32_
        clear hr32_
        have hll32_ := Le.refl L300_
        have hhh32_ := Le.refl H30_
        refine W_region [some 35, some 36, some 37, some 38, some 39, some 40, some 41, some 42, some 43, some 44, some 45, some 46, some 47, some 48, some 49, some 50, some 51, some 52, some 53, some 54, some 55, some 56, some 57, some 58, some 59, some 60, some 61, some 62, some 63, some 64, some 65, some 66, some 67] rfl ?_
        refine Ops_step (R_move rfl) rfl rfl ?_
        refine Ops_step (R_shr rfl rfl (by decide) (shr32 r30_0 24 (by decide))) rfl rfl ?_
        refine Ops_step (R_conv Tryd.underlying51 Tryd.underlying5 rfl (c32_8 _)) rfl rfl ?_
        refine Ops_step (R_move rfl) rfl rfl ?_
        refine Exists.elim h fun x33_ h => ?_
        have hx33_ := h.1
        replace h := h.2
        have ha33_ := (hs19_0.atS hx33_).1
        have hg33_ := (hs19_0.atS hx33_).2
        refine Ops_step (R_indexSl Tryd.underlying22 TOtC.sz5 rfl rfl hx33_.1 hx33_.lt ha33_) rfl rfl ?_
        refine Ops_step (R_load TOtC.ag5 rfl (hI.st _ _ hg33_)) rfl rfl ?_
        refine Ops_step (R_neq rfl rfl) rfl rfl ?_
        refine Ops_step (R_move rfl) rfl rfl ?_
        refine Ops_split 42 rfl (fun hg34_ => ?_) (fun hg34_ => ?_)
        · replace h := h.1 hg34_
          refine Ops_pass rfl rfl ?_
          refine Ops_pass rfl rfl ?_
          refine Ops_pass rfl rfl ?_
          refine Ops_pass rfl rfl ?_
          refine Ops_pass rfl rfl ?_
          refine Ops_pass rfl rfl ?_
          refine Ops_pass rfl rfl ?_
          refine Ops_step (R_pick_true rfl rfl) rfl rfl ?_
          refine Ops_step (R_move rfl) rfl rfl ?_
          refine Ops_pass rfl rfl ?_
          refine Ops_pass rfl rfl ?_
          refine Ops_pass rfl rfl ?_
          refine Ops_pass rfl rfl ?_
          refine Ops_pass rfl rfl ?_
          refine Ops_pass rfl rfl ?_
          refine Ops_pass rfl rfl ?_
          refine Ops_step (R_pick_true rfl rfl) rfl rfl ?_
          refine Ops_step (R_move rfl) rfl rfl ?_
          refine Ops_pass rfl rfl ?_
          refine Ops_pass rfl rfl ?_
          refine Ops_pass rfl rfl ?_
          refine Ops_pass rfl rfl ?_
          refine Ops_pass rfl rfl ?_
          refine Ops_pass rfl rfl ?_
          refine Ops_step (R_pick_true rfl rfl) rfl rfl ?_
          refine Ops_nil ?_
          refine then_n ?_
          exact ⟨_, rfl, ⟨true, _, _, rfl, h, hI, hll32_, hhh32_, ho5_0, trivial⟩, ⟨rfl, rfl, trivial⟩⟩
        · replace h := h.2 hg34_
          refine Ops_step (R_move rfl) rfl rfl ?_
          refine Ops_step (R_shr rfl rfl (by decide) (shr32 r30_0 16 (by decide))) rfl rfl ?_
          refine Ops_step (R_conv Tryd.underlying51 Tryd.underlying5 rfl (c32_8 _)) rfl rfl ?_
          refine Ops_step (R_move rfl) rfl rfl ?_
          refine Exists.elim h fun x35_ h => ?_
          have hx35_ := h.1
          replace h := h.2
          have ha35_ := (hs19_0.atS hx35_).1
          have hg35_ := (hs19_0.atS hx35_).2
          refine Ops_step (R_indexSl Tryd.underlying22 TOtC.sz5 rfl rfl hx35_.1 hx35_.lt ha35_) rfl rfl ?_
          refine Ops_step (R_load TOtC.ag5 rfl (hI.st _ _ hg35_)) rfl rfl ?_
          refine Ops_step (R_neq rfl rfl) rfl rfl ?_
          refine Ops_step (R_pick_false rfl rfl) rfl rfl ?_
          refine Ops_step (R_move rfl) rfl rfl ?_
          refine Ops_split 51 rfl (fun hg36_ => ?_) (fun hg36_ => ?_)
          · replace h := h.1 hg36_
            refine Ops_pass rfl rfl ?_
            refine Ops_pass rfl rfl ?_
            refine Ops_pass rfl rfl ?_
            refine Ops_pass rfl rfl ?_
            refine Ops_pass rfl rfl ?_
            refine Ops_pass rfl rfl ?_
            refine Ops_pass rfl rfl ?_
            refine Ops_step (R_pick_true rfl rfl) rfl rfl ?_
            refine Ops_step (R_move rfl) rfl rfl ?_
            refine Ops_pass rfl rfl ?_
            refine Ops_pass rfl rfl ?_
            refine Ops_pass rfl rfl ?_
            refine Ops_pass rfl rfl ?_
            refine Ops_pass rfl rfl ?_
            refine Ops_pass rfl rfl ?_
            refine Ops_step (R_pick_true rfl rfl) rfl rfl ?_
            refine Ops_nil ?_
            refine then_n ?_
            exact ⟨_, rfl, ⟨true, _, _, rfl, h, hI, hll32_, hhh32_, ho5_0, trivial⟩, ⟨rfl, rfl, trivial⟩⟩
          · replace h := h.2 hg36_
            refine Ops_step (R_move rfl) rfl rfl ?_
            refine Ops_step (R_shr rfl rfl (by decide) (shr32 r30_0 8 (by decide))) rfl rfl ?_
            refine Ops_step (R_conv Tryd.underlying51 Tryd.underlying5 rfl (c32_8 _)) rfl rfl ?_
            refine Ops_step (R_move rfl) rfl rfl ?_
            refine Exists.elim h fun x37_ h => ?_
            have hx37_ := h.1
            replace h := h.2
            have ha37_ := (hs19_0.atS hx37_).1
            have hg37_ := (hs19_0.atS hx37_).2
            refine Ops_step (R_indexSl Tryd.underlying22 TOtC.sz5 rfl rfl hx37_.1 hx37_.lt ha37_) rfl rfl ?_
            refine Ops_step (R_load TOtC.ag5 rfl (hI.st _ _ hg37_)) rfl rfl ?_
            refine Ops_step (R_neq rfl rfl) rfl rfl ?_
            refine Ops_step (R_pick_false rfl rfl) rfl rfl ?_
            refine Ops_step (R_move rfl) rfl rfl ?_
            refine Ops_split 60 rfl (fun hg38_ => ?_) (fun hg38_ => ?_)
            · replace h := h.1 hg38_
              refine Ops_pass rfl rfl ?_
              refine Ops_pass rfl rfl ?_
              refine Ops_pass rfl rfl ?_
              refine Ops_pass rfl rfl ?_
              refine Ops_pass rfl rfl ?_
              refine Ops_pass rfl rfl ?_
              refine Ops_step (R_pick_true rfl rfl) rfl rfl ?_
              refine Ops_nil ?_
              refine then_n ?_
              exact ⟨_, rfl, ⟨true, _, _, rfl, h, hI, hll32_, hhh32_, ho5_0, trivial⟩, ⟨rfl, rfl, trivial⟩⟩
            · replace h := h.2 hg38_
              refine Ops_step (R_move rfl) rfl rfl ?_
              refine Ops_step (R_conv Tryd.underlying51 Tryd.underlying5 rfl (c32_8 _)) rfl rfl ?_
              refine Ops_step (R_move rfl) rfl rfl ?_
              refine Exists.elim h fun x39_ h => ?_
              have hx39_ := h.1
              replace h := h.2
              have ha39_ := (hs19_0.atS hx39_).1
              have hg39_ := (hs19_0.atS hx39_).2
              refine Ops_step (R_indexSl Tryd.underlying22 TOtC.sz5 rfl rfl hx39_.1 hx39_.lt ha39_) rfl rfl ?_
              refine Ops_step (R_load TOtC.ag5 rfl (hI.st _ _ hg39_)) rfl rfl ?_
              refine Ops_step (R_neq rfl rfl) rfl rfl ?_
              refine Ops_step (R_pick_false rfl rfl) rfl rfl ?_
              refine Ops_nil ?_
              refine then_n ?_
              exact ⟨_, rfl, ⟨(decide (((UInt8.ofBitVec (r30_0.setWidth 8)).toNat : Int) ≠ (x39_.toNat : Int))), _, _, rfl, h, hI, hll32_, hhh32_, ho5_0, trivial⟩, ⟨rfl, rfl, trivial⟩⟩
      · simp only [pickE, lookE, putE, zipE, args0, Nat.reduceAdd, Nat.zero_add, List.cons_append, List.nil_append, Nat.reduceBEq, cond_true, cond_false] at hB32_
        subst hB32_
        clear h
        clear ho5_0
        rintro _ w32_ ⟨x67_32, L32_, H32_, rfl, hJ32_, hI32_, hll32_, hhh32_, ho5_0, -⟩
        replace hI := hI32_
        clear hI32_
        have h := hr32_ x67_32 hJ32_
        clear hr32_ hJ32_
        refine W_cond rfl (fun hc40_ => ?_) (fun hc40_ => ?_)
        · replace h := h.1 hc40_
          refine W_seq_k fun K41_ hK41_ => ?_
          refine W_region [some 2, some 3, some 4] rfl ?_
          refine Ops_step (R_assign rfl) rfl rfl ?_
          refine Ops_step (R_assign rfl) rfl rfl ?_
          refine Ops_step (R_assign rfl) rfl rfl ?_
          refine Ops_nil ?_
          refine then_n (hK41_ _ _ ?_)
          clear hK41_ K41_
          refine W_ret ?_
          refine then_ret ?_
          clear hK25_ K25_
          refine ⟨_, ⟨_, _, rfl, rfl, ⟨_, _, rfl, rfl, ⟨_, _, rfl, rfl, rfl⟩⟩⟩, ?_⟩
          exact ⟨none, 0, [], 0, 20, _, _, rfl, hI, OwnS.nil, h⟩
        · replace h := h.2 hc40_
          refine W_skip ?_
          refine then_n (hK25_ _ _ ?_)
          clear hK25_ K25_
          refine W_seq_k fun K42_ hK42_ => ?_
          refine W_region [some 68, some 69, some 70, some 2, some 3, some 4] rfl ?_
          refine Ops_step (R_move rfl) rfl rfl ?_
          refine Ops_step (R_move rfl) rfl rfl ?_
          have hk43_ := h.1
          replace h := h.2
          refine Ops_step (R_add rfl rfl (wI hk43_.1 hk43_.2)) rfl rfl ?_
          refine Ops_step (R_assign rfl) rfl rfl ?_
          refine Ops_step (R_assign rfl) rfl rfl ?_
          refine Ops_step (R_assign rfl) rfl rfl ?_
          refine Ops_nil ?_
          refine then_n (hK42_ _ _ ?_)
          clear hK42_ K42_
          refine W_keepB [2, 3, 4] fun B44 hB44_ => ?_
          simp only [pickE, lookE, putE, zipE, args0, Nat.reduceAdd, Nat.zero_add, List.cons_append, List.nil_append, Nat.reduceBEq, cond_true, cond_false] at hB44_
          subst hB44_
          refine W_ret ?_
          refine ⟨_, ⟨_, _, rfl, rfl, ⟨_, _, rfl, rfl, ⟨_, _, rfl, rfl, rfl⟩⟩⟩, ?_⟩
          exact ⟨A5_0, c5_0, r5_0, (((x0.length : Int) - r15_0) + 4), 0, _, _, rfl, hI, (ho5_0.hl (Le.no _)), h⟩

set_option maxHeartbeats 4000000 in
theorem octet_All_ok {G : Gh} {w : World} (hS : St G w) (hg : GL G) {A0 : Option Addr} {c0 : Nat} {x0 : List UInt8} (hc0 : x0.length ≤ c0) (hs0 : Sl G A0 x0) {Q : (List (List UInt8)) → Int → Prop} (h : octet_All x0 Q) : Calls Tryd.prog 46 #[.slice A0 x0.length c0] w fun e w2 => ∃ (A0 : Option Addr) (c0 : Nat) (r0 : List (List UInt8)) (r1 : Int) (L H : Gh), e = .returned (.tuple #[.slice A0 r0.length c0, vi r1]) ∧ Inv [] G w L H w2 ∧ OwnS w.heap.size 22 L H w2 A0 c0 r0 ∧ Q r0 r1 := by
  unfold octet_All at h
  have hI := Inv.start (M := []) hS
  refine calls_W 28 Tryd.func46 rfl Tryd.ntmps46 rfl [.tmp 2, .tmp 3] rfl ?_
  refine W_seq_k fun K1_ hK1_ => ?_
  refine W_region [some 2, some 3] rfl ?_
  refine Ops_step (R_assign rfl) rfl rfl ?_
  refine Ops_step (R_assign rfl) rfl rfl ?_
  refine Ops_nil ?_
  refine then_n (hK1_ _ _ ?_)
  clear hK1_ K1_
  refine W_seq_k fun K2_ hK2_ => ?_
  refine W_region [some 4] rfl ?_
  refine Ops_step (R_assign rfl) rfl rfl ?_
  refine Ops_nil ?_
  refine then_n (hK2_ _ _ ?_)
  clear hK2_ K2_
  refine W_seq_k fun K3_ hK3_ => ?_
  refine W_region [some 5] rfl ?_
  refine Ops_step (R_assign rfl) rfl rfl ?_
  refine Ops_nil ?_
  refine then_n (hK3_ _ _ ?_)
  clear hK3_ K3_
  refine W_block ?_
  refine Exists.elim h fun I4_ h => Exists.elim h fun n4_ h => ?_
  have h0_ := h.1
  have hs4_ := h.2
  clear h
  refine W_loopB [0] [4, 5] (fun m vs w2 => ∃ (x4_4 : List (List UInt8)) (A4_4 : Option Addr) (c4_4 : Nat) (x5_4 : Int) (L H : Gh), vs = [.slice A4_4 x4_4.length c4_4, vi x5_4] ∧ I4_ m x4_4 x5_4 ∧ Inv [] G w L H w2 ∧ Le Gh.no L ∧ Le G H ∧ OwnS w.heap.size 22 L H w2 A4_4 c4_4 x4_4 ∧ True) n4_ _ rfl ⟨[], none, 0, 0, _, _, rfl, h0_, hI, Le.refl _, Le.refl _, OwnS.nil, trivial⟩ fun B4 hB4_ => ?_
  clear h0_
  simp only [pickE, lookE, putE, zipE, args0, Nat.reduceAdd, Nat.zero_add, List.cons_append, List.nil_append, Nat.reduceBEq, cond_true, cond_false] at hB4_
  subst hB4_
  rintro m4_ _ w4_ ⟨x4_4, A4_4, c4_4, x5_4, L4_, H4_, rfl, hJ4_, hI4_, hll4_, hhh4_, ho4_4, -⟩
  replace hI := hI4_
  clear hI4_
  have h := hs4_ m4_ x4_4 x5_4 hJ4_
  clear hs4_ hJ4_
  replace hs0 := hs0.up hhh4_
  refine W_block ?_
  refine W_seq_k fun K5_ hK5_ => ?_
  refine W_region [some 10, some 11, some 12, some 13, some 9, some 14, some 15, some 16, some 6, some 7, some 8] rfl ?_
  refine Ops_step (R_move rfl) rfl rfl ?_
  refine Ops_step (R_move rfl) rfl rfl ?_
  have hk7_ := h.1
  replace h := h.2
  have hk8_ := h.1
  replace h := h.2
  refine Exists.elim (cut_ex (n := 1) hs0 rfl (by decide) hc0 hk7_ hk8_ (Int.le_refl _)) fun A6_ h6_ => Exists.elim h6_ fun c6_ h6_ => ?_
  have hr6_ := h6_.1
  have hc6_ := h6_.2.1
  have hs6_ := h6_.2.2
  clear h6_
  refine Ops_step (X_slice (xs := x0) Tryd.underlying22 TOtC.sz5 rfl hr6_ hc0 rfl rfl hk7_ hk8_ (Int.le_refl _)) rfl rfl ?_
  clear hr6_
  refine Ops_call (C_func TOtC.bd28 rfl) rfl rfl ?_
  refine (octet_Open_ok (x0 := (cut x0 x5_4 (x0.length : Int))) hI.st (hg.up hI.le) hc6_ hs6_ h).mono ?_
  rintro _ w9_ ⟨A9_0, c9_0, r9_0, r9_1, r9_2, L9_, H9_, rfl, hI9_, ho9_0, h⟩
  refine Exists.elim (hI.call hI9_ (by simp)) fun L90_ h9_ => ?_
  have hz9_ := hI.size
  replace hI := h9_.1
  have u9_ := h9_.2.1
  have hl9_ := h9_.2.2
  clear h9_
  replace hs0 := hs0.up u9_.hh
  replace ho4_4 := ho4_4.up u9_.ll u9_ (by simp)
  replace hll4_ := hll4_.trans u9_.ll
  replace hhh4_ := hhh4_.trans u9_.hh
  replace ho9_0 := OwnS.backS ho9_0 hz9_ (Le.refl _)
  clear hI9_ u9_ hl9_
  refine ⟨_, rfl, ?_⟩
  refine Exists.elim (ho9_0.freeze hI) fun L10_ h10_ => Exists.elim h10_ fun H10_ h10_ => ?_
  replace hI := h10_.1
  have u10_ := h10_.2.1
  have hs10_ := h10_.2.2.1 (Le.no _)
  have hc10_ := ho9_0.cap
  replace hs0 := hs0.up u10_.hh
  replace ho4_4 := ho4_4.up u10_.ll u10_ (ho4_4.sep ho9_0 (by decide))
  replace hll4_ := hll4_.trans u10_.ll
  replace hhh4_ := hhh4_.trans u10_.hh
  clear h10_ u10_ ho9_0
  refine Ops_step (R_move rfl) rfl rfl ?_
  refine Ops_step (R_extract (v := .slice A9_0 r9_0.length c9_0) rfl rfl) rfl rfl ?_
  refine Ops_step (R_extract (v := vi r9_1) rfl rfl) rfl rfl ?_
  refine Ops_step (R_extract (v := vi r9_2) rfl rfl) rfl rfl ?_
  refine Ops_step (R_assign rfl) rfl rfl ?_
  refine Ops_step (R_assign rfl) rfl rfl ?_
  refine Ops_step (R_assign rfl) rfl rfl ?_
  refine Ops_nil ?_
  refine then_n (hK5_ _ _ ?_)
  clear hK5_ K5_
  refine W_keepB [0, 4, 5, 6, 7, 8] fun B11 hB11_ => ?_
  simp only [pickE, lookE, putE, zipE, args0, Nat.reduceAdd, Nat.zero_add, List.cons_append, List.nil_append, Nat.reduceBEq, cond_true, cond_false] at hB11_
  subst hB11_
  refine W_seq_k fun K12_ hK12_ => ?_
  refine W_seq_k fun K13_ hK13_ => ?_
  refine W_region [some 17, some 18] rfl ?_
  refine Ops_step (R_move rfl) rfl rfl ?_
  refine Ops_step (R_neq rfl rfl) rfl rfl ?_
  refine Ops_nil ?_
  refine then_n (hK13_ _ _ ?_)
  clear hK13_ K13_
  refine W_if rfl (fun hc14_ => ?_) (fun hc14_ => ?_)
  · replace h := h.1 hc14_
    refine W_seq_k fun K15_ hK15_ => ?_
    refine W_region [some 19, some 20, some 2, some 3] rfl ?_
    refine Ops_step (R_move rfl) rfl rfl ?_
    refine Ops_step (R_move rfl) rfl rfl ?_
    refine Ops_step (R_assign rfl) rfl rfl ?_
    refine Ops_step (R_assign rfl) rfl rfl ?_
    refine Ops_nil ?_
    refine then_n (hK15_ _ _ ?_)
    clear hK15_ K15_
    refine W_keepB [2, 3] fun B16 hB16_ => ?_
    simp only [pickE, lookE, putE, zipE, args0, Nat.reduceAdd, Nat.zero_add, List.cons_append, List.nil_append, Nat.reduceBEq, cond_true, cond_false] at hB16_
    subst hB16_
    refine W_ret ?_
    refine then_ret ?_
    clear hK12_ K12_
    refine block_ret ?_
    refine then_ret ?_
    refine block_ret ?_
    refine ⟨_, ⟨_, _, rfl, rfl, ⟨_, _, rfl, rfl, rfl⟩⟩, ?_⟩
    exact ⟨A4_4, c4_4, x4_4, x5_4, _, _, rfl, hI, ho4_4, h⟩
  · replace h := h.2 hc14_
    refine W_skip ?_
    refine then_n (hK12_ _ _ ?_)
    clear hK12_ K12_
    refine W_region [some 21, some 22, some 23, some 24, some 25, some 26, some 27, some 4, some 5] rfl ?_
    refine Ops_step (R_move rfl) rfl rfl ?_
    refine Ops_step (R_move rfl) rfl rfl ?_
    have hlo17_ho4_4 := ho4_4.lt
    refine Ops_to (R_buildSlice TOtC.el67 TOtC.zr22 (by decide) (by decide) rfl rfl) rfl rfl ?_
    rintro _ w17_ ⟨b17_, rfl, hb17_, hB17_, hF17_⟩
    have ho17_ : OwnS w.heap.size 22 L10_ H10_ _ (some ⟨b17_, 0, none⟩) 1 ([r9_0] : List (List UInt8)) := OwnS.ofBlk (css := [[.slice A9_0 r9_0.length c9_0]]) hI.st hb17_ hB17_ (.cons ⟨A9_0, c9_0, rfl, hc10_, hs10_⟩ .nil) rfl (by have := hI.size; omega) (by show 1 ≤ maxLen; decide)
    replace hI := hI.fr0 hF17_
    replace ho4_4 := ho4_4.fr0 hF17_
    clear hF17_ hB17_
    have hsp17_ho4_4 : ∀ i ∈ bk (some ⟨b17_, 0, none⟩) 1, i ∉ bk A4_4 c4_4 := sep_new (fun i_ hi_ => by have := (bk_of hi_).1; simp only [blkOf, List.mem_singleton] at this; omega) hlo17_ho4_4
    have hk19_ := h.1
    replace h := h.2
    refine Ops_to (X_append (α := List UInt8) (xs := x4_4) (ys := ([r9_0] : List (List UInt8))) TOtC.el67 rfl rfl ho4_4 (Srcs.ofOwn Tryd.underlying67 ho17_ (by decide)) hI.st hk19_ (by decide) hI.size) rfl rfl ?_
    rintro _ w18_ ⟨A18_, c18_, rfl, ho18_, hF18_, hbk18_⟩
    clear hbk18_
    replace hI := hI.tok hF18_ ho4_4.out (ho4_4.new (Nat.le_refl _))
    clear hF18_ ho4_4
    refine Ops_step (R_move rfl) rfl rfl ?_
    refine Ops_step (R_move rfl) rfl rfl ?_
    have hk20_ := h.1
    replace h := h.2
    refine Ops_step (R_add rfl rfl (wI hk20_.1 hk20_.2)) rfl rfl ?_
    refine Ops_step (R_assign rfl) rfl rfl ?_
    refine Ops_step (R_assign rfl) rfl rfl ?_
    refine Ops_nil ?_
    refine block_n ?_
    refine then_n ?_
    exact h.elim fun m_ h => ⟨m_, _, h.1, rfl, ⟨(x4_4 ++ ([r9_0] : List (List UInt8))), A18_, c18_, (x5_4 + r9_1), _, _, rfl, h.2, hI, hll4_, hhh4_, ho18_, trivial⟩, ⟨rfl, trivial⟩⟩

set_option maxHeartbeats 4000000 in
theorem bytes_Equal_ok {G : Gh} {w : World} (hS : St G w) (hg : GL G) {A0 : Option Addr} {c0 : Nat} {x0 : List UInt8} (hc0 : x0.length ≤ c0) (hs0 : Sl G A0 x0) {A1 : Option Addr} {c1 : Nat} {x1 : List UInt8} (hc1 : x1.length ≤ c1) (hs1 : Sl G A1 x1) {Q : Bool → Prop} (h : bytes_Equal x0 x1 Q) : Calls Tryd.prog 24 #[.slice A0 x0.length c0, .slice A1 x1.length c1] w fun e w2 => ∃ (r0 : Bool) (L H : Gh), e = .returned (.bool r0) ∧ Inv [] G w L H w2 ∧ Q r0 := by
  unfold bytes_Equal at h
  have hI := Inv.start (M := []) hS
  refine calls_W 10 Tryd.func24 rfl Tryd.ntmps24 rfl [.tmp 4] rfl ?_
  refine W_seq_k fun K1_ hK1_ => ?_
  refine W_region [some 4] rfl ?_
  refine Ops_step (R_assign rfl) rfl rfl ?_
  refine Ops_nil ?_
  refine then_n (hK1_ _ _ ?_)
  clear hK1_ K1_
  refine W_seq_k fun K2_ hK2_ => ?_
  refine W_region [some 5, some 6, some 7, some 8, some 9, some 4] rfl ?_
  refine Ops_step (R_move rfl) rfl rfl ?_
  refine Ops_step (X_bytesStr (bs := x0) Tryd.underlying22 Tryd.underlying5 Tryd.underlying9 rfl rfl (hs0.fz.rd hI.st)) rfl rfl ?_
  refine Ops_step (R_move rfl) rfl rfl ?_
  refine Ops_step (X_bytesStr (bs := x1) Tryd.underlying22 Tryd.underlying5 Tryd.underlying9 rfl rfl (hs1.fz.rd hI.st)) rfl rfl ?_
  refine Ops_step (R_strEqB rfl rfl) rfl rfl ?_
  refine Ops_step (R_assign rfl) rfl rfl ?_
  refine Ops_nil ?_
  refine then_n (hK2_ _ _ ?_)
  clear hK2_ K2_
  refine W_keepB [4] fun B3 hB3_ => ?_
  simp only [pickE, lookE, putE, zipE, args0, Nat.reduceAdd, Nat.zero_add, List.cons_append, List.nil_append, Nat.reduceBEq, cond_true, cond_false] at hB3_
  subst hB3_
  refine W_ret ?_
  refine ⟨_, ⟨_, _, rfl, rfl, rfl⟩, ?_⟩
  exact ⟨(decide ((Str.mk x0).b = (Str.mk x1).b)), _, _, rfl, hI, h⟩

set_option maxHeartbeats 4000000 in
theorem bytes_HasPrefix_ok {G : Gh} {w : World} (hS : St G w) (hg : GL G) {A0 : Option Addr} {c0 : Nat} {x0 : List UInt8} (hc0 : x0.length ≤ c0) (hs0 : Sl G A0 x0) {A1 : Option Addr} {c1 : Nat} {x1 : List UInt8} (hc1 : x1.length ≤ c1) (hs1 : Sl G A1 x1) {Q : Bool → Prop} (h : bytes_HasPrefix x0 x1 Q) : Calls Tryd.prog 29 #[.slice A0 x0.length c0, .slice A1 x1.length c1] w fun e w2 => ∃ (r0 : Bool) (L H : Gh), e = .returned (.bool r0) ∧ Inv [] G w L H w2 ∧ Q r0 := by
  unfold bytes_HasPrefix at h
  have hI := Inv.start (M := []) hS
  refine calls_W 18 Tryd.func29 rfl Tryd.ntmps29 rfl [.tmp 4] rfl ?_
  refine W_seq_k fun K1_ hK1_ => ?_
  refine W_region [some 4] rfl ?_
  refine Ops_step (R_assign rfl) rfl rfl ?_
  refine Ops_nil ?_
  refine then_n (hK1_ _ _ ?_)
  clear hK1_ K1_
  refine W_seq_k fun K2_ hK2_ => ?_
  refine W_region [some 5, some 6, some 7, some 8, some 9, some 10, some 11, some 12, some 13, some 14, some 15, some 16, some 17, some 4] rfl ?_
  refine Ops_step (R_move rfl) rfl rfl ?_
  refine Ops_step (R_len Tryd.underlying22 rfl rfl) rfl rfl ?_
  refine Ops_step (R_move rfl) rfl rfl ?_
  refine Ops_step (R_len Tryd.underlying22 rfl rfl) rfl rfl ?_
  refine Ops_step (R_geq rfl rfl) rfl rfl ?_
  refine Ops_step (R_move rfl) rfl rfl ?_
  refine Ops_split 10 rfl (fun hg3_ => ?_) (fun hg3_ => ?_)
  · replace h := h.1 hg3_
    refine Ops_step (R_move rfl) rfl rfl ?_
    refine Ops_step (R_move rfl) rfl rfl ?_
    refine Ops_step (R_len Tryd.underlying22 rfl rfl) rfl rfl ?_
    have hk5_ := h.1
    replace h := h.2
    have hk6_ := h.1
    replace h := h.2
    refine Exists.elim (cut_ex (n := 1) hs0 rfl (by decide) hc0 (Int.le_refl 0) hk5_ hk6_) fun A4_ h4_ => Exists.elim h4_ fun c4_ h4_ => ?_
    have hr4_ := h4_.1
    have hc4_ := h4_.2.1
    have hs4_ := h4_.2.2
    clear h4_
    refine Ops_step (X_slice (xs := x0) Tryd.underlying22 TOtC.sz5 rfl hr4_ hc0 rfl rfl (Int.le_refl 0) hk5_ hk6_) rfl rfl ?_
    clear hr4_
    refine Ops_step (R_move rfl) rfl rfl ?_
    refine Ops_call (C_func TOtC.bd24 rfl) rfl rfl ?_
    refine (bytes_Equal_ok (x0 := (cut x0 0 (x1.length : Int))) (x1 := x1) hI.st (hg.up hI.le) hc4_ hs4_ hc1 hs1 h).mono ?_
    rintro _ w7_ ⟨r7_0, L7_, H7_, rfl, hI7_, h⟩
    refine Exists.elim (hI.call hI7_ (by simp)) fun L70_ h7_ => ?_
    have hz7_ := hI.size
    replace hI := h7_.1
    have u7_ := h7_.2.1
    have hl7_ := h7_.2.2
    clear h7_
    clear hI7_ u7_ hl7_
    refine ⟨_, rfl, ?_⟩
    refine Ops_step (R_pick_true rfl rfl) rfl rfl ?_
    refine Ops_step (R_assign rfl) rfl rfl ?_
    refine Ops_nil ?_
    refine then_n (hK2_ _ _ ?_)
    clear hK2_ K2_
    refine W_keepB [4] fun B8 hB8_ => ?_
    simp only [pickE, lookE, putE, zipE, args0, Nat.reduceAdd, Nat.zero_add, List.cons_append, List.nil_append, Nat.reduceBEq, cond_true, cond_false] at hB8_
    subst hB8_
    refine W_ret ?_
    refine ⟨_, ⟨_, _, rfl, rfl, rfl⟩, ?_⟩
    exact ⟨r7_0, _, _, rfl, hI, h⟩
  · replace h := h.2 hg3_
    refine Ops_pass rfl rfl ?_
    refine Ops_pass rfl rfl ?_
    refine Ops_pass rfl rfl ?_
    refine Ops_pass rfl rfl ?_
    refine Ops_pass rfl rfl ?_
    refine Ops_pass rfl rfl ?_
    refine Ops_step (R_pick_false rfl rfl) rfl rfl ?_
    refine Ops_step (R_assign rfl) rfl rfl ?_
    refine Ops_nil ?_
    refine then_n (hK2_ _ _ ?_)
    clear hK2_ K2_
    refine W_keepB [4] fun B9 hB9_ => ?_
    simp only [pickE, lookE, putE, zipE, args0, Nat.reduceAdd, Nat.zero_add, List.cons_append, List.nil_append, Nat.reduceBEq, cond_true, cond_false] at hB9_
    subst hB9_
    refine W_ret ?_
    refine ⟨_, ⟨_, _, rfl, rfl, rfl⟩, ?_⟩
    exact ⟨false, _, _, rfl, hI, h⟩

set_option maxHeartbeats 4000000 in
theorem slices_Clone_sl_byte_byte_ok {G : Gh} {w : World} (hS : St G w) (hg : GL G) {A0 : Option Addr} {c0 : Nat} {x0 : List UInt8} (hc0 : x0.length ≤ c0) (hs0 : Sl G A0 x0) {Q : (List UInt8) → Prop} (h : slices_Clone_sl_byte_byte x0 Q) : Calls Tryd.prog 31 #[.slice A0 x0.length c0] w fun e w2 => ∃ (A0 : Option Addr) (c0 : Nat) (r0 : List UInt8) (L H : Gh), e = .returned (.slice A0 r0.length c0) ∧ Inv [] G w L H w2 ∧ OwnS w.heap.size 5 L H w2 A0 c0 r0 ∧ Q r0 := by
  unfold slices_Clone_sl_byte_byte at h
  have hI := Inv.start (M := []) hS
  refine calls_W 8 Tryd.func31 rfl Tryd.ntmps31 rfl [.tmp 2] rfl ?_
  refine W_seq_k fun K1_ hK1_ => ?_
  refine W_region [some 2] rfl ?_
  refine Ops_step (R_assign rfl) rfl rfl ?_
  refine Ops_nil ?_
  refine then_n (hK1_ _ _ ?_)
  clear hK1_ K1_
  refine W_seq_k fun K2_ hK2_ => ?_
  refine W_seq_k fun K3_ hK3_ => ?_
  refine W_region [some 3, some 4] rfl ?_
  refine Ops_step (R_move rfl) rfl rfl ?_
  refine named (A0).isNone fun b4_ eb4_ => ?_
  replace h := h b4_ (fun e_ => sl_nil hs0 (by decide) (eb4_.symm.trans e_))
  refine Ops_step (X_slNil eb4_ Tryd.underlying22 rfl rfl) rfl rfl ?_
  refine Ops_nil ?_
  refine then_n (hK3_ _ _ ?_)
  clear hK3_ K3_
  refine W_cond rfl (fun hc5_ => ?_) (fun hc5_ => ?_)
  · replace h := h.1 hc5_
    refine W_seq_k fun K6_ hK6_ => ?_
    refine W_region [some 2] rfl ?_
    refine Ops_step (R_assign rfl) rfl rfl ?_
    refine Ops_nil ?_
    refine then_n (hK6_ _ _ ?_)
    clear hK6_ K6_
    refine W_ret ?_
    refine then_ret ?_
    clear hK2_ K2_
    refine ⟨_, ⟨_, _, rfl, rfl, rfl⟩, ?_⟩
    exact ⟨none, 0, [], _, _, rfl, hI, OwnS.nil, h⟩
  · replace h := h.2 hc5_
    refine W_skip ?_
    refine then_n (hK2_ _ _ ?_)
    clear hK2_ K2_
    refine W_seq_k fun K7_ hK7_ => ?_
    refine W_region [some 5, some 6, some 7, some 2] rfl ?_
    refine Ops_to (R_buildSlice0 TOtC.el22) rfl rfl ?_
    rintro _ w8_ ⟨b8_, rfl, hb8_, hB8_, hF8_⟩
    have ho8_ : OwnS w.heap.size 5 Gh.no G _ (some ⟨b8_, 0, none⟩) 0 ([] : List UInt8) := OwnS.ofBlk hI.st hb8_ hB8_ (all2_sc' _) rfl (by have := hI.size; omega) (by show 0 ≤ maxLen; decide)
    replace hI := hI.fr0 hF8_
    clear hF8_ hB8_
    refine Ops_step (R_move rfl) rfl rfl ?_
    have hk10_ := h.1
    replace h := h.2
    refine Ops_to (X_append (α := UInt8) (xs := ([] : List UInt8)) (ys := x0) TOtC.el22 rfl rfl ho8_ (Srcs.sc (Srcs.ofSl Tryd.underlying22 hs0 hI.st (by decide))) hI.st hk10_ (by decide) hI.size) rfl rfl ?_
    rintro _ w9_ ⟨A9_, c9_, rfl, ho9_, hF9_, hbk9_⟩
    clear hbk9_
    replace hI := hI.tok hF9_ ho8_.out (ho8_.new (Nat.le_refl _))
    clear hF9_ ho8_
    refine Ops_step (R_assign rfl) rfl rfl ?_
    refine Ops_nil ?_
    refine then_n (hK7_ _ _ ?_)
    clear hK7_ K7_
    refine W_keepB [2] fun B11 hB11_ => ?_
    simp only [pickE, lookE, putE, zipE, args0, Nat.reduceAdd, Nat.zero_add, List.cons_append, List.nil_append, Nat.reduceBEq, cond_true, cond_false] at hB11_
    subst hB11_
    refine W_ret ?_
    refine ⟨_, ⟨_, _, rfl, rfl, rfl⟩, ?_⟩
    exact ⟨A9_, c9_, (([] : List UInt8) ++ x0), _, _, rfl, hI, (ho9_.hl (Le.no _)), h⟩

end Go.Proofs.YtdnpdljnjoegiaaDoor
