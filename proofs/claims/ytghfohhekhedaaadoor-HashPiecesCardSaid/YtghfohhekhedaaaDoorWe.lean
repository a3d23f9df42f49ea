/- What the walks of this seat show of We. -/
import Derived.Test.YtghfohhekhedaaaDoorSx11
import Derived.Test.YtghfohhekhedaaaDoorBe
import Derived.Test.YtghfohhekhedaaaDoorWb
import Derived.Test.YtghfohhekhedaaaDoorWd
import Derived.Test.YtghfohhekhedaaaDoorProg
set_option linter.unusedVariables false
set_option linter.unusedSimpArgs false
namespace Go.Proofs.YtghfohhekhedaaaDoor
open Go Go.Sx

namespace TWe
theorem hm : Tryd.prog.follows .mixedOrders = true := by kernel_rfl
theorem ag22 : aggB Tryd.prog 22 = some false := by kernel_rfl
theorem ag36 : aggB Tryd.prog 36 = some true := by kernel_rfl
theorem ag37 : aggB Tryd.prog 37 = some false := by kernel_rfl
theorem ag4 : aggB Tryd.prog 4 = some false := by kernel_rfl
theorem bd31 : bodied Tryd.prog 31 = true := by kernel_rfl
theorem el22 : Elem Tryd.prog 22 5 1 1 := Elem.of (by kernel_rfl)
theorem fo39_0 : offB Tryd.prog 39 0 = some 0 := by kernel_rfl
theorem fo39_1 : offB Tryd.prog 39 1 = some 8 := by kernel_rfl
theorem fo39_2 : offB Tryd.prog 39 2 = some 9 := by kernel_rfl
theorem fo39_3 : offB Tryd.prog 39 3 = some 10 := by kernel_rfl
theorem sz22 : sz Tryd.prog 22 = some 1 := by kernel_rfl
theorem sz36 : sz Tryd.prog 36 = some 8 := by kernel_rfl
theorem sz37 : sz Tryd.prog 37 = some 1 := by kernel_rfl
theorem sz5 : sz Tryd.prog 5 = some 1 := by kernel_rfl
end TWe
set_option maxHeartbeats 4000000 in
theorem add_any (B d : Nat) (D : Bl.D) (LA : Option Addr) (L : List (List UInt8)) (lc : Nat) (w : World) (hD : Dig w B d D) (hL : RdL w d LA L) (hlen : ∀ bs ∈ L, bs.length ≤ 1099511627776) (hm : L.length ≤ 1099511627776) (hBw : B ≤ w.heap.size)
    (hO : Rd w (some ⟨0, 0, none⟩) ordC) (h0 : 0 < B) :
    Calls Tryd.prog 15 #[.pointer (some ⟨d, 0, none⟩), .slice LA L.length lc] w fun e w2 => e = .returned (.int .i64 0) ∧ Dig w2 B d (L.foldl Bl.add D) ∧ Fr [d] w w2 := by
  have hF := Fr.refl [d] w
  obtain ⟨A, c, hB, hh, hr, hd, hR, hc⟩ := hD
  refine calls_W 77 Tryd.func15 rfl Tryd.ntmps15 rfl [.tmp 4] rfl ?_
  refine W_seq_k fun K1_ hK1_ => ?_
  refine W_region [some 4] rfl ?_
  refine Ops_step (R_assign rfl) rfl rfl ?_
  refine Ops_nil ?_
  refine then_n (hK1_ _ _ ?_)
  clear hK1_ K1_
  refine W_seq_k fun K2_ hK2_ => ?_
  refine W_seq_k fun K3_ hK3_ => ?_
  refine W_region [some 7, some 8, some 9, some 10, some 11, some 12, some 13, some 14, some 15] rfl ?_
  refine Ops_step (R_move rfl) rfl rfl ?_
  refine Ops_step (R_ptrNil Tryd.underlying25 rfl rfl) rfl rfl ?_
  refine Ops_step (R_move rfl) rfl rfl ?_
  refine Ops_step (R_move rfl) rfl rfl ?_
  refine Ops_step (R_nilCheck rfl) rfl rfl ?_
  refine Ops_step (R_fieldAddr TWe.fo39_3 rfl) rfl rfl ?_
  refine Ops_step (R_loadB TWe.ag4 rfl hB (digC_get10 hh _ _ _ _)) rfl rfl ?_
  refine Ops_step (R_not rfl) rfl rfl ?_
  refine Ops_step (R_pick_false rfl rfl) rfl rfl ?_
  refine Ops_nil ?_
  refine then_n (hK3_ _ _ ?_)
  clear hK3_ K3_
  refine W_keepB [0, 1, 15] fun B4 hB4_ => ?_
  simp only [pickE, lookE, putE, zipE, args0, Nat.reduceAdd, Nat.zero_add, List.cons_append, List.nil_append, Nat.reduceBEq, cond_true, cond_false] at hB4_
  subst hB4_
  refine W_cond_false rfl ?_
  refine W_skip ?_
  refine then_n (hK2_ _ _ ?_)
  clear hK2_ K2_
  refine W_seq_k fun K5_ hK5_ => ?_
  refine W_seq_k fun K6_ hK6_ => ?_
  refine W_region [some 16, some 17, some 18] rfl ?_
  refine Ops_step (R_move rfl) rfl rfl ?_
  refine Ops_step (R_len Tryd.underlying53 rfl rfl) rfl rfl ?_
  refine Ops_step (R_move rfl) rfl rfl ?_
  refine Ops_nil ?_
  refine then_n (hK6_ _ _ ?_)
  clear hK6_ K6_
  refine W_block ?_
  refine W_loopB [0, 16, 17] [18] (fun m vs w' => ∃ i, i ≤ L.length ∧ m = L.length - i ∧ vs = [vi i] ∧ Dig w' B d ((L.take i).foldl Bl.add D) ∧ Fr [d] w w') (L.length) _ rfl (⟨0, by omega, rfl, rfl, ⟨A, c, hB, hh, hr, hd, hR, hc⟩, hF⟩) fun B7 hB7_ => ?_
  simp only [pickE, lookE, putE, zipE, args0, Nat.reduceAdd, Nat.zero_add, List.cons_append, List.nil_append, Nat.reduceBEq, cond_true, cond_false] at hB7_
  subst hB7_
  clear hB hh hr hd hR hc hF
  rintro m_ vs_ w0_ ⟨i, hi, rfl, rfl, hDg, hF⟩
  refine W_seq_k fun K8_ hK8_ => ?_
  refine W_region [some 19] rfl ?_
  refine Ops_step (R_lss rfl rfl) rfl rfl ?_
  refine Ops_nil ?_
  refine then_n (hK8_ _ _ ?_)
  clear hK8_ K8_
  refine W_seq_k fun K9_ hK9_ => ?_
  refine W_if rfl (fun hc19 => ?_) (fun hc19 => ?_)
  · have hi1 : i < L.length := by omega
    have hx := (hL.fr hF) i _ (List.getElem?_eq_getElem hi1)
    refine named L[i] fun bs ebs => ?_
    rw [← ebs] at hx
    obtain ⟨hs1, hs2, Ai, ci, hs3, hs4⟩ := hx
    have hbl : bs.length ≤ 1099511627776 := hlen bs (by rw [ebs]; exact List.getElem_mem hi1)
    refine named ((L.take i).foldl Bl.add D) fun D1 eD1 => ?_
    rw [← eD1] at hDg
    obtain ⟨A, c, hB, hh, hr, hd, hR, hc⟩ := hDg
    refine W_skip ?_
    refine then_n (hK9_ _ _ ?_)
    clear hK9_ K9_
    refine W_seq_k fun K10_ hK10_ => ?_
    refine W_block ?_
    refine W_seq_k fun K11_ hK11_ => ?_
    refine W_region [some 20, some 21, some 6] rfl ?_
    refine Ops_step (R_indexSl Tryd.underlying53 TWe.sz22 rfl rfl (by omega) (by omega) hs1) rfl rfl ?_
    refine Ops_step (R_load TWe.ag22 rfl (by simpa using hs3)) rfl rfl ?_
    refine Ops_step (R_assign rfl) rfl rfl ?_
    refine Ops_nil ?_
    refine then_n (hK11_ _ _ ?_)
    clear hK11_ K11_
    refine W_seq_k fun K12_ hK12_ => ?_
    refine W_drawF [some 22, some 23, some 24, some 25, some 26, some 27, some 28, some 29, some 30, some 31, some 32, some 33, some 34, some 35, some 36, some 37, some 38, some 39, some 40, some 41, none] [(0, true), (1, true), (2, true), (3, true), (4, true), (5, true), (6, true), (7, true), (8, true), (9, true), (10, true), (11, true), (12, true), (13, true), (14, true), (15, true), (16, true), (17, false), (18, true), (19, true), (20, false)] TWe.hm rfl (by kernel_rfl) fun ops13_ w13_ hops13_ hF13_ => ?_
    replace hF := hF.fr0 hF13_
    replace hB := hB.fr0 hF13_
    replace hR := hR.fr0 hF13_
    replace hs4 := hs4.fr0 hF13_
    clear hF13_
    refine HS_pure (fun w_ => R_move rfl) rfl rfl ?_
    refine HS_pure (fun w_ => R_move rfl) rfl rfl ?_
    refine HS_pure (fun w_ => R_nilCheck rfl) rfl rfl ?_
    refine HS_pure (fun w_ => R_fieldAddr TWe.fo39_1 rfl) rfl rfl ?_
    refine HS_loadB TWe.ag22 rfl hB (digC_get8 hh _ _ _ _) rfl rfl ?_
    refine HS_pure (fun w_ => R_move rfl) rfl rfl ?_
    refine HS_pure (fun w_ => R_nilCheck rfl) rfl rfl ?_
    refine HS_pure (fun w_ => R_fieldAddr TWe.fo39_1 rfl) rfl rfl ?_
    refine HS_loadB TWe.ag22 rfl hB (digC_get8 hh _ _ _ _) rfl rfl ?_
    refine HS_pure (fun w_ => R_len Tryd.underlying22 rfl rfl) rfl rfl ?_
    refine HS_pure (fun w_ => R_move rfl) rfl rfl ?_
    refine HS_pure (fun w_ => R_nilCheck rfl) rfl rfl ?_
    refine HS_pure (fun w_ => R_fieldAddr TWe.fo39_1 rfl) rfl rfl ?_
    refine HS_loadB TWe.ag22 rfl hB (digC_get8 hh _ _ _ _) rfl rfl ?_
    refine HS_pure (fun w_ => R_len Tryd.underlying22 rfl rfl) rfl rfl ?_
    refine HS_pure (fun w_ => R_sliceTo Tryd.underlying22 TWe.sz5 rfl ⟨_, _, rfl, rfl⟩ ⟨_, _, rfl, rfl⟩ (by decide) (by omega) (by omega)) rfl rfl ?_
    refine HS_pure (fun w_ => R_move rfl) rfl rfl ?_
    refine HS_to [] _ rfl (by rw [hops13_]; kernel_rfl) (R_appendTight (B := B) TWe.el22 rfl rfl hR.rd (by simp) (Src.ofRd Tryd.underlying22 (by decide) hs4.rd (by simp) allb) (by omega) (by simp only [maxLen]; omega) (by have := hF.size; omega)) rfl rfl ?_
    rintro _ w39_ ⟨A39, c39, rfl, hR39, hF39_, hW39⟩
    replace hF := hF.fr0 hF39_
    replace hB := hB.fr0 hF39_
    replace hR := hR.fr0 hF39_
    replace hs4 := hs4.fr0 hF39_
    clear hF39_
    have hR2 := rest_app rfl hR hW39
    clear hR39 hW39 hR
    have hcap := hR2.2
    replace hR := hR2.1
    clear hR2
    refine ⟨trivial, ?_⟩
    refine HS_pure (fun w_ => R_nilCheck rfl) rfl rfl ?_
    refine HS_pure (fun w_ => R_fieldAddr TWe.fo39_1 rfl) rfl rfl ?_
    have hT : ∃ cs, Blk _ d 39 cs := ⟨_, hB⟩
    refine HS_to0 [] _ rfl (by rw [hops13_]; kernel_rfl) (R_store TWe.sz22 rfl rfl hB (by rw [digC_len hh]; decide) rfl) rfl ?_
    clear hB
    rintro _ w14_ ⟨hB, hF14_⟩
    replace hF := hF.then hF14_ (by simp)
    replace hR := hR.fr hF14_ (one39 hT)
    replace hs4 := hs4.fr hF14_ trivial
    clear hF14_
    clear hT
    replace hB := hB.to (digC_rest hh _ _ _ _ _ _ _)
    refine ⟨trivial, ?_⟩
    refine HS_nil ?_
    clear hops13_
    refine then_n (hK12_ _ _ ?_)
    clear hK12_ K12_
    refine W_keepB [0, 16, 17, 18] fun B15 hB15_ => ?_
    simp only [pickE, lookE, putE, zipE, args0, Nat.reduceAdd, Nat.zero_add, List.cons_append, List.nil_append, Nat.reduceBEq, cond_true, cond_false] at hB15_
    subst hB15_
    refine W_block ?_
    refine W_loopB [0, 16, 17, 18] [] (fun m vs w' => ∃ D2, D2.rest.length = m ∧ vs = [] ∧ DigL w' B d D2 ∧ Bl.eat D2.rest.length D2 = Bl.add D1 bs ∧ Fr [d] w w') ((D1.rest ++ bs).length) _ rfl (⟨⟨D1.h, D1.rest ++ bs, D1.n⟩, rfl, rfl, ⟨A39, c39, hB.to (by rw [List.length_append]), hh, hd, hR, hcap⟩, rfl, hF⟩) fun B16 hB16_ => ?_
    simp only [pickE, lookE, putE, zipE, args0, Nat.reduceAdd, Nat.zero_add, List.cons_append, List.nil_append, Nat.reduceBEq, cond_true, cond_false] at hB16_
    subst hB16_
    clear hB hh hd hR hcap hF hr hc
    rintro m_ vs_ w0_ ⟨D2, rfl, rfl, ⟨A2, c2, hB, hh, hd, hR, hc⟩, hE, hF⟩
    refine W_seq_k fun K17_ hK17_ => ?_
    refine W_seq_k fun K18_ hK18_ => ?_
    refine W_region [some 42, some 43, some 44, some 45, some 46, some 47] rfl ?_
    refine Ops_step (R_move rfl) rfl rfl ?_
    refine Ops_step (R_nilCheck rfl) rfl rfl ?_
    refine Ops_step (R_fieldAddr TWe.fo39_1 rfl) rfl rfl ?_
    refine Ops_step (R_loadB TWe.ag22 rfl hB (digC_get8 hh _ _ _ _)) rfl rfl ?_
    refine Ops_step (R_len Tryd.underlying22 rfl rfl) rfl rfl ?_
    refine Ops_step (R_gtr rfl rfl) rfl rfl ?_
    refine Ops_nil ?_
    refine then_n (hK18_ _ _ ?_)
    clear hK18_ K18_
    refine W_if rfl (fun hc47 => ?_) (fun hc47 => ?_)
    · refine W_skip ?_
      refine then_n (hK17_ _ _ ?_)
      clear hK17_ K17_
      refine W_keepB [0, 16, 17, 18] fun B19 hB19_ => ?_
      simp only [pickE, lookE, putE, zipE, args0, Nat.reduceAdd, Nat.zero_add, List.cons_append, List.nil_append, Nat.reduceBEq, cond_true, cond_false] at hB19_
      subst hB19_
      refine W_block ?_
      refine W_seq_k fun K20_ hK20_ => ?_
      refine W_region [some 48, some 49, some 50, some 51, some 52, some 53, some 54, none] rfl ?_
      refine Ops_step (R_move rfl) rfl rfl ?_
      refine Ops_step (R_nilCheck rfl) rfl rfl ?_
      refine Ops_step (R_fieldAddr TWe.fo39_2 rfl) rfl rfl ?_
      refine Ops_step (R_loadB TWe.ag37 rfl hB (digC_get9 hh _ _ _ _)) rfl rfl ?_
      refine Ops_step (R_add rfl rfl (add64 _ 64#64)) rfl rfl ?_
      refine Ops_step (R_nilCheck rfl) rfl rfl ?_
      refine Ops_step (R_fieldAddr TWe.fo39_2 rfl) rfl rfl ?_
      have hT : ∃ cs, Blk _ d 39 cs := ⟨_, hB⟩
      refine Ops_to0 (R_store TWe.sz37 rfl rfl hB (by rw [digC_len hh]; decide) rfl) rfl ?_
      clear hB
      rintro _ w21_ ⟨hB, hF21_⟩
      replace hF := hF.then hF21_ (by simp)
      replace hR := hR.fr hF21_ (one39 hT)
      clear hF21_
      clear hT
      replace hB := hB.to (cs' := digC D2.h A2 D2.rest.length c2 (D2.n + 64)) (by have h_ := digC_n hh A2 D2.rest.length c2 D2.n (D2.n + 64); rw [BitVec.ofNat_add] at h_; exact h_)
      obtain ⟨g2, o2, cs2, rfl, hg2, hB2, hr2⟩ := rest_some hR (by omega)
      have hgd : d ≠ g2 := hB.ne hB2 (by decide)
      clear hB2
      refine Ops_nil ?_
      refine then_n (hK20_ _ _ ?_)
      clear hK20_ K20_
      refine W_keepB [0, 16, 17, 18] fun B22 hB22_ => ?_
      simp only [pickE, lookE, putE, zipE, args0, Nat.reduceAdd, Nat.zero_add, List.cons_append, List.nil_append, Nat.reduceBEq, cond_true, cond_false] at hB22_
      subst hB22_
      refine W_seq_k fun K23_ hK23_ => ?_
      refine W_drawF [some 55, some 56, some 57, some 58, some 59, some 60, some 61, some 62, some 63, some 64, some 65, some 66, some 67] [(0, true), (1, true), (2, true), (3, true), (4, true), (5, true), (6, true), (7, true), (8, true), (9, true), (10, true), (11, true), (12, false)] TWe.hm rfl (by kernel_rfl) fun ops24_ w24_ hops24_ hF24_ => ?_
      replace hF := hF.fr0 hF24_
      replace hB := hB.fr0 hF24_
      replace hR := hR.fr0 hF24_
      clear hF24_
      refine HS_pure (fun w_ => R_move rfl) rfl rfl ?_
      refine HS_pure (fun w_ => R_nilCheck rfl) rfl rfl ?_
      refine HS_pure (fun w_ => R_fieldAddr TWe.fo39_0 rfl) rfl rfl ?_
      refine HS_pure (fun w_ => R_move rfl) rfl rfl ?_
      refine HS_pure (fun w_ => R_nilCheck rfl) rfl rfl ?_
      refine HS_pure (fun w_ => R_fieldAddr TWe.fo39_1 rfl) rfl rfl ?_
      refine HS_loadB TWe.ag22 rfl hB (digC_get8 hh _ _ _ _) rfl rfl ?_
      refine HS_pure (fun w_ => R_sliceTo (h := 64) Tryd.underlying22 TWe.sz5 rfl ⟨_, _, rfl, rfl⟩ rfl (by decide) (by omega) (by omega)) rfl rfl ?_
      refine HS_pure (fun w_ => R_move rfl) rfl rfl ?_
      refine HS_pure (fun w_ => R_nilCheck rfl) rfl rfl ?_
      refine HS_pure (fun w_ => R_fieldAddr TWe.fo39_2 rfl) rfl rfl ?_
      refine HS_loadB TWe.ag37 rfl hB (digC_get9 hh _ _ _ _) rfl rfl ?_
      have hT : ∃ cs, Blk _ d 39 cs := ⟨_, hB⟩
      refine HS_call [] _ rfl (by rw [hops24_]; kernel_rfl) (C_func TWe.bd31 rfl) rfl rfl ?_
      refine (mix_any D2.h hh [.slice (some ⟨g2, o2, none⟩) D2.rest.length c2, w64 (BitVec.ofNat 64 (D2.n + 64)), .bool true] d 39 ⟨g2, o2, none⟩ (D2.rest.take 64) (by simp; omega) _ (BitVec.ofNat 64 (D2.n + 64)) false _ hB (by rw [List.map_take]; exact hR.rd.take 64) (hO.fr hF (offlt (by show 0 ≠ d; omega))) (offlt (by show g2 ≠ d; omega)) (offlt (by show 0 ≠ d; omega))).mono ?_
      rintro _ w67_ ⟨rfl, hB, hF67_⟩
      replace hF := hF.then hF67_ (by simp)
      replace hR := hR.fr hF67_ (one39 hT)
      clear hF67_
      refine ⟨_, rfl, trivial, ?_⟩
      clear hT
      rw [mix_wrap] at hB
      replace hB := hB.to (cs' := digC (Bl.mix D2.h (D2.rest.take 64) (D2.n + 64) false) (some ⟨g2, o2, none⟩) D2.rest.length c2 (D2.n + 64)) rfl
      have hh2 := mix_len D2.h (D2.rest.take 64) (D2.n + 64) false
      refine HS_nil ?_
      clear hops24_
      refine then_n (hK23_ _ _ ?_)
      clear hK23_ K23_
      refine W_keepB [0, 16, 17, 18] fun B25 hB25_ => ?_
      simp only [pickE, lookE, putE, zipE, args0, Nat.reduceAdd, Nat.zero_add, List.cons_append, List.nil_append, Nat.reduceBEq, cond_true, cond_false] at hB25_
      subst hB25_
      refine W_region [some 68, some 69, some 70, some 71, some 72, some 73, some 74, some 75, none] rfl ?_
      refine Ops_step (R_move rfl) rfl rfl ?_
      refine Ops_step (R_move rfl) rfl rfl ?_
      refine Ops_step (R_nilCheck rfl) rfl rfl ?_
      refine Ops_step (R_fieldAddr TWe.fo39_1 rfl) rfl rfl ?_
      refine Ops_step (R_loadB TWe.ag22 rfl hB (digC_get8 hh2 _ _ _ _)) rfl rfl ?_
      refine Ops_step (R_sliceFrom (l := 64) Tryd.underlying22 TWe.sz5 rfl ⟨_, _, rfl, rfl⟩ rfl rfl (by decide) (by omega) (by omega) (by omega) (by omega)) rfl rfl ?_
      refine Ops_step (R_nilCheck rfl) rfl rfl ?_
      refine Ops_step (R_fieldAddr TWe.fo39_1 rfl) rfl rfl ?_
      have hT : ∃ cs, Blk _ d 39 cs := ⟨_, hB⟩
      refine Ops_to0 (R_store TWe.sz22 rfl rfl hB (by rw [digC_len hh2]; decide) rfl) rfl ?_
      clear hB
      rintro _ w26_ ⟨hB, hF26_⟩
      replace hF := hF.then hF26_ (by simp)
      replace hR := hR.fr hF26_ (one39 hT)
      clear hF26_
      clear hT
      replace hB := hB.to (digC_rest hh2 _ _ _ _ _ _ _)
      refine Ops_nil ?_
      refine block_n ?_
      exact ⟨(D2.rest.drop 64).length, _, by simp; omega, rfl, ⟨⟨Bl.mix D2.h (D2.rest.take 64) (D2.n + 64) false, D2.rest.drop 64, D2.n + 64⟩, rfl, rfl, ⟨_, _, hB.to (by rw [List.length_drop]), hh2, hd, rest_cut hR 64, by rw [List.length_drop]; omega⟩, by rw [← eat_step (by omega), hE], hF⟩, ⟨rfl, rfl, rfl, rfl, trivial⟩⟩
    · have hDn := DigL.dig (D := D2) ⟨A2, c2, hB, hh, hd, hR, hc⟩ (by omega)
      have he2 : D2 = (L.take (i + 1)).foldl Bl.add D := by rw [take_fold hi1, ← ebs, ← eD1, ← hE, eat_done (by omega)]
      rw [he2] at hDn
      refine W_exit ?_
      refine then_exit ?_
      clear hK17_ K17_
      refine then_exit ?_
      refine block_exit ?_
      refine block_n ?_
      refine then_n (hK10_ _ _ ?_)
      clear hK10_ K10_
      refine W_keepB [0, 16, 17, 18] fun B27 hB27_ => ?_
      simp only [pickE, lookE, putE, zipE, args0, Nat.reduceAdd, Nat.zero_add, List.cons_append, List.nil_append, Nat.reduceBEq, cond_true, cond_false] at hB27_
      subst hB27_
      refine W_region [some 76, some 18] rfl ?_
      refine Ops_step (R_add rfl rfl (wIc (n := i + 1) (by omega) (by omega))) rfl rfl ?_
      refine Ops_step (R_move rfl) rfl rfl ?_
      refine Ops_nil ?_
      exact ⟨L.length - (i + 1), _, by omega, rfl, ⟨i + 1, by omega, rfl, rfl, hDn, hF⟩, ⟨rfl, rfl, rfl, trivial⟩⟩
  · have hi2 : i = L.length := by omega
    subst hi2
    rw [List.take_length] at hDg
    refine W_exit ?_
    refine then_exit ?_
    clear hK9_ K9_
    refine then_exit ?_
    refine block_exit ?_
    refine then_n (hK5_ _ _ ?_)
    clear hK5_ K5_
    refine W_seq_k fun K28_ hK28_ => ?_
    refine W_region [some 4] rfl ?_
    refine Ops_step (R_assign rfl) rfl rfl ?_
    refine Ops_nil ?_
    refine then_n (hK28_ _ _ ?_)
    clear hK28_ K28_
    refine W_ret ?_
    refine ⟨_, ⟨_, _, rfl, rfl, rfl⟩, ?_⟩
    exact ⟨rfl, hDg, hF⟩

end Go.Proofs.YtghfohhekhedaaaDoor
