/- What is shown of the program on the way to the law. -/
import Derived.Test.YtbjmngacjdcddaaDoorZg2
import Derived.Test.YtbjmngacjdcddaaDoorZg7
import Derived.Test.YtbjmngacjdcddaaDoorProg
set_option linter.unusedVariables false
set_option linter.unusedSimpArgs false
set_option maxHeartbeats 4000000
namespace Go.Lx
open Go Go.Sx
end Go.Lx
namespace Go.Proofs.YtbjmngacjdcddaaDoor
open Go Go.Sx Go.Lx
namespace TFtC
theorem hm : Tryd.prog.follows .mixedOrders = true := by kernel_rfl
theorem ag22 : aggB Tryd.prog 22 = some false := by kernel_rfl
theorem ag3 : aggB Tryd.prog 3 = some false := by kernel_rfl
theorem ag30 : aggB Tryd.prog 30 = some false := by kernel_rfl
theorem ag5 : aggB Tryd.prog 5 = some false := by kernel_rfl
theorem bd87 : bodied Tryd.prog 87 = true := by kernel_rfl
theorem el30 : Elem Tryd.prog 30 5 1 1 := Elem.of (by kernel_rfl)
theorem sz22 : sz Tryd.prog 22 = some 1 := by kernel_rfl
theorem sz3 : sz Tryd.prog 3 = some 1 := by kernel_rfl
theorem sz5 : sz Tryd.prog 5 = some 1 := by kernel_rfl
end TFtC
open TFtC
theorem sealskinref02_Runes_ok {G : Gh} {w : World} (hS : St G w) (hg : GL G) {A0 : Option Addr} {c0 : Nat} {x0 : List UInt8} (hc0 : x0.length ≤ c0) (hs0 : Sl G A0 x0) {Q : Int → Prop} (h : sealskinref02_Runes x0 Q) : Calls Tryd.prog 87 #[.slice A0 x0.length c0] w fun e w2 => ∃ (r0 : Int) (L H : Gh), e = .returned (vi r0) ∧ Inv [] G w L H w2 ∧ Q r0 := by
 unfold sealskinref02_Runes at h
 have hI := Inv.start (M := []) hS
 refine calls_W 80 Tryd.func87 rfl Tryd.ntmps87 rfl [.tmp 2] rfl ?_
 refine W_seq_k fun K1 k1 => ?_
 refine W_region [2] rfl (Ops_step (R_assign rfl) rfl rfl ?_)
 refine Ops_nil ?_
 refine then_n (k1 _ _ ?_)
 clear k1 K1
 refine W_seq_k fun K2 k2 => ?_
 refine W_region [3] rfl (Ops_step (R_assign rfl) rfl rfl ?_)
 refine Ops_nil ?_
 refine then_n (k2 _ _ ?_)
 clear k2 K2
 refine ex_ h fun J3_ hr3_ h => ?_
 refine W_seq_join [] [3] (fun vals_ w2 => ∃ (x3_3 : Int) (L H : Gh), vals_ = [vi x3_3] ∧ J3_ x3_3 ∧ Inv [] G w L H w2 ∧ Le Gh.no L ∧ Le G H ∧ True) (fun B_ b_ => ?_) (fun B_ b_ => ?_)
 ·
  simp only [e_, Nat.reduceAdd, Nat.reduceBEq] at b_
  subst b_
  clear hr3_
  have hll3_ := Le.refl Gh.no
  have hhh3_ := Le.refl G
  refine W_block ?_
  refine Exists.elim h fun I4_ h => Exists.elim h fun n4_ h => ?_
  have h0_ := h.1
  have hs4_ := h.2
  clear h
  refine W_loopB [] [0, 3] (fun m vals_ w2 => ∃ (x0_4 : List UInt8) (A0_4 : Option Addr) (c0_4 : Nat) (x3_4 : Int) (L H : Gh), vals_ = [.slice A0_4 x0_4.length c0_4, vi x3_4] ∧ I4_ m x0_4 x3_4 ∧ Inv [] G w L H w2 ∧ Le Gh.no L ∧ Le G H ∧ x0_4.length ≤ c0_4 ∧ Sl H A0_4 x0_4 ∧ True) n4_ _ rfl ⟨x0, A0, c0, 0, _, _, rfl, h0_, hI, Le.refl _, Le.refl _, hc0, hs0, trivial⟩ fun B_ b_ => ?_
  clear h0_
  simp only [e_, Nat.reduceAdd, Nat.reduceBEq] at b_
  subst b_
  rintro m4_ _ w4_ ⟨x0_4, A0_4, c0_4, x3_4, L4_, H4_, rfl, hJ4_, hI4_, hll4_, hhh4_, hc0_4, hs0_4, -⟩
  replace hI := hI4_
  clear hI4_
  have h := hs4_ m4_ x0_4 x3_4 hJ4_
  clear hs4_ hJ4_
  replace hll3_ := hll3_.trans hll4_
  replace hhh3_ := hhh3_.trans hhh4_
  refine W_seq_k fun K5 k5 => ?_
  refine W_seq_k fun K6 k6 => ?_
  refine W_region [9, 10, 11] rfl (Ops_step (R_move rfl) rfl rfl (Ops_step (R_len Tryd.underlying30 rfl rfl) rfl rfl (Ops_step (R_gtr rfl rfl) rfl rfl ?_)))
  refine Ops_nil ?_
  refine then_n (k6 _ _ ?_)
  clear k6 K6
  refine W_if rfl (fun hc7_ => ?_) (fun hc7_ => ?_)
  ·
   replace h := h.1 hc7_
   refine W_skip ?_
   refine then_n (k5 _ _ ?_)
   clear k5 K5
   refine W_block ?_
   refine W_seq_k fun K8 k8 => ?_
   refine W_region [4] rfl (Ops_step (R_assign rfl) rfl rfl ?_)
   refine Ops_nil ?_
   refine then_n (k8 _ _ ?_)
   clear k8 K8
   refine W_seq_k fun K9 k9 => ?_
   refine W_region [5, 6] rfl (Ops_step (R_assign rfl) rfl rfl (Ops_step (R_assign rfl) rfl rfl ?_))
   refine Ops_nil ?_
   refine then_n (k9 _ _ ?_)
   clear k9 K9
   refine ex_ h fun J10_ hr10_ h => ?_
   refine W_seq_join [0, 3] [4, 5, 6] (fun vals_ w2 => ∃ (x4_10 : Int) (x5_10 : UInt8) (x6_10 : UInt8) (L H : Gh), vals_ = [vi x4_10, vb x5_10, vb x6_10] ∧ J10_ x4_10 x5_10 x6_10 ∧ Inv [] G w L H w2 ∧ Le L4_ L ∧ Le H4_ H ∧ True) (fun B_ b_ => ?_) (fun B_ b_ => ?_)
   ·
    simp only [e_, Nat.reduceAdd, Nat.reduceBEq] at b_
    subst b_
    clear hr10_
    have hll10_ := Le.refl L4_
    have hhh10_ := Le.refl H4_
    refine W_seq_k fun K11 k11 => ?_
    refine W_region [12, 13, 14, 7] rfl (Ops_step (R_move rfl) rfl rfl ?_)
    refine ex_ h fun x12_ hx12_ h => ?_
    have ha12_ := (hs0_4.atS hx12_).1
    have hg12_ := (hs0_4.atS hx12_).2
    refine Ops_step (R_indexSl Tryd.underlying30 sz5 rfl rfl hx12_.1 hx12_.lt ha12_) rfl rfl (Ops_step (R_load ag5 rfl (hI.st _ _ hg12_)) rfl rfl (Ops_step (R_assign rfl) rfl rfl ?_))
    refine Ops_nil ?_
    refine then_n (k11 _ _ ?_)
    clear k11 K11
    refine W_keepB [0, 3, 4, 5, 6, 7] fun B_ b_ => ?_
    simp only [e_, Nat.reduceAdd, Nat.reduceBEq] at b_
    subst b_
    refine W_block ?_
    refine W_seq_k fun K14 k14 => ?_
    refine W_region [16, 17, 15] rfl (Ops_step (R_move rfl) rfl rfl (Ops_step (R_lss rfl rfl) rfl rfl (Ops_step (R_assign rfl) rfl rfl ?_)))
    refine Ops_nil ?_
    refine then_n (k14 _ _ ?_)
    clear k14 K14
    refine W_if rfl (fun hc15_ => ?_) (fun hc15_ => ?_)
    ·
     replace h := h.1 hc15_
     refine W_region [4] rfl (Ops_step (R_assign rfl) rfl rfl ?_)
     refine Ops_nil ?_
     refine block_n ?_
     refine then_n ?_
     exact ⟨_, rfl, ⟨1, (128 : UInt8), (191 : UInt8), _, _, rfl, h, hI, hll10_, hhh10_, trivial⟩, ⟨rfl, rfl, trivial⟩⟩
    ·
     replace h := h.2 hc15_
     refine ex_ h fun J16_ hr16_ h => ?_
     refine W_seq_join [0, 3, 4, 5, 6, 7] [18] (fun vals_ w2 => ∃ (x18_16 : Bool) (L H : Gh), vals_ = [.bool x18_16] ∧ J16_ x18_16 ∧ Inv [] G w L H w2 ∧ Le L4_ L ∧ Le H4_ H ∧ True) (fun B_ b_ => ?_) (fun B_ b_ => ?_)
     ·
      simp only [e_, Nat.reduceAdd, Nat.reduceBEq] at b_
      subst b_
      clear hr16_
      have hll16_ := Le.refl L4_
      have hhh16_ := Le.refl H4_
      refine W_region [19, 20, 21, 22, 23, 24, 18] rfl (Ops_step (R_move rfl) rfl rfl (Ops_step (R_geq rfl rfl) rfl rfl (Ops_step (R_move rfl) rfl rfl ?_)))
      refine Ops_split 21 rfl (fun hg17_ => ?_) (fun hg17_ => ?_)
      ·
       replace h := h.1 hg17_
       refine Ops_step (R_move rfl) rfl rfl (Ops_step (R_leq rfl rfl) rfl rfl (Ops_step (R_pick_true rfl rfl) rfl rfl (Ops_step (R_assign rfl) rfl rfl ?_)))
       refine Ops_nil ?_
       refine then_n ?_
       exact ⟨_, rfl, ⟨(decide ((x12_.toNat : Int) ≤ 223)), _, _, rfl, h, hI, hll16_, hhh16_, trivial⟩, ⟨rfl, rfl, rfl, rfl, rfl, rfl, trivial⟩⟩
      ·
       replace h := h.2 hg17_
       refine Ops_pass rfl rfl (Ops_pass rfl rfl (Ops_step (R_pick_false rfl rfl) rfl rfl (Ops_step (R_assign rfl) rfl rfl ?_)))
       refine Ops_nil ?_
       refine then_n ?_
       exact ⟨_, rfl, ⟨false, _, _, rfl, h, hI, hll16_, hhh16_, trivial⟩, ⟨rfl, rfl, rfl, rfl, rfl, rfl, trivial⟩⟩
     ·
      simp only [e_, Nat.reduceAdd, Nat.reduceBEq] at b_
      subst b_
      clear h
      rintro _ w16_ ⟨x18_16, L16_, H16_, rfl, hJ16_, hI16_, hll16_, hhh16_, -⟩
      replace hI := hI16_
      clear hI16_
      have h := hr16_ x18_16 hJ16_
      clear hr16_ hJ16_
      replace hll3_ := hll3_.trans hll16_
      replace hhh3_ := hhh3_.trans hhh16_
      replace hs0_4 := hs0_4.up hhh16_
      replace hll4_ := hll4_.trans hll16_
      replace hhh4_ := hhh4_.trans hhh16_
      replace hll10_ := hll10_.trans hll16_
      replace hhh10_ := hhh10_.trans hhh16_
      refine W_cond rfl (fun hc18_ => ?_) (fun hc18_ => ?_)
      ·
       replace h := h.1 hc18_
       refine W_region [4] rfl (Ops_step (R_assign rfl) rfl rfl ?_)
       refine Ops_nil ?_
       refine block_n ?_
       refine then_n ?_
       exact ⟨_, rfl, ⟨2, (128 : UInt8), (191 : UInt8), _, _, rfl, h, hI, hll10_, hhh10_, trivial⟩, ⟨rfl, rfl, trivial⟩⟩
      ·
       replace h := h.2 hc18_
       refine ex_ h fun J19_ hr19_ h => ?_
       refine W_seq_join [0, 3, 4, 5, 6, 7] [25] (fun vals_ w2 => ∃ (x25_19 : Bool) (L H : Gh), vals_ = [.bool x25_19] ∧ J19_ x25_19 ∧ Inv [] G w L H w2 ∧ Le L16_ L ∧ Le H16_ H ∧ True) (fun B_ b_ => ?_) (fun B_ b_ => ?_)
       ·
        simp only [e_, Nat.reduceAdd, Nat.reduceBEq] at b_
        subst b_
        clear hr19_
        have hll19_ := Le.refl L16_
        have hhh19_ := Le.refl H16_
        refine W_region [26, 27, 28, 29, 30, 31, 25] rfl (Ops_step (R_move rfl) rfl rfl (Ops_step (R_geq rfl rfl) rfl rfl (Ops_step (R_move rfl) rfl rfl ?_)))
        refine Ops_split 28 rfl (fun hg20_ => ?_) (fun hg20_ => ?_)
        ·
         replace h := h.1 hg20_
         refine Ops_step (R_move rfl) rfl rfl (Ops_step (R_leq rfl rfl) rfl rfl (Ops_step (R_pick_true rfl rfl) rfl rfl (Ops_step (R_assign rfl) rfl rfl ?_)))
         refine Ops_nil ?_
         refine then_n ?_
         exact ⟨_, rfl, ⟨(decide ((x12_.toNat : Int) ≤ 239)), _, _, rfl, h, hI, hll19_, hhh19_, trivial⟩, ⟨rfl, rfl, rfl, rfl, rfl, rfl, trivial⟩⟩
        ·
         replace h := h.2 hg20_
         refine Ops_pass rfl rfl (Ops_pass rfl rfl (Ops_step (R_pick_false rfl rfl) rfl rfl (Ops_step (R_assign rfl) rfl rfl ?_)))
         refine Ops_nil ?_
         refine then_n ?_
         exact ⟨_, rfl, ⟨false, _, _, rfl, h, hI, hll19_, hhh19_, trivial⟩, ⟨rfl, rfl, rfl, rfl, rfl, rfl, trivial⟩⟩
       ·
        simp only [e_, Nat.reduceAdd, Nat.reduceBEq] at b_
        subst b_
        clear h
        rintro _ w19_ ⟨x25_19, L19_, H19_, rfl, hJ19_, hI19_, hll19_, hhh19_, -⟩
        replace hI := hI19_
        clear hI19_
        have h := hr19_ x25_19 hJ19_
        clear hr19_ hJ19_
        replace hll3_ := hll3_.trans hll19_
        replace hhh3_ := hhh3_.trans hhh19_
        replace hs0_4 := hs0_4.up hhh19_
        replace hll4_ := hll4_.trans hll19_
        replace hhh4_ := hhh4_.trans hhh19_
        replace hll10_ := hll10_.trans hll19_
        replace hhh10_ := hhh10_.trans hhh19_
        refine W_cond rfl (fun hc21_ => ?_) (fun hc21_ => ?_)
        ·
         replace h := h.1 hc21_
         refine W_seq_k fun K22 k22 => ?_
         refine W_region [4] rfl (Ops_step (R_assign rfl) rfl rfl ?_)
         refine Ops_nil ?_
         refine then_n (k22 _ _ ?_)
         clear k22 K22
         refine ex_ h fun J23_ hr23_ h => ?_
         refine W_seq_join [0, 3, 4, 6, 7] [5] (fun vals_ w2 => ∃ (x5_23 : UInt8) (L H : Gh), vals_ = [vb x5_23] ∧ J23_ x5_23 ∧ Inv [] G w L H w2 ∧ Le L19_ L ∧ Le H19_ H ∧ True) (fun B_ b_ => ?_) (fun B_ b_ => ?_)
         ·
          simp only [e_, Nat.reduceAdd, Nat.reduceBEq] at b_
          subst b_
          clear hr23_
          have hll23_ := Le.refl L19_
          have hhh23_ := Le.refl H19_
          refine W_seq_k fun K24 k24 => ?_
          refine W_region [32, 33] rfl (Ops_step (R_move rfl) rfl rfl (Ops_step (R_eql rfl rfl) rfl rfl ?_))
          refine Ops_nil ?_
          refine then_n (k24 _ _ ?_)
          clear k24 K24
          refine W_if rfl (fun hc25_ => ?_) (fun hc25_ => ?_)
          ·
           replace h := h.1 hc25_
           refine W_region [5] rfl (Ops_step (R_assign rfl) rfl rfl ?_)
           refine Ops_nil ?_
           refine then_n ?_
           exact ⟨_, rfl, ⟨(160 : UInt8), _, _, rfl, h, hI, hll23_, hhh23_, trivial⟩, ⟨rfl, rfl, rfl, rfl, rfl, trivial⟩⟩
          ·
           replace h := h.2 hc25_
           refine W_skip ?_
           refine then_n ?_
           exact ⟨_, rfl, ⟨(128 : UInt8), _, _, rfl, h, hI, hll23_, hhh23_, trivial⟩, ⟨rfl, rfl, rfl, rfl, rfl, trivial⟩⟩
         ·
          simp only [e_, Nat.reduceAdd, Nat.reduceBEq] at b_
          subst b_
          clear h
          rintro _ w23_ ⟨x5_23, L23_, H23_, rfl, hJ23_, hI23_, hll23_, hhh23_, -⟩
          replace hI := hI23_
          clear hI23_
          have h := hr23_ x5_23 hJ23_
          clear hr23_ hJ23_
          replace hll3_ := hll3_.trans hll23_
          replace hhh3_ := hhh3_.trans hhh23_
          replace hs0_4 := hs0_4.up hhh23_
          replace hll4_ := hll4_.trans hll23_
          replace hhh4_ := hhh4_.trans hhh23_
          replace hll10_ := hll10_.trans hll23_
          replace hhh10_ := hhh10_.trans hhh23_
          refine W_seq_k fun K26 k26 => ?_
          refine W_region [34, 35] rfl (Ops_step (R_move rfl) rfl rfl (Ops_step (R_eql rfl rfl) rfl rfl ?_))
          refine Ops_nil ?_
          refine then_n (k26 _ _ ?_)
          clear k26 K26
          refine W_if rfl (fun hc27_ => ?_) (fun hc27_ => ?_)
          ·
           replace h := h.1 hc27_
           refine W_region [6] rfl (Ops_step (R_assign rfl) rfl rfl ?_)
           refine Ops_nil ?_
           refine block_n ?_
           refine then_n ?_
           exact ⟨_, rfl, ⟨3, x5_23, (159 : UInt8), _, _, rfl, h, hI, hll10_, hhh10_, trivial⟩, ⟨rfl, rfl, trivial⟩⟩
          ·
           replace h := h.2 hc27_
           refine W_skip ?_
           refine block_n ?_
           refine then_n ?_
           exact ⟨_, rfl, ⟨3, x5_23, (191 : UInt8), _, _, rfl, h, hI, hll10_, hhh10_, trivial⟩, ⟨rfl, rfl, trivial⟩⟩
        ·
         replace h := h.2 hc21_
         refine ex_ h fun J28_ hr28_ h => ?_
         refine W_seq_join [0, 3, 4, 5, 6, 7] [36] (fun vals_ w2 => ∃ (x36_28 : Bool) (L H : Gh), vals_ = [.bool x36_28] ∧ J28_ x36_28 ∧ Inv [] G w L H w2 ∧ Le L19_ L ∧ Le H19_ H ∧ True) (fun B_ b_ => ?_) (fun B_ b_ => ?_)
         ·
          simp only [e_, Nat.reduceAdd, Nat.reduceBEq] at b_
          subst b_
          clear hr28_
          have hll28_ := Le.refl L19_
          have hhh28_ := Le.refl H19_
          refine W_region [37, 38, 39, 40, 41, 42, 36] rfl (Ops_step (R_move rfl) rfl rfl (Ops_step (R_geq rfl rfl) rfl rfl (Ops_step (R_move rfl) rfl rfl ?_)))
          refine Ops_split 39 rfl (fun hg29_ => ?_) (fun hg29_ => ?_)
          ·
           replace h := h.1 hg29_
           refine Ops_step (R_move rfl) rfl rfl (Ops_step (R_leq rfl rfl) rfl rfl (Ops_step (R_pick_true rfl rfl) rfl rfl (Ops_step (R_assign rfl) rfl rfl ?_)))
           refine Ops_nil ?_
           refine then_n ?_
           exact ⟨_, rfl, ⟨(decide ((x12_.toNat : Int) ≤ 244)), _, _, rfl, h, hI, hll28_, hhh28_, trivial⟩, ⟨rfl, rfl, rfl, rfl, rfl, rfl, trivial⟩⟩
          ·
           replace h := h.2 hg29_
           refine Ops_pass rfl rfl (Ops_pass rfl rfl (Ops_step (R_pick_false rfl rfl) rfl rfl (Ops_step (R_assign rfl) rfl rfl ?_)))
           refine Ops_nil ?_
           refine then_n ?_
           exact ⟨_, rfl, ⟨false, _, _, rfl, h, hI, hll28_, hhh28_, trivial⟩, ⟨rfl, rfl, rfl, rfl, rfl, rfl, trivial⟩⟩
         ·
          simp only [e_, Nat.reduceAdd, Nat.reduceBEq] at b_
          subst b_
          clear h
          rintro _ w28_ ⟨x36_28, L28_, H28_, rfl, hJ28_, hI28_, hll28_, hhh28_, -⟩
          replace hI := hI28_
          clear hI28_
          have h := hr28_ x36_28 hJ28_
          clear hr28_ hJ28_
          replace hll3_ := hll3_.trans hll28_
          replace hhh3_ := hhh3_.trans hhh28_
          replace hs0_4 := hs0_4.up hhh28_
          replace hll4_ := hll4_.trans hll28_
          replace hhh4_ := hhh4_.trans hhh28_
          replace hll10_ := hll10_.trans hll28_
          replace hhh10_ := hhh10_.trans hhh28_
          refine W_cond rfl (fun hc30_ => ?_) (fun hc30_ => ?_)
          ·
           replace h := h.1 hc30_
           refine W_seq_k fun K31 k31 => ?_
           refine W_region [4] rfl (Ops_step (R_assign rfl) rfl rfl ?_)
           refine Ops_nil ?_
           refine then_n (k31 _ _ ?_)
           clear k31 K31
           refine ex_ h fun J32_ hr32_ h => ?_
           refine W_seq_join [0, 3, 4, 6, 7] [5] (fun vals_ w2 => ∃ (x5_32 : UInt8) (L H : Gh), vals_ = [vb x5_32] ∧ J32_ x5_32 ∧ Inv [] G w L H w2 ∧ Le L28_ L ∧ Le H28_ H ∧ True) (fun B_ b_ => ?_) (fun B_ b_ => ?_)
           ·
            simp only [e_, Nat.reduceAdd, Nat.reduceBEq] at b_
            subst b_
            clear hr32_
            have hll32_ := Le.refl L28_
            have hhh32_ := Le.refl H28_
            refine W_seq_k fun K33 k33 => ?_
            refine W_region [43, 44] rfl (Ops_step (R_move rfl) rfl rfl (Ops_step (R_eql rfl rfl) rfl rfl ?_))
            refine Ops_nil ?_
            refine then_n (k33 _ _ ?_)
            clear k33 K33
            refine W_if rfl (fun hc34_ => ?_) (fun hc34_ => ?_)
            ·
             replace h := h.1 hc34_
             refine W_region [5] rfl (Ops_step (R_assign rfl) rfl rfl ?_)
             refine Ops_nil ?_
             refine then_n ?_
             exact ⟨_, rfl, ⟨(144 : UInt8), _, _, rfl, h, hI, hll32_, hhh32_, trivial⟩, ⟨rfl, rfl, rfl, rfl, rfl, trivial⟩⟩
            ·
             replace h := h.2 hc34_
             refine W_skip ?_
             refine then_n ?_
             exact ⟨_, rfl, ⟨(128 : UInt8), _, _, rfl, h, hI, hll32_, hhh32_, trivial⟩, ⟨rfl, rfl, rfl, rfl, rfl, trivial⟩⟩
           ·
            simp only [e_, Nat.reduceAdd, Nat.reduceBEq] at b_
            subst b_
            clear h
            rintro _ w32_ ⟨x5_32, L32_, H32_, rfl, hJ32_, hI32_, hll32_, hhh32_, -⟩
            replace hI := hI32_
            clear hI32_
            have h := hr32_ x5_32 hJ32_
            clear hr32_ hJ32_
            replace hll3_ := hll3_.trans hll32_
            replace hhh3_ := hhh3_.trans hhh32_
            replace hs0_4 := hs0_4.up hhh32_
            replace hll4_ := hll4_.trans hll32_
            replace hhh4_ := hhh4_.trans hhh32_
            replace hll10_ := hll10_.trans hll32_
            replace hhh10_ := hhh10_.trans hhh32_
            refine W_seq_k fun K35 k35 => ?_
            refine W_region [45, 46] rfl (Ops_step (R_move rfl) rfl rfl (Ops_step (R_eql rfl rfl) rfl rfl ?_))
            refine Ops_nil ?_
            refine then_n (k35 _ _ ?_)
            clear k35 K35
            refine W_if rfl (fun hc36_ => ?_) (fun hc36_ => ?_)
            ·
             replace h := h.1 hc36_
             refine W_region [6] rfl (Ops_step (R_assign rfl) rfl rfl ?_)
             refine Ops_nil ?_
             refine block_n ?_
             refine then_n ?_
             exact ⟨_, rfl, ⟨4, x5_32, (143 : UInt8), _, _, rfl, h, hI, hll10_, hhh10_, trivial⟩, ⟨rfl, rfl, trivial⟩⟩
            ·
             replace h := h.2 hc36_
             refine W_skip ?_
             refine block_n ?_
             refine then_n ?_
             exact ⟨_, rfl, ⟨4, x5_32, (191 : UInt8), _, _, rfl, h, hI, hll10_, hhh10_, trivial⟩, ⟨rfl, rfl, trivial⟩⟩
          ·
           replace h := h.2 hc30_
           refine W_skip ?_
           refine block_n ?_
           refine then_n ?_
           exact ⟨_, rfl, ⟨0, (128 : UInt8), (191 : UInt8), _, _, rfl, h, hI, hll10_, hhh10_, trivial⟩, ⟨rfl, rfl, trivial⟩⟩
   ·
    simp only [e_, Nat.reduceAdd, Nat.reduceBEq] at b_
    subst b_
    clear h
    rintro _ w10_ ⟨x4_10, x5_10, x6_10, L10_, H10_, rfl, hJ10_, hI10_, hll10_, hhh10_, -⟩
    replace hI := hI10_
    clear hI10_
    have h := hr10_ x4_10 x5_10 x6_10 hJ10_
    clear hr10_ hJ10_
    replace hll3_ := hll3_.trans hll10_
    replace hhh3_ := hhh3_.trans hhh10_
    replace hs0_4 := hs0_4.up hhh10_
    replace hll4_ := hll4_.trans hll10_
    replace hhh4_ := hhh4_.trans hhh10_
    refine W_seq_k fun K37 k37 => ?_
    refine ex_ h fun J38_ hr38_ h => ?_
    refine W_seq_join [0, 3, 4, 5, 6] [54] (fun vals_ w2 => ∃ (x54_38 : Bool) (L H : Gh), vals_ = [.bool x54_38] ∧ J38_ x54_38 ∧ Inv [] G w L H w2 ∧ Le L10_ L ∧ Le H10_ H ∧ True) (fun B_ b_ => ?_) (fun B_ b_ => ?_)
    ·
     simp only [e_, Nat.reduceAdd, Nat.reduceBEq] at b_
     subst b_
     clear hr38_
     have hll38_ := Le.refl L10_
     have hhh38_ := Le.refl H10_
     refine W_region [47, 48, 49, 50, 51, 52, 53, 54] rfl (Ops_step (R_move rfl) rfl rfl (Ops_step (R_eql rfl rfl) rfl rfl (Ops_step (R_move rfl) rfl rfl ?_)))
     refine Ops_split 49 rfl (fun hg39_ => ?_) (fun hg39_ => ?_)
     ·
      replace h := h.1 hg39_
      refine Ops_pass rfl rfl (Ops_pass rfl rfl (Ops_pass rfl rfl (Ops_pass rfl rfl (Ops_step (R_pick_true rfl rfl) rfl rfl ?_))))
      refine Ops_nil ?_
      refine then_n ?_
      exact ⟨_, rfl, ⟨true, _, _, rfl, h, hI, hll38_, hhh38_, trivial⟩, ⟨rfl, rfl, rfl, rfl, rfl, trivial⟩⟩
     ·
      replace h := h.2 hg39_
      refine Ops_step (R_move rfl) rfl rfl (Ops_step (R_len Tryd.underlying30 rfl rfl) rfl rfl (Ops_step (R_move rfl) rfl rfl (Ops_step (R_lss rfl rfl) rfl rfl (Ops_step (R_pick_false rfl rfl) rfl rfl ?_))))
      refine Ops_nil ?_
      refine then_n ?_
      exact ⟨_, rfl, ⟨(decide ((x0_4.length : Int) < x4_10)), _, _, rfl, h, hI, hll38_, hhh38_, trivial⟩, ⟨rfl, rfl, rfl, rfl, rfl, trivial⟩⟩
    ·
     simp only [e_, Nat.reduceAdd, Nat.reduceBEq] at b_
     subst b_
     clear h
     rintro _ w38_ ⟨x54_38, L38_, H38_, rfl, hJ38_, hI38_, hll38_, hhh38_, -⟩
     replace hI := hI38_
     clear hI38_
     have h := hr38_ x54_38 hJ38_
     clear hr38_ hJ38_
     replace hll3_ := hll3_.trans hll38_
     replace hhh3_ := hhh3_.trans hhh38_
     replace hs0_4 := hs0_4.up hhh38_
     replace hll4_ := hll4_.trans hll38_
     replace hhh4_ := hhh4_.trans hhh38_
     refine W_cond rfl (fun hc40_ => ?_) (fun hc40_ => ?_)
     ·
      replace h := h.1 hc40_
      refine W_seq_k fun K41 k41 => ?_
      refine W_region [2] rfl (Ops_step (R_assign rfl) rfl rfl ?_)
      refine Ops_nil ?_
      refine then_n (k41 _ _ ?_)
      clear k41 K41
      refine W_keepB [2] fun B_ b_ => ?_
      simp only [e_, Nat.reduceAdd, Nat.reduceBEq] at b_
      subst b_
      refine W_ret ?_
      refine then_ret ?_
      clear k37 K37
      refine block_ret ?_
      refine then_ret ?_
      refine block_ret ?_
      refine then_ret ?_
      refine ⟨_, ⟨_, _, rfl, rfl, rfl⟩, ?_⟩
      exact ⟨(-1), _, _, rfl, hI, h⟩
     ·
      replace h := h.2 hc40_
      refine W_skip ?_
      refine then_n (k37 _ _ ?_)
      clear k37 K37
      refine ex_ h fun J43_ hr43_ h => ?_
      refine W_seq_join [0, 3, 4] [] (fun vals_ w2 => ∃  (L H : Gh), vals_ = [] ∧ J43_ ∧ Inv [] G w L H w2 ∧ Le L38_ L ∧ Le H38_ H ∧ True) (fun B_ b_ => ?_) (fun B_ b_ => ?_)
      ·
       simp only [e_, Nat.reduceAdd, Nat.reduceBEq] at b_
       subst b_
       clear hr43_
       have hll43_ := Le.refl L38_
       have hhh43_ := Le.refl H38_
       refine W_seq_k fun K44 k44 => ?_
       refine W_region [8] rfl (Ops_step (R_assign rfl) rfl rfl ?_)
       refine Ops_nil ?_
       refine then_n (k44 _ _ ?_)
       clear k44 K44
       refine W_block ?_
       refine Exists.elim h fun I45_ h => Exists.elim h fun n45_ h => ?_
       have h0_ := h.1
       have hs45_ := h.2
       clear h
       refine W_loopB [0, 3, 4] [5, 6, 8] (fun m vals_ w2 => ∃ (x5_45 : UInt8) (x6_45 : UInt8) (x8_45 : Int) (L H : Gh), vals_ = [vb x5_45, vb x6_45, vi x8_45] ∧ I45_ m x5_45 x6_45 x8_45 ∧ Inv [] G w L H w2 ∧ Le L38_ L ∧ Le H38_ H ∧ True) n45_ _ rfl ⟨x5_10, x6_10, 1, _, _, rfl, h0_, hI, Le.refl _, Le.refl _, trivial⟩ fun B_ b_ => ?_
       clear h0_
       simp only [e_, Nat.reduceAdd, Nat.reduceBEq] at b_
       subst b_
       rintro m45_ _ w45_ ⟨x5_45, x6_45, x8_45, L45_, H45_, rfl, hJ45_, hI45_, hll45_, hhh45_, -⟩
       replace hI := hI45_
       clear hI45_
       have h := hs45_ m45_ x5_45 x6_45 x8_45 hJ45_
       clear hs45_ hJ45_
       replace hll3_ := hll3_.trans hll45_
       replace hhh3_ := hhh3_.trans hhh45_
       replace hs0_4 := hs0_4.up hhh45_
       replace hll4_ := hll4_.trans hll45_
       replace hhh4_ := hhh4_.trans hhh45_
       replace hll43_ := hll43_.trans hll45_
       replace hhh43_ := hhh43_.trans hhh45_
       refine W_seq_k fun K46 k46 => ?_
       refine W_seq_k fun K47 k47 => ?_
       refine W_region [55, 56, 57] rfl (Ops_step (R_move rfl) rfl rfl (Ops_step (R_move rfl) rfl rfl (Ops_step (R_lss rfl rfl) rfl rfl ?_)))
       refine Ops_nil ?_
       refine then_n (k47 _ _ ?_)
       clear k47 K47
       refine W_if rfl (fun hc48_ => ?_) (fun hc48_ => ?_)
       ·
        replace h := h.1 hc48_
        refine W_skip ?_
        refine then_n (k46 _ _ ?_)
        clear k46 K46
        refine W_seq_k fun K49 k49 => ?_
        refine W_block ?_
        refine W_seq_k fun K50 k50 => ?_
        refine ex_ h fun J51_ hr51_ h => ?_
        refine W_seq_join [0, 3, 4, 8] [73] (fun vals_ w2 => ∃ (x73_51 : Bool) (L H : Gh), vals_ = [.bool x73_51] ∧ J51_ x73_51 ∧ Inv [] G w L H w2 ∧ Le L45_ L ∧ Le H45_ H ∧ True) (fun B_ b_ => ?_) (fun B_ b_ => ?_)
        ·
         simp only [e_, Nat.reduceAdd, Nat.reduceBEq] at b_
         subst b_
         clear hr51_
         have hll51_ := Le.refl L45_
         have hhh51_ := Le.refl H45_
         refine W_region [60, 61, 62, 63, 64, 65, 66, 67, 68, 69, 70, 71, 72, 73] rfl (Ops_step (R_move rfl) rfl rfl (Ops_step (R_move rfl) rfl rfl ?_))
         refine ex_ h fun x52_ hx52_ h => ?_
         have ha52_ := (hs0_4.atS hx52_).1
         have hg52_ := (hs0_4.atS hx52_).2
         refine Ops_step (R_indexSl Tryd.underlying30 sz5 rfl rfl hx52_.1 hx52_.lt ha52_) rfl rfl (Ops_step (R_load ag5 rfl (hI.st _ _ hg52_)) rfl rfl (Ops_step (R_move rfl) rfl rfl (Ops_step (R_lss rfl rfl) rfl rfl (Ops_step (R_move rfl) rfl rfl ?_))))
         refine Ops_split 66 rfl (fun hg53_ => ?_) (fun hg53_ => ?_)
         ·
          replace h := h.1 hg53_
          refine Ops_pass rfl rfl (Ops_pass rfl rfl (Ops_pass rfl rfl (Ops_pass rfl rfl (Ops_pass rfl rfl ?_))))
          refine Ops_pass rfl rfl (Ops_step (R_pick_true rfl rfl) rfl rfl ?_)
          refine Ops_nil ?_
          refine then_n ?_
          exact ⟨_, rfl, ⟨true, _, _, rfl, h, hI, hll51_, hhh51_, trivial⟩, ⟨rfl, rfl, rfl, rfl, trivial⟩⟩
         ·
          replace h := h.2 hg53_
          refine Ops_step (R_move rfl) rfl rfl (Ops_step (R_move rfl) rfl rfl ?_)
          refine ex_ h fun x54_ hx54_ h => ?_
          have ha54_ := (hs0_4.atS hx54_).1
          have hg54_ := (hs0_4.atS hx54_).2
          refine Ops_step (R_indexSl Tryd.underlying30 sz5 rfl rfl hx54_.1 hx54_.lt ha54_) rfl rfl (Ops_step (R_load ag5 rfl (hI.st _ _ hg54_)) rfl rfl (Ops_step (R_move rfl) rfl rfl (Ops_step (R_gtr rfl rfl) rfl rfl (Ops_step (R_pick_false rfl rfl) rfl rfl ?_))))
          refine Ops_nil ?_
          refine then_n ?_
          exact ⟨_, rfl, ⟨(decide ((x54_.toNat : Int) > (x6_45.toNat : Int))), _, _, rfl, h, hI, hll51_, hhh51_, trivial⟩, ⟨rfl, rfl, rfl, rfl, trivial⟩⟩
        ·
         simp only [e_, Nat.reduceAdd, Nat.reduceBEq] at b_
         subst b_
         clear h
         rintro _ w51_ ⟨x73_51, L51_, H51_, rfl, hJ51_, hI51_, hll51_, hhh51_, -⟩
         replace hI := hI51_
         clear hI51_
         have h := hr51_ x73_51 hJ51_
         clear hr51_ hJ51_
         replace hll3_ := hll3_.trans hll51_
         replace hhh3_ := hhh3_.trans hhh51_
         replace hs0_4 := hs0_4.up hhh51_
         replace hll4_ := hll4_.trans hll51_
         replace hhh4_ := hhh4_.trans hhh51_
         replace hll43_ := hll43_.trans hll51_
         replace hhh43_ := hhh43_.trans hhh51_
         replace hll45_ := hll45_.trans hll51_
         replace hhh45_ := hhh45_.trans hhh51_
         refine W_cond rfl (fun hc55_ => ?_) (fun hc55_ => ?_)
         ·
          replace h := h.1 hc55_
          refine W_seq_k fun K56 k56 => ?_
          refine W_region [2] rfl (Ops_step (R_assign rfl) rfl rfl ?_)
          refine Ops_nil ?_
          refine then_n (k56 _ _ ?_)
          clear k56 K56
          refine W_ret ?_
          refine then_ret ?_
          clear k50 K50
          refine block_ret ?_
          refine then_ret ?_
          clear k49 K49
          refine then_ret ?_
          refine block_ret ?_
          refine then_ret ?_
          refine block_ret ?_
          refine then_ret ?_
          refine block_ret ?_
          refine then_ret ?_
          refine ⟨_, ⟨_, _, rfl, rfl, rfl⟩, ?_⟩
          exact ⟨(-1), _, _, rfl, hI, h⟩
         ·
          replace h := h.2 hc55_
          refine W_skip ?_
          refine then_n (k50 _ _ ?_)
          clear k50 K50
          refine W_seq_k fun K57 k57 => ?_
          refine W_region [5] rfl (Ops_step (R_assign rfl) rfl rfl ?_)
          refine Ops_nil ?_
          refine then_n (k57 _ _ ?_)
          clear k57 K57
          refine W_region [6] rfl (Ops_step (R_assign rfl) rfl rfl ?_)
          refine Ops_nil ?_
          refine block_n ?_
          refine then_n (k49 _ _ ?_)
          clear k49 K49
          refine W_region [58, 59, 8] rfl (Ops_step (R_move rfl) rfl rfl ?_)
          have hk58_ := h.1
          replace h := h.2
          refine Ops_step (R_add rfl rfl (wI hk58_.1 hk58_.2)) rfl rfl (Ops_step (R_assign rfl) rfl rfl ?_)
          refine Ops_nil ?_
          refine then_n ?_
          exact h.elim fun m_ h => ⟨m_, _, h.1, rfl, ⟨(128 : UInt8), (191 : UInt8), (x8_45 + 1), _, _, rfl, h.2, hI, hll45_, hhh45_, trivial⟩, ⟨rfl, rfl, rfl, trivial⟩⟩
       ·
        replace h := h.2 hc48_
        refine W_exit ?_
        refine then_exit ?_
        clear k46 K46
        refine then_exit ?_
        refine block_exit ?_
        refine then_n ?_
        exact ⟨_, rfl, ⟨_, _, rfl, h, hI, hll43_, hhh43_, trivial⟩, ⟨rfl, rfl, rfl, trivial⟩⟩
      ·
       simp only [e_, Nat.reduceAdd, Nat.reduceBEq] at b_
       subst b_
       clear h
       rintro _ w43_ ⟨L43_, H43_, rfl, hJ43_, hI43_, hll43_, hhh43_, -⟩
       replace hI := hI43_
       clear hI43_
       have h := hr43_ hJ43_
       clear hr43_ hJ43_
       replace hll3_ := hll3_.trans hll43_
       replace hhh3_ := hhh3_.trans hhh43_
       replace hs0_4 := hs0_4.up hhh43_
       replace hll4_ := hll4_.trans hll43_
       replace hhh4_ := hhh4_.trans hhh43_
       refine W_seq_k fun K59 k59 => ?_
       refine W_region [74, 75, 76, 0] rfl (Ops_step (R_move rfl) rfl rfl (Ops_step (R_move rfl) rfl rfl ?_))
       have hk61_ := h.1
       replace h := h.2
       have hk62_ := h.1
       replace h := h.2
       refine Exists.elim (cut_ex (n := 1) (l := x4_10) (h := (x0_4.length : Int)) hs0_4 rfl (by decide) hc0_4 hk61_ hk62_ (Int.le_refl _)) fun A60_ h60_ => Exists.elim h60_ fun c60_ h60_ => ?_
       have hr60_ := h60_.1
       have hc60_ := h60_.2.1
       have hs60_ := h60_.2.2
       clear h60_
       refine Ops_step (X_slice (xs := x0_4) Tryd.underlying30 sz5 rfl hr60_ hc0_4 rfl rfl hk61_ hk62_ (Int.le_refl _)) rfl rfl ?_
       clear hr60_
       refine Ops_step (R_assign rfl) rfl rfl ?_
       refine Ops_nil ?_
       refine then_n (k59 _ _ ?_)
       clear k59 K59
       refine W_region [77, 78, 3] rfl (Ops_step (R_move rfl) rfl rfl ?_)
       have hk63_ := h.1
       replace h := h.2
       refine Ops_step (R_add rfl rfl (wI hk63_.1 hk63_.2)) rfl rfl (Ops_step (R_assign rfl) rfl rfl ?_)
       refine Ops_nil ?_
       refine block_n ?_
       refine then_n ?_
       exact h.elim fun m_ h => ⟨m_, _, h.1, rfl, ⟨(cut x0_4 x4_10 (x0_4.length : Int)), A60_, c60_, (x3_4 + 1), _, _, rfl, h.2, hI, hll4_, hhh4_, hc60_, hs60_, trivial⟩, trivial⟩
  ·
   replace h := h.2 hc7_
   refine W_exit ?_
   refine then_exit ?_
   clear k5 K5
   refine then_exit ?_
   refine block_exit ?_
   refine then_n ?_
   exact ⟨_, rfl, ⟨x3_4, _, _, rfl, h, hI, hll3_, hhh3_, trivial⟩, trivial⟩
 ·
  simp only [e_, Nat.reduceAdd, Nat.reduceBEq] at b_
  subst b_
  clear h
  rintro _ w3_ ⟨x3_3, L3_, H3_, rfl, hJ3_, hI3_, hll3_, hhh3_, -⟩
  replace hI := hI3_
  clear hI3_
  have h := hr3_ x3_3 hJ3_
  clear hr3_ hJ3_
  refine W_seq_k fun K64 k64 => ?_
  refine W_region [79, 2] rfl (Ops_step (R_move rfl) rfl rfl (Ops_step (R_assign rfl) rfl rfl ?_))
  refine Ops_nil ?_
  refine then_n (k64 _ _ ?_)
  clear k64 K64
  refine W_ret ?_
  refine ⟨_, ⟨_, _, rfl, rfl, rfl⟩, ?_⟩
  exact ⟨x3_3, _, _, rfl, hI, h⟩

end Go.Proofs.YtbjmngacjdcddaaDoor

