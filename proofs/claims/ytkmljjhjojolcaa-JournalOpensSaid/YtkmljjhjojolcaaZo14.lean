/- What is shown of the program on the way to the law. -/
import Derived.Test.YtkmljjhjojolcaaZo3
import Derived.Test.YtkmljjhjojolcaaZo4
import Derived.Test.YtkmljjhjojolcaaZo11
import Derived.Test.YtkmljjhjojolcaaZo12
import Derived.Test.YtkmljjhjojolcaaZo13
import Derived.Test.YtkmljjhjojolcaaProg
set_option linter.unusedVariables false
set_option linter.unusedSimpArgs false
set_option maxHeartbeats 4000000
namespace Go.Proofs.Ytkmljjhjojolcaa
open Go Go.Sx Go.Lx
namespace TJtI
theorem hm : Try.prog.follows .mixedOrders = true := by kernel_rfl
theorem ag29 : aggB Try.prog 29 = some false := by kernel_rfl
theorem ag3 : aggB Try.prog 3 = some false := by kernel_rfl
theorem ag36 : aggB Try.prog 36 = some false := by kernel_rfl
theorem ag39 : aggB Try.prog 39 = some true := by kernel_rfl
theorem ag4 : aggB Try.prog 4 = some false := by kernel_rfl
theorem ag64 : aggB Try.prog 64 = some false := by kernel_rfl
theorem ag9 : aggB Try.prog 9 = some false := by kernel_rfl
theorem bd27 : bodied Try.prog 27 = true := by kernel_rfl
theorem bd52 : bodied Try.prog 52 = true := by kernel_rfl
theorem bd54 : bodied Try.prog 54 = true := by kernel_rfl
theorem bd60 : bodied Try.prog 60 = true := by kernel_rfl
theorem bd61 : bodied Try.prog 61 = true := by kernel_rfl
theorem bd62 : bodied Try.prog 62 = true := by kernel_rfl
theorem bd72 : bodied Try.prog 72 = true := by kernel_rfl
theorem bd73 : bodied Try.prog 73 = true := by kernel_rfl
theorem bd74 : bodied Try.prog 74 = true := by kernel_rfl
theorem bd75 : bodied Try.prog 75 = true := by kernel_rfl
theorem bd76 : bodied Try.prog 76 = true := by kernel_rfl
theorem bd77 : bodied Try.prog 77 = true := by kernel_rfl
theorem bd78 : bodied Try.prog 78 = true := by kernel_rfl
theorem bd87 : bodied Try.prog 87 = true := by kernel_rfl
theorem el116 : Elem Try.prog 116 3 1 8 := Elem.of (by kernel_rfl)
theorem el29 : Elem Try.prog 29 5 1 1 := Elem.of (by kernel_rfl)
theorem el36 : Elem Try.prog 36 39 2 24 := Elem.of (by kernel_rfl)
theorem fo39_0 : offB Try.prog 39 0 = some 0 := by kernel_rfl
theorem fo39_1 : offB Try.prog 39 1 = some 1 := by kernel_rfl
theorem fo73_0 : offB Try.prog 73 0 = some 0 := by kernel_rfl
theorem fo73_1 : offB Try.prog 73 1 = some 1 := by kernel_rfl
theorem fo73_2 : offB Try.prog 73 2 = some 2 := by kernel_rfl
theorem fo73_3 : offB Try.prog 73 3 = some 3 := by kernel_rfl
theorem fo81_0 : offB Try.prog 81 0 = some 0 := by kernel_rfl
theorem fo81_2 : offB Try.prog 81 2 = some 4 := by kernel_rfl
theorem pl113 : partPl Try.prog 113 = some [(0, 1), (1, 1), (2, 1)] := by kernel_rfl
theorem pl39 : partPl Try.prog 39 = some [(0, 1), (1, 1)] := by kernel_rfl
theorem sz29 : sz Try.prog 29 = some 1 := by kernel_rfl
theorem sz3 : sz Try.prog 3 = some 1 := by kernel_rfl
theorem sz39 : sz Try.prog 39 = some 2 := by kernel_rfl
theorem sz9 : sz Try.prog 9 = some 1 := by kernel_rfl
theorem zr113 : zr Try.prog 113 = some ([.slice none 0 0] ++ [.int .i64 0] ++ [.int .i64 0]) := by kernel_rfl
theorem zr3 : zr Try.prog 3 = some ([.int .i64 0]) := by kernel_rfl
theorem zr39 : zr Try.prog 39 = some ([.int .i64 0] ++ [.string ByteArray.empty]) := by kernel_rfl
end TJtI
open TJtI
theorem sealskinref06_rest_ok {G : Gh} {w : World} (hS : St G w) (hg : GL G) {A0 : Option Addr} {c0 : Nat} {x0 : List (List UInt8)} (hc0 : x0.length ≤ c0) (hs0 : Sl G A0 x0) {x1 : Int} {Q : (List sealskinref06_Record) → Prop} (h : sealskinref06_rest x0 x1 Q) : Calls Try.prog 58 #[.slice A0 x0.length c0, vi x1] w fun e w2 => ∃ (A0 : Option Addr) (c0 : Nat) (r0 : List sealskinref06_Record) (L H : Gh), e = .returned (.slice A0 r0.length c0) ∧ Inv [] G w L H w2 ∧ OwnS w.heap.size 39 L H w2 A0 c0 r0 ∧ Q r0 := by
 unfold sealskinref06_rest at h
 have hI := Inv.start (M := []) hS
 refine calls_W 46 Try.func58 rfl Try.ntmps58 rfl [.tmp 4] rfl ?_
 refine W_seq_k fun K1 k1 => ?_
 refine W_region [4] rfl (Ops_step (R_assign rfl) rfl rfl ?_)
 refine Ops_nil ?_
 refine then_n (k1 _ _ ?_)
 clear k1 K1
 refine W_seq_k fun K2 k2 => ?_
 refine W_region [5] rfl (Ops_step (R_assign rfl) rfl rfl ?_)
 refine Ops_nil ?_
 refine then_n (k2 _ _ ?_)
 clear k2 K2
 refine ex_ h fun J3_ hr3_ h => ?_
 refine W_seq_join [] [5] (fun vals_ w2 => ∃ (x5_3 : List sealskinref06_Record) (A5_3 : Option Addr) (c5_3 : Nat) (L H : Gh), vals_ = [.slice A5_3 x5_3.length c5_3] ∧ J3_ x5_3 ∧ Inv [] G w L H w2 ∧ Le Gh.no L ∧ Le G H ∧ OwnS w.heap.size 39 L H w2 A5_3 c5_3 x5_3 ∧ True) (fun B_ b_ => ?_) (fun B_ b_ => ?_)
 ·
  simp only [e_, Nat.reduceAdd, Nat.reduceBEq] at b_
  subst b_
  clear hr3_
  have hll3_ := Le.refl Gh.no
  have hhh3_ := Le.refl G
  refine W_seq_k fun K4 k4 => ?_
  refine W_region [11, 12, 13] rfl (Ops_step (R_move rfl) rfl rfl (Ops_step (R_len Try.underlying67 rfl rfl) rfl rfl (Ops_step (R_move rfl) rfl rfl ?_)))
  refine Ops_nil ?_
  refine then_n (k4 _ _ ?_)
  clear k4 K4
  refine W_block ?_
  refine Exists.elim h fun I5_ h => Exists.elim h fun n5_ h => ?_
  have h0_ := h.1
  have hs5_ := h.2
  clear h
  refine W_loopB [1, 11, 12] [5, 13] (fun m vals_ w2 => ∃ (x5_5 : List sealskinref06_Record) (A5_5 : Option Addr) (c5_5 : Nat) (x13_5 : Int) (L H : Gh), vals_ = [.slice A5_5 x5_5.length c5_5, vi x13_5] ∧ I5_ m x5_5 x13_5 ∧ Inv [] G w L H w2 ∧ Le Gh.no L ∧ Le G H ∧ OwnS w.heap.size 39 L H w2 A5_5 c5_5 x5_5 ∧ True) n5_ _ rfl ⟨[], none, 0, 0, _, _, rfl, h0_, hI, Le.refl _, Le.refl _, OwnS.nil, trivial⟩ fun B_ b_ => ?_
  clear h0_
  simp only [e_, Nat.reduceAdd, Nat.reduceBEq] at b_
  subst b_
  rintro m5_ _ w5_ ⟨x5_5, A5_5, c5_5, x13_5, L5_, H5_, rfl, hJ5_, hI5_, hll5_, hhh5_, ho5_5, -⟩
  replace hI := hI5_
  clear hI5_
  have h := hs5_ m5_ x5_5 x13_5 hJ5_
  clear hs5_ hJ5_
  replace hs0 := hs0.up hhh5_
  replace hll3_ := hll3_.trans hll5_
  replace hhh3_ := hhh3_.trans hhh5_
  refine W_seq_k fun K6 k6 => ?_
  refine W_region [14] rfl (Ops_step (R_lss rfl rfl) rfl rfl ?_)
  refine Ops_nil ?_
  refine then_n (k6 _ _ ?_)
  clear k6 K6
  refine W_seq_k fun K7 k7 => ?_
  refine W_if rfl (fun hc8_ => ?_) (fun hc8_ => ?_)
  ·
   replace h := h.1 hc8_
   refine W_skip ?_
   refine then_n (k7 _ _ ?_)
   clear k7 K7
   refine W_seq_k fun K9 k9 => ?_
   refine W_block ?_
   refine W_seq_k fun K10 k10 => ?_
   refine W_region [15, 16, 17, 6, 7] rfl (Ops_step (R_move rfl) rfl rfl ?_)
   refine ex_ h fun x11_ hx11_ h => ?_
   have ha11_ := (hs0.atL hx11_).1
   refine Exists.elim (hs0.atL hx11_).2 fun A11_ hA11_ => Exists.elim hA11_ fun c11_ hA11_ => ?_
   have hc11_ := hA11_.1
   have hs11_ := hA11_.2.1
   have hg11_ := hA11_.2.2
   clear hA11_
   refine Ops_step (R_indexSl Try.underlying67 sz29 rfl rfl hx11_.1 hx11_.lt ha11_) rfl rfl (Ops_step (R_load ag29 rfl (hI.st _ _ hg11_)) rfl rfl (Ops_step (R_assign rfl) rfl rfl (Ops_step (R_assign rfl) rfl rfl ?_)))
   refine Ops_nil ?_
   refine then_n (k10 _ _ ?_)
   clear k10 K10
   refine W_seq_k fun K12 k12 => ?_
   refine W_region [18, 19, 20, 8] rfl (Ops_step (R_move rfl) rfl rfl ?_)
   refine Ops_step (R_build (pl := [(0, 1)]) (cs := [.slice A11_ x11_.length c11_, vi 0, vi 0]) zr113 pl113 rfl rfl rfl) rfl rfl ?_
   have hI0_ := hI
   refine Ops_to (R_box rfl) rfl rfl ?_
   rintro _ w13_ ⟨b13_, rfl, hb13_, hB13_, hF13_⟩
   replace hI := hI.fr0 hF13_
   replace ho5_5 := ho5_5.fr0 hF13_
   have ht13_ : Tok H5_ _ b13_ 113 ([.slice A11_ x11_.length c11_, vi 0, vi 0]) := ⟨hB13_.to rfl, Out.ge hI0_.st (Nat.le_of_eq hb13_.symm)⟩
   have hge_b13_ : w.heap.size ≤ b13_ := hb13_ ▸ hI0_.size
   clear hB13_ hb13_ hI0_ hF13_
   refine Ops_step (R_assign rfl) rfl rfl ?_
   refine Ops_nil ?_
   refine then_n (k12 _ _ ?_)
   clear k12 K12
   refine W_keepB [1, 5, 6, 8, 11, 12, 13] fun B_ b_ => ?_
   simp only [e_, Nat.reduceAdd, Nat.reduceBEq] at b_
   subst b_
   refine W_seq_k fun K15 k15 => ?_
   refine W_region [21, 22, 9] rfl (Ops_step (R_move rfl) rfl rfl ?_)
   refine Ops_call (C_func bd74 rfl) rfl rfl ?_
   refine (sealskinref02_Reader_Number_ok (z0 := (sealskinref02_Reader.mk x11_ 0 0)) hI.st (hg.up hI.le) ht13_ hc11_ hs11_ h).mono ?_
   rintro _ w16_ ⟨r16_0, y16_o0, A16_o0_1, c16_o0_1, L16_, H16_, rfl, hI16_, ht16_o0, hc16_o0_1, hs16_o0_1, h⟩
   refine Exists.elim (hI.call hI16_ (new1 hge_b13_)) fun L160_ h16_ => ?_
   have hz16_ := hI.size
   replace hI := h16_.1
   have u16_ := h16_.2.1
   have hl16_ := h16_.2.2
   clear h16_
   replace hs0 := hs0.up u16_.hh
   replace hll3_ := hll3_.trans u16_.ll
   replace hhh3_ := hhh3_.trans u16_.hh
   replace ho5_5 := ho5_5.up u16_.ll u16_ (ho5_5.ne ht13_.blk (by decide))
   replace hll5_ := hll5_.trans u16_.ll
   replace hhh5_ := hhh5_.trans u16_.hh
   replace hs11_ := hs11_.up u16_.hh
   clear ht13_
   clear hI16_ u16_ hl16_
   refine ⟨_, rfl, ?_⟩
   refine Ops_step (R_assign rfl) rfl rfl ?_
   refine Ops_nil ?_
   refine then_n (k15 _ _ ?_)
   clear k15 K15
   refine W_seq_k fun K17 k17 => ?_
   refine W_region [23, 24, 25, 10, none] rfl (Ops_step (R_move rfl) rfl rfl ?_)
   refine Ops_call (C_func bd72 rfl) rfl rfl ?_
   refine (sealskinref02_Reader_Within_ok (x1 := 0) (x2 := 31) (z0 := y16_o0) hI.st (hg.up hI.le) ht16_o0 hc16_o0_1 hs16_o0_1 h).mono ?_
   rintro _ w18_ ⟨r18_0, y18_o0, A18_o0_1, c18_o0_1, L18_, H18_, rfl, hI18_, ht18_o0, hc18_o0_1, hs18_o0_1, h⟩
   refine Exists.elim (hI.call hI18_ (new1 hge_b13_)) fun L180_ h18_ => ?_
   have hz18_ := hI.size
   replace hI := h18_.1
   have u18_ := h18_.2.1
   have hl18_ := h18_.2.2
   clear h18_
   replace hs0 := hs0.up u18_.hh
   replace hll3_ := hll3_.trans u18_.ll
   replace hhh3_ := hhh3_.trans u18_.hh
   replace ho5_5 := ho5_5.up u18_.ll u18_ (ho5_5.ne ht16_o0.blk (by decide))
   replace hll5_ := hll5_.trans u18_.ll
   replace hhh5_ := hhh5_.trans u18_.hh
   replace hs16_o0_1 := hs16_o0_1.up u18_.hh
   clear ht16_o0
   clear hI18_ u18_ hl18_
   refine ⟨_, rfl, ?_⟩
   refine Ops_step (R_build (pl := [(0, 1)]) (cs := [vi r18_0, vs (Str.mk [])]) zr39 pl39 rfl rfl rfl) rfl rfl ?_
   have hlp19_ho5_5 := ho5_5.lt
   have hI0_ := hI
   refine Ops_to (R_alloc zr39) rfl rfl ?_
   rintro _ w19_ ⟨b19_, rfl, hb19_, hB19_, hF19_⟩
   replace hI := hI.fr0 hF19_
   replace ho5_5 := ho5_5.fr0 hF19_
   replace ht18_o0 := ht18_o0.fr0 hF19_
   have ht19_ : Tok H18_ _ b19_ 39 ([vi 0, vs (Str.mk [])]) := ⟨hB19_.to rfl, Out.ge hI0_.st (Nat.le_of_eq hb19_.symm)⟩
   have hge_b19_ : w.heap.size ≤ b19_ := hb19_ ▸ hI0_.size
   have hsq19_ho5_5 : ∀ i_ ∈ bk A5_5 c5_5, i_ ∉ [b19_] := fun i_ hi_ hm_ => by have h_ := hlp19_ho5_5 i_ hi_; rw [List.mem_singleton] at hm_; omega
   clear hB19_ hb19_ hI0_ hF19_
   refine Ops_to0 (R_storeN sz39 rfl rfl rfl ht19_.blk (Nat.le_of_ble_eq_true rfl) rfl) rfl ?_
   rintro _ w20_ ⟨hB20_, hF20_⟩
   replace hI := hI.tok hF20_ (out1 ht19_.out) (new1 hge_b19_)
   replace ho5_5 := ho5_5.fr hF20_ hsq19_ho5_5
   replace ht18_o0 := ht18_o0.fr hF20_ (ht18_o0.apart ht19_ (by decide))
   replace ht19_ : Tok H18_ _ b19_ 39 ([vi r18_0, vs (Str.mk [])]) := ⟨hB20_, ht19_.out⟩
   clear hF20_ hB20_
   refine Ops_nil ?_
   refine then_n (k17 _ _ ?_)
   clear k17 K17
   refine W_seq_k fun K21 k21 => ?_
   refine W_region [26, 27, 28, 29, none] rfl (Ops_step (R_move rfl) rfl rfl ?_)
   refine Ops_call (C_func bd75 rfl) rfl rfl ?_
   refine (sealskinref02_Reader_Bytes_ok (x1 := 16320) (z0 := y18_o0) hI.st (hg.up hI.le) ht18_o0 hc18_o0_1 hs18_o0_1 h).mono ?_
   rintro _ w22_ ⟨A22_0, c22_0, r22_0, y22_o0, A22_o0_1, c22_o0_1, L22_, H22_, rfl, hI22_, ho22_0, ht22_o0, hc22_o0_1, hs22_o0_1, h⟩
   refine Exists.elim (hI.call hI22_ (new1 hge_b13_)) fun L220_ h22_ => ?_
   have hz22_ := hI.size
   replace hI := h22_.1
   have u22_ := h22_.2.1
   have hl22_ := h22_.2.2
   clear h22_
   replace hs0 := hs0.up u22_.hh
   replace hll3_ := hll3_.trans u22_.ll
   replace hhh3_ := hhh3_.trans u22_.hh
   replace ho5_5 := ho5_5.up u22_.ll u22_ (ho5_5.ne ht18_o0.blk (by decide))
   replace hll5_ := hll5_.trans u22_.ll
   replace hhh5_ := hhh5_.trans u22_.hh
   replace hs18_o0_1 := hs18_o0_1.up u22_.hh
   replace ht19_ := ht19_.up u22_ (ht19_.apart ht18_o0 (by decide))
   clear ht18_o0
   replace ho22_0 := OwnS.backS ho22_0 hz22_ (Le.refl _)
   clear hI22_ u22_ hl22_
   refine ⟨_, rfl, ?_⟩
   refine Exists.elim (ho22_0.freeze hI) fun L23_ h23_ => Exists.elim h23_ fun H23_ h23_ => ?_
   replace hI := h23_.1
   have u23_ := h23_.2.1
   have hs23_ := h23_.2.2.1 (Le.no _)
   have hc23_ := ho22_0.cap
   replace hs0 := hs0.up u23_.hh
   replace hll3_ := hll3_.trans u23_.ll
   replace hhh3_ := hhh3_.trans u23_.hh
   replace ho5_5 := ho5_5.up u23_.ll u23_ (ho5_5.sep ho22_0 (by decide))
   replace hll5_ := hll5_.trans u23_.ll
   replace hhh5_ := hhh5_.trans u23_.hh
   replace ht19_ := ht19_.up u23_ (ht19_.sep ho22_0 (by decide))
   replace ht22_o0 := ht22_o0.up u23_ (ht22_o0.sep ho22_0 (by decide))
   replace hs22_o0_1 := hs22_o0_1.up u23_.hh
   clear h23_ u23_ ho22_0
   refine Ops_step (X_bytesStr (bs := r22_0) Try.underlying29 Try.underlying5 Try.underlying9 rfl rfl ((hs23_.up hI.sub).fz.rd hI.st)) rfl rfl ?_
   refine Ops_step (R_fieldAddr fo39_1 rfl) rfl rfl ?_
   refine Ops_to0 (R_store sz9 rfl rfl ht19_.blk (by show 1 < 2; decide) rfl) rfl ?_
   rintro _ w24_ ⟨hB24_, hF24_⟩
   replace hI := hI.tok hF24_ (out1 ht19_.out) (new1 hge_b19_)
   replace ho5_5 := ho5_5.fr hF24_ hsq19_ho5_5
   replace ht22_o0 := ht22_o0.fr hF24_ (ht22_o0.apart ht19_ (by decide))
   replace ht19_ : Tok H23_ _ b19_ 39 ([vi r18_0, vs (Str.mk r22_0)]) := ⟨hB24_, ht19_.out⟩
   clear hF24_ hB24_
   refine Ops_nil ?_
   refine then_n (k21 _ _ ?_)
   clear k21 K21
   refine W_keepB [1, 5, 6, 8, 9, 10, 11, 12, 13] fun B_ b_ => ?_
   simp only [e_, Nat.reduceAdd, Nat.reduceBEq] at b_
   subst b_
   refine W_seq_k fun K26 k26 => ?_
   refine ex_ h fun J27_ hr27_ h => ?_
   refine W_seq_join [1, 5, 10, 11, 12, 13] [39] (fun vals_ w2 => ∃ (x39_27 : Bool) (L H : Gh), vals_ = [.bool x39_27] ∧ J27_ x39_27 ∧ Inv [] G w L H w2 ∧ Le L23_ L ∧ Le H23_ H ∧ OwnS w.heap.size 39 L H w2 A5_5 c5_5 x5_5 ∧ Tok H w2 b19_ 39 ([vi r18_0, vs (Str.mk r22_0)]) ∧ (∀ i ∈ bk A5_5 c5_5, i ∉ [b19_]) ∧ True) (fun B_ b_ => ?_) (fun B_ b_ => ?_)
   ·
    simp only [e_, Nat.reduceAdd, Nat.reduceBEq] at b_
    subst b_
    clear hr27_
    have hll27_ := Le.refl L23_
    have hhh27_ := Le.refl H23_
    refine W_region [30, 31, 32, 33, 34, 35, 36, 37, 38, 39] rfl (Ops_step (R_move rfl) rfl rfl ?_)
    refine Ops_call (C_func bd73 rfl) rfl rfl ?_
    refine (sealskinref02_Reader_End_ok (z0 := y22_o0) hI.st (hg.up hI.le) ht22_o0 hc22_o0_1 hs22_o0_1 h).mono ?_
    rintro _ w28_ ⟨r28_0, L28_, H28_, rfl, hI28_, h⟩
    refine Exists.elim (hI.call hI28_ (by simp)) fun L280_ h28_ => ?_
    have hz28_ := hI.size
    replace hI := h28_.1
    have u28_ := h28_.2.1
    have hl28_ := h28_.2.2
    clear h28_
    replace hs0 := hs0.up u28_.hh
    replace hll3_ := hll3_.trans u28_.ll
    replace hhh3_ := hhh3_.trans u28_.hh
    replace ho5_5 := ho5_5.up u28_.ll u28_ (by simp)
    replace hll5_ := hll5_.trans u28_.ll
    replace hhh5_ := hhh5_.trans u28_.hh
    replace ht19_ := ht19_.up u28_ (by simp)
    replace ht22_o0 := ht22_o0.up u28_ (by simp)
    replace hs22_o0_1 := hs22_o0_1.up u28_.hh
    replace hll27_ := hll27_.trans u28_.ll
    replace hhh27_ := hhh27_.trans u28_.hh
    clear hI28_ u28_ hl28_
    refine ⟨_, rfl, ?_⟩
    refine Ops_step (R_neq rfl rfl) rfl rfl (Ops_step (R_move rfl) rfl rfl ?_)
    refine Ops_split 33 rfl (fun hg29_ => ?_) (fun hg29_ => ?_)
    ·
     replace h := h.1 hg29_
     refine Ops_pass rfl rfl (Ops_pass rfl rfl (Ops_pass rfl rfl (Ops_pass rfl rfl (Ops_pass rfl rfl ?_))))
     refine Ops_step (R_pick_true rfl rfl) rfl rfl ?_
     refine Ops_nil ?_
     refine then_n ?_
     exact ⟨_, rfl, ⟨true, _, _, rfl, h, hI, hll27_, hhh27_, ho5_5, ht19_, hsq19_ho5_5, trivial⟩, ⟨rfl, rfl, rfl, rfl, rfl, rfl, trivial⟩⟩
    ·
     replace h := h.2 hg29_
     refine Ops_step (R_move rfl) rfl rfl (Ops_step (R_move rfl) rfl rfl (Ops_step (R_move rfl) rfl rfl ?_))
     have hk30_ := h.1
     replace h := h.2
     refine Ops_step (R_add rfl rfl (wI hk30_.1 hk30_.2)) rfl rfl (Ops_step (R_neq rfl rfl) rfl rfl (Ops_step (R_pick_false rfl rfl) rfl rfl ?_))
     refine Ops_nil ?_
     refine then_n ?_
     exact ⟨_, rfl, ⟨(decide (r16_0 ≠ (x1 + x13_5))), _, _, rfl, h, hI, hll27_, hhh27_, ho5_5, ht19_, hsq19_ho5_5, trivial⟩, ⟨rfl, rfl, rfl, rfl, rfl, rfl, trivial⟩⟩
   ·
    simp only [e_, Nat.reduceAdd, Nat.reduceBEq] at b_
    subst b_
    clear h
    clear ho5_5
    clear ht19_
    rintro _ w27_ ⟨x39_27, L27_, H27_, rfl, hJ27_, hI27_, hll27_, hhh27_, ho5_5, ht19_, hsqho5_5_0_27, -⟩
    replace hI := hI27_
    clear hI27_
    have h := hr27_ x39_27 hJ27_
    clear hr27_ hJ27_
    replace hs0 := hs0.up hhh27_
    replace hll3_ := hll3_.trans hll27_
    replace hhh3_ := hhh3_.trans hhh27_
    replace hll5_ := hll5_.trans hll27_
    replace hhh5_ := hhh5_.trans hhh27_
    refine W_cond rfl (fun hc31_ => ?_) (fun hc31_ => ?_)
    ·
     replace h := h.1 hc31_
     refine W_exit ?_
     refine then_exit ?_
     clear k26 K26
     refine block_other rfl ?_
     refine then_exit ?_
     clear k9 K9
     refine then_exit ?_
     refine block_exit ?_
     refine then_n ?_
     exact ⟨_, rfl, ⟨x5_5, A5_5, c5_5, _, _, rfl, h, hI, hll3_, hhh3_, ho5_5, trivial⟩, trivial⟩
    ·
     replace h := h.2 hc31_
     refine W_skip ?_
     refine then_n (k26 _ _ ?_)
     clear k26 K26
     refine W_region [40, 41, 42, 43, 5] rfl (Ops_step (R_move rfl) rfl rfl (Ops_step (R_loadN ag39 sz39 rfl ht19_.blk (Nat.le_of_ble_eq_true rfl)) rfl rfl ?_))
     have hlo32_ho5_5 := ho5_5.lt
     refine Ops_to (R_buildSlice el36 zr39 (by decide) (by decide) rfl rfl) rfl rfl ?_
     rintro _ w32_ ⟨b32_, rfl, hb32_, hB32_, hF32_⟩
     have ho32_ : OwnS w.heap.size 39 L27_ H27_ _ (some ⟨b32_, 0, none⟩) 1 ([(sealskinref06_Record.mk r18_0 (Str.mk r22_0))] : List sealskinref06_Record) := OwnS.ofBlk (css := [[vi r18_0, vs (Str.mk r22_0)]]) hI.st hb32_ hB32_ (.cons rfl .nil) rfl (by have := hI.size; omega) (by show 1 ≤ maxLen; decide)
     replace hI := hI.fr0 hF32_
     replace ho5_5 := ho5_5.fr0 hF32_
     clear hF32_ hB32_
     have hsp32_ho5_5 : ∀ i ∈ bk (some ⟨b32_, 0, none⟩) 1, i ∉ bk A5_5 c5_5 := sep_new (fun i_ hi_ => by have := (bk_of hi_).1; simp only [blkOf, List.mem_singleton] at this; omega) hlo32_ho5_5
     have hk34_ := h.1
     replace h := h.2
     refine Ops_to (X_append (α := sealskinref06_Record) (xs := x5_5) (ys := ([(sealskinref06_Record.mk r18_0 (Str.mk r22_0))] : List sealskinref06_Record)) el36 rfl rfl ho5_5 (Srcs.ofOwn Try.underlying36 ho32_ (by decide)) hI.st hk34_ (by decide) hI.size) rfl rfl ?_
     rintro _ w33_ ⟨A33_, c33_, rfl, ho33_, hF33_, hbk33_⟩
     clear hbk33_
     replace hI := hI.tok hF33_ ho5_5.out (ho5_5.new (Nat.le_refl _))
     clear hF33_ ho5_5
     refine Ops_step (R_assign rfl) rfl rfl ?_
     refine Ops_nil ?_
     refine block_n ?_
     refine then_n (k9 _ _ ?_)
     clear k9 K9
     refine W_keepB [1, 5, 11, 12, 13] fun B_ b_ => ?_
     simp only [e_, Nat.reduceAdd, Nat.reduceBEq] at b_
     subst b_
     refine W_region [44, 13] rfl ?_
     have hk36_ := h.1
     replace h := h.2
     refine Ops_step (R_add rfl rfl (wI hk36_.1 hk36_.2)) rfl rfl (Ops_step (R_move rfl) rfl rfl ?_)
     refine Ops_nil ?_
     refine then_n ?_
     exact h.elim fun m_ h => ⟨m_, _, h.1, rfl, ⟨(x5_5 ++ ([(sealskinref06_Record.mk r18_0 (Str.mk r22_0))] : List sealskinref06_Record)), A33_, c33_, (x13_5 + 1), _, _, rfl, h.2, hI, hll5_, hhh5_, ho33_, trivial⟩, ⟨rfl, rfl, rfl, trivial⟩⟩
  ·
   replace h := h.2 hc8_
   refine W_exit ?_
   refine then_exit ?_
   clear k7 K7
   refine then_exit ?_
   refine block_exit ?_
   refine then_n ?_
   exact ⟨_, rfl, ⟨x5_5, A5_5, c5_5, _, _, rfl, h, hI, hll3_, hhh3_, ho5_5, trivial⟩, trivial⟩
 ·
  simp only [e_, Nat.reduceAdd, Nat.reduceBEq] at b_
  subst b_
  clear h
  rintro _ w3_ ⟨x5_3, A5_3, c5_3, L3_, H3_, rfl, hJ3_, hI3_, hll3_, hhh3_, ho5_3, -⟩
  replace hI := hI3_
  clear hI3_
  have h := hr3_ x5_3 hJ3_
  clear hr3_ hJ3_
  refine W_seq_k fun K37 k37 => ?_
  refine W_region [45, 4] rfl (Ops_step (R_move rfl) rfl rfl (Ops_step (R_assign rfl) rfl rfl ?_))
  refine Ops_nil ?_
  refine then_n (k37 _ _ ?_)
  clear k37 K37
  refine W_ret ?_
  refine ⟨_, ⟨_, _, rfl, rfl, rfl⟩, ?_⟩
  exact ⟨A5_3, c5_3, x5_3, _, _, rfl, hI, ho5_3, h⟩

theorem sealskinref05_Disk_Wipe_ok {G : Gh} {w : World} (hS : St G w) (hg : GL G) {d0 : Nat} {z0 : sealskinref05_Disk} {Ad0_1 : Option Addr} {cd0_1 : Nat} {Ad0_2 : Option Addr} {cd0_2 : Nat} {Ad0_3 : Option Addr} {cd0_3 : Nat} (htd0 : Tok G w d0 81 ([.slice Ad0_1 z0.F_.e0_.length cd0_1, .slice Ad0_2 z0.F_.e1_.length cd0_2, .slice Ad0_3 z0.F_.e2_.length cd0_3, vi z0.Room_, .bool z0.Off_, vi z0.Fuse_])) (hcd0_1 : z0.F_.e0_.length ≤ cd0_1) (hsd0_1 : Sl G Ad0_1 z0.F_.e0_) (hcd0_2 : z0.F_.e1_.length ≤ cd0_2) (hsd0_2 : Sl G Ad0_2 z0.F_.e1_) (hcd0_3 : z0.F_.e2_.length ≤ cd0_3) (hsd0_3 : Sl G Ad0_3 z0.F_.e2_) {x1 : Int} {Q : Int → sealskinref05_Disk → Prop} (h : sealskinref05_Disk_Wipe z0 x1 Q) : Calls Try.prog 60 #[.pointer (some ⟨d0, 0, none⟩), vi x1] w fun e w2 => ∃ (r0 : Int) (y0 : sealskinref05_Disk) (Ay0_1 : Option Addr) (cy0_1 : Nat) (Ay0_2 : Option Addr) (cy0_2 : Nat) (Ay0_3 : Option Addr) (cy0_3 : Nat) (L H : Gh), e = .returned (vi r0) ∧ Inv [d0] G w L H w2 ∧ Tok H w2 d0 81 ([.slice Ay0_1 y0.F_.e0_.length cy0_1, .slice Ay0_2 y0.F_.e1_.length cy0_2, .slice Ay0_3 y0.F_.e2_.length cy0_3, vi y0.Room_, .bool y0.Off_, vi y0.Fuse_]) ∧ y0.F_.e0_.length ≤ cy0_1 ∧ Sl H Ay0_1 y0.F_.e0_ ∧ y0.F_.e1_.length ≤ cy0_2 ∧ Sl H Ay0_2 y0.F_.e1_ ∧ y0.F_.e2_.length ≤ cy0_3 ∧ Sl H Ay0_3 y0.F_.e2_ ∧ Q r0 y0 := by
 unfold sealskinref05_Disk_Wipe at h
 have hI := Inv.start (M := [d0]) hS
 refine calls_W 23 Try.func60 rfl Try.ntmps60 rfl [.tmp 4] rfl ?_
 have hlt_d0 := htd0.blk.lt
 refine W_seq_k fun K1 k1 => ?_
 refine W_region [4] rfl (Ops_step (R_assign rfl) rfl rfl ?_)
 refine Ops_nil ?_
 refine then_n (k1 _ _ ?_)
 clear k1 K1
 refine W_seq_k fun K2 k2 => ?_
 refine W_seq_k fun K3 k3 => ?_
 refine W_region [6, 7, 8, 5] rfl (Ops_step (R_move rfl) rfl rfl (Ops_step (R_move rfl) rfl rfl ?_))
 refine Ops_call (C_func bd52 rfl) rfl rfl ?_
 refine (sealskinref05_Disk_may_ok (x1 := x1) (z0 := z0) hI.st (hg.up hI.le) htd0 hcd0_1 hsd0_1 hcd0_2 hsd0_2 hcd0_3 hsd0_3 h).mono ?_
 rintro _ w4_ ⟨r4_0, L4_, H4_, rfl, hI4_, h⟩
 refine Exists.elim (hI.call hI4_ (by simp)) fun L40_ h4_ => ?_
 have hz4_ := hI.size
 replace hI := h4_.1
 have u4_ := h4_.2.1
 have hl4_ := h4_.2.2
 clear h4_
 replace hsd0_1 := hsd0_1.up u4_.hh
 replace hsd0_2 := hsd0_2.up u4_.hh
 replace hsd0_3 := hsd0_3.up u4_.hh
 replace htd0 := htd0.up u4_ (by simp)
 clear hI4_ u4_ hl4_
 refine ⟨_, rfl, ?_⟩
 refine Ops_step (R_assign rfl) rfl rfl ?_
 refine Ops_nil ?_
 refine then_n (k3 _ _ ?_)
 clear k3 K3
 refine W_seq_k fun K5 k5 => ?_
 refine W_region [9, 10] rfl (Ops_step (R_move rfl) rfl rfl (Ops_step (R_neq rfl rfl) rfl rfl ?_))
 refine Ops_nil ?_
 refine then_n (k5 _ _ ?_)
 clear k5 K5
 refine W_if rfl (fun hc6_ => ?_) (fun hc6_ => ?_)
 ·
  replace h := h.1 hc6_
  refine W_seq_k fun K7 k7 => ?_
  refine W_region [11, 4] rfl (Ops_step (R_move rfl) rfl rfl (Ops_step (R_assign rfl) rfl rfl ?_))
  refine Ops_nil ?_
  refine then_n (k7 _ _ ?_)
  clear k7 K7
  refine W_keepB [4] fun B_ b_ => ?_
  simp only [e_, Nat.reduceAdd, Nat.reduceBEq] at b_
  subst b_
  refine W_ret ?_
  refine then_ret ?_
  clear k2 K2
  refine ⟨_, ⟨_, _, rfl, rfl, rfl⟩, ?_⟩
  exact ⟨r4_0, z0, Ad0_1, cd0_1, Ad0_2, cd0_2, Ad0_3, cd0_3, _, _, rfl, hI, htd0, hcd0_1, hsd0_1, hcd0_2, hsd0_2, hcd0_3, hsd0_3, h⟩
 ·
  replace h := h.2 hc6_
  refine W_skip ?_
  refine then_n (k2 _ _ ?_)
  clear k2 K2
  refine W_keepB [0, 1] fun B_ b_ => ?_
  simp only [e_, Nat.reduceAdd, Nat.reduceBEq] at b_
  subst b_
  refine W_seq_k fun K10 k10 => ?_
  refine W_region [12, 13, 14, 15, 16, none] rfl (Ops_step (R_move rfl) rfl rfl (Ops_step (R_move rfl) rfl rfl (Ops_step (R_nilCheck rfl) rfl rfl (Ops_step (R_fieldAddr fo81_0 rfl) rfl rfl ?_))))
  have hk11_ := h.1
  replace h := h.2
  refine split3 hk11_ (fun hi11_ => ?_) (fun hi11_ => ?_) (fun hi11_ => ?_)
  ·
   replace h := h.1 hi11_
   refine Ops_step (R_indexArrK Try.underlying51 sz29 rfl rfl hi11_ (by decide)) rfl rfl ?_
   refine Ops_to0 (R_store sz29 rfl rfl htd0.blk (by show 0 < 6; decide) rfl) rfl ?_
   rintro _ w12_ ⟨hB12_, hF12_⟩
   replace hI := hI.tok hF12_ (out1 htd0.out) (mem1 (by simp))
   replace htd0 : Tok H4_ _ d0 81 ([.slice none 0 0, .slice Ad0_2 z0.F_.e1_.length cd0_2, .slice Ad0_3 z0.F_.e2_.length cd0_3, vi z0.Room_, .bool z0.Off_, vi z0.Fuse_]) := ⟨hB12_, htd0.out⟩
   clear hF12_ hB12_
   refine Ops_nil ?_
   refine then_n (k10 _ _ ?_)
   clear k10 K10
   refine W_keepB [0] fun B_ b_ => ?_
   simp only [e_, Nat.reduceAdd, Nat.reduceBEq] at b_
   subst b_
   refine W_seq_k fun K14 k14 => ?_
   refine W_region [17, 18] rfl (Ops_step (R_move rfl) rfl rfl ?_)
   refine Ops_call (C_func bd54 rfl) rfl rfl ?_
   refine (sealskinref05_Disk_burn_ok (z0 := (sealskinref05_Disk.mk (arr3_List_UInt8.mk [] z0.F_.e1_ z0.F_.e2_) z0.Room_ z0.Off_ z0.Fuse_)) hI.st (hg.up hI.le) htd0 (Nat.le_refl 0) Sl.nil hcd0_2 hsd0_2 hcd0_3 hsd0_3 h).mono ?_
   rintro _ w15_ ⟨y15_o0, A15_o0_1, c15_o0_1, A15_o0_2, c15_o0_2, A15_o0_3, c15_o0_3, L15_, H15_, rfl, hI15_, ht15_o0, hc15_o0_1, hs15_o0_1, hc15_o0_2, hs15_o0_2, hc15_o0_3, hs15_o0_3, h⟩
   refine Exists.elim (hI.call hI15_ (mem1 (by simp))) fun L150_ h15_ => ?_
   have hz15_ := hI.size
   replace hI := h15_.1
   have u15_ := h15_.2.1
   have hl15_ := h15_.2.2
   clear h15_
   replace hsd0_2 := hsd0_2.up u15_.hh
   replace hsd0_3 := hsd0_3.up u15_.hh
   clear htd0
   clear hI15_ u15_ hl15_
   refine ⟨_, rfl, ?_⟩
   refine Ops_nil ?_
   refine then_n (k14 _ _ ?_)
   clear k14 K14
   refine W_seq_k fun K16 k16 => ?_
   refine W_seq_k fun K17 k17 => ?_
   refine W_region [19, 20, 21, 22] rfl (Ops_step (R_move rfl) rfl rfl (Ops_step (R_nilCheck rfl) rfl rfl (Ops_step (R_fieldAddr fo81_2 rfl) rfl rfl ?_)))
   refine Ops_step (R_loadB (v := .bool y15_o0.Off_) ag4 rfl ht15_o0.blk rfl) rfl rfl ?_
   refine Ops_nil ?_
   refine then_n (k17 _ _ ?_)
   clear k17 K17
   refine W_keepB [22] fun B_ b_ => ?_
   simp only [e_, Nat.reduceAdd, Nat.reduceBEq] at b_
   subst b_
   refine W_cond rfl (fun hc19_ => ?_) (fun hc19_ => ?_)
   ·
    replace h := h.1 hc19_
    refine W_seq_k fun K20 k20 => ?_
    refine W_region [4] rfl (Ops_step (R_assign rfl) rfl rfl ?_)
    refine Ops_nil ?_
    refine then_n (k20 _ _ ?_)
    clear k20 K20
    refine W_ret ?_
    refine then_ret ?_
    clear k16 K16
    refine ⟨_, ⟨_, _, rfl, rfl, rfl⟩, ?_⟩
    exact ⟨50, y15_o0, A15_o0_1, c15_o0_1, A15_o0_2, c15_o0_2, A15_o0_3, c15_o0_3, _, _, rfl, hI, ht15_o0, hc15_o0_1, hs15_o0_1, hc15_o0_2, hs15_o0_2, hc15_o0_3, hs15_o0_3, h⟩
   ·
    replace h := h.2 hc19_
    refine W_skip ?_
    refine then_n (k16 _ _ ?_)
    clear k16 K16
    refine W_seq_k fun K21 k21 => ?_
    refine W_region [4] rfl (Ops_step (R_assign rfl) rfl rfl ?_)
    refine Ops_nil ?_
    refine then_n (k21 _ _ ?_)
    clear k21 K21
    refine W_ret ?_
    refine ⟨_, ⟨_, _, rfl, rfl, rfl⟩, ?_⟩
    exact ⟨0, y15_o0, A15_o0_1, c15_o0_1, A15_o0_2, c15_o0_2, A15_o0_3, c15_o0_3, _, _, rfl, hI, ht15_o0, hc15_o0_1, hs15_o0_1, hc15_o0_2, hs15_o0_2, hc15_o0_3, hs15_o0_3, h⟩
  ·
   replace h := h.2.1 hi11_
   refine Ops_step (R_indexArrK Try.underlying51 sz29 rfl rfl hi11_ (by decide)) rfl rfl ?_
   refine Ops_to0 (R_store sz29 rfl rfl htd0.blk (by show 1 < 6; decide) rfl) rfl ?_
   rintro _ w22_ ⟨hB22_, hF22_⟩
   replace hI := hI.tok hF22_ (out1 htd0.out) (mem1 (by simp))
   replace htd0 : Tok H4_ _ d0 81 ([.slice Ad0_1 z0.F_.e0_.length cd0_1, .slice none 0 0, .slice Ad0_3 z0.F_.e2_.length cd0_3, vi z0.Room_, .bool z0.Off_, vi z0.Fuse_]) := ⟨hB22_, htd0.out⟩
   clear hF22_ hB22_
   refine Ops_nil ?_
   refine then_n (k10 _ _ ?_)
   clear k10 K10
   refine W_keepB [0] fun B_ b_ => ?_
   simp only [e_, Nat.reduceAdd, Nat.reduceBEq] at b_
   subst b_
   refine W_seq_k fun K24 k24 => ?_
   refine W_region [17, 18] rfl (Ops_step (R_move rfl) rfl rfl ?_)
   refine Ops_call (C_func bd54 rfl) rfl rfl ?_
   refine (sealskinref05_Disk_burn_ok (z0 := (sealskinref05_Disk.mk (arr3_List_UInt8.mk z0.F_.e0_ [] z0.F_.e2_) z0.Room_ z0.Off_ z0.Fuse_)) hI.st (hg.up hI.le) htd0 hcd0_1 hsd0_1 (Nat.le_refl 0) Sl.nil hcd0_3 hsd0_3 h).mono ?_
   rintro _ w25_ ⟨y25_o0, A25_o0_1, c25_o0_1, A25_o0_2, c25_o0_2, A25_o0_3, c25_o0_3, L25_, H25_, rfl, hI25_, ht25_o0, hc25_o0_1, hs25_o0_1, hc25_o0_2, hs25_o0_2, hc25_o0_3, hs25_o0_3, h⟩
   refine Exists.elim (hI.call hI25_ (mem1 (by simp))) fun L250_ h25_ => ?_
   have hz25_ := hI.size
   replace hI := h25_.1
   have u25_ := h25_.2.1
   have hl25_ := h25_.2.2
   clear h25_
   replace hsd0_1 := hsd0_1.up u25_.hh
   replace hsd0_3 := hsd0_3.up u25_.hh
   clear htd0
   clear hI25_ u25_ hl25_
   refine ⟨_, rfl, ?_⟩
   refine Ops_nil ?_
   refine then_n (k24 _ _ ?_)
   clear k24 K24
   refine W_seq_k fun K26 k26 => ?_
   refine W_seq_k fun K27 k27 => ?_
   refine W_region [19, 20, 21, 22] rfl (Ops_step (R_move rfl) rfl rfl (Ops_step (R_nilCheck rfl) rfl rfl (Ops_step (R_fieldAddr fo81_2 rfl) rfl rfl ?_)))
   refine Ops_step (R_loadB (v := .bool y25_o0.Off_) ag4 rfl ht25_o0.blk rfl) rfl rfl ?_
   refine Ops_nil ?_
   refine then_n (k27 _ _ ?_)
   clear k27 K27
   refine W_keepB [22] fun B_ b_ => ?_
   simp only [e_, Nat.reduceAdd, Nat.reduceBEq] at b_
   subst b_
   refine W_cond rfl (fun hc29_ => ?_) (fun hc29_ => ?_)
   ·
    replace h := h.1 hc29_
    refine W_seq_k fun K30 k30 => ?_
    refine W_region [4] rfl (Ops_step (R_assign rfl) rfl rfl ?_)
    refine Ops_nil ?_
    refine then_n (k30 _ _ ?_)
    clear k30 K30
    refine W_ret ?_
    refine then_ret ?_
    clear k26 K26
    refine ⟨_, ⟨_, _, rfl, rfl, rfl⟩, ?_⟩
    exact ⟨50, y25_o0, A25_o0_1, c25_o0_1, A25_o0_2, c25_o0_2, A25_o0_3, c25_o0_3, _, _, rfl, hI, ht25_o0, hc25_o0_1, hs25_o0_1, hc25_o0_2, hs25_o0_2, hc25_o0_3, hs25_o0_3, h⟩
   ·
    replace h := h.2 hc29_
    refine W_skip ?_
    refine then_n (k26 _ _ ?_)
    clear k26 K26
    refine W_seq_k fun K31 k31 => ?_
    refine W_region [4] rfl (Ops_step (R_assign rfl) rfl rfl ?_)
    refine Ops_nil ?_
    refine then_n (k31 _ _ ?_)
    clear k31 K31
    refine W_ret ?_
    refine ⟨_, ⟨_, _, rfl, rfl, rfl⟩, ?_⟩
    exact ⟨0, y25_o0, A25_o0_1, c25_o0_1, A25_o0_2, c25_o0_2, A25_o0_3, c25_o0_3, _, _, rfl, hI, ht25_o0, hc25_o0_1, hs25_o0_1, hc25_o0_2, hs25_o0_2, hc25_o0_3, hs25_o0_3, h⟩
  ·
   replace h := h.2.2 hi11_
   refine Ops_step (R_indexArrK Try.underlying51 sz29 rfl rfl hi11_ (by decide)) rfl rfl ?_
   refine Ops_to0 (R_store sz29 rfl rfl htd0.blk (by show 2 < 6; decide) rfl) rfl ?_
   rintro _ w32_ ⟨hB32_, hF32_⟩
   replace hI := hI.tok hF32_ (out1 htd0.out) (mem1 (by simp))
   replace htd0 : Tok H4_ _ d0 81 ([.slice Ad0_1 z0.F_.e0_.length cd0_1, .slice Ad0_2 z0.F_.e1_.length cd0_2, .slice none 0 0, vi z0.Room_, .bool z0.Off_, vi z0.Fuse_]) := ⟨hB32_, htd0.out⟩
   clear hF32_ hB32_
   refine Ops_nil ?_
   refine then_n (k10 _ _ ?_)
   clear k10 K10
   refine W_keepB [0] fun B_ b_ => ?_
   simp only [e_, Nat.reduceAdd, Nat.reduceBEq] at b_
   subst b_
   refine W_seq_k fun K34 k34 => ?_
   refine W_region [17, 18] rfl (Ops_step (R_move rfl) rfl rfl ?_)
   refine Ops_call (C_func bd54 rfl) rfl rfl ?_
   refine (sealskinref05_Disk_burn_ok (z0 := (sealskinref05_Disk.mk (arr3_List_UInt8.mk z0.F_.e0_ z0.F_.e1_ []) z0.Room_ z0.Off_ z0.Fuse_)) hI.st (hg.up hI.le) htd0 hcd0_1 hsd0_1 hcd0_2 hsd0_2 (Nat.le_refl 0) Sl.nil h).mono ?_
   rintro _ w35_ ⟨y35_o0, A35_o0_1, c35_o0_1, A35_o0_2, c35_o0_2, A35_o0_3, c35_o0_3, L35_, H35_, rfl, hI35_, ht35_o0, hc35_o0_1, hs35_o0_1, hc35_o0_2, hs35_o0_2, hc35_o0_3, hs35_o0_3, h⟩
   refine Exists.elim (hI.call hI35_ (mem1 (by simp))) fun L350_ h35_ => ?_
   have hz35_ := hI.size
   replace hI := h35_.1
   have u35_ := h35_.2.1
   have hl35_ := h35_.2.2
   clear h35_
   replace hsd0_1 := hsd0_1.up u35_.hh
   replace hsd0_2 := hsd0_2.up u35_.hh
   clear htd0
   clear hI35_ u35_ hl35_
   refine ⟨_, rfl, ?_⟩
   refine Ops_nil ?_
   refine then_n (k34 _ _ ?_)
   clear k34 K34
   refine W_seq_k fun K36 k36 => ?_
   refine W_seq_k fun K37 k37 => ?_
   refine W_region [19, 20, 21, 22] rfl (Ops_step (R_move rfl) rfl rfl (Ops_step (R_nilCheck rfl) rfl rfl (Ops_step (R_fieldAddr fo81_2 rfl) rfl rfl ?_)))
   refine Ops_step (R_loadB (v := .bool y35_o0.Off_) ag4 rfl ht35_o0.blk rfl) rfl rfl ?_
   refine Ops_nil ?_
   refine then_n (k37 _ _ ?_)
   clear k37 K37
   refine W_keepB [22] fun B_ b_ => ?_
   simp only [e_, Nat.reduceAdd, Nat.reduceBEq] at b_
   subst b_
   refine W_cond rfl (fun hc39_ => ?_) (fun hc39_ => ?_)
   ·
    replace h := h.1 hc39_
    refine W_seq_k fun K40 k40 => ?_
    refine W_region [4] rfl (Ops_step (R_assign rfl) rfl rfl ?_)
    refine Ops_nil ?_
    refine then_n (k40 _ _ ?_)
    clear k40 K40
    refine W_ret ?_
    refine then_ret ?_
    clear k36 K36
    refine ⟨_, ⟨_, _, rfl, rfl, rfl⟩, ?_⟩
    exact ⟨50, y35_o0, A35_o0_1, c35_o0_1, A35_o0_2, c35_o0_2, A35_o0_3, c35_o0_3, _, _, rfl, hI, ht35_o0, hc35_o0_1, hs35_o0_1, hc35_o0_2, hs35_o0_2, hc35_o0_3, hs35_o0_3, h⟩
   ·
    replace h := h.2 hc39_
    refine W_skip ?_
    refine then_n (k36 _ _ ?_)
    clear k36 K36
    refine W_seq_k fun K41 k41 => ?_
    refine W_region [4] rfl (Ops_step (R_assign rfl) rfl rfl ?_)
    refine Ops_nil ?_
    refine then_n (k41 _ _ ?_)
    clear k41 K41
    refine W_ret ?_
    refine ⟨_, ⟨_, _, rfl, rfl, rfl⟩, ?_⟩
    exact ⟨0, y35_o0, A35_o0_1, c35_o0_1, A35_o0_2, c35_o0_2, A35_o0_3, c35_o0_3, _, _, rfl, hI, ht35_o0, hc35_o0_1, hs35_o0_1, hc35_o0_2, hs35_o0_2, hc35_o0_3, hs35_o0_3, h⟩

theorem sealskinref06_block_ok {G : Gh} {w : World} (hS : St G w) (hg : GL G) {A0 : Option Addr} {c0 : Nat} {x0 : List UInt8} (hc0 : x0.length ≤ c0) (hs0 : Sl G A0 x0) {Q : (List UInt8) → Prop} (h : sealskinref06_block x0 Q) : Calls Try.prog 76 #[.slice A0 x0.length c0] w fun e w2 => ∃ (A0 : Option Addr) (c0 : Nat) (r0 : List UInt8) (L H : Gh), e = .returned (.slice A0 r0.length c0) ∧ Inv [] G w L H w2 ∧ OwnS w.heap.size 5 L H w2 A0 c0 r0 ∧ Q r0 := by
 unfold sealskinref06_block at h
 have hI := Inv.start (M := []) hS
 refine calls_W 11 Try.func76 rfl Try.ntmps76 rfl [.tmp 2] rfl ?_
 refine W_seq_k fun K1 k1 => ?_
 refine W_region [2] rfl (Ops_step (R_assign rfl) rfl rfl ?_)
 refine Ops_nil ?_
 refine then_n (k1 _ _ ?_)
 clear k1 K1
 refine W_seq_k fun K2 k2 => ?_
 refine W_region [6, 7, 5, 8, 9, 3, 4] rfl (Ops_step (R_move rfl) rfl rfl ?_)
 refine Ops_call (C_func bd87 rfl) rfl rfl ?_
 refine (sealskinref02_Seal_ok (x0 := x0) hI.st (hg.up hI.le) hc0 hs0 h).mono ?_
 rintro _ w3_ ⟨A3_0, c3_0, r3_0, r3_1, L3_, H3_, rfl, hI3_, ho3_0, h⟩
 refine Exists.elim (hI.call hI3_ (by simp)) fun L30_ h3_ => ?_
 have hz3_ := hI.size
 replace hI := h3_.1
 have u3_ := h3_.2.1
 have hl3_ := h3_.2.2
 clear h3_
 replace ho3_0 := OwnS.backS ho3_0 hz3_ (Le.refl _)
 clear hI3_ u3_ hl3_
 refine ⟨_, rfl, ?_⟩
 refine Ops_step (R_move rfl) rfl rfl ?_
 refine Ops_step (R_extract (v := .slice A3_0 r3_0.length c3_0) rfl rfl) rfl rfl ?_
 refine Ops_step (R_extract (v := vi r3_1) rfl rfl) rfl rfl ?_
 refine Ops_step (R_assign rfl) rfl rfl (Ops_step (R_assign rfl) rfl rfl ?_)
 refine Ops_nil ?_
 refine then_n (k2 _ _ ?_)
 clear k2 K2
 refine W_keepB [3] fun B_ b_ => ?_
 simp only [e_, Nat.reduceAdd, Nat.reduceBEq] at b_
 subst b_
 refine W_seq_k fun K5 k5 => ?_
 refine W_region [10, 2] rfl (Ops_step (R_move rfl) rfl rfl (Ops_step (R_assign rfl) rfl rfl ?_))
 refine Ops_nil ?_
 refine then_n (k5 _ _ ?_)
 clear k5 K5
 refine W_ret ?_
 refine ⟨_, ⟨_, _, rfl, rfl, rfl⟩, ?_⟩
 exact ⟨A3_0, c3_0, r3_0, _, _, rfl, hI, (ho3_0.hl (Le.no _)), h⟩

theorem sealskinref06_Head_ok {G : Gh} {w : World} (hS : St G w) (hg : GL G) {x0 : Int} {x1 : Int} {Q : (List UInt8) → Prop} (h : sealskinref06_Head x0 x1 Q) : Calls Try.prog 61 #[vi x0, vi x1] w fun e w2 => ∃ (A0 : Option Addr) (c0 : Nat) (r0 : List UInt8) (L H : Gh), e = .returned (.slice A0 r0.length c0) ∧ Inv [] G w L H w2 ∧ OwnS w.heap.size 5 L H w2 A0 c0 r0 ∧ Q r0 := by
 unfold sealskinref06_Head at h
 have hI := Inv.start (M := []) hS
 refine calls_W 10 Try.func61 rfl Try.ntmps61 rfl [.tmp 4] rfl ?_
 refine W_seq_k fun K1 k1 => ?_
 refine W_region [4] rfl (Ops_step (R_assign rfl) rfl rfl ?_)
 refine Ops_nil ?_
 refine then_n (k1 _ _ ?_)
 clear k1 K1
 refine W_seq_k fun K2 k2 => ?_
 refine W_region [5, 6, 7, 8, 9, 4] rfl (Ops_step (R_move rfl) rfl rfl (Ops_step (R_move rfl) rfl rfl ?_))
 refine Ops_to (R_buildSlice el116 zr3 (by decide) (by decide) rfl rfl) rfl rfl ?_
 rintro _ w3_ ⟨b3_, rfl, hb3_, hB3_, hF3_⟩
 have ho3_ : OwnS w.heap.size 3 Gh.no G _ (some ⟨b3_, 0, none⟩) 2 ([x0, x1] : List Int) := OwnS.ofBlk hI.st hb3_ hB3_ (all2_sc' _) rfl (by have := hI.size; omega) (by show 2 ≤ maxLen; decide)
 replace hI := hI.fr0 hF3_
 clear hF3_ hB3_
 refine Exists.elim (ho3_.lend hI.st (Le.no _)) fun Hb4_0_ hb4_0_ => ?_
 refine Ops_call (C_func bd77 rfl) rfl rfl ?_
 refine (sealskinref02_Put_ok (x0 := []) (x1 := ([x0, x1] : List Int)) hb4_0_.1 (hg.up (hI.le.trans hb4_0_.2.1)) (Nat.le_refl 0) Sl.nil (Nat.le_refl _) hb4_0_.2.2 h).mono ?_
 rintro _ w4_ ⟨A4_0, c4_0, r4_0, L4_, H4_, rfl, hI4_, ho4_0, h⟩
 refine Exists.elim (hI.callB hb4_0_.2.1 hI4_ (by simp)) fun L40_ h4_ => Exists.elim h4_ fun H40_ h4_ => ?_
 have hz4_ := hI.size
 replace hI := h4_.1
 have u4_ := h4_.2.1
 have hl4_ := h4_.2.2.1
 have hh4_ := h4_.2.2.2
 clear h4_
 replace ho4_0 := OwnS.backS ho4_0 hz4_ hh4_
 clear hI4_ u4_ hl4_
 refine ⟨_, rfl, ?_⟩
 refine Exists.elim (ho4_0.freeze hI) fun L5_ h5_ => Exists.elim h5_ fun H5_ h5_ => ?_
 replace hI := h5_.1
 have u5_ := h5_.2.1
 have hs5_ := h5_.2.2.1 (Le.no _)
 have hc5_ := ho4_0.cap
 clear h5_ u5_ ho4_0
 refine Ops_call (C_func bd76 rfl) rfl rfl ?_
 refine (sealskinref06_block_ok (x0 := r4_0) hI.st (hg.up hI.le) hc5_ (hs5_.up hI.sub) h).mono ?_
 rintro _ w6_ ⟨A6_0, c6_0, r6_0, L6_, H6_, rfl, hI6_, ho6_0, h⟩
 refine Exists.elim (hI.call hI6_ (by simp)) fun L60_ h6_ => ?_
 have hz6_ := hI.size
 replace hI := h6_.1
 have u6_ := h6_.2.1
 have hl6_ := h6_.2.2
 clear h6_
 replace ho6_0 := OwnS.backS ho6_0 hz6_ (Le.refl _)
 clear hI6_ u6_ hl6_
 refine ⟨_, rfl, ?_⟩
 refine Ops_step (R_assign rfl) rfl rfl ?_
 refine Ops_nil ?_
 refine then_n (k2 _ _ ?_)
 clear k2 K2
 refine W_keepB [4] fun B_ b_ => ?_
 simp only [e_, Nat.reduceAdd, Nat.reduceBEq] at b_
 subst b_
 refine W_ret ?_
 refine ⟨_, ⟨_, _, rfl, rfl, rfl⟩, ?_⟩
 exact ⟨A6_0, c6_0, r6_0, _, _, rfl, hI, (ho6_0.hl (Le.no _)), h⟩

theorem sealskinref06_Tell_ok {G : Gh} {w : World} (hS : St G w) (hg : GL G) {x0 : Int} {l1 : List Value} {x1 : sealskinref06_Record} (hr1 : Rp.cs G x1 l1) {Q : (List UInt8) → Prop} (h : sealskinref06_Tell x0 x1 Q) : Calls Try.prog 62 #[vi x0, .agg l1.toArray] w fun e w2 => ∃ (A0 : Option Addr) (c0 : Nat) (r0 : List UInt8) (L H : Gh), e = .returned (.slice A0 r0.length c0) ∧ Inv [] G w L H w2 ∧ OwnS w.heap.size 5 L H w2 A0 c0 r0 ∧ Q r0 := by
 unfold sealskinref06_Tell at h
 have hI := Inv.start (M := []) hS
 refine calls_W 15 Try.func62 rfl Try.ntmps62 rfl [.tmp 4] rfl ?_
 replace hr1 : l1 = [vi x1.Label_, vs x1.Data_] := hr1
 subst hr1
 refine W_seq_k fun K1 k1 => ?_
 refine W_region [3, 4] rfl ?_
 have hI0_ := hI
 refine Ops_to (R_box rfl) rfl rfl ?_
 rintro _ w2_ ⟨b2_, rfl, hb2_, hB2_, hF2_⟩
 replace hI := hI.fr0 hF2_
 have ht2_ : Tok G _ b2_ 39 ([vi x1.Label_, vs x1.Data_]) := ⟨hB2_.to rfl, Out.ge hI0_.st (Nat.le_of_eq hb2_.symm)⟩
 have hge_b2_ : w.heap.size ≤ b2_ := hb2_ ▸ hI0_.size
 clear hB2_ hb2_ hI0_ hF2_
 refine Ops_step (R_assign rfl) rfl rfl ?_
 refine Ops_nil ?_
 refine then_n (k1 _ _ ?_)
 clear k1 K1
 refine W_seq_k fun K3 k3 => ?_
 refine W_drawS [5, 6, 7, 8, 9, 10, 11, 12, 13, 14, 4] (.q 0 (.q 1 (.q 2 (.q 5 (.q 6 (.two 3 (.two 4 (.l 7 (.l 8 (.l 9 (.q 10 .done)))) 7 (.l 4 (.l 8 (.l 9 (.q 10 .done))))) 7 (.l 3 (.l 4 (.l 8 (.l 9 (.q 10 .done))))))))))) TJtI.hm rfl (by kernel_rfl) fun ops4_ w4_ hops4_ hF4_ => ?_
 replace hI := hI.fr0 hF4_
 replace ht2_ := ht2_.fr0 hF4_
 clear hF4_
 refine HSp (R_move rfl) rfl rfl (HSp (R_fieldAddr fo39_0 rfl) rfl rfl ?_)
 refine HS_loadB (v := vi x1.Label_) ag3 rfl ht2_.blk rfl rfl rfl ?_
 refine HSp (R_fieldAddr fo39_1 rfl) rfl rfl ?_
 refine HS_loadB (v := vs x1.Data_) ag9 rfl ht2_.blk rfl rfl rfl ?_
 refine HS_two ?_ ?_
 ·
  replace h := h.1
  refine Stp_to [6] _ rfl (by rw [hops4_]; kernel_rfl) (R_buildSlice el116 zr3 (by decide) (by decide) rfl rfl) rfl rfl ?_
  rintro _ w5_ ⟨b5_, rfl, hb5_, hB5_, hF5_⟩
  have ho5_ : OwnS w.heap.size 3 Gh.no G _ (some ⟨b5_, 0, none⟩) 2 ([x0, x1.Label_] : List Int) := OwnS.ofBlk hI.st hb5_ hB5_ (all2_sc' _) rfl (by have := hI.size; omega) (by show 2 ≤ maxLen; decide)
  replace hI := hI.fr0 hF5_
  replace ht2_ := ht2_.fr0 hF5_
  clear hF5_ hB5_
  refine ⟨⟨(ht2_.blk.at_ rfl), trivial⟩, ?_⟩
  refine HS_two ?_ ?_
  ·
   replace h := h.1
   refine Exists.elim (ho5_.lend hI.st (Le.no _)) fun Hb6_0_ hb6_0_ => ?_
   refine Stp_call [6] _ rfl (by rw [hops4_]; kernel_rfl) (C_func bd77 rfl) rfl rfl ?_
   refine (sealskinref02_Put_ok (x0 := []) (x1 := ([x0, x1.Label_] : List Int)) hb6_0_.1 (hg.up (hI.le.trans hb6_0_.2.1)) (Nat.le_refl 0) Sl.nil (Nat.le_refl _) hb6_0_.2.2 h).mono ?_
   rintro _ w6_ ⟨A6_0, c6_0, r6_0, L6_, H6_, rfl, hI6_, ho6_0, h⟩
   refine Exists.elim (hI.callB hb6_0_.2.1 hI6_ (by simp)) fun L60_ h6_ => Exists.elim h6_ fun H60_ h6_ => ?_
   have hz6_ := hI.size
   replace hI := h6_.1
   have u6_ := h6_.2.1
   have hl6_ := h6_.2.2.1
   have hh6_ := h6_.2.2.2
   clear h6_
   replace ht2_ := ht2_.up u6_ (by simp)
   replace ho6_0 := OwnS.backS ho6_0 hz6_ hh6_
   clear hI6_ u6_ hl6_
   refine ⟨_, rfl, ⟨(ht2_.blk.at_ rfl), trivial⟩, ?_⟩
   refine Exists.elim (ho6_0.freeze hI) fun L7_ h7_ => Exists.elim h7_ fun H7_ h7_ => ?_
   replace hI := h7_.1
   have u7_ := h7_.2.1
   have hs7_ := h7_.2.2.1 (Le.no _)
   have hc7_ := ho6_0.cap
   replace ht2_ := ht2_.up u7_ (ht2_.sep ho6_0 (by decide))
   clear h7_ u7_ ho6_0
   refine HS_to [] _ rfl (by rw [hops4_]; kernel_rfl) (X_strBytes (s := x1.Data_) Try.underlying9 Try.underlying29 Try.underlying5 rfl) rfl rfl ?_
   rintro _ w8_ ⟨A8_, c8_, rfl, hc8_, hR8_, hn8_, hF8_⟩
   refine Exists.elim (Inv.newRd hI hF8_ hR8_ hn8_) fun L8_ h8_ => Exists.elim h8_ fun H8_ h8_ => ?_
   replace hI := h8_.1
   have u8_ := h8_.2.1
   have hs8_ := h8_.2.2
   replace ht2_ := ht2_.up u8_ (by simp)
   replace hs7_ := hs7_.up u8_.ll
   clear h8_ u8_ hR8_ hn8_ hF8_
   refine ⟨trivial, ?_⟩
   refine HS_call [] _ rfl (by rw [hops4_]; kernel_rfl) (C_func bd78 rfl) rfl rfl ?_
   refine (sealskinref02_PutBytes_ok (x0 := r6_0) (x1 := x1.Data_.b) hI.st (hg.up hI.le) hc7_ (hs7_.up hI.sub) hc8_ (hs8_.up hI.sub) h).mono ?_
   rintro _ w9_ ⟨A9_0, c9_0, r9_0, L9_, H9_, rfl, hI9_, ho9_0, h⟩
   refine Exists.elim (hI.call hI9_ (by simp)) fun L90_ h9_ => ?_
   have hz9_ := hI.size
   replace hI := h9_.1
   have u9_ := h9_.2.1
   have hl9_ := h9_.2.2
   clear h9_
   replace ho9_0 := OwnS.backS ho9_0 hz9_ (Le.refl _)
   clear hI9_ u9_ hl9_
   refine ⟨_, rfl, trivial, ?_⟩
   refine Exists.elim (ho9_0.freeze hI) fun L10_ h10_ => Exists.elim h10_ fun H10_ h10_ => ?_
   replace hI := h10_.1
   have u10_ := h10_.2.1
   have hs10_ := h10_.2.2.1 (Le.no _)
   have hc10_ := ho9_0.cap
   clear h10_ u10_ ho9_0
   refine HS_call [] _ rfl (by rw [hops4_]; kernel_rfl) (C_func bd76 rfl) rfl rfl ?_
   refine (sealskinref06_block_ok (x0 := r9_0) hI.st (hg.up hI.le) hc10_ (hs10_.up hI.sub) h).mono ?_
   rintro _ w11_ ⟨A11_0, c11_0, r11_0, L11_, H11_, rfl, hI11_, ho11_0, h⟩
   refine Exists.elim (hI.call hI11_ (by simp)) fun L110_ h11_ => ?_
   have hz11_ := hI.size
   replace hI := h11_.1
   have u11_ := h11_.2.1
   have hl11_ := h11_.2.2
   clear h11_
   replace ho11_0 := OwnS.backS ho11_0 hz11_ (Le.refl _)
   clear hI11_ u11_ hl11_
   refine ⟨_, rfl, trivial, ?_⟩
   refine HSp (R_assign rfl) rfl rfl ?_
   refine HS_nil ?_
   clear hops4_
   refine then_n (k3 _ _ ?_)
   clear k3 K3
   refine W_keepB [4] fun B_ b_ => ?_
   simp only [e_, Nat.reduceAdd, Nat.reduceBEq] at b_
   subst b_
   refine W_ret ?_
   refine ⟨_, ⟨_, _, rfl, rfl, rfl⟩, ?_⟩
   exact ⟨A11_0, c11_0, r11_0, _, _, rfl, hI, (ho11_0.hl (Le.no _)), h⟩
  ·
   replace h := h.2
   refine Stp_to [] _ rfl (by rw [hops4_]; kernel_rfl) (X_strBytes (s := x1.Data_) Try.underlying9 Try.underlying29 Try.underlying5 rfl) rfl rfl ?_
   rintro _ w6_ ⟨A6_, c6_, rfl, hc6_, hR6_, hn6_, hF6_⟩
   refine Exists.elim (Inv.newRd hI hF6_ hR6_ hn6_) fun L6_ h6_ => Exists.elim h6_ fun H6_ h6_ => ?_
   replace hI := h6_.1
   have u6_ := h6_.2.1
   have hs6_ := h6_.2.2
   replace ht2_ := ht2_.up u6_ (by simp)
   replace ho5_ := ho5_.up (Le.refl _) u6_ (by simp)
   clear h6_ u6_ hR6_ hn6_ hF6_
   refine ⟨trivial, ?_⟩
   refine Exists.elim (ho5_.lend hI.st (Le.no _)) fun Hb7_0_ hb7_0_ => ?_
   refine HS_call [] _ rfl (by rw [hops4_]; kernel_rfl) (C_func bd77 rfl) rfl rfl ?_
   refine (sealskinref02_Put_ok (x0 := []) (x1 := ([x0, x1.Label_] : List Int)) hb7_0_.1 (hg.up (hI.le.trans hb7_0_.2.1)) (Nat.le_refl 0) Sl.nil (Nat.le_refl _) hb7_0_.2.2 h).mono ?_
   rintro _ w7_ ⟨A7_0, c7_0, r7_0, L7_, H7_, rfl, hI7_, ho7_0, h⟩
   refine Exists.elim (hI.callB hb7_0_.2.1 hI7_ (by simp)) fun L70_ h7_ => Exists.elim h7_ fun H70_ h7_ => ?_
   have hz7_ := hI.size
   replace hI := h7_.1
   have u7_ := h7_.2.1
   have hl7_ := h7_.2.2.1
   have hh7_ := h7_.2.2.2
   clear h7_
   replace hs6_ := hs6_.up u7_.ll
   replace ho7_0 := OwnS.backS ho7_0 hz7_ hh7_
   clear hI7_ u7_ hl7_
   refine ⟨_, rfl, trivial, ?_⟩
   refine Exists.elim (ho7_0.freeze hI) fun L8_ h8_ => Exists.elim h8_ fun H8_ h8_ => ?_
   replace hI := h8_.1
   have u8_ := h8_.2.1
   have hs8_ := h8_.2.2.1 (Le.no _)
   have hc8_ := ho7_0.cap
   replace hs6_ := hs6_.up u8_.ll
   clear h8_ u8_ ho7_0
   refine HS_call [] _ rfl (by rw [hops4_]; kernel_rfl) (C_func bd78 rfl) rfl rfl ?_
   refine (sealskinref02_PutBytes_ok (x0 := r7_0) (x1 := x1.Data_.b) hI.st (hg.up hI.le) hc8_ (hs8_.up hI.sub) hc6_ (hs6_.up hI.sub) h).mono ?_
   rintro _ w9_ ⟨A9_0, c9_0, r9_0, L9_, H9_, rfl, hI9_, ho9_0, h⟩
   refine Exists.elim (hI.call hI9_ (by simp)) fun L90_ h9_ => ?_
   have hz9_ := hI.size
   replace hI := h9_.1
   have u9_ := h9_.2.1
   have hl9_ := h9_.2.2
   clear h9_
   replace ho9_0 := OwnS.backS ho9_0 hz9_ (Le.refl _)
   clear hI9_ u9_ hl9_
   refine ⟨_, rfl, trivial, ?_⟩
   refine Exists.elim (ho9_0.freeze hI) fun L10_ h10_ => Exists.elim h10_ fun H10_ h10_ => ?_
   replace hI := h10_.1
   have u10_ := h10_.2.1
   have hs10_ := h10_.2.2.1 (Le.no _)
   have hc10_ := ho9_0.cap
   clear h10_ u10_ ho9_0
   refine HS_call [] _ rfl (by rw [hops4_]; kernel_rfl) (C_func bd76 rfl) rfl rfl ?_
   refine (sealskinref06_block_ok (x0 := r9_0) hI.st (hg.up hI.le) hc10_ (hs10_.up hI.sub) h).mono ?_
   rintro _ w11_ ⟨A11_0, c11_0, r11_0, L11_, H11_, rfl, hI11_, ho11_0, h⟩
   refine Exists.elim (hI.call hI11_ (by simp)) fun L110_ h11_ => ?_
   have hz11_ := hI.size
   replace hI := h11_.1
   have u11_ := h11_.2.1
   have hl11_ := h11_.2.2
   clear h11_
   replace ho11_0 := OwnS.backS ho11_0 hz11_ (Le.refl _)
   clear hI11_ u11_ hl11_
   refine ⟨_, rfl, trivial, ?_⟩
   refine HSp (R_assign rfl) rfl rfl ?_
   refine HS_nil ?_
   clear hops4_
   refine then_n (k3 _ _ ?_)
   clear k3 K3
   refine W_keepB [4] fun B_ b_ => ?_
   simp only [e_, Nat.reduceAdd, Nat.reduceBEq] at b_
   subst b_
   refine W_ret ?_
   refine ⟨_, ⟨_, _, rfl, rfl, rfl⟩, ?_⟩
   exact ⟨A11_0, c11_0, r11_0, _, _, rfl, hI, (ho11_0.hl (Le.no _)), h⟩
 ·
  replace h := h.2
  refine Stp_to [2] _ rfl (by rw [hops4_]; kernel_rfl) (X_strBytes (s := x1.Data_) Try.underlying9 Try.underlying29 Try.underlying5 rfl) rfl rfl ?_
  rintro _ w5_ ⟨A5_, c5_, rfl, hc5_, hR5_, hn5_, hF5_⟩
  refine Exists.elim (Inv.newRd hI hF5_ hR5_ hn5_) fun L5_ h5_ => Exists.elim h5_ fun H5_ h5_ => ?_
  replace hI := h5_.1
  have u5_ := h5_.2.1
  have hs5_ := h5_.2.2
  replace ht2_ := ht2_.up u5_ (by simp)
  clear h5_ u5_ hR5_ hn5_ hF5_
  refine ⟨⟨(ht2_.blk.at_ rfl), trivial⟩, ?_⟩
  refine HS_to [] _ rfl (by rw [hops4_]; kernel_rfl) (R_buildSlice el116 zr3 (by decide) (by decide) rfl rfl) rfl rfl ?_
  rintro _ w6_ ⟨b6_, rfl, hb6_, hB6_, hF6_⟩
  have ho6_ : OwnS w.heap.size 3 Gh.no H5_ _ (some ⟨b6_, 0, none⟩) 2 ([x0, x1.Label_] : List Int) := OwnS.ofBlk hI.st hb6_ hB6_ (all2_sc' _) rfl (by have := hI.size; omega) (by show 2 ≤ maxLen; decide)
  replace hI := hI.fr0 hF6_
  replace ht2_ := ht2_.fr0 hF6_
  clear hF6_ hB6_
  refine ⟨trivial, ?_⟩
  refine Exists.elim (ho6_.lend hI.st (Le.no _)) fun Hb7_0_ hb7_0_ => ?_
  refine HS_call [] _ rfl (by rw [hops4_]; kernel_rfl) (C_func bd77 rfl) rfl rfl ?_
  refine (sealskinref02_Put_ok (x0 := []) (x1 := ([x0, x1.Label_] : List Int)) hb7_0_.1 (hg.up (hI.le.trans hb7_0_.2.1)) (Nat.le_refl 0) Sl.nil (Nat.le_refl _) hb7_0_.2.2 h).mono ?_
  rintro _ w7_ ⟨A7_0, c7_0, r7_0, L7_, H7_, rfl, hI7_, ho7_0, h⟩
  refine Exists.elim (hI.callB hb7_0_.2.1 hI7_ (by simp)) fun L70_ h7_ => Exists.elim h7_ fun H70_ h7_ => ?_
  have hz7_ := hI.size
  replace hI := h7_.1
  have u7_ := h7_.2.1
  have hl7_ := h7_.2.2.1
  have hh7_ := h7_.2.2.2
  clear h7_
  replace hs5_ := hs5_.up u7_.ll
  replace ho7_0 := OwnS.backS ho7_0 hz7_ hh7_
  clear hI7_ u7_ hl7_
  refine ⟨_, rfl, trivial, ?_⟩
  refine Exists.elim (ho7_0.freeze hI) fun L8_ h8_ => Exists.elim h8_ fun H8_ h8_ => ?_
  replace hI := h8_.1
  have u8_ := h8_.2.1
  have hs8_ := h8_.2.2.1 (Le.no _)
  have hc8_ := ho7_0.cap
  replace hs5_ := hs5_.up u8_.ll
  clear h8_ u8_ ho7_0
  refine HS_call [] _ rfl (by rw [hops4_]; kernel_rfl) (C_func bd78 rfl) rfl rfl ?_
  refine (sealskinref02_PutBytes_ok (x0 := r7_0) (x1 := x1.Data_.b) hI.st (hg.up hI.le) hc8_ (hs8_.up hI.sub) hc5_ (hs5_.up hI.sub) h).mono ?_
  rintro _ w9_ ⟨A9_0, c9_0, r9_0, L9_, H9_, rfl, hI9_, ho9_0, h⟩
  refine Exists.elim (hI.call hI9_ (by simp)) fun L90_ h9_ => ?_
  have hz9_ := hI.size
  replace hI := h9_.1
  have u9_ := h9_.2.1
  have hl9_ := h9_.2.2
  clear h9_
  replace ho9_0 := OwnS.backS ho9_0 hz9_ (Le.refl _)
  clear hI9_ u9_ hl9_
  refine ⟨_, rfl, trivial, ?_⟩
  refine Exists.elim (ho9_0.freeze hI) fun L10_ h10_ => Exists.elim h10_ fun H10_ h10_ => ?_
  replace hI := h10_.1
  have u10_ := h10_.2.1
  have hs10_ := h10_.2.2.1 (Le.no _)
  have hc10_ := ho9_0.cap
  clear h10_ u10_ ho9_0
  refine HS_call [] _ rfl (by rw [hops4_]; kernel_rfl) (C_func bd76 rfl) rfl rfl ?_
  refine (sealskinref06_block_ok (x0 := r9_0) hI.st (hg.up hI.le) hc10_ (hs10_.up hI.sub) h).mono ?_
  rintro _ w11_ ⟨A11_0, c11_0, r11_0, L11_, H11_, rfl, hI11_, ho11_0, h⟩
  refine Exists.elim (hI.call hI11_ (by simp)) fun L110_ h11_ => ?_
  have hz11_ := hI.size
  replace hI := h11_.1
  have u11_ := h11_.2.1
  have hl11_ := h11_.2.2
  clear h11_
  replace ho11_0 := OwnS.backS ho11_0 hz11_ (Le.refl _)
  clear hI11_ u11_ hl11_
  refine ⟨_, rfl, trivial, ?_⟩
  refine HSp (R_assign rfl) rfl rfl ?_
  refine HS_nil ?_
  clear hops4_
  refine then_n (k3 _ _ ?_)
  clear k3 K3
  refine W_keepB [4] fun B_ b_ => ?_
  simp only [e_, Nat.reduceAdd, Nat.reduceBEq] at b_
  subst b_
  refine W_ret ?_
  refine ⟨_, ⟨_, _, rfl, rfl, rfl⟩, ?_⟩
  exact ⟨A11_0, c11_0, r11_0, _, _, rfl, hI, (ho11_0.hl (Le.no _)), h⟩

theorem sealskinref06_Journal_Check_ok {G : Gh} {w : World} (hS : St G w) (hg : GL G) {d0 : Nat} {z0 : sealskinref06_Journal} {Ad0_1 : Option Addr} {cd0_1 : Nat} {d1 : Nat} {z1 : sealskinref05_Disk} {Ad1_1 : Option Addr} {cd1_1 : Nat} {Ad1_2 : Option Addr} {cd1_2 : Nat} {Ad1_3 : Option Addr} {cd1_3 : Nat} (htd1 : Tok G w d1 81 ([.slice Ad1_1 z1.F_.e0_.length cd1_1, .slice Ad1_2 z1.F_.e1_.length cd1_2, .slice Ad1_3 z1.F_.e2_.length cd1_3, vi z1.Room_, .bool z1.Off_, vi z1.Fuse_])) (hcd1_1 : z1.F_.e0_.length ≤ cd1_1) (hsd1_1 : Sl G Ad1_1 z1.F_.e0_) (hcd1_2 : z1.F_.e1_.length ≤ cd1_2) (hsd1_2 : Sl G Ad1_2 z1.F_.e1_) (hcd1_3 : z1.F_.e2_.length ≤ cd1_3) (hsd1_3 : Sl G Ad1_3 z1.F_.e2_) (htd0 : Tok G w d0 73 ([.slice Ad0_1 z0.L_.length cd0_1, .pointer (some ⟨d1, 0, none⟩), vi z0.Gen_, vi z0.File_])) (hcd0_1 : z0.L_.length ≤ cd0_1) (hsd0_1 : Sl G Ad0_1 z0.L_) {Q : Int → sealskinref06_Journal → sealskinref05_Disk → Prop} (h : sealskinref06_Journal_Check z0 z1 Q) : Calls Try.prog 33 #[.pointer (some ⟨d0, 0, none⟩)] w fun e w2 => ∃ (r0 : Int) (y0 : sealskinref06_Journal) (Ay0_1 : Option Addr) (cy0_1 : Nat) (y1 : sealskinref05_Disk) (Ay1_1 : Option Addr) (cy1_1 : Nat) (Ay1_2 : Option Addr) (cy1_2 : Nat) (Ay1_3 : Option Addr) (cy1_3 : Nat) (L H : Gh), e = .returned (vi r0) ∧ Inv [d0, d1] G w L H w2 ∧ Tok H w2 d0 73 ([.slice Ay0_1 y0.L_.length cy0_1, .pointer (some ⟨d1, 0, none⟩), vi y0.Gen_, vi y0.File_]) ∧ y0.L_.length ≤ cy0_1 ∧ Sl H Ay0_1 y0.L_ ∧ Tok H w2 d1 81 ([.slice Ay1_1 y1.F_.e0_.length cy1_1, .slice Ay1_2 y1.F_.e1_.length cy1_2, .slice Ay1_3 y1.F_.e2_.length cy1_3, vi y1.Room_, .bool y1.Off_, vi y1.Fuse_]) ∧ y1.F_.e0_.length ≤ cy1_1 ∧ Sl H Ay1_1 y1.F_.e0_ ∧ y1.F_.e1_.length ≤ cy1_2 ∧ Sl H Ay1_2 y1.F_.e1_ ∧ y1.F_.e2_.length ≤ cy1_3 ∧ Sl H Ay1_3 y1.F_.e2_ ∧ Q r0 y0 y1 := by
 unfold sealskinref06_Journal_Check at h
 have hI := Inv.start (M := [d0, d1]) hS
 refine calls_W 100 Try.func33 rfl Try.ntmps33 rfl [.tmp 2] rfl ?_
 have hlt_d0 := htd0.blk.lt
 have hlt_d1 := htd1.blk.lt
 refine W_seq_k fun K1 k1 => ?_
 refine W_region [2] rfl (Ops_step (R_assign rfl) rfl rfl ?_)
 refine Ops_nil ?_
 refine then_n (k1 _ _ ?_)
 clear k1 K1
 refine W_seq_k fun K2 k2 => ?_
 refine W_seq_k fun K3 k3 => ?_
 refine W_region [10, 11, 12, 13, 14] rfl (Ops_step (R_move rfl) rfl rfl (Ops_step (R_nilCheck rfl) rfl rfl (Ops_step (R_fieldAddr fo73_2 rfl) rfl rfl ?_)))
 refine Ops_step (R_loadB (v := vi z0.Gen_) ag3 rfl htd0.blk rfl) rfl rfl ?_
 refine Ops_step (R_eql rfl rfl) rfl rfl ?_
 refine Ops_nil ?_
 refine then_n (k3 _ _ ?_)
 clear k3 K3
 refine W_if rfl (fun hc4_ => ?_) (fun hc4_ => ?_)
 ·
  replace h := h.1 hc4_
  refine W_seq_k fun K5 k5 => ?_
  refine W_region [2] rfl (Ops_step (R_assign rfl) rfl rfl ?_)
  refine Ops_nil ?_
  refine then_n (k5 _ _ ?_)
  clear k5 K5
  refine W_keepB [2] fun B_ b_ => ?_
  simp only [e_, Nat.reduceAdd, Nat.reduceBEq] at b_
  subst b_
  refine W_ret ?_
  refine then_ret ?_
  clear k2 K2
  refine ⟨_, ⟨_, _, rfl, rfl, rfl⟩, ?_⟩
  exact ⟨5, z0, Ad0_1, cd0_1, z1, Ad1_1, cd1_1, Ad1_2, cd1_2, Ad1_3, cd1_3, _, _, rfl, hI, htd0, hcd0_1, hsd0_1, htd1, hcd1_1, hsd1_1, hcd1_2, hsd1_2, hcd1_3, hsd1_3, h⟩
 ·
  replace h := h.2 hc4_
  refine W_skip ?_
  refine then_n (k2 _ _ ?_)
  clear k2 K2
  refine W_keepB [0] fun B_ b_ => ?_
  simp only [e_, Nat.reduceAdd, Nat.reduceBEq] at b_
  subst b_
  refine W_seq_k fun K8 k8 => ?_
  refine W_region [3] rfl (Ops_step (R_assign rfl) rfl rfl ?_)
  refine Ops_nil ?_
  refine then_n (k8 _ _ ?_)
  clear k8 K8
  refine ex_ h fun J9_ hr9_ h => ?_
  refine W_seq_join [0] [3] (fun vals_ w2 => ∃ (x3_9 : Int) (L H : Gh), vals_ = [vi x3_9] ∧ J9_ x3_9 ∧ Inv [d0, d1] G w L H w2 ∧ Le Gh.no L ∧ Le G H ∧ Tok H w2 d1 81 ([.slice Ad1_1 z1.F_.e0_.length cd1_1, .slice Ad1_2 z1.F_.e1_.length cd1_2, .slice Ad1_3 z1.F_.e2_.length cd1_3, vi z1.Room_, .bool z1.Off_, vi z1.Fuse_]) ∧ Tok H w2 d0 73 ([.slice Ad0_1 z0.L_.length cd0_1, .pointer (some ⟨d1, 0, none⟩), vi z0.Gen_, vi z0.File_]) ∧ True) (fun B_ b_ => ?_) (fun B_ b_ => ?_)
  ·
   simp only [e_, Nat.reduceAdd, Nat.reduceBEq] at b_
   subst b_
   clear hr9_
   have hll9_ := Le.refl Gh.no
   have hhh9_ := Le.refl G
   refine W_seq_k fun K10 k10 => ?_
   refine W_region [15, 16, 17, 18, 19] rfl (Ops_step (R_move rfl) rfl rfl (Ops_step (R_nilCheck rfl) rfl rfl (Ops_step (R_fieldAddr fo73_3 rfl) rfl rfl ?_)))
   refine Ops_step (R_loadB (v := vi z0.File_) ag3 rfl htd0.blk rfl) rfl rfl ?_
   refine Ops_step (R_eql rfl rfl) rfl rfl ?_
   refine Ops_nil ?_
   refine then_n (k10 _ _ ?_)
   clear k10 K10
   refine W_if rfl (fun hc11_ => ?_) (fun hc11_ => ?_)
   ·
    replace h := h.1 hc11_
    refine W_region [3] rfl (Ops_step (R_assign rfl) rfl rfl ?_)
    refine Ops_nil ?_
    refine then_n ?_
    exact ⟨_, rfl, ⟨2, _, _, rfl, h, hI, hll9_, hhh9_, htd1, htd0, trivial⟩, ⟨rfl, trivial⟩⟩
   ·
    replace h := h.2 hc11_
    refine W_skip ?_
    refine then_n ?_
    exact ⟨_, rfl, ⟨1, _, _, rfl, h, hI, hll9_, hhh9_, htd1, htd0, trivial⟩, ⟨rfl, trivial⟩⟩
  ·
   simp only [e_, Nat.reduceAdd, Nat.reduceBEq] at b_
   subst b_
   clear h
   clear htd0
   clear htd1
   rintro _ w9_ ⟨x3_9, L9_, H9_, rfl, hJ9_, hI9_, hll9_, hhh9_, htd1, htd0, -⟩
   replace hI := hI9_
   clear hI9_
   have h := hr9_ x3_9 hJ9_
   clear hr9_ hJ9_
   replace hsd0_1 := hsd0_1.up hhh9_
   replace hsd1_1 := hsd1_1.up hhh9_
   replace hsd1_2 := hsd1_2.up hhh9_
   replace hsd1_3 := hsd1_3.up hhh9_
   refine W_seq_k fun K12 k12 => ?_
   refine W_seq_k fun K13 k13 => ?_
   refine W_region [20, 21, 22, 23, 24, 25, 4] rfl (Ops_step (R_move rfl) rfl rfl (Ops_step (R_nilCheck rfl) rfl rfl (Ops_step (R_fieldAddr fo73_1 rfl) rfl rfl ?_)))
   refine Ops_step (R_loadB (v := .pointer (some ⟨d1, 0, none⟩)) ag64 rfl htd0.blk rfl) rfl rfl ?_
   refine Ops_step (R_move rfl) rfl rfl ?_
   refine Ops_call (C_func bd60 rfl) rfl rfl ?_
   refine (sealskinref05_Disk_Wipe_ok (x1 := x3_9) (z0 := z1) hI.st (hg.up hI.le) htd1 hcd1_1 hsd1_1 hcd1_2 hsd1_2 hcd1_3 hsd1_3 h).mono ?_
   rintro _ w14_ ⟨r14_0, y14_o0, A14_o0_1, c14_o0_1, A14_o0_2, c14_o0_2, A14_o0_3, c14_o0_3, L14_, H14_, rfl, hI14_, ht14_o0, hc14_o0_1, hs14_o0_1, hc14_o0_2, hs14_o0_2, hc14_o0_3, hs14_o0_3, h⟩
   refine Exists.elim (hI.call hI14_ (mem1 (by simp))) fun L140_ h14_ => ?_
   have hz14_ := hI.size
   replace hI := h14_.1
   have u14_ := h14_.2.1
   have hl14_ := h14_.2.2
   clear h14_
   replace hsd0_1 := hsd0_1.up u14_.hh
   replace hsd1_1 := hsd1_1.up u14_.hh
   replace hsd1_2 := hsd1_2.up u14_.hh
   replace hsd1_3 := hsd1_3.up u14_.hh
   replace htd0 := htd0.up u14_ (htd0.apart htd1 (by decide))
   clear htd1
   clear hI14_ u14_ hl14_
   refine ⟨_, rfl, ?_⟩
   refine Ops_step (R_assign rfl) rfl rfl ?_
   refine Ops_nil ?_
   refine then_n (k13 _ _ ?_)
   clear k13 K13
   refine W_keepB [0, 3, 4] fun B_ b_ => ?_
   simp only [e_, Nat.reduceAdd, Nat.reduceBEq] at b_
   subst b_
   refine W_seq_k fun K16 k16 => ?_
   refine W_region [26, 27] rfl (Ops_step (R_move rfl) rfl rfl (Ops_step (R_neq rfl rfl) rfl rfl ?_))
   refine Ops_nil ?_
   refine then_n (k16 _ _ ?_)
   clear k16 K16
   refine W_if rfl (fun hc17_ => ?_) (fun hc17_ => ?_)
   ·
    replace h := h.1 hc17_
    refine W_seq_k fun K18 k18 => ?_
    refine W_region [28, 2] rfl (Ops_step (R_move rfl) rfl rfl (Ops_step (R_assign rfl) rfl rfl ?_))
    refine Ops_nil ?_
    refine then_n (k18 _ _ ?_)
    clear k18 K18
    refine W_keepB [2] fun B_ b_ => ?_
    simp only [e_, Nat.reduceAdd, Nat.reduceBEq] at b_
    subst b_
    refine W_ret ?_
    refine then_ret ?_
    clear k12 K12
    refine ⟨_, ⟨_, _, rfl, rfl, rfl⟩, ?_⟩
    exact ⟨r14_0, z0, Ad0_1, cd0_1, y14_o0, A14_o0_1, c14_o0_1, A14_o0_2, c14_o0_2, A14_o0_3, c14_o0_3, _, _, rfl, hI, htd0, hcd0_1, hsd0_1, ht14_o0, hc14_o0_1, hs14_o0_1, hc14_o0_2, hs14_o0_2, hc14_o0_3, hs14_o0_3, h⟩
   ·
    replace h := h.2 hc17_
    refine W_skip ?_
    refine then_n (k12 _ _ ?_)
    clear k12 K12
    refine W_seq_k fun K20 k20 => ?_
    refine W_drawF [29, 30, 31, 32, 33, 34, 35, 36, 37, 38, 39, 5] [(0, true), (1, true), (2, true), (3, true), (4, true), (5, true), (6, true), (7, true), (8, true), (9, true), (10, false), (11, true)] TJtI.hm rfl (by kernel_rfl) fun ops21_ w21_ hops21_ hF21_ => ?_
    replace hI := hI.fr0 hF21_
    replace htd0 := htd0.fr0 hF21_
    replace ht14_o0 := ht14_o0.fr0 hF21_
    clear hF21_
    refine HSp (R_move rfl) rfl rfl (HSp (R_nilCheck rfl) rfl rfl (HSp (R_fieldAddr fo73_2 rfl) rfl rfl ?_))
    refine HS_loadB (v := vi z0.Gen_) ag3 rfl htd0.blk rfl rfl rfl ?_
    have hk22_ := h.1
    replace h := h.2
    refine HSp (R_add rfl rfl (wI hk22_.1 hk22_.2)) rfl rfl (HSp (R_move rfl) rfl rfl (HSp (R_nilCheck rfl) rfl rfl (HSp (R_fieldAddr fo73_0 rfl) rfl rfl ?_)))
    refine HS_loadB (v := .slice Ad0_1 z0.L_.length cd0_1) ag36 rfl htd0.blk rfl rfl rfl ?_
    refine HSp (R_len Try.underlying36 rfl rfl) rfl rfl ?_
    refine HS_call [] _ rfl (by rw [hops21_]; kernel_rfl) (C_func bd61 rfl) rfl rfl ?_
    refine (sealskinref06_Head_ok (x0 := (z0.Gen_ + 1)) (x1 := (z0.L_.length : Int)) hI.st (hg.up hI.le)  h).mono ?_
    rintro _ w23_ ⟨A23_0, c23_0, r23_0, L23_, H23_, rfl, hI23_, ho23_0, h⟩
    refine Exists.elim (hI.call hI23_ (by simp)) fun L230_ h23_ => ?_
    have hz23_ := hI.size
    replace hI := h23_.1
    have u23_ := h23_.2.1
    have hl23_ := h23_.2.2
    clear h23_
    replace hsd0_1 := hsd0_1.up u23_.hh
    replace htd0 := htd0.up u23_ (by simp)
    replace ht14_o0 := ht14_o0.up u23_ (by simp)
    replace hs14_o0_1 := hs14_o0_1.up u23_.hh
    replace hs14_o0_2 := hs14_o0_2.up u23_.hh
    replace hs14_o0_3 := hs14_o0_3.up u23_.hh
    replace ho23_0 := OwnS.backS ho23_0 hz23_ (Le.refl _)
    clear hI23_ u23_ hl23_
    refine ⟨_, rfl, trivial, ?_⟩
    refine HSp (R_assign rfl) rfl rfl ?_
    refine HS_nil ?_
    clear hops21_
    refine then_n (k20 _ _ ?_)
    clear k20 K20
    refine W_keepB [0, 3, 5] fun B_ b_ => ?_
    simp only [e_, Nat.reduceAdd, Nat.reduceBEq] at b_
    subst b_
    refine ex_ h fun J25_ hr25_ h => ?_
    refine W_seq_join [0, 3] [5] (fun vals_ w2 => ∃ (x5_25 : List UInt8) (A5_25 : Option Addr) (c5_25 : Nat) (L H : Gh), vals_ = [.slice A5_25 x5_25.length c5_25] ∧ J25_ x5_25 ∧ Inv [d0, d1] G w L H w2 ∧ Le L230_ L ∧ Le H23_ H ∧ OwnS w.heap.size 5 Gh.no H w2 A5_25 c5_25 x5_25 ∧ Tok H w2 d0 73 ([.slice Ad0_1 z0.L_.length cd0_1, .pointer (some ⟨d1, 0, none⟩), vi z0.Gen_, vi z0.File_]) ∧ Tok H w2 d1 81 ([.slice A14_o0_1 y14_o0.F_.e0_.length c14_o0_1, .slice A14_o0_2 y14_o0.F_.e1_.length c14_o0_2, .slice A14_o0_3 y14_o0.F_.e2_.length c14_o0_3, vi y14_o0.Room_, .bool y14_o0.Off_, vi y14_o0.Fuse_]) ∧ True) (fun B_ b_ => ?_) (fun B_ b_ => ?_)
    ·
     simp only [e_, Nat.reduceAdd, Nat.reduceBEq] at b_
     subst b_
     clear hr25_
     have hll25_ := Le.refl L230_
     have hhh25_ := Le.refl H23_
     refine W_seq_k fun K26 k26 => ?_
     refine W_region [40, 41, 42, 43, 44, 45] rfl (Ops_step (R_move rfl) rfl rfl (Ops_step (R_nilCheck rfl) rfl rfl (Ops_step (R_fieldAddr fo73_0 rfl) rfl rfl ?_)))
     refine Ops_step (R_loadB (v := .slice Ad0_1 z0.L_.length cd0_1) ag36 rfl htd0.blk rfl) rfl rfl ?_
     refine Ops_step (R_len Try.underlying36 rfl rfl) rfl rfl (Ops_step (R_move rfl) rfl rfl ?_)
     refine Ops_nil ?_
     refine then_n (k26 _ _ ?_)
     clear k26 K26
     refine W_block ?_
     refine Exists.elim h fun I27_ h => Exists.elim h fun n27_ h => ?_
     have h0_ := h.1
     have hs27_ := h.2
     clear h
     refine W_loopB [0, 3, 43, 44] [5, 45] (fun m vals_ w2 => ∃ (x5_27 : List UInt8) (A5_27 : Option Addr) (c5_27 : Nat) (x45_27 : Int) (L H : Gh), vals_ = [.slice A5_27 x5_27.length c5_27, vi x45_27] ∧ I27_ m x5_27 x45_27 ∧ Inv [d0, d1] G w L H w2 ∧ Le L230_ L ∧ Le H23_ H ∧ OwnS w.heap.size 5 Gh.no H w2 A5_27 c5_27 x5_27 ∧ Tok H w2 d0 73 ([.slice Ad0_1 z0.L_.length cd0_1, .pointer (some ⟨d1, 0, none⟩), vi z0.Gen_, vi z0.File_]) ∧ Tok H w2 d1 81 ([.slice A14_o0_1 y14_o0.F_.e0_.length c14_o0_1, .slice A14_o0_2 y14_o0.F_.e1_.length c14_o0_2, .slice A14_o0_3 y14_o0.F_.e2_.length c14_o0_3, vi y14_o0.Room_, .bool y14_o0.Off_, vi y14_o0.Fuse_]) ∧ True) n27_ _ rfl ⟨r23_0, A23_0, c23_0, 0, _, _, rfl, h0_, hI, Le.refl _, Le.refl _, ho23_0, htd0, ht14_o0, trivial⟩ fun B_ b_ => ?_
     clear h0_
     simp only [e_, Nat.reduceAdd, Nat.reduceBEq] at b_
     subst b_
     clear ht14_o0
     clear htd0
     rintro m27_ _ w27_ ⟨x5_27, A5_27, c5_27, x45_27, L27_, H27_, rfl, hJ27_, hI27_, hll27_, hhh27_, ho5_27, htd0, ht14_o0, -⟩
     replace hI := hI27_
     clear hI27_
     have h := hs27_ m27_ x5_27 x45_27 hJ27_
     clear hs27_ hJ27_
     replace hsd0_1 := hsd0_1.up hhh27_
     replace hs14_o0_1 := hs14_o0_1.up hhh27_
     replace hs14_o0_2 := hs14_o0_2.up hhh27_
     replace hs14_o0_3 := hs14_o0_3.up hhh27_
     replace hll25_ := hll25_.trans hll27_
     replace hhh25_ := hhh25_.trans hhh27_
     refine W_seq_k fun K28 k28 => ?_
     refine W_region [46] rfl (Ops_step (R_lss rfl rfl) rfl rfl ?_)
     refine Ops_nil ?_
     refine then_n (k28 _ _ ?_)
     clear k28 K28
     refine W_seq_k fun K29 k29 => ?_
     refine W_if rfl (fun hc30_ => ?_) (fun hc30_ => ?_)
     ·
      replace h := h.1 hc30_
      refine W_skip ?_
      refine then_n (k29 _ _ ?_)
      clear k29 K29
      refine W_seq_k fun K31 k31 => ?_
      refine W_block ?_
      refine W_seq_k fun K32 k32 => ?_
      refine W_region [47, 48, 49, 7, 6, none] rfl (Ops_step (R_move rfl) rfl rfl ?_)
      refine ex_ h fun x33_ hx33_ h => ?_
      have ha33_ := (Sl.atN (n := 2) rfl (by decide) hsd0_1 hx33_).1
      refine Exists.elim (Sl.atN (n := 2) rfl (by decide) hsd0_1 hx33_).2 fun l33_ hA33_ => ?_
      have hr33_ := hA33_.1
      have hg33_ := hA33_.2
      clear hA33_
      refine Ops_step (R_indexSl Try.underlying36 sz39 rfl rfl hx33_.1 hx33_.lt ha33_) rfl rfl ?_
      replace hr33_ : l33_ = [vi x33_.Label_, vs x33_.Data_] := hr33_
      subst hr33_
      refine Ops_step (R_loadCs (cs := [vi x33_.Label_, vs x33_.Data_]) ag39 sz39 rfl (fun j_ v_ hv_ => hI.st _ _ (hg33_ j_ v_ hv_))) rfl rfl ?_
      have hI0_ := hI
      refine Ops_to (R_alloc zr39) rfl rfl ?_
      rintro _ w34_ ⟨b34_, rfl, hb34_, hB34_, hF34_⟩
      replace hI := hI.fr0 hF34_
      replace htd0 := htd0.fr0 hF34_
      replace ht14_o0 := ht14_o0.fr0 hF34_
      replace ho5_27 := ho5_27.fr0 hF34_
      have ht34_ : Tok H27_ _ b34_ 39 ([vi 0, vs (Str.mk [])]) := ⟨hB34_.to rfl, Out.ge hI0_.st (Nat.le_of_eq hb34_.symm)⟩
      have hge_b34_ : w.heap.size ≤ b34_ := hb34_ ▸ hI0_.size
      clear hB34_ hb34_ hI0_ hF34_
      refine Ops_step (R_assign rfl) rfl rfl ?_
      refine Ops_to0 (R_storeN sz39 rfl rfl rfl ht34_.blk (Nat.le_of_ble_eq_true rfl) rfl) rfl ?_
      rintro _ w35_ ⟨hB35_, hF35_⟩
      replace hI := hI.tok hF35_ (out1 ht34_.out) (new1 hge_b34_)
      replace htd0 := htd0.fr hF35_ (htd0.apart ht34_ (by decide))
      replace ht14_o0 := ht14_o0.fr hF35_ (ht14_o0.apart ht34_ (by decide))
      replace ho5_27 := ho5_27.fr hF35_ (ho5_27.ne ht34_.blk (by decide))
      replace ht34_ : Tok H27_ _ b34_ 39 ([vi x33_.Label_, vs x33_.Data_]) := ⟨hB35_, ht34_.out⟩
      clear hF35_ hB35_
      refine Ops_nil ?_
      refine then_n (k32 _ _ ?_)
      clear k32 K32
      refine W_region [50, 51, 52, 53, 54, 5] rfl (Ops_step (R_move rfl) rfl rfl (Ops_step (R_move rfl) rfl rfl (Ops_step (R_loadN ag39 sz39 rfl ht34_.blk (Nat.le_of_ble_eq_true rfl)) rfl rfl ?_)))
      refine Ops_call (C_func bd62 rfl) rfl rfl ?_
      refine (sealskinref06_Tell_ok (x0 := x45_27) (x1 := x33_) hI.st (hg.up hI.le) rfl h).mono ?_
      have hlo36_0_ho5_27 := ho5_27.lt
      rintro _ w36_ ⟨A36_0, c36_0, r36_0, L36_, H36_, rfl, hI36_, ho36_0, h⟩
      refine Exists.elim (hI.call hI36_ (by simp)) fun L360_ h36_ => ?_
      have hz36_ := hI.size
      replace hI := h36_.1
      have u36_ := h36_.2.1
      have hl36_ := h36_.2.2
      clear h36_
      replace hsd0_1 := hsd0_1.up u36_.hh
      replace hs14_o0_1 := hs14_o0_1.up u36_.hh
      replace hs14_o0_2 := hs14_o0_2.up u36_.hh
      replace hs14_o0_3 := hs14_o0_3.up u36_.hh
      replace hll25_ := hll25_.trans u36_.ll
      replace hhh25_ := hhh25_.trans u36_.hh
      replace htd0 := htd0.up u36_ (by simp)
      replace ht14_o0 := ht14_o0.up u36_ (by simp)
      replace ho5_27 := ho5_27.up (Le.refl _) u36_ (by simp)
      replace hll27_ := hll27_.trans u36_.ll
      replace hhh27_ := hhh27_.trans u36_.hh
      have hsp36_0_ho5_27 : ∀ i ∈ bk A36_0 c36_0, i ∉ bk A5_27 c5_27 := sep_new ho36_0.off hlo36_0_ho5_27
      replace ho36_0 := OwnS.backS ho36_0 hz36_ (Le.refl _)
      clear hI36_ u36_ hl36_
      refine ⟨_, rfl, ?_⟩
      refine Exists.elim (ho36_0.freeze hI) fun L37_ h37_ => Exists.elim h37_ fun H37_ h37_ => ?_
      replace hI := h37_.1
      have u37_ := h37_.2.1
      have hs37_ := h37_.2.2.1 (Le.no _)
      have hc37_ := ho36_0.cap
      replace hsd0_1 := hsd0_1.up u37_.hh
      replace hs14_o0_1 := hs14_o0_1.up u37_.hh
      replace hs14_o0_2 := hs14_o0_2.up u37_.hh
      replace hs14_o0_3 := hs14_o0_3.up u37_.hh
      replace hll25_ := hll25_.trans u37_.ll
      replace hhh25_ := hhh25_.trans u37_.hh
      replace htd0 := htd0.up u37_ (ho36_0.old hlt_d0)
      replace ht14_o0 := ht14_o0.up u37_ (ho36_0.old hlt_d1)
      replace ho5_27 := ho5_27.up (Le.refl _) u37_ (sep_sym hsp36_0_ho5_27)
      replace hll27_ := hll27_.trans u37_.ll
      replace hhh27_ := hhh27_.trans u37_.hh
      clear h37_ u37_ ho36_0
      have hk39_ := h.1
      replace h := h.2
      refine Ops_to (X_append (α := UInt8) (xs := x5_27) (ys := r36_0) el29 rfl rfl ho5_27 (Srcs.sc (Srcs.ofSl Try.underlying29 (hs37_.up hI.sub) hI.st (by decide))) hI.st hk39_ (by decide) hI.size) rfl rfl ?_
      rintro _ w38_ ⟨A38_, c38_, rfl, ho38_, hF38_, hbk38_⟩
      clear hbk38_
      replace hI := hI.tok hF38_ ho5_27.out (ho5_27.new (Nat.le_refl _))
      replace htd0 := htd0.fr hF38_ (ho5_27.old hlt_d0)
      replace ht14_o0 := ht14_o0.fr hF38_ (ho5_27.old hlt_d1)
      clear hF38_ ho5_27
      refine Ops_step (R_assign rfl) rfl rfl ?_
      refine Ops_nil ?_
      refine block_n ?_
      refine then_n (k31 _ _ ?_)
      clear k31 K31
      refine W_keepB [0, 3, 5, 43, 44, 45] fun B_ b_ => ?_
      simp only [e_, Nat.reduceAdd, Nat.reduceBEq] at b_
      subst b_
      refine W_region [55, 45] rfl ?_
      have hk41_ := h.1
      replace h := h.2
      refine Ops_step (R_add rfl rfl (wI hk41_.1 hk41_.2)) rfl rfl (Ops_step (R_move rfl) rfl rfl ?_)
      refine Ops_nil ?_
      refine then_n ?_
      exact h.elim fun m_ h => ⟨m_, _, h.1, rfl, ⟨(x5_27 ++ r36_0), A38_, c38_, (x45_27 + 1), _, _, rfl, h.2, hI, hll27_, hhh27_, ho38_, htd0, ht14_o0, trivial⟩, ⟨rfl, rfl, rfl, rfl, trivial⟩⟩
     ·
      replace h := h.2 hc30_
      refine W_exit ?_
      refine then_exit ?_
      clear k29 K29
      refine then_exit ?_
      refine block_exit ?_
      refine then_n ?_
      exact ⟨_, rfl, ⟨x5_27, A5_27, c5_27, _, _, rfl, h, hI, hll25_, hhh25_, ho5_27, htd0, ht14_o0, trivial⟩, ⟨rfl, rfl, trivial⟩⟩
    ·
     simp only [e_, Nat.reduceAdd, Nat.reduceBEq] at b_
     subst b_
     clear h
     clear ht14_o0
     clear htd0
     rintro _ w25_ ⟨x5_25, A5_25, c5_25, L25_, H25_, rfl, hJ25_, hI25_, hll25_, hhh25_, ho5_25, htd0, ht14_o0, -⟩
     replace hI := hI25_
     clear hI25_
     have h := hr25_ x5_25 hJ25_
     clear hr25_ hJ25_
     replace hsd0_1 := hsd0_1.up hhh25_
     replace hs14_o0_1 := hs14_o0_1.up hhh25_
     replace hs14_o0_2 := hs14_o0_2.up hhh25_
     replace hs14_o0_3 := hs14_o0_3.up hhh25_
     refine W_seq_k fun K42 k42 => ?_
     refine W_seq_k fun K43 k43 => ?_
     refine W_region [56, 57, 58, 59, 60, 61, 62, 8] rfl (Ops_step (R_move rfl) rfl rfl (Ops_step (R_nilCheck rfl) rfl rfl (Ops_step (R_fieldAddr fo73_1 rfl) rfl rfl ?_)))
     refine Ops_step (R_loadB (v := .pointer (some ⟨d1, 0, none⟩)) ag64 rfl htd0.blk rfl) rfl rfl ?_
     refine Ops_step (R_move rfl) rfl rfl (Ops_step (R_move rfl) rfl rfl ?_)
     refine Exists.elim (ho5_25.freeze hI) fun L45_ h45_ => Exists.elim h45_ fun H45_ h45_ => ?_
     replace hI := h45_.1
     have u45_ := h45_.2.1
     have hs45_ := h45_.2.2.1 (Le.no _)
     have hc45_ := ho5_25.cap
     replace hsd0_1 := hsd0_1.up u45_.hh
     replace hs14_o0_1 := hs14_o0_1.up u45_.hh
     replace hs14_o0_2 := hs14_o0_2.up u45_.hh
     replace hs14_o0_3 := hs14_o0_3.up u45_.hh
     replace htd0 := htd0.up u45_ (ho5_25.old hlt_d0)
     replace ht14_o0 := ht14_o0.up u45_ (ho5_25.old hlt_d1)
     clear h45_ u45_ ho5_25
     refine Ops_call (C_func bd27 rfl) rfl rfl ?_
     refine (sealskinref05_Disk_Append_ok (x1 := x3_9) (x2 := x5_25) (z0 := y14_o0) hI.st (hg.up hI.le) ht14_o0 hc14_o0_1 hs14_o0_1 hc14_o0_2 hs14_o0_2 hc14_o0_3 hs14_o0_3 hc45_ (hs45_.up hI.sub) h).mono ?_
     rintro _ w44_ ⟨r44_0, y44_o0, A44_o0_1, c44_o0_1, A44_o0_2, c44_o0_2, A44_o0_3, c44_o0_3, L44_, H44_, rfl, hI44_, ht44_o0, hc44_o0_1, hs44_o0_1, hc44_o0_2, hs44_o0_2, hc44_o0_3, hs44_o0_3, h⟩
     refine Exists.elim (hI.call hI44_ (mem1 (by simp))) fun L440_ h44_ => ?_
     have hz44_ := hI.size
     replace hI := h44_.1
     have u44_ := h44_.2.1
     have hl44_ := h44_.2.2
     clear h44_
     replace hsd0_1 := hsd0_1.up u44_.hh
     replace hs14_o0_1 := hs14_o0_1.up u44_.hh
     replace hs14_o0_2 := hs14_o0_2.up u44_.hh
     replace hs14_o0_3 := hs14_o0_3.up u44_.hh
     replace htd0 := htd0.up u44_ (htd0.apart ht14_o0 (by decide))
     clear ht14_o0
     clear hI44_ u44_ hl44_
     refine ⟨_, rfl, ?_⟩
     refine Ops_step (R_assign rfl) rfl rfl ?_
     refine Ops_nil ?_
     refine then_n (k43 _ _ ?_)
     clear k43 K43
     refine W_keepB [0, 3, 8] fun B_ b_ => ?_
     simp only [e_, Nat.reduceAdd, Nat.reduceBEq] at b_
     subst b_
     refine W_seq_k fun K47 k47 => ?_
     refine W_region [63, 64] rfl (Ops_step (R_move rfl) rfl rfl (Ops_step (R_neq rfl rfl) rfl rfl ?_))
     refine Ops_nil ?_
     refine then_n (k47 _ _ ?_)
     clear k47 K47
     refine W_if rfl (fun hc48_ => ?_) (fun hc48_ => ?_)
     ·
      replace h := h.1 hc48_
      refine W_seq_k fun K49 k49 => ?_
      refine W_region [65, 2] rfl (Ops_step (R_move rfl) rfl rfl (Ops_step (R_assign rfl) rfl rfl ?_))
      refine Ops_nil ?_
      refine then_n (k49 _ _ ?_)
      clear k49 K49
      refine W_keepB [2] fun B_ b_ => ?_
      simp only [e_, Nat.reduceAdd, Nat.reduceBEq] at b_
      subst b_
      refine W_ret ?_
      refine then_ret ?_
      clear k42 K42
      refine ⟨_, ⟨_, _, rfl, rfl, rfl⟩, ?_⟩
      exact ⟨r44_0, z0, Ad0_1, cd0_1, y44_o0, A44_o0_1, c44_o0_1, A44_o0_2, c44_o0_2, A44_o0_3, c44_o0_3, _, _, rfl, hI, htd0, hcd0_1, hsd0_1, ht44_o0, hc44_o0_1, hs44_o0_1, hc44_o0_2, hs44_o0_2, hc44_o0_3, hs44_o0_3, h⟩
     ·
      replace h := h.2 hc48_
      refine W_skip ?_
      refine then_n (k42 _ _ ?_)
      clear k42 K42
      refine W_seq_k fun K51 k51 => ?_
      refine W_region [66, 67, 68, 69, 70, 71, 72, none] rfl (Ops_step (R_move rfl) rfl rfl (Ops_step (R_nilCheck rfl) rfl rfl (Ops_step (R_fieldAddr fo73_2 rfl) rfl rfl ?_)))
      refine Ops_step (R_loadB (v := vi z0.Gen_) ag3 rfl htd0.blk rfl) rfl rfl ?_
      have hk52_ := h.1
      replace h := h.2
      refine Ops_step (R_add rfl rfl (wI hk52_.1 hk52_.2)) rfl rfl (Ops_step (R_nilCheck rfl) rfl rfl (Ops_step (R_fieldAddr fo73_2 rfl) rfl rfl ?_))
      refine Ops_to0 (R_store sz3 rfl rfl htd0.blk (by show 2 < 4; decide) rfl) rfl ?_
      rintro _ w53_ ⟨hB53_, hF53_⟩
      replace hI := hI.tok hF53_ (out1 htd0.out) (mem1 (by simp))
      replace ht44_o0 := ht44_o0.fr hF53_ (ht44_o0.apart htd0 (by decide))
      replace htd0 : Tok H44_ _ d0 73 ([.slice Ad0_1 z0.L_.length cd0_1, .pointer (some ⟨d1, 0, none⟩), vi (z0.Gen_ + 1), vi z0.File_]) := ⟨hB53_, htd0.out⟩
      clear hF53_ hB53_
      refine Ops_nil ?_
      refine then_n (k51 _ _ ?_)
      clear k51 K51
      refine W_keepB [0, 3] fun B_ b_ => ?_
      simp only [e_, Nat.reduceAdd, Nat.reduceBEq] at b_
      subst b_
      refine W_seq_k fun K55 k55 => ?_
      refine W_region [73, 74, 75, 76, none] rfl (Ops_step (R_move rfl) rfl rfl (Ops_step (R_move rfl) rfl rfl (Ops_step (R_nilCheck rfl) rfl rfl (Ops_step (R_fieldAddr fo73_3 rfl) rfl rfl ?_))))
      refine Ops_to0 (R_store sz3 rfl rfl htd0.blk (by show 3 < 4; decide) rfl) rfl ?_
      rintro _ w56_ ⟨hB56_, hF56_⟩
      replace hI := hI.tok hF56_ (out1 htd0.out) (mem1 (by simp))
      replace ht44_o0 := ht44_o0.fr hF56_ (ht44_o0.apart htd0 (by decide))
      replace htd0 : Tok H44_ _ d0 73 ([.slice Ad0_1 z0.L_.length cd0_1, .pointer (some ⟨d1, 0, none⟩), vi (z0.Gen_ + 1), vi x3_9]) := ⟨hB56_, htd0.out⟩
      clear hF56_ hB56_
      refine Ops_nil ?_
      refine then_n (k55 _ _ ?_)
      clear k55 K55
      refine W_seq_k fun K57 k57 => ?_
      refine W_seq_k fun K58 k58 => ?_
      refine W_region [77, 78, 79, 80, 81, 9] rfl (Ops_step (R_move rfl) rfl rfl (Ops_step (R_nilCheck rfl) rfl rfl (Ops_step (R_fieldAddr fo73_1 rfl) rfl rfl ?_)))
      refine Ops_step (R_loadB (v := .pointer (some ⟨d1, 0, none⟩)) ag64 rfl htd0.blk rfl) rfl rfl ?_
      refine Ops_call (C_func bd60 rfl) rfl rfl ?_
      refine (sealskinref05_Disk_Wipe_ok (x1 := 0) (z0 := y44_o0) hI.st (hg.up hI.le) ht44_o0 hc44_o0_1 hs44_o0_1 hc44_o0_2 hs44_o0_2 hc44_o0_3 hs44_o0_3 h).mono ?_
      rintro _ w59_ ⟨r59_0, y59_o0, A59_o0_1, c59_o0_1, A59_o0_2, c59_o0_2, A59_o0_3, c59_o0_3, L59_, H59_, rfl, hI59_, ht59_o0, hc59_o0_1, hs59_o0_1, hc59_o0_2, hs59_o0_2, hc59_o0_3, hs59_o0_3, h⟩
      refine Exists.elim (hI.call hI59_ (mem1 (by simp))) fun L590_ h59_ => ?_
      have hz59_ := hI.size
      replace hI := h59_.1
      have u59_ := h59_.2.1
      have hl59_ := h59_.2.2
      clear h59_
      replace hsd0_1 := hsd0_1.up u59_.hh
      replace htd0 := htd0.up u59_ (htd0.apart ht44_o0 (by decide))
      replace hs44_o0_1 := hs44_o0_1.up u59_.hh
      replace hs44_o0_2 := hs44_o0_2.up u59_.hh
      replace hs44_o0_3 := hs44_o0_3.up u59_.hh
      clear ht44_o0
      clear hI59_ u59_ hl59_
      refine ⟨_, rfl, ?_⟩
      refine Ops_step (R_assign rfl) rfl rfl ?_
      refine Ops_nil ?_
      refine then_n (k58 _ _ ?_)
      clear k58 K58
      refine W_keepB [0, 9] fun B_ b_ => ?_
      simp only [e_, Nat.reduceAdd, Nat.reduceBEq] at b_
      subst b_
      refine W_seq_k fun K61 k61 => ?_
      refine W_region [82, 83] rfl (Ops_step (R_move rfl) rfl rfl (Ops_step (R_neq rfl rfl) rfl rfl ?_))
      refine Ops_nil ?_
      refine then_n (k61 _ _ ?_)
      clear k61 K61
      refine W_if rfl (fun hc62_ => ?_) (fun hc62_ => ?_)
      ·
       replace h := h.1 hc62_
       refine W_seq_k fun K63 k63 => ?_
       refine W_region [84, 2] rfl (Ops_step (R_move rfl) rfl rfl (Ops_step (R_assign rfl) rfl rfl ?_))
       refine Ops_nil ?_
       refine then_n (k63 _ _ ?_)
       clear k63 K63
       refine W_ret ?_
       refine then_ret ?_
       clear k57 K57
       refine ⟨_, ⟨_, _, rfl, rfl, rfl⟩, ?_⟩
       exact ⟨r59_0, (sealskinref06_Journal.mk z0.L_ (z0.Gen_ + 1) x3_9), Ad0_1, cd0_1, y59_o0, A59_o0_1, c59_o0_1, A59_o0_2, c59_o0_2, A59_o0_3, c59_o0_3, _, _, rfl, hI, htd0, hcd0_1, hsd0_1, ht59_o0, hc59_o0_1, hs59_o0_1, hc59_o0_2, hs59_o0_2, hc59_o0_3, hs59_o0_3, h⟩
      ·
       replace h := h.2 hc62_
       refine W_skip ?_
       refine then_n (k57 _ _ ?_)
       clear k57 K57
       refine W_seq_k fun K64 k64 => ?_
       refine W_drawF [85, 86, 87, 88, 89, 90, 91, 92, 93, 94, 95, 96, 97, 98, 99, 2] [(0, true), (1, true), (2, true), (3, true), (4, true), (5, true), (6, true), (7, true), (8, true), (9, true), (10, true), (11, true), (12, true), (13, false), (14, false), (15, true)] TJtI.hm rfl (by kernel_rfl) fun ops65_ w65_ hops65_ hF65_ => ?_
       replace hI := hI.fr0 hF65_
       replace htd0 := htd0.fr0 hF65_
       replace ht59_o0 := ht59_o0.fr0 hF65_
       clear hF65_
       refine HSp (R_move rfl) rfl rfl (HSp (R_nilCheck rfl) rfl rfl (HSp (R_fieldAddr fo73_1 rfl) rfl rfl ?_))
       refine HS_loadB (v := .pointer (some ⟨d1, 0, none⟩)) ag64 rfl htd0.blk rfl rfl rfl ?_
       refine HSp (R_move rfl) rfl rfl (HSp (R_nilCheck rfl) rfl rfl (HSp (R_fieldAddr fo73_2 rfl) rfl rfl ?_))
       refine HS_loadB (v := vi (z0.Gen_ + 1)) ag3 rfl htd0.blk rfl rfl rfl ?_
       refine HSp (R_move rfl) rfl rfl (HSp (R_nilCheck rfl) rfl rfl (HSp (R_fieldAddr fo73_0 rfl) rfl rfl ?_))
       refine HS_loadB (v := .slice Ad0_1 z0.L_.length cd0_1) ag36 rfl htd0.blk rfl rfl rfl ?_
       refine HSp (R_len Try.underlying36 rfl rfl) rfl rfl ?_
       refine HS_call [3] _ rfl (by rw [hops65_]; kernel_rfl) (C_func bd61 rfl) rfl rfl ?_
       refine (sealskinref06_Head_ok (x0 := (z0.Gen_ + 1)) (x1 := (z0.L_.length : Int)) hI.st (hg.up hI.le)  h).mono ?_
       rintro _ w66_ ⟨A66_0, c66_0, r66_0, L66_, H66_, rfl, hI66_, ho66_0, h⟩
       refine Exists.elim (hI.call hI66_ (by simp)) fun L660_ h66_ => ?_
       have hz66_ := hI.size
       replace hI := h66_.1
       have u66_ := h66_.2.1
       have hl66_ := h66_.2.2
       clear h66_
       replace hsd0_1 := hsd0_1.up u66_.hh
       replace htd0 := htd0.up u66_ (by simp)
       replace ht59_o0 := ht59_o0.up u66_ (by simp)
       replace hs59_o0_1 := hs59_o0_1.up u66_.hh
       replace hs59_o0_2 := hs59_o0_2.up u66_.hh
       replace hs59_o0_3 := hs59_o0_3.up u66_.hh
       replace ho66_0 := OwnS.backS ho66_0 hz66_ (Le.refl _)
       clear hI66_ u66_ hl66_
       refine ⟨_, rfl, ⟨(htd0.blk.at_ rfl), trivial⟩, ?_⟩
       refine Exists.elim (ho66_0.freeze hI) fun L67_ h67_ => Exists.elim h67_ fun H67_ h67_ => ?_
       replace hI := h67_.1
       have u67_ := h67_.2.1
       have hs67_ := h67_.2.2.1 (Le.no _)
       have hc67_ := ho66_0.cap
       replace hsd0_1 := hsd0_1.up u67_.hh
       replace htd0 := htd0.up u67_ (ho66_0.old hlt_d0)
       replace ht59_o0 := ht59_o0.up u67_ (ho66_0.old hlt_d1)
       replace hs59_o0_1 := hs59_o0_1.up u67_.hh
       replace hs59_o0_2 := hs59_o0_2.up u67_.hh
       replace hs59_o0_3 := hs59_o0_3.up u67_.hh
       clear h67_ u67_ ho66_0
       refine HS_call [] _ rfl (by rw [hops65_]; kernel_rfl) (C_func bd27 rfl) rfl rfl ?_
       refine (sealskinref05_Disk_Append_ok (x1 := 0) (x2 := r66_0) (z0 := y59_o0) hI.st (hg.up hI.le) ht59_o0 hc59_o0_1 hs59_o0_1 hc59_o0_2 hs59_o0_2 hc59_o0_3 hs59_o0_3 hc67_ (hs67_.up hI.sub) h).mono ?_
       rintro _ w68_ ⟨r68_0, y68_o0, A68_o0_1, c68_o0_1, A68_o0_2, c68_o0_2, A68_o0_3, c68_o0_3, L68_, H68_, rfl, hI68_, ht68_o0, hc68_o0_1, hs68_o0_1, hc68_o0_2, hs68_o0_2, hc68_o0_3, hs68_o0_3, h⟩
       refine Exists.elim (hI.call hI68_ (mem1 (by simp))) fun L680_ h68_ => ?_
       have hz68_ := hI.size
       replace hI := h68_.1
       have u68_ := h68_.2.1
       have hl68_ := h68_.2.2
       clear h68_
       replace hsd0_1 := hsd0_1.up u68_.hh
       replace htd0 := htd0.up u68_ (htd0.apart ht59_o0 (by decide))
       replace hs59_o0_1 := hs59_o0_1.up u68_.hh
       replace hs59_o0_2 := hs59_o0_2.up u68_.hh
       replace hs59_o0_3 := hs59_o0_3.up u68_.hh
       clear ht59_o0
       clear hI68_ u68_ hl68_
       refine ⟨_, rfl, trivial, ?_⟩
       refine HSp (R_assign rfl) rfl rfl ?_
       refine HS_nil ?_
       clear hops65_
       refine then_n (k64 _ _ ?_)
       clear k64 K64
       refine W_keepB [2] fun B_ b_ => ?_
       simp only [e_, Nat.reduceAdd, Nat.reduceBEq] at b_
       subst b_
       refine W_ret ?_
       refine ⟨_, ⟨_, _, rfl, rfl, rfl⟩, ?_⟩
       exact ⟨r68_0, (sealskinref06_Journal.mk z0.L_ (z0.Gen_ + 1) x3_9), Ad0_1, cd0_1, y68_o0, A68_o0_1, c68_o0_1, A68_o0_2, c68_o0_2, A68_o0_3, c68_o0_3, _, _, rfl, hI, htd0, hcd0_1, hsd0_1, ht68_o0, hc68_o0_1, hs68_o0_1, hc68_o0_2, hs68_o0_2, hc68_o0_3, hs68_o0_3, h⟩

end Go.Proofs.Ytkmljjhjojolcaa

