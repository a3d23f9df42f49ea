/- What the walks of this seat show of Ef. -/
import Derived.Test.YtijckogioombdaaGj
import Derived.Test.YtijckogioombdaaEe
import Derived.Test.YtijckogioombdaaProg
set_option linter.unusedVariables false
set_option linter.unusedSimpArgs false
namespace Go.Proofs.Ytijckogioombdaa
open Go Go.Sx
namespace TEf
theorem hm : Try.prog.follows .mixedOrders = true := by kernel_rfl
theorem ag24 : aggB Try.prog 24 = some false := by kernel_rfl
theorem fo38_3 : offB Try.prog 38 3 = some 3 := by kernel_rfl
theorem sz38 : sz Try.prog 38 = some 4 := by kernel_rfl
end TEf
set_option maxHeartbeats 4000000 in
theorem short_any (LA : Option Addr) (L : List Do) (lc : Nat) (w : World) (hL : RdDo w LA L) (hm : L.length ≤ 140737488355328) : Calls Try.prog 10 #[.slice LA L.length lc] w fun e w2 => ∃ r, e = .returned (.bool r) ∧ (r = true → L.length ≤ 200 ∧ bytesOf L ≤ 16384) ∧ w2 = w := by
  refine calls_W 35 Try.func10 rfl Try.ntmps10 rfl [.tmp 2] rfl ?_
  refine W_seq_k fun K1_ hK1_ => ?_
  refine W_region [some 2] rfl ?_
  refine Ops_step (R_assign rfl) rfl rfl ?_
  refine Ops_nil ?_
  refine then_n (hK1_ _ _ ?_)
  clear hK1_ K1_
  refine W_seq_k fun K2_ hK2_ => ?_
  refine W_region [some 3] rfl ?_
  refine Ops_step (R_assign rfl) rfl rfl ?_
  refine Ops_nil ?_
  refine then_n (hK2_ _ _ ?_)
  clear hK2_ K2_
  refine W_seq_k fun K3_ hK3_ => ?_
  refine W_seq_k fun K4_ hK4_ => ?_
  refine W_region [some 4] rfl ?_
  refine Ops_step (R_assign rfl) rfl rfl ?_
  refine Ops_nil ?_
  refine then_n (hK4_ _ _ ?_)
  clear hK4_ K4_
  refine W_block ?_
  refine W_loopB [0] [3, 4] (fun m vs w' => ∃ n i, i ≤ L.length ∧ i ≤ 201 ∧ m = L.length - i ∧ vs = [vi (n : Nat), vi (i : Nat)] ∧ n ≤ 40000 ∧ (n ≤ 16384 → bytesOf (L.take i) = n) ∧ w' = w) (L.length) _ rfl (⟨0, 0, by omega, by omega, rfl, rfl, by omega, fun _ => rfl, rfl⟩) fun B5 hB5_ => ?_
  simp only [pickE, lookE, putE, zipE, args0, Nat.reduceAdd, Nat.zero_add, List.cons_append, List.nil_append, Nat.reduceBEq, cond_true, cond_false] at hB5_
  subst hB5_
  rintro m_ vs_ w0_ ⟨n, i, hi, hi2, rfl, rfl, hn1, hn, hw0⟩
  replace hw0 := hw0.symm
  subst hw0
  refine W_seq_k fun K6_ hK6_ => ?_
  refine W_seq_k fun K7_ hK7_ => ?_
  refine W_region [some 5, some 6, some 7, some 8, some 9, some 10, some 11, some 12, some 13, some 14, some 15, some 16] rfl ?_
  refine Ops_step (R_move rfl) rfl rfl ?_
  refine Ops_step (R_move rfl) rfl rfl ?_
  refine Ops_step (R_len Try.underlying22 rfl rfl) rfl rfl ?_
  refine Ops_step (R_lss rfl rfl) rfl rfl ?_
  refine Ops_step (R_move rfl) rfl rfl ?_
  refine Ops_split 9 rfl (fun hg9 => ?_) (fun hg9 => ?_)
  · refine Ops_step (R_move rfl) rfl rfl ?_
    refine Ops_step (R_leq rfl rfl) rfl rfl ?_
    refine Ops_step (R_pick_true rfl rfl) rfl rfl ?_
    refine Ops_step (R_move rfl) rfl rfl ?_
    refine Ops_split 13 rfl (fun hg13 => ?_) (fun hg13 => ?_)
    · refine Ops_step (R_move rfl) rfl rfl ?_
      refine Ops_step (R_leq rfl rfl) rfl rfl ?_
      refine Ops_step (R_pick_true rfl rfl) rfl rfl ?_
      refine Ops_nil ?_
      refine then_n (hK7_ _ _ ?_)
      clear hK7_ K7_
      refine W_keepB [0, 3, 4, 10, 11, 14, 15, 16] fun B8 hB8_ => ?_
      simp only [pickE, lookE, putE, zipE, args0, Nat.reduceAdd, Nat.zero_add, List.cons_append, List.nil_append, Nat.reduceBEq, cond_true, cond_false] at hB8_
      subst hB8_
      refine W_if rfl (fun hc16 => ?_) (fun hc16 => ?_)
      · have hi1 : i < L.length := by omega
        have hx := hL i _ (List.getElem?_eq_getElem hi1)
        have htk := List.take_succ_eq_append_getElem hi1
        have hmem := List.getElem_mem hi1
        refine named L[i] fun k ek => ?_
        rw [← ek] at hx htk hmem
        obtain ⟨hs1, Ai, ci, hcs, hdo⟩ := hx
        refine W_skip ?_
        refine then_n (hK6_ _ _ ?_)
        clear hK6_ K6_
        refine W_seq_k fun K9_ hK9_ => ?_
        refine W_block ?_
        refine W_region [some 19, some 20, some 21, some 22, some 23, some 24, some 25, some 26, some 27, some 3] rfl ?_
        refine Ops_step (R_move rfl) rfl rfl ?_
        refine Ops_step (R_move rfl) rfl rfl ?_
        refine Ops_step (R_move rfl) rfl rfl ?_
        refine Ops_step (R_indexSl Try.underlying22 TEf.sz38 rfl rfl (by omega) (by omega) hs1) rfl rfl ?_
        refine Ops_step (R_fieldAddr' TEf.fo38_3 rfl) rfl rfl ?_
        refine Ops_step (R_load TEf.ag24 rfl (hcs 3 _ rfl)) rfl rfl ?_
        refine Ops_step (R_len Try.underlying24 rfl rfl) rfl rfl ?_
        refine Ops_step (R_min rfl rfl (show _ = ((min k.b.length 16385 : Nat) : Int) by omega)) rfl rfl ?_
        refine Ops_step (R_add rfl rfl (wIc (n := n + (min k.b.length 16385)) (by omega) (by omega))) rfl rfl ?_
        refine Ops_step (R_assign rfl) rfl rfl ?_
        refine Ops_nil ?_
        refine block_n ?_
        refine then_n (hK9_ _ _ ?_)
        clear hK9_ K9_
        refine W_keepB [0, 3, 4, 10, 11, 14, 15] fun B10 hB10_ => ?_
        simp only [pickE, lookE, putE, zipE, args0, Nat.reduceAdd, Nat.zero_add, List.cons_append, List.nil_append, Nat.reduceBEq, cond_true, cond_false] at hB10_
        subst hB10_
        refine W_region [some 17, some 18, some 4] rfl ?_
        refine Ops_step (R_move rfl) rfl rfl ?_
        refine Ops_step (R_add rfl rfl (wIc (n := i + 1) (by omega) (by omega))) rfl rfl ?_
        refine Ops_step (R_assign rfl) rfl rfl ?_
        refine Ops_nil ?_
        exact ⟨L.length - (i + 1), _, by omega, rfl, ⟨n + min k.b.length 16385, i + 1, by omega, by omega, rfl, rfl, by omega, fun h_ => by rw [htk, bytesOf_app, hn (by omega)]; omega, rfl⟩, ⟨rfl, trivial⟩⟩
      · refine W_exit ?_
        refine then_exit ?_
        clear hK6_ K6_
        refine then_exit ?_
        refine block_exit ?_
        refine then_n (hK3_ _ _ ?_)
        clear hK3_ K3_
        refine W_keepB [0, 3] fun B11 hB11_ => ?_
        simp only [pickE, lookE, putE, zipE, args0, Nat.reduceAdd, Nat.zero_add, List.cons_append, List.nil_append, Nat.reduceBEq, cond_true, cond_false] at hB11_
        subst hB11_
        refine W_seq_k fun K12_ hK12_ => ?_
        refine W_region [some 28, some 29, some 30, some 31, some 32, some 33, some 34, some 2] rfl ?_
        refine Ops_step (R_move rfl) rfl rfl ?_
        refine Ops_step (R_len Try.underlying22 rfl rfl) rfl rfl ?_
        refine Ops_step (R_leq rfl rfl) rfl rfl ?_
        refine Ops_step (R_move rfl) rfl rfl ?_
        refine Ops_split 31 rfl (fun hg31 => ?_) (fun hg31 => ?_)
        · have hfin : decide ((n : Int) ≤ 16384) = true → L.length ≤ 200 ∧ bytesOf L ≤ 16384 := fun h_ => by
              have h_ := of_decide_eq_true h_
              have hii : i = L.length := by omega
              subst hii
              have h2_ := hn (by omega)
              rw [List.take_length] at h2_
              exact ⟨by omega, by omega⟩
          refine Ops_step (R_move rfl) rfl rfl ?_
          refine Ops_step (R_leq rfl rfl) rfl rfl ?_
          refine Ops_step (R_pick_true rfl rfl) rfl rfl ?_
          refine Ops_step (R_assign rfl) rfl rfl ?_
          refine Ops_nil ?_
          refine then_n (hK12_ _ _ ?_)
          clear hK12_ K12_
          refine W_keepB [2] fun B13 hB13_ => ?_
          simp only [pickE, lookE, putE, zipE, args0, Nat.reduceAdd, Nat.zero_add, List.cons_append, List.nil_append, Nat.reduceBEq, cond_true, cond_false] at hB13_
          subst hB13_
          refine W_ret ?_
          refine ⟨_, ⟨_, _, rfl, rfl, rfl⟩, ?_⟩
          exact ⟨_, rfl, hfin, rfl⟩
        · have hfin : false = true → L.length ≤ 200 ∧ bytesOf L ≤ 16384 := fun h_ => by cases h_
          refine Ops_pass rfl rfl ?_
          refine Ops_pass rfl rfl ?_
          refine Ops_step (R_pick_false rfl rfl) rfl rfl ?_
          refine Ops_step (R_assign rfl) rfl rfl ?_
          refine Ops_nil ?_
          refine then_n (hK12_ _ _ ?_)
          clear hK12_ K12_
          refine W_keepB [2] fun B14 hB14_ => ?_
          simp only [pickE, lookE, putE, zipE, args0, Nat.reduceAdd, Nat.zero_add, List.cons_append, List.nil_append, Nat.reduceBEq, cond_true, cond_false] at hB14_
          subst hB14_
          refine W_ret ?_
          refine ⟨_, ⟨_, _, rfl, rfl, rfl⟩, ?_⟩
          exact ⟨_, rfl, hfin, rfl⟩
    · refine Ops_pass rfl rfl ?_
      refine Ops_pass rfl rfl ?_
      refine Ops_step (R_pick_false rfl rfl) rfl rfl ?_
      refine Ops_nil ?_
      refine then_n (hK7_ _ _ ?_)
      clear hK7_ K7_
      refine W_keepB [0, 3, 4, 10, 11, 14, 15, 16] fun B15 hB15_ => ?_
      simp only [pickE, lookE, putE, zipE, args0, Nat.reduceAdd, Nat.zero_add, List.cons_append, List.nil_append, Nat.reduceBEq, cond_true, cond_false] at hB15_
      subst hB15_
      refine W_cond_false rfl ?_
      refine W_exit ?_
      refine then_exit ?_
      clear hK6_ K6_
      refine then_exit ?_
      refine block_exit ?_
      refine then_n (hK3_ _ _ ?_)
      clear hK3_ K3_
      refine W_keepB [0, 3] fun B16 hB16_ => ?_
      simp only [pickE, lookE, putE, zipE, args0, Nat.reduceAdd, Nat.zero_add, List.cons_append, List.nil_append, Nat.reduceBEq, cond_true, cond_false] at hB16_
      subst hB16_
      refine W_seq_k fun K17_ hK17_ => ?_
      refine W_region [some 28, some 29, some 30, some 31, some 32, some 33, some 34, some 2] rfl ?_
      refine Ops_step (R_move rfl) rfl rfl ?_
      refine Ops_step (R_len Try.underlying22 rfl rfl) rfl rfl ?_
      refine Ops_step (R_leq rfl rfl) rfl rfl ?_
      refine Ops_step (R_move rfl) rfl rfl ?_
      refine Ops_split 31 rfl (fun hg31 => ?_) (fun hg31 => ?_)
      · have hfin : decide ((n : Int) ≤ 16384) = true → L.length ≤ 200 ∧ bytesOf L ≤ 16384 := fun h_ => by
            have h_ := of_decide_eq_true h_
            have hii : i = L.length := by omega
            subst hii
            have h2_ := hn (by omega)
            rw [List.take_length] at h2_
            exact ⟨by omega, by omega⟩
        refine Ops_step (R_move rfl) rfl rfl ?_
        refine Ops_step (R_leq rfl rfl) rfl rfl ?_
        refine Ops_step (R_pick_true rfl rfl) rfl rfl ?_
        refine Ops_step (R_assign rfl) rfl rfl ?_
        refine Ops_nil ?_
        refine then_n (hK17_ _ _ ?_)
        clear hK17_ K17_
        refine W_keepB [2] fun B18 hB18_ => ?_
        simp only [pickE, lookE, putE, zipE, args0, Nat.reduceAdd, Nat.zero_add, List.cons_append, List.nil_append, Nat.reduceBEq, cond_true, cond_false] at hB18_
        subst hB18_
        refine W_ret ?_
        refine ⟨_, ⟨_, _, rfl, rfl, rfl⟩, ?_⟩
        exact ⟨_, rfl, hfin, rfl⟩
      · have hfin : false = true → L.length ≤ 200 ∧ bytesOf L ≤ 16384 := fun h_ => by cases h_
        refine Ops_pass rfl rfl ?_
        refine Ops_pass rfl rfl ?_
        refine Ops_step (R_pick_false rfl rfl) rfl rfl ?_
        refine Ops_step (R_assign rfl) rfl rfl ?_
        refine Ops_nil ?_
        refine then_n (hK17_ _ _ ?_)
        clear hK17_ K17_
        refine W_keepB [2] fun B19 hB19_ => ?_
        simp only [pickE, lookE, putE, zipE, args0, Nat.reduceAdd, Nat.zero_add, List.cons_append, List.nil_append, Nat.reduceBEq, cond_true, cond_false] at hB19_
        subst hB19_
        refine W_ret ?_
        refine ⟨_, ⟨_, _, rfl, rfl, rfl⟩, ?_⟩
        exact ⟨_, rfl, hfin, rfl⟩
  · refine Ops_pass rfl rfl ?_
    refine Ops_pass rfl rfl ?_
    refine Ops_step (R_pick_false rfl rfl) rfl rfl ?_
    refine Ops_step (R_move rfl) rfl rfl ?_
    refine Ops_pass rfl rfl ?_
    refine Ops_pass rfl rfl ?_
    refine Ops_step (R_pick_false rfl rfl) rfl rfl ?_
    refine Ops_nil ?_
    refine then_n (hK7_ _ _ ?_)
    clear hK7_ K7_
    refine W_keepB [0, 3, 4, 10, 11, 14, 15, 16] fun B20 hB20_ => ?_
    simp only [pickE, lookE, putE, zipE, args0, Nat.reduceAdd, Nat.zero_add, List.cons_append, List.nil_append, Nat.reduceBEq, cond_true, cond_false] at hB20_
    subst hB20_
    refine W_cond_false rfl ?_
    refine W_exit ?_
    refine then_exit ?_
    clear hK6_ K6_
    refine then_exit ?_
    refine block_exit ?_
    refine then_n (hK3_ _ _ ?_)
    clear hK3_ K3_
    refine W_keepB [0, 3] fun B21 hB21_ => ?_
    simp only [pickE, lookE, putE, zipE, args0, Nat.reduceAdd, Nat.zero_add, List.cons_append, List.nil_append, Nat.reduceBEq, cond_true, cond_false] at hB21_
    subst hB21_
    refine W_seq_k fun K22_ hK22_ => ?_
    refine W_region [some 28, some 29, some 30, some 31, some 32, some 33, some 34, some 2] rfl ?_
    refine Ops_step (R_move rfl) rfl rfl ?_
    refine Ops_step (R_len Try.underlying22 rfl rfl) rfl rfl ?_
    refine Ops_step (R_leq rfl rfl) rfl rfl ?_
    refine Ops_step (R_move rfl) rfl rfl ?_
    refine Ops_split 31 rfl (fun hg31 => ?_) (fun hg31 => ?_)
    · have hfin : decide ((n : Int) ≤ 16384) = true → L.length ≤ 200 ∧ bytesOf L ≤ 16384 := fun h_ => by
          have h_ := of_decide_eq_true h_
          have hii : i = L.length := by omega
          subst hii
          have h2_ := hn (by omega)
          rw [List.take_length] at h2_
          exact ⟨by omega, by omega⟩
      refine Ops_step (R_move rfl) rfl rfl ?_
      refine Ops_step (R_leq rfl rfl) rfl rfl ?_
      refine Ops_step (R_pick_true rfl rfl) rfl rfl ?_
      refine Ops_step (R_assign rfl) rfl rfl ?_
      refine Ops_nil ?_
      refine then_n (hK22_ _ _ ?_)
      clear hK22_ K22_
      refine W_keepB [2] fun B23 hB23_ => ?_
      simp only [pickE, lookE, putE, zipE, args0, Nat.reduceAdd, Nat.zero_add, List.cons_append, List.nil_append, Nat.reduceBEq, cond_true, cond_false] at hB23_
      subst hB23_
      refine W_ret ?_
      refine ⟨_, ⟨_, _, rfl, rfl, rfl⟩, ?_⟩
      exact ⟨_, rfl, hfin, rfl⟩
    · have hfin : false = true → L.length ≤ 200 ∧ bytesOf L ≤ 16384 := fun h_ => by cases h_
      refine Ops_pass rfl rfl ?_
      refine Ops_pass rfl rfl ?_
      refine Ops_step (R_pick_false rfl rfl) rfl rfl ?_
      refine Ops_step (R_assign rfl) rfl rfl ?_
      refine Ops_nil ?_
      refine then_n (hK22_ _ _ ?_)
      clear hK22_ K22_
      refine W_keepB [2] fun B24 hB24_ => ?_
      simp only [pickE, lookE, putE, zipE, args0, Nat.reduceAdd, Nat.zero_add, List.cons_append, List.nil_append, Nat.reduceBEq, cond_true, cond_false] at hB24_
      subst hB24_
      refine W_ret ?_
      refine ⟨_, ⟨_, _, rfl, rfl, rfl⟩, ?_⟩
      exact ⟨_, rfl, hfin, rfl⟩
set_option maxHeartbeats 4000000 in
theorem beq_any (A : Option Addr) (n c : Nat) (A2 : Option Addr) (n2 c2 : Nat) (xs ys : List UInt8) (w : World) (hn : n = xs.length) (hn2 : n2 = ys.length) (hR : Rd w A (xs.map vb)) (hR2 : Rd w A2 (ys.map vb)) :
    Calls Try.prog 22 #[.slice A n c, .slice A2 n2 c2] w fun e w2 => e = .returned (.bool (decide (xs = ys))) ∧ w2 = w := by
  subst hn hn2
  refine calls_W 10 Try.func22 rfl Try.ntmps22 rfl [.tmp 4] rfl ?_
  refine W_seq_k fun K1_ hK1_ => ?_
  refine W_region [some 4] rfl ?_
  refine Ops_step (R_assign rfl) rfl rfl ?_
  refine Ops_nil ?_
  refine then_n (hK1_ _ _ ?_)
  clear hK1_ K1_
  refine W_seq_k fun K2_ hK2_ => ?_
  refine W_region [some 5, some 6, some 7, some 8, some 9, some 4] rfl ?_
  refine Ops_step (R_move rfl) rfl rfl ?_
  refine Ops_step (R_bytesStr Try.underlying24 Try.underlying5 Try.underlying9 rfl rfl hR) rfl rfl ?_
  refine Ops_step (R_move rfl) rfl rfl ?_
  refine Ops_step (R_bytesStr Try.underlying24 Try.underlying5 Try.underlying9 rfl rfl hR2) rfl rfl ?_
  refine Ops_step (R_strEqB rfl rfl) rfl rfl ?_
  refine Ops_step (R_assign rfl) rfl rfl ?_
  refine Ops_nil ?_
  refine then_n (hK2_ _ _ ?_)
  clear hK2_ K2_
  refine W_keepB [4] fun B3 hB3_ => ?_
  simp only [pickE, lookE, putE, zipE, args0, Nat.reduceAdd, Nat.zero_add, List.cons_append, List.nil_append, Nat.reduceBEq, cond_true, cond_false] at hB3_
  subst hB3_
  refine W_ret ?_
  refine ⟨_, ⟨_, _, rfl, rfl, rfl⟩, ?_⟩
  exact ⟨rfl, rfl⟩

end Go.Proofs.Ytijckogioombdaa
