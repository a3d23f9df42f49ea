/- What the walks of this seat show of Dh. -/
import Derived.Test.YtijckogioombdaaFj
import Derived.Test.YtijckogioombdaaDf
import Derived.Test.YtijckogioombdaaProg
set_option linter.unusedVariables false
set_option linter.unusedSimpArgs false
namespace Go.Proofs.Ytijckogioombdaa
open Go Go.Sx
namespace TDh
theorem hm : Try.prog.follows .mixedOrders = true := by kernel_rfl
theorem ag24 : aggB Try.prog 24 = some false := by kernel_rfl
theorem ag30 : aggB Try.prog 30 = some true := by kernel_rfl
theorem ag38 : aggB Try.prog 38 = some true := by kernel_rfl
theorem bd17 : bodied Try.prog 17 = true := by kernel_rfl
theorem bd18 : bodied Try.prog 18 = true := by kernel_rfl
theorem bd21 : bodied Try.prog 21 = true := by kernel_rfl
theorem bd34 : bodied Try.prog 34 = true := by kernel_rfl
theorem fo38_3 : offB Try.prog 38 3 = some 3 := by kernel_rfl
theorem sz24 : sz Try.prog 24 = some 1 := by kernel_rfl
theorem sz30 : sz Try.prog 30 = some 3 := by kernel_rfl
theorem sz38 : sz Try.prog 38 = some 4 := by kernel_rfl
theorem zr30 : zr Try.prog 30 = some (List.replicate 3 (.slice none 0 0)) := by kernel_rfl
theorem zr38 : zr Try.prog 38 = some ([.int .i64 0] ++ [.int .i64 0] ++ [.int .i64 0] ++ [.slice none 0 0]) := by kernel_rfl
end TDh
set_option maxHeartbeats 4000000 in
theorem short_any (LA : Option Addr) (L : List Do) (lc : Nat) (w : World) (hL : RdDo w LA L) (hm : L.length ≤ 140737488355328) : Calls Try.prog 10 #[.slice LA L.length lc] w fun e w2 => ∃ r, e = .returned (.bool r) ∧ (r = true → L.length ≤ 200 ∧ bytesOf L ≤ 16384) ∧ w2 = w := by
  refine calls_W 35 Try.func10 rfl Try.ntmps10 rfl [.tmp 2] rfl ?_
  refine W_seq_k fun K1_ hK1_ => ?_
  refine W_region [some 2] rfl ?_
  refine Ops_step (R_assign rfl) rfl rfl ?_
  refine Ops_nil ?_
  refine then_n (hK1_ _ _ ?_)
  clear hK1_ K1_
  refine W_seq_k fun K2_ hK2_ => ?_
  refine W_region [some 3] rfl ?_
  refine Ops_step (R_assign rfl) rfl rfl ?_
  refine Ops_nil ?_
  refine then_n (hK2_ _ _ ?_)
  clear hK2_ K2_
  refine W_seq_k fun K3_ hK3_ => ?_
  refine W_seq_k fun K4_ hK4_ => ?_
  refine W_region [some 4] rfl ?_
  refine Ops_step (R_assign rfl) rfl rfl ?_
  refine Ops_nil ?_
  refine then_n (hK4_ _ _ ?_)
  clear hK4_ K4_
  refine W_block ?_
  refine W_loopB [0] [3, 4] (fun m vs w' => ∃ n i, i ≤ L.length ∧ i ≤ 201 ∧ m = L.length - i ∧ vs = [vi (n : Nat), vi (i : Nat)] ∧ n ≤ 40000 ∧ (n ≤ 16384 → bytesOf (L.take i) = n) ∧ w' = w) (L.length) _ rfl (⟨0, 0, by omega, by omega, rfl, rfl, by omega, fun _ => rfl, rfl⟩) fun B5 hB5_ => ?_
  simp only [pickE, lookE, putE, zipE, args0, Nat.reduceAdd, Nat.zero_add, List.cons_append, List.nil_append, Nat.reduceBEq, cond_true, cond_false] at hB5_
  subst hB5_
  rintro m_ vs_ w0_ ⟨n, i, hi, hi2, rfl, rfl, hn1, hn, hw0⟩
  replace hw0 := hw0.symm
  subst hw0
  refine W_seq_k fun K6_ hK6_ => ?_
  refine W_seq_k fun K7_ hK7_ => ?_
  refine W_region [some 5, some 6, some 7, some 8, some 9, some 10, some 11, some 12, some 13, some 14, some 15, some 16] rfl ?_
  refine Ops_step (R_move rfl) rfl rfl ?_
  refine Ops_step (R_move rfl) rfl rfl ?_
  refine Ops_step (R_len Try.underlying22 rfl rfl) rfl rfl ?_
  refine Ops_step (R_lss rfl rfl) rfl rfl ?_
  refine Ops_step (R_move rfl) rfl rfl ?_
  refine Ops_split 9 rfl (fun hg9 => ?_) (fun hg9 => ?_)
  · refine Ops_step (R_move rfl) rfl rfl ?_
    refine Ops_step (R_leq rfl rfl) rfl rfl ?_
    refine Ops_step (R_pick_true rfl rfl) rfl rfl ?_
    refine Ops_step (R_move rfl) rfl rfl ?_
    refine Ops_split 13 rfl (fun hg13 => ?_) (fun hg13 => ?_)
    · refine Ops_step (R_move rfl) rfl rfl ?_
      refine Ops_step (R_leq rfl rfl) rfl rfl ?_
      refine Ops_step (R_pick_true rfl rfl) rfl rfl ?_
      refine Ops_nil ?_
      refine then_n (hK7_ _ _ ?_)
      clear hK7_ K7_
      refine W_keepB [0, 3, 4, 10, 11, 14, 15, 16] fun B8 hB8_ => ?_
      simp only [pickE, lookE, putE, zipE, args0, Nat.reduceAdd, Nat.zero_add, List.cons_append, List.nil_append, Nat.reduceBEq, cond_true, cond_false] at hB8_
      subst hB8_
      refine W_if rfl (fun hc16 => ?_) (fun hc16 => ?_)
      · have hi1 : i < L.length := by omega
        have hx := hL i _ (List.getElem?_eq_getElem hi1)
        have htk := List.take_succ_eq_append_getElem hi1
        have hmem := List.getElem_mem hi1
        refine named L[i] fun k ek => ?_
        rw [← ek] at hx htk hmem
        obtain ⟨hs1, Ai, ci, hcs, hdo⟩ := hx
        refine W_skip ?_
        refine then_n (hK6_ _ _ ?_)
        clear hK6_ K6_
        refine W_seq_k fun K9_ hK9_ => ?_
        refine W_block ?_
        refine W_region [some 19, some 20, some 21, some 22, some 23, some 24, some 25, some 26, some 27, some 3] rfl ?_
        refine Ops_step (R_move rfl) rfl rfl ?_
        refine Ops_step (R_move rfl) rfl rfl ?_
        refine Ops_step (R_move rfl) rfl rfl ?_
        refine Ops_step (R_indexSl Try.underlying22 TDh.sz38 rfl rfl (by omega) (by omega) hs1) rfl rfl ?_
        refine Ops_step (R_fieldAddr' TDh.fo38_3 rfl) rfl rfl ?_
        refine Ops_step (R_load TDh.ag24 rfl (hcs 3 _ rfl)) rfl rfl ?_
        refine Ops_step (R_len Try.underlying24 rfl rfl) rfl rfl ?_
        refine Ops_step (R_min rfl rfl (show _ = ((min k.b.length 16385 : Nat) : Int) by omega)) rfl rfl ?_
        refine Ops_step (R_add rfl rfl (wIc (n := n + (min k.b.length 16385)) (by omega) (by omega))) rfl rfl ?_
        refine Ops_step (R_assign rfl) rfl rfl ?_
        refine Ops_nil ?_
        refine block_n ?_
        refine then_n (hK9_ _ _ ?_)
        clear hK9_ K9_
        refine W_keepB [0, 3, 4, 10, 11, 14, 15] fun B10 hB10_ => ?_
        simp only [pickE, lookE, putE, zipE, args0, Nat.reduceAdd, Nat.zero_add, List.cons_append, List.nil_append, Nat.reduceBEq, cond_true, cond_false] at hB10_
        subst hB10_
        refine W_region [some 17, some 18, some 4] rfl ?_
        refine Ops_step (R_move rfl) rfl rfl ?_
        refine Ops_step (R_add rfl rfl (wIc (n := i + 1) (by omega) (by omega))) rfl rfl ?_
        refine Ops_step (R_assign rfl) rfl rfl ?_
        refine Ops_nil ?_
        exact ⟨L.length - (i + 1), _, by omega, rfl, ⟨n + min k.b.length 16385, i + 1, by omega, by omega, rfl, rfl, by omega, fun h_ => by rw [htk, bytesOf_app, hn (by omega)]; omega, rfl⟩, ⟨rfl, trivial⟩⟩
      · refine W_exit ?_
        refine then_exit ?_
        clear hK6_ K6_
        refine then_exit ?_
        refine block_exit ?_
        refine then_n (hK3_ _ _ ?_)
        clear hK3_ K3_
        refine W_keepB [0, 3] fun B11 hB11_ => ?_
        simp only [pickE, lookE, putE, zipE, args0, Nat.reduceAdd, Nat.zero_add, List.cons_append, List.nil_append, Nat.reduceBEq, cond_true, cond_false] at hB11_
        subst hB11_
        refine W_seq_k fun K12_ hK12_ => ?_
        refine W_region [some 28, some 29, some 30, some 31, some 32, some 33, some 34, some 2] rfl ?_
        refine Ops_step (R_move rfl) rfl rfl ?_
        refine Ops_step (R_len Try.underlying22 rfl rfl) rfl rfl ?_
        refine Ops_step (R_leq rfl rfl) rfl rfl ?_
        refine Ops_step (R_move rfl) rfl rfl ?_
        refine Ops_split 31 rfl (fun hg31 => ?_) (fun hg31 => ?_)
        · have hfin : decide ((n : Int) ≤ 16384) = true → L.length ≤ 200 ∧ bytesOf L ≤ 16384 := fun h_ => by
              have h_ := of_decide_eq_true h_
              have hii : i = L.length := by omega
              subst hii
              have h2_ := hn (by omega)
              rw [List.take_length] at h2_
              exact ⟨by omega, by omega⟩
          refine Ops_step (R_move rfl) rfl rfl ?_
          refine Ops_step (R_leq rfl rfl) rfl rfl ?_
          refine Ops_step (R_pick_true rfl rfl) rfl rfl ?_
          refine Ops_step (R_assign rfl) rfl rfl ?_
          refine Ops_nil ?_
          refine then_n (hK12_ _ _ ?_)
          clear hK12_ K12_
          refine W_keepB [2] fun B13 hB13_ => ?_
          simp only [pickE, lookE, putE, zipE, args0, Nat.reduceAdd, Nat.zero_add, List.cons_append, List.nil_append, Nat.reduceBEq, cond_true, cond_false] at hB13_
          subst hB13_
          refine W_ret ?_
          refine ⟨_, ⟨_, _, rfl, rfl, rfl⟩, ?_⟩
          exact ⟨_, rfl, hfin, rfl⟩
        · have hfin : false = true → L.length ≤ 200 ∧ bytesOf L ≤ 16384 := fun h_ => by cases h_
          refine Ops_pass rfl rfl ?_
          refine Ops_pass rfl rfl ?_
          refine Ops_step (R_pick_false rfl rfl) rfl rfl ?_
          refine Ops_step (R_assign rfl) rfl rfl ?_
          refine Ops_nil ?_
          refine then_n (hK12_ _ _ ?_)
          clear hK12_ K12_
          refine W_keepB [2] fun B14 hB14_ => ?_
          simp only [pickE, lookE, putE, zipE, args0, Nat.reduceAdd, Nat.zero_add, List.cons_append, List.nil_append, Nat.reduceBEq, cond_true, cond_false] at hB14_
          subst hB14_
          refine W_ret ?_
          refine ⟨_, ⟨_, _, rfl, rfl, rfl⟩, ?_⟩
          exact ⟨_, rfl, hfin, rfl⟩
    · refine Ops_pass rfl rfl ?_
      refine Ops_pass rfl rfl ?_
      refine Ops_step (R_pick_false rfl rfl) rfl rfl ?_
      refine Ops_nil ?_
      refine then_n (hK7_ _ _ ?_)
      clear hK7_ K7_
      refine W_keepB [0, 3, 4, 10, 11, 14, 15, 16] fun B15 hB15_ => ?_
      simp only [pickE, lookE, putE, zipE, args0, Nat.reduceAdd, Nat.zero_add, List.cons_append, List.nil_append, Nat.reduceBEq, cond_true, cond_false] at hB15_
      subst hB15_
      refine W_cond_false rfl ?_
      refine W_exit ?_
      refine then_exit ?_
      clear hK6_ K6_
      refine then_exit ?_
      refine block_exit ?_
      refine then_n (hK3_ _ _ ?_)
      clear hK3_ K3_
      refine W_keepB [0, 3] fun B16 hB16_ => ?_
      simp only [pickE, lookE, putE, zipE, args0, Nat.reduceAdd, Nat.zero_add, List.cons_append, List.nil_append, Nat.reduceBEq, cond_true, cond_false] at hB16_
      subst hB16_
      refine W_seq_k fun K17_ hK17_ => ?_
      refine W_region [some 28, some 29, some 30, some 31, some 32, some 33, some 34, some 2] rfl ?_
      refine Ops_step (R_move rfl) rfl rfl ?_
      refine Ops_step (R_len Try.underlying22 rfl rfl) rfl rfl ?_
      refine Ops_step (R_leq rfl rfl) rfl rfl ?_
      refine Ops_step (R_move rfl) rfl rfl ?_
      refine Ops_split 31 rfl (fun hg31 => ?_) (fun hg31 => ?_)
      · have hfin : decide ((n : Int) ≤ 16384) = true → L.length ≤ 200 ∧ bytesOf L ≤ 16384 := fun h_ => by
            have h_ := of_decide_eq_true h_
            have hii : i = L.length := by omega
            subst hii
            have h2_ := hn (by omega)
            rw [List.take_length] at h2_
            exact ⟨by omega, by omega⟩
        refine Ops_step (R_move rfl) rfl rfl ?_
        refine Ops_step (R_leq rfl rfl) rfl rfl ?_
        refine Ops_step (R_pick_true rfl rfl) rfl rfl ?_
        refine Ops_step (R_assign rfl) rfl rfl ?_
        refine Ops_nil ?_
        refine then_n (hK17_ _ _ ?_)
        clear hK17_ K17_
        refine W_keepB [2] fun B18 hB18_ => ?_
        simp only [pickE, lookE, putE, zipE, args0, Nat.reduceAdd, Nat.zero_add, List.cons_append, List.nil_append, Nat.reduceBEq, cond_true, cond_false] at hB18_
        subst hB18_
        refine W_ret ?_
        refine ⟨_, ⟨_, _, rfl, rfl, rfl⟩, ?_⟩
        exact ⟨_, rfl, hfin, rfl⟩
      · have hfin : false = true → L.length ≤ 200 ∧ bytesOf L ≤ 16384 := fun h_ => by cases h_
        refine Ops_pass rfl rfl ?_
        refine Ops_pass rfl rfl ?_
        refine Ops_step (R_pick_false rfl rfl) rfl rfl ?_
        refine Ops_step (R_assign rfl) rfl rfl ?_
        refine Ops_nil ?_
        refine then_n (hK17_ _ _ ?_)
        clear hK17_ K17_
        refine W_keepB [2] fun B19 hB19_ => ?_
        simp only [pickE, lookE, putE, zipE, args0, Nat.reduceAdd, Nat.zero_add, List.cons_append, List.nil_append, Nat.reduceBEq, cond_true, cond_false] at hB19_
        subst hB19_
        refine W_ret ?_
        refine ⟨_, ⟨_, _, rfl, rfl, rfl⟩, ?_⟩
        exact ⟨_, rfl, hfin, rfl⟩
  · refine Ops_pass rfl rfl ?_
    refine Ops_pass rfl rfl ?_
    refine Ops_step (R_pick_false rfl rfl) rfl rfl ?_
    refine Ops_step (R_move rfl) rfl rfl ?_
    refine Ops_pass rfl rfl ?_
    refine Ops_pass rfl rfl ?_
    refine Ops_step (R_pick_false rfl rfl) rfl rfl ?_
    refine Ops_nil ?_
    refine then_n (hK7_ _ _ ?_)
    clear hK7_ K7_
    refine W_keepB [0, 3, 4, 10, 11, 14, 15, 16] fun B20 hB20_ => ?_
    simp only [pickE, lookE, putE, zipE, args0, Nat.reduceAdd, Nat.zero_add, List.cons_append, List.nil_append, Nat.reduceBEq, cond_true, cond_false] at hB20_
    subst hB20_
    refine W_cond_false rfl ?_
    refine W_exit ?_
    refine then_exit ?_
    clear hK6_ K6_
    refine then_exit ?_
    refine block_exit ?_
    refine then_n (hK3_ _ _ ?_)
    clear hK3_ K3_
    refine W_keepB [0, 3] fun B21 hB21_ => ?_
    simp only [pickE, lookE, putE, zipE, args0, Nat.reduceAdd, Nat.zero_add, List.cons_append, List.nil_append, Nat.reduceBEq, cond_true, cond_false] at hB21_
    subst hB21_
    refine W_seq_k fun K22_ hK22_ => ?_
    refine W_region [some 28, some 29, some 30, some 31, some 32, some 33, some 34, some 2] rfl ?_
    refine Ops_step (R_move rfl) rfl rfl ?_
    refine Ops_step (R_len Try.underlying22 rfl rfl) rfl rfl ?_
    refine Ops_step (R_leq rfl rfl) rfl rfl ?_
    refine Ops_step (R_move rfl) rfl rfl ?_
    refine Ops_split 31 rfl (fun hg31 => ?_) (fun hg31 => ?_)
    · have hfin : decide ((n : Int) ≤ 16384) = true → L.length ≤ 200 ∧ bytesOf L ≤ 16384 := fun h_ => by
          have h_ := of_decide_eq_true h_
          have hii : i = L.length := by omega
          subst hii
          have h2_ := hn (by omega)
          rw [List.take_length] at h2_
          exact ⟨by omega, by omega⟩
      refine Ops_step (R_move rfl) rfl rfl ?_
      refine Ops_step (R_leq rfl rfl) rfl rfl ?_
      refine Ops_step (R_pick_true rfl rfl) rfl rfl ?_
      refine Ops_step (R_assign rfl) rfl rfl ?_
      refine Ops_nil ?_
      refine then_n (hK22_ _ _ ?_)
      clear hK22_ K22_
      refine W_keepB [2] fun B23 hB23_ => ?_
      simp only [pickE, lookE, putE, zipE, args0, Nat.reduceAdd, Nat.zero_add, List.cons_append, List.nil_append, Nat.reduceBEq, cond_true, cond_false] at hB23_
      subst hB23_
      refine W_ret ?_
      refine ⟨_, ⟨_, _, rfl, rfl, rfl⟩, ?_⟩
      exact ⟨_, rfl, hfin, rfl⟩
    · have hfin : false = true → L.length ≤ 200 ∧ bytesOf L ≤ 16384 := fun h_ => by cases h_
      refine Ops_pass rfl rfl ?_
      refine Ops_pass rfl rfl ?_
      refine Ops_step (R_pick_false rfl rfl) rfl rfl ?_
      refine Ops_step (R_assign rfl) rfl rfl ?_
      refine Ops_nil ?_
      refine then_n (hK22_ _ _ ?_)
      clear hK22_ K22_
      refine W_keepB [2] fun B24 hB24_ => ?_
      simp only [pickE, lookE, putE, zipE, args0, Nat.reduceAdd, Nat.zero_add, List.cons_append, List.nil_append, Nat.reduceBEq, cond_true, cond_false] at hB24_
      subst hB24_
      refine W_ret ?_
      refine ⟨_, ⟨_, _, rfl, rfl, rfl⟩, ?_⟩
      exact ⟨_, rfl, hfin, rfl⟩
set_option maxHeartbeats 4000000 in
theorem made_any (r : Nat) (h1 : 1 ≤ r) (h2 : r ≤ 16777216) (LA : Option Addr) (L : List Do) (lc : Nat) (w : World) (hL : RdDo w LA L) (hm : L.length ≤ 140737488355328) : Calls Try.prog 12 #[vi r, .slice LA L.length lc] w fun e w2 => ∃ d, e = .returned (.pointer (some ⟨d, 0, none⟩)) ∧ Dsk w2 w.heap.size d (runs (Dk.new r) L) ∧ Fr [] w w2 := by
  have hF := Fr.refl [] w
  refine calls_W 25 Try.func12 rfl Try.ntmps12 rfl [.tmp 4] rfl ?_
  refine W_seq_k fun K1_ hK1_ => ?_
  refine W_region [some 4] rfl ?_
  refine Ops_step (R_assign rfl) rfl rfl ?_
  refine Ops_nil ?_
  refine then_n (hK1_ _ _ ?_)
  clear hK1_ K1_
  refine W_seq_k fun K2_ hK2_ => ?_
  refine W_region [some 10, some 11, some 9, some 12, some 13, some 5, some 6] rfl ?_
  refine Ops_step (R_move rfl) rfl rfl ?_
  have hz11 := hF.size
  refine Ops_call (C_func TDh.bd21 rfl) rfl rfl ?_
  refine (new_any r (by omega) (by omega) _).mono ?_
  rintro _ w11_ ⟨d11, rfl, hD, hF11_⟩
  replace hF := hF.fr0 hF11_
  clear hF11_
  refine Exists.elim hD.name fun B11 h_ => ?_
  clear hD
  have hBe11 := h_.1
  have hD := h_.2
  clear h_
  have hge11 := hD.ge
  refine ⟨_, rfl, ?_⟩
  refine Ops_step (R_move rfl) rfl rfl ?_
  refine Ops_step (R_extract rfl rfl) rfl rfl ?_
  refine Ops_step (R_extract rfl rfl) rfl rfl ?_
  refine Ops_step (R_assign rfl) rfl rfl ?_
  refine Ops_step (R_assign rfl) rfl rfl ?_
  refine Ops_nil ?_
  refine then_n (hK2_ _ _ ?_)
  clear hK2_ K2_
  refine W_keepB [1, 5] fun B3 hB3_ => ?_
  simp only [pickE, lookE, putE, zipE, args0, Nat.reduceAdd, Nat.zero_add, List.cons_append, List.nil_append, Nat.reduceBEq, cond_true, cond_false] at hB3_
  subst hB3_
  refine W_seq_k fun K4_ hK4_ => ?_
  refine W_seq_k fun K5_ hK5_ => ?_
  refine W_region [some 14, some 15, some 16] rfl ?_
  refine Ops_step (R_move rfl) rfl rfl ?_
  refine Ops_step (R_len Try.underlying22 rfl rfl) rfl rfl ?_
  refine Ops_step (R_move rfl) rfl rfl ?_
  refine Ops_nil ?_
  refine then_n (hK5_ _ _ ?_)
  clear hK5_ K5_
  refine W_block ?_
  refine W_loopB [5, 14, 15] [16] (fun m vs w' => ∃ i, i ≤ L.length ∧ m = L.length - i ∧ vs = [vi (i : Nat)] ∧ Dsk w' B11 d11 (runs (Dk.new r) (L.take i)) ∧ Fr [] w w') (L.length) _ rfl (⟨0, by omega, rfl, rfl, hD, hF⟩) fun B6 hB6_ => ?_
  simp only [pickE, lookE, putE, zipE, args0, Nat.reduceAdd, Nat.zero_add, List.cons_append, List.nil_append, Nat.reduceBEq, cond_true, cond_false] at hB6_
  subst hB6_
  clear hD hF
  rintro m_ vs_ w0_ ⟨i, hi, rfl, rfl, hD, hF⟩
  refine W_seq_k fun K7_ hK7_ => ?_
  refine W_region [some 17] rfl ?_
  refine Ops_step (R_lss rfl rfl) rfl rfl ?_
  refine Ops_nil ?_
  refine then_n (hK7_ _ _ ?_)
  clear hK7_ K7_
  refine W_seq_k fun K8_ hK8_ => ?_
  refine W_if rfl (fun hc17 => ?_) (fun hc17 => ?_)
  · have hi1 : i < L.length := by omega
    have hx := hL i _ (List.getElem?_eq_getElem hi1)
    have htk := List.take_succ_eq_append_getElem hi1
    have hmem := List.getElem_mem hi1
    refine named L[i] fun k ek => ?_
    rw [← ek] at hx htk hmem
    obtain ⟨hs1, Ai, ci, hcs, hdo⟩ := hx
    refine W_skip ?_
    refine then_n (hK8_ _ _ ?_)
    clear hK8_ K8_
    refine W_seq_k fun K9_ hK9_ => ?_
    refine W_block ?_
    refine W_seq_k fun K10_ hK10_ => ?_
    refine W_region [some 18, some 19, some 8, none] rfl ?_
    refine Ops_step (R_indexSl Try.underlying22 TDh.sz38 rfl rfl (by omega) (by omega) hs1) rfl rfl ?_
    refine Ops_step (R_loadCs (cs := doC k Ai ci) TDh.ag38 (by exact TDh.sz38) rfl (fun r v hr => Fr.cell hF (hcs r v hr) (by simp))) rfl rfl ?_
    have hz8_hF := hF.size
    have hn8_hD := hD.lt
    refine Ops_to (R_alloc TDh.zr38) rfl rfl ?_
    rintro _ w8_ ⟨b8, rfl, hb8, hB8, hF8_⟩
    have hl8 := hB8.lt
    replace hF := hF.fr0 hF8_
    replace hD := hD.fr0 hF8_
    clear hF8_
    have hb8_ := hB8
    refine Ops_to0 (R_storeN TDh.sz38 rfl rfl rfl hB8 (by decide) rfl) rfl ?_
    clear hB8
    rintro _ w11_ ⟨hB8, hF11_⟩
    replace hF := hF.then hF11_ (by simp only [List.mem_cons, List.not_mem_nil, or_false]; intro i_ hi_ hj_; omega)
    replace hD := hD.fr hF11_ (skOne (by omega) hb8_ (by decide))
    clear hF11_
    replace hB8 : Blk _ b8 38 (doC k Ai ci) := hB8.to (over4_ rfl)
    refine Ops_nil ?_
    refine then_n (hK10_ _ _ ?_)
    clear hK10_ K10_
    refine W_region [some 20, some 21, some 22] rfl ?_
    refine Ops_step (R_move rfl) rfl rfl ?_
    refine Ops_step (R_loadW TDh.ag38 TDh.sz38 rfl hB8 rfl) rfl rfl ?_
    have hs22_ := hF.size
    have hw22_ := hD.lt
    refine Ops_call (C_func TDh.bd18 rfl) rfl rfl ?_
    refine (does_any _ _ _ k Ai ci _ hD (RdY.old hdo.2.2.1 hF (by omega)) hdo.1 (Nat.le_trans hdo.1 hdo.2.1) hdo.2.2.2).mono ?_
    rintro _ w22_ ⟨rfl, hD, hF22_⟩
    replace hF := hF.then hF22_ (by simp only [List.mem_singleton]; omega)
    replace hB8 := hB8.fr hF22_ (by simp only [List.mem_cons, List.not_mem_nil, or_false]; omega)
    clear hF22_
    refine ⟨_, rfl, ?_⟩
    refine Ops_nil ?_
    refine block_n ?_
    refine then_n (hK9_ _ _ ?_)
    clear hK9_ K9_
    refine W_keepB [5, 14, 15, 16] fun B12 hB12_ => ?_
    simp only [pickE, lookE, putE, zipE, args0, Nat.reduceAdd, Nat.zero_add, List.cons_append, List.nil_append, Nat.reduceBEq, cond_true, cond_false] at hB12_
    subst hB12_
    refine W_region [some 23, some 16] rfl ?_
    refine Ops_step (R_add rfl rfl (wIc (n := i + 1) (by omega) (by omega))) rfl rfl ?_
    refine Ops_step (R_move rfl) rfl rfl ?_
    refine Ops_nil ?_
    exact ⟨L.length - (i + 1), _, by omega, rfl, ⟨i + 1, by omega, rfl, rfl, by rw [htk, runs_app]; exact hD, hF⟩, ⟨rfl, rfl, rfl, trivial⟩⟩
  · have hil : i = L.length := by omega
    subst hil
    rw [List.take_length] at hD
    refine W_exit ?_
    refine then_exit ?_
    clear hK8_ K8_
    refine then_exit ?_
    refine block_exit ?_
    refine then_n (hK4_ _ _ ?_)
    clear hK4_ K4_
    refine W_seq_k fun K13_ hK13_ => ?_
    refine W_region [some 24, some 4] rfl ?_
    refine Ops_step (R_move rfl) rfl rfl ?_
    refine Ops_step (R_assign rfl) rfl rfl ?_
    refine Ops_nil ?_
    refine then_n (hK13_ _ _ ?_)
    clear hK13_ K13_
    refine W_keepB [4] fun B14 hB14_ => ?_
    simp only [pickE, lookE, putE, zipE, args0, Nat.reduceAdd, Nat.zero_add, List.cons_append, List.nil_append, Nat.reduceBEq, cond_true, cond_false] at hB14_
    subst hB14_
    refine W_ret ?_
    refine ⟨_, ⟨_, _, rfl, rfl, rfl⟩, ?_⟩
    exact ⟨_, rfl, hD.le (by omega), hF⟩
set_option maxHeartbeats 4000000 in
theorem files_any (B d : Nat) (D : Dk) (w : World) (hD : Dsk w B d D) : Calls Try.prog 13 #[.pointer (some ⟨d, 0, none⟩)] w fun e w2 => ∃ ps, e = .returned (.agg (flC ps D.F).toArray) ∧ ps.length = 3 ∧ FlP w2 w.heap.size ps D.F ∧ Dsk w2 B d D.start.2 ∧ Fr [d] w w2 := by
  have hF := Fr.refl [d] w
  have hT3 := hD.ok.three
  have hdl := hD.lt
  refine calls_W 20 Try.func13 rfl Try.ntmps13 rfl [.cell 2 30] rfl ?_
  refine W_seq_k fun K1_ hK1_ => ?_
  refine W_region [some 2] rfl ?_
  have hz2_hF := hF.size
  have hn2_hD := hD.lt
  refine Ops_to (R_alloc TDh.zr30) rfl rfl ?_
  rintro _ w2_ ⟨b2, rfl, hb2, hB2, hF2_⟩
  have hl2 := hB2.lt
  replace hF := hF.fr0 hF2_
  replace hD := hD.fr0 hF2_
  clear hF2_
  refine Ops_nil ?_
  refine then_n (hK1_ _ _ ?_)
  clear hK1_ K1_
  refine W_seq_k fun K2_ hK2_ => ?_
  refine W_region [some 5, some 6] rfl ?_
  refine Ops_step (R_move rfl) rfl rfl ?_
  refine Ops_call (C_func TDh.bd34 rfl) rfl rfl ?_
  refine (start_any _ _ _ _ hD).mono ?_
  rintro _ w6_ ⟨rfl, hD, hF6_⟩
  replace hF := hF.then hF6_ (by simp)
  replace hB2 := hB2.fr hF6_ (by simp only [List.mem_singleton]; omega)
  clear hF6_
  refine named D.start.2 fun D2 eD2 => ?_
  rw [← eD2] at hD
  have hoff : D2.off = false := by rw [eD2]; rfl
  have hDF : D2.F = D.F := by rw [eD2]; rfl
  refine ⟨_, rfl, ?_⟩
  refine Ops_nil ?_
  refine then_n (hK2_ _ _ ?_)
  clear hK2_ K2_
  refine W_seq_k fun K3_ hK3_ => ?_
  refine W_region [some 3] rfl ?_
  have hz3_hF := hF.size
  have hn3_hD := hD.lt
  have hn3_hB2 := hB2.lt
  refine Ops_to (R_alloc TDh.zr30) rfl rfl ?_
  rintro _ w3_ ⟨b3, rfl, hb3, hB3, hF3_⟩
  have hl3 := hB3.lt
  replace hF := hF.fr0 hF3_
  replace hD := hD.fr0 hF3_
  replace hB2 := hB2.fr0 hF3_
  clear hF3_
  refine Ops_nil ?_
  refine then_n (hK3_ _ _ ?_)
  clear hK3_ K3_
  refine W_seq_k fun K4_ hK4_ => ?_
  refine W_seq_k fun K5_ hK5_ => ?_
  refine W_region [some 7] rfl ?_
  refine Ops_step (R_move rfl) rfl rfl ?_
  refine Ops_nil ?_
  refine then_n (hK5_ _ _ ?_)
  clear hK5_ K5_
  refine W_block ?_
  refine W_loopB [0, 2, 3] [7] (fun m vs w' => ∃ i ps, i ≤ 3 ∧ m = 3 - i ∧ vs = [vi (i : Nat)] ∧ List.length ps = i ∧ Blk w' b3 30 (flC ps D.F) ∧ FlP w' w.heap.size ps D.F ∧ (∃ zs, zs.length = 3 ∧ Blk w' b2 30 zs) ∧ Dsk w' B d D2 ∧ Fr [d] w w') (3) _ rfl (⟨0, [], by omega, rfl, rfl, rfl, hB3.to (flC_nil hT3), FlP.nil _ _ _, ⟨[.slice none 0 0, .slice none 0 0, .slice none 0 0], rfl, hB2⟩, hD, hF⟩) fun B6 hB6_ => ?_
  simp only [pickE, lookE, putE, zipE, args0, Nat.reduceAdd, Nat.zero_add, List.cons_append, List.nil_append, Nat.reduceBEq, cond_true, cond_false] at hB6_
  subst hB6_
  clear hB3 hB2 hD hF
  rintro m_ vs_ w0_ ⟨i, ps, hi, rfl, rfl, hpl, hB3, hP, ⟨zs2, lz2, hB2⟩, hD, hF⟩
  have hbs3 := hB3.lt
  have hbs2 := hB2.lt
  refine W_seq_k fun K7_ hK7_ => ?_
  refine W_region [some 8] rfl ?_
  refine Ops_step (R_lss rfl rfl) rfl rfl ?_
  refine Ops_nil ?_
  refine then_n (hK7_ _ _ ?_)
  clear hK7_ K7_
  refine W_seq_k fun K8_ hK8_ => ?_
  refine W_if rfl (fun hc8 => ?_) (fun hc8 => ?_)
  · refine W_skip ?_
    refine then_n (hK8_ _ _ ?_)
    clear hK8_ K8_
    refine W_seq_k fun K9_ hK9_ => ?_
    refine W_block ?_
    refine W_seq_k fun K10_ hK10_ => ?_
    refine W_region [some 9, some 4] rfl ?_
    refine Ops_step (R_move rfl) rfl rfl ?_
    refine Ops_step (R_assign rfl) rfl rfl ?_
    refine Ops_nil ?_
    refine then_n (hK10_ _ _ ?_)
    clear hK10_ K10_
    refine W_region [some 11, some 12, some 13, some 14, some 10, some 15, some 16, some 17, none] rfl ?_
    refine Ops_step (R_move rfl) rfl rfl ?_
    refine Ops_step (R_move rfl) rfl rfl ?_
    refine Ops_step (R_move rfl) rfl rfl ?_
    have hs14 := hF.size
    refine Ops_call (C_func TDh.bd17 rfl) rfl rfl ?_
    refine (read_ok _ _ _ i (by omega) hoff _ hD).mono ?_
    rintro _ w14_ ⟨A14, c14, rfl, hQ14, hF14_⟩
    replace hB3 := hB3.fr0 hF14_
    replace hB2 := hB2.fr0 hF14_
    replace hP := hP.fr0 hF14_
    replace hD := hD.fr0 hF14_
    replace hF := hF.fr0 hF14_
    clear hF14_
    replace hQ14 := hQ14.le hs14
    rw [hDF] at hQ14
    refine ⟨_, rfl, ?_⟩
    refine Ops_step (R_move rfl) rfl rfl ?_
    refine Ops_step (R_extract rfl rfl) rfl rfl ?_
    refine Ops_step (R_extract rfl rfl) rfl rfl ?_
    refine Ops_step (R_indexArr Try.underlying30 TDh.sz24 rfl rfl (by omega) (by omega)) rfl rfl ?_
    have hn3_14 := hQ14.notin hB3 (by decide)
    have hb3_ := hB3
    refine Ops_to0 (R_store TDh.sz24 rfl rfl hB3 (by rw [flC_len hpl hT3 (by omega)]; omega) rfl) rfl ?_
    clear hB3
    rintro _ w11_ ⟨hB3, hF11_⟩
    replace hB2 := hB2.fr hF11_ (by simp only [List.mem_singleton]; omega)
    replace hP := hP.fr hF11_ (fun i_ hi_ => by rw [List.mem_singleton.1 hi_]; exact ⟨30, _, by decide, hb3_⟩)
    replace hD := hD.fr hF11_ (skOne (by omega) hb3_ (by decide))
    replace hF := hF.then hF11_ (by simp only [List.mem_singleton]; omega)
    replace hQ14 := hQ14.fr hF11_ (fun i_ hi_ hj_ => hn3_14 (by rw [← List.mem_singleton.1 hj_]; exact hi_))
    clear hF11_
    replace hB3 := hB3.to (cs' := flC (ps ++ [(A14, c14)]) D.F) (by rw [hDF]; exact flC_set hpl hT3 (by omega) _ _)
    replace hP := hP.snoc hpl hT3 (by omega) hQ14
    clear hQ14 hb3_
    refine Ops_nil ?_
    refine block_n ?_
    refine then_n (hK9_ _ _ ?_)
    clear hK9_ K9_
    refine W_keepB [0, 2, 3, 7] fun B12 hB12_ => ?_
    simp only [pickE, lookE, putE, zipE, args0, Nat.reduceAdd, Nat.zero_add, List.cons_append, List.nil_append, Nat.reduceBEq, cond_true, cond_false] at hB12_
    subst hB12_
    refine W_region [some 18, some 7] rfl ?_
    refine Ops_step (R_add rfl rfl (wIc (n := i + 1) (by omega) (by omega))) rfl rfl ?_
    refine Ops_step (R_move rfl) rfl rfl ?_
    refine Ops_nil ?_
    exact ⟨3 - (i + 1), _, by omega, rfl, ⟨i + 1, _, by omega, rfl, rfl, by simp [hpl], hB3, hP, ⟨zs2, lz2, hB2⟩, hD, hF⟩, ⟨rfl, rfl, rfl, trivial⟩⟩
  · have hi3 : i = 3 := by omega
    subst hi3
    refine W_exit ?_
    refine then_exit ?_
    clear hK8_ K8_
    refine then_exit ?_
    refine block_exit ?_
    refine then_n (hK4_ _ _ ?_)
    clear hK4_ K4_
    refine W_seq_k fun K13_ hK13_ => ?_
    refine W_region [some 19, none] rfl ?_
    refine Ops_step (R_loadW TDh.ag30 TDh.sz30 rfl hB3 (flC_len hpl hT3 (by omega))) rfl rfl ?_
    have hb2_ := hB2
    refine Ops_to0 (R_storeN TDh.sz30 (by rw [List.size_toArray, flC_len hpl hT3 (by omega)]) rfl rfl hB2 (by rw [lz2]; decide) (flC_one _ _)) rfl ?_
    clear hB2
    rintro _ w14_ ⟨hB2, hF14_⟩
    replace hB3 := hB3.fr hF14_ (by simp only [List.mem_singleton]; omega)
    replace hP := hP.fr hF14_ (fun i_ hi_ => by rw [List.mem_singleton.1 hi_]; exact ⟨30, _, by decide, hb2_⟩)
    replace hD := hD.fr hF14_ (skOne (by omega) hb2_ (by decide))
    replace hF := hF.then hF14_ (by simp only [List.mem_singleton]; omega)
    clear hF14_
    replace hB2 := hB2.to (cs' := flC ps D.F) (over4_ (by rw [lz2, flC_len hpl hT3 (by omega)]))
    refine Ops_nil ?_
    refine then_n (hK13_ _ _ ?_)
    clear hK13_ K13_
    refine W_ret ?_
    refine ⟨_, ⟨_, _, _, rfl, rfl, run_loadVarN TDh.ag30 TDh.sz30 hB2 (by rw [flC_len hpl hT3 (by omega)]; decide), rfl⟩, ?_⟩
    exact ⟨ps, by rw [List.drop_zero, List.take_of_length_le (Nat.le_of_eq (flC_len hpl hT3 (by omega)))]; rfl, hpl, hP, by rw [← eD2]; exact hD, hF⟩
set_option maxHeartbeats 4000000 in
theorem beq_any (A : Option Addr) (n c : Nat) (A2 : Option Addr) (n2 c2 : Nat) (xs ys : List UInt8) (w : World) (hn : n = xs.length) (hn2 : n2 = ys.length) (hR : Rd w A (xs.map vb)) (hR2 : Rd w A2 (ys.map vb)) :
    Calls Try.prog 22 #[.slice A n c, .slice A2 n2 c2] w fun e w2 => e = .returned (.bool (decide (xs = ys))) ∧ w2 = w := by
  subst hn hn2
  refine calls_W 10 Try.func22 rfl Try.ntmps22 rfl [.tmp 4] rfl ?_
  refine W_seq_k fun K1_ hK1_ => ?_
  refine W_region [some 4] rfl ?_
  refine Ops_step (R_assign rfl) rfl rfl ?_
  refine Ops_nil ?_
  refine then_n (hK1_ _ _ ?_)
  clear hK1_ K1_
  refine W_seq_k fun K2_ hK2_ => ?_
  refine W_region [some 5, some 6, some 7, some 8, some 9, some 4] rfl ?_
  refine Ops_step (R_move rfl) rfl rfl ?_
  refine Ops_step (R_bytesStr Try.underlying24 Try.underlying5 Try.underlying9 rfl rfl hR) rfl rfl ?_
  refine Ops_step (R_move rfl) rfl rfl ?_
  refine Ops_step (R_bytesStr Try.underlying24 Try.underlying5 Try.underlying9 rfl rfl hR2) rfl rfl ?_
  refine Ops_step (R_strEqB rfl rfl) rfl rfl ?_
  refine Ops_step (R_assign rfl) rfl rfl ?_
  refine Ops_nil ?_
  refine then_n (hK2_ _ _ ?_)
  clear hK2_ K2_
  refine W_keepB [4] fun B3 hB3_ => ?_
  simp only [pickE, lookE, putE, zipE, args0, Nat.reduceAdd, Nat.zero_add, List.cons_append, List.nil_append, Nat.reduceBEq, cond_true, cond_false] at hB3_
  subst hB3_
  refine W_ret ?_
  refine ⟨_, ⟨_, _, rfl, rfl, rfl⟩, ?_⟩
  exact ⟨rfl, rfl⟩

end Go.Proofs.Ytijckogioombdaa
