/- What the walks of this seat show of Rd. -/
import Derived.Test.YtijckogioombdaaRc
import Derived.Test.YtijckogioombdaaEf
import Derived.Test.YtijckogioombdaaProg
set_option linter.unusedVariables false
set_option linter.unusedSimpArgs false
namespace Go.Proofs.Ytijckogioombdaa
open Go Go.Sx
namespace TRd
theorem hm : Try.prog.follows .mixedOrders = true := by kernel_rfl
theorem el24 : Elem Try.prog 24 5 1 1 := Elem.of (by kernel_rfl)
end TRd
set_option maxHeartbeats 4000000 in
theorem new_bad (r : Int) (h : r < 1 ∨ 16777216 < r) (w : World) : Calls Try.prog 21 #[vi r] w fun e w2 => e = .returned (.tuple #[.pointer none, vi 1]) ∧ w2 = w := by
  refine calls_W 13 Try.func21 rfl Try.ntmps21 rfl [.tmp 2, .tmp 3] rfl ?_
  refine W_seq_k fun K1_ hK1_ => ?_
  refine W_region [some 2, some 3] rfl ?_
  refine Ops_step (R_assign rfl) rfl rfl ?_
  refine Ops_step (R_assign rfl) rfl rfl ?_
  refine Ops_nil ?_
  refine then_n (hK1_ _ _ ?_)
  clear hK1_ K1_
  refine W_seq_k fun K2_ hK2_ => ?_
  refine W_seq_k fun K3_ hK3_ => ?_
  refine W_region [some 4, some 5, some 6, some 7, some 8, some 9] rfl ?_
  refine Ops_step (R_move rfl) rfl rfl ?_
  refine Ops_step (R_lss rfl rfl) rfl rfl ?_
  refine Ops_step (R_move rfl) rfl rfl ?_
  refine Ops_split 6 rfl (fun hg6 => ?_) (fun hg6 => ?_)
  · refine Ops_pass rfl rfl ?_
    refine Ops_pass rfl rfl ?_
    refine Ops_step (R_pick_true rfl rfl) rfl rfl ?_
    refine Ops_nil ?_
    refine then_n (hK3_ _ _ ?_)
    clear hK3_ K3_
    refine W_keepB [0, 9] fun B4 hB4_ => ?_
    simp only [pickE, lookE, putE, zipE, args0, Nat.reduceAdd, Nat.zero_add, List.cons_append, List.nil_append, Nat.reduceBEq, cond_true, cond_false] at hB4_
    subst hB4_
    refine W_cond_true rfl ?_
    refine W_seq_k fun K5_ hK5_ => ?_
    refine W_region [some 2, some 3] rfl ?_
    refine Ops_step (R_assign rfl) rfl rfl ?_
    refine Ops_step (R_assign rfl) rfl rfl ?_
    refine Ops_nil ?_
    refine then_n (hK5_ _ _ ?_)
    clear hK5_ K5_
    refine W_ret ?_
    refine then_ret ?_
    clear hK2_ K2_
    refine ⟨_, ⟨_, _, rfl, rfl, ⟨_, _, rfl, rfl, rfl⟩⟩, ?_⟩
    exact ⟨rfl, rfl⟩
  · refine Ops_step (R_move rfl) rfl rfl ?_
    refine Ops_step (R_gtr rfl rfl) rfl rfl ?_
    refine Ops_step (R_pick_false rfl rfl) rfl rfl ?_
    refine Ops_nil ?_
    refine then_n (hK3_ _ _ ?_)
    clear hK3_ K3_
    refine W_keepB [0, 9] fun B6 hB6_ => ?_
    simp only [pickE, lookE, putE, zipE, args0, Nat.reduceAdd, Nat.zero_add, List.cons_append, List.nil_append, Nat.reduceBEq, cond_true, cond_false] at hB6_
    subst hB6_
    refine W_if rfl (fun hc9 => ?_) (fun hc9 => ?_)
    · refine W_seq_k fun K7_ hK7_ => ?_
      refine W_region [some 2, some 3] rfl ?_
      refine Ops_step (R_assign rfl) rfl rfl ?_
      refine Ops_step (R_assign rfl) rfl rfl ?_
      refine Ops_nil ?_
      refine then_n (hK7_ _ _ ?_)
      clear hK7_ K7_
      refine W_ret ?_
      refine then_ret ?_
      clear hK2_ K2_
      refine ⟨_, ⟨_, _, rfl, rfl, ⟨_, _, rfl, rfl, rfl⟩⟩, ?_⟩
      exact ⟨rfl, rfl⟩
    · exfalso; omega
set_option maxHeartbeats 4000000 in
theorem rnew_bad (r : Int) (h : r < 1 ∨ 16777216 < r) (w : World) : Calls Try.prog 23 #[vi r] w fun e w2 => e = .returned (.tuple #[.pointer none, vi 1]) ∧ w2 = w := by
  refine calls_W 13 Try.func23 rfl Try.ntmps23 rfl [.tmp 2, .tmp 3] rfl ?_
  refine W_seq_k fun K1_ hK1_ => ?_
  refine W_region [some 2, some 3] rfl ?_
  refine Ops_step (R_assign rfl) rfl rfl ?_
  refine Ops_step (R_assign rfl) rfl rfl ?_
  refine Ops_nil ?_
  refine then_n (hK1_ _ _ ?_)
  clear hK1_ K1_
  refine W_seq_k fun K2_ hK2_ => ?_
  refine W_seq_k fun K3_ hK3_ => ?_
  refine W_region [some 4, some 5, some 6, some 7, some 8, some 9] rfl ?_
  refine Ops_step (R_move rfl) rfl rfl ?_
  refine Ops_step (R_lss rfl rfl) rfl rfl ?_
  refine Ops_step (R_move rfl) rfl rfl ?_
  refine Ops_split 6 rfl (fun hg6 => ?_) (fun hg6 => ?_)
  · refine Ops_pass rfl rfl ?_
    refine Ops_pass rfl rfl ?_
    refine Ops_step (R_pick_true rfl rfl) rfl rfl ?_
    refine Ops_nil ?_
    refine then_n (hK3_ _ _ ?_)
    clear hK3_ K3_
    refine W_keepB [0, 9] fun B4 hB4_ => ?_
    simp only [pickE, lookE, putE, zipE, args0, Nat.reduceAdd, Nat.zero_add, List.cons_append, List.nil_append, Nat.reduceBEq, cond_true, cond_false] at hB4_
    subst hB4_
    refine W_cond_true rfl ?_
    refine W_seq_k fun K5_ hK5_ => ?_
    refine W_region [some 2, some 3] rfl ?_
    refine Ops_step (R_assign rfl) rfl rfl ?_
    refine Ops_step (R_assign rfl) rfl rfl ?_
    refine Ops_nil ?_
    refine then_n (hK5_ _ _ ?_)
    clear hK5_ K5_
    refine W_ret ?_
    refine then_ret ?_
    clear hK2_ K2_
    refine ⟨_, ⟨_, _, rfl, rfl, ⟨_, _, rfl, rfl, rfl⟩⟩, ?_⟩
    exact ⟨rfl, rfl⟩
  · refine Ops_step (R_move rfl) rfl rfl ?_
    refine Ops_step (R_gtr rfl rfl) rfl rfl ?_
    refine Ops_step (R_pick_false rfl rfl) rfl rfl ?_
    refine Ops_nil ?_
    refine then_n (hK3_ _ _ ?_)
    clear hK3_ K3_
    refine W_keepB [0, 9] fun B6 hB6_ => ?_
    simp only [pickE, lookE, putE, zipE, args0, Nat.reduceAdd, Nat.zero_add, List.cons_append, List.nil_append, Nat.reduceBEq, cond_true, cond_false] at hB6_
    subst hB6_
    refine W_if rfl (fun hc9 => ?_) (fun hc9 => ?_)
    · refine W_seq_k fun K7_ hK7_ => ?_
      refine W_region [some 2, some 3] rfl ?_
      refine Ops_step (R_assign rfl) rfl rfl ?_
      refine Ops_step (R_assign rfl) rfl rfl ?_
      refine Ops_nil ?_
      refine then_n (hK7_ _ _ ?_)
      clear hK7_ K7_
      refine W_ret ?_
      refine then_ret ?_
      clear hK2_ K2_
      refine ⟨_, ⟨_, _, rfl, rfl, ⟨_, _, rfl, rfl, rfl⟩⟩, ?_⟩
      exact ⟨rfl, rfl⟩
    · exfalso; omega
set_option maxHeartbeats 4000000 in
theorem sclone_any (A : Option Addr) (n c : Nat) (bs : List UInt8) (w : World) (hn : n = bs.length) (hR : Rd w A (bs.map vb)) (hlen : bs.length ≤ 140737488351232) :
    Calls Try.prog 24 #[.slice A n c] w fun e w2 => ∃ A' c', e = .returned (.slice A' bs.length c') ∧ OwnB w2 w.heap.size 5 A' c' bs ∧ Fr [] w w2 := by
  subst hn
  have hF := Fr.refl [] w
  refine calls_W 8 Try.func24 rfl Try.ntmps24 rfl [.tmp 2] rfl ?_
  refine W_seq_k fun K1_ hK1_ => ?_
  refine W_region [some 2] rfl ?_
  refine Ops_step (R_assign rfl) rfl rfl ?_
  refine Ops_nil ?_
  refine then_n (hK1_ _ _ ?_)
  clear hK1_ K1_
  refine W_seq_k fun K2_ hK2_ => ?_
  refine W_seq_k fun K3_ hK3_ => ?_
  refine W_region [some 3, some 4] rfl ?_
  refine Ops_step (R_move rfl) rfl rfl ?_
  refine Ops_step (R_slNil Try.underlying24 rfl rfl) rfl rfl ?_
  refine Ops_nil ?_
  refine then_n (hK3_ _ _ ?_)
  clear hK3_ K3_
  refine W_cond rfl (fun hc4 => ?_) (fun hc4 => ?_)
  · have hbs : bs = [] := by
        cases bs with
        | nil => rfl
        | cons b l => have h_ := Rd.some hR (by simp); cases A <;> simp at h_ hc4
    subst hbs
    have hQ := OwnB.nil w w.heap.size 5
    refine W_seq_k fun K4_ hK4_ => ?_
    refine W_region [some 2] rfl ?_
    refine Ops_step (R_assign rfl) rfl rfl ?_
    refine Ops_nil ?_
    refine then_n (hK4_ _ _ ?_)
    clear hK4_ K4_
    refine W_ret ?_
    refine then_ret ?_
    clear hK2_ K2_
    refine ⟨_, ⟨_, _, rfl, rfl, rfl⟩, ?_⟩
    exact ⟨_, _, rfl, hQ, hF⟩
  · refine W_skip ?_
    refine then_n (hK2_ _ _ ?_)
    clear hK2_ K2_
    refine W_seq_k fun K5_ hK5_ => ?_
    refine W_region [some 5, some 6, some 7, some 2] rfl ?_
    have hz5_hF := hF.size
    refine Ops_to (R_buildSlice0 TRd.el24) rfl rfl ?_
    rintro _ w5_ ⟨b5, rfl, hb5, hB5, hF5_⟩
    have hl5 := hB5.lt
    have hQ5 := OwnB.empty (B := w.heap.size) (by omega) hB5
    clear hB5
    replace hF := hF.fr0 hF5_
    clear hF5_
    refine Ops_step (R_move rfl) rfl rfl ?_
    have hlt_ := hQ5.off
    refine Ops_to (R_appendB TRd.el24 Try.underlying24 rfl rfl rfl rfl hQ5 (hR.fr0 hF) (by simp; omega) hF.size (by decide)) rfl rfl ?_
    clear hQ5
    rintro _ w7_ ⟨A7, c7, rfl, hQ, hF7_⟩
    replace hF := hF.then hF7_ (fun i_ hi_ hj_ => absurd (hlt_ i_ hi_) (by omega))
    clear hF7_
    refine Ops_step (R_assign rfl) rfl rfl ?_
    refine Ops_nil ?_
    refine then_n (hK5_ _ _ ?_)
    clear hK5_ K5_
    refine W_keepB [2] fun B6 hB6_ => ?_
    simp only [pickE, lookE, putE, zipE, args0, Nat.reduceAdd, Nat.zero_add, List.cons_append, List.nil_append, Nat.reduceBEq, cond_true, cond_false] at hB6_
    subst hB6_
    refine W_ret ?_
    refine ⟨_, ⟨_, _, rfl, rfl, rfl⟩, ?_⟩
    exact ⟨_, _, rfl, hQ, hF⟩

theorem read_any (B : Nat → Prop) (d : Nat) (D : Dk) (f : Int) (w : World) (hD : Dsk w B d D) : Calls Try.prog 17 #[.pointer (some ⟨d, 0, none⟩), vi f] w fun e w2 => ∃ A c, e = .returned (.tuple #[.slice A (D.shown f).length c, vi (D.able f)]) ∧ OwnB w2 w.heap.size 5 A c (D.shown f) ∧ Fr [] w w2 := by
  by_cases ha : D.able f = 0
  · obtain ⟨i, rfl, hi, ho⟩ := able_zero ha
    have e1 : D.shown (i : Int) = D.F.getD i [] := by rw [Dk.shown, if_pos ha, Int.toNat_natCast]
    rw [e1, ha]
    exact (read_ok B d D i hi ho w hD).mono fun e w2 h => h
  · have e1 : D.shown f = [] := by rw [Dk.shown, if_neg ha]
    rw [e1]
    exact (read_no B d D f ha w hD).mono fun e w2 ⟨he, hw⟩ => ⟨none, 0, he, by rw [hw]; exact OwnB.nil _ _ _, by rw [hw]; exact Fr.refl _ _⟩
theorem rread_any (B : Nat → Prop) (d : Nat) (R : Rk) (f : Int) (w : World) (hR : Rsk w B d R) : Calls Try.prog 31 #[.pointer (some ⟨d, 0, none⟩), vi f] w fun e w2 => ∃ A c, e = .returned (.tuple #[.slice A (R.shown f).length c, vi (R.able f)]) ∧ Rd w A ((R.shown f).map vb) ∧ w2 = w := by
  by_cases ha : R.able f = 0
  · obtain ⟨i, rfl, hi, ho⟩ := rable_zero ha
    have e1 : R.shown (i : Int) = R.F.getD i [] := by rw [Rk.shown, if_pos ha, Int.toNat_natCast]
    rw [e1, ha]
    exact (rread_ok B d R i hi ho w hR).mono fun e w2 h => h
  · have e1 : R.shown f = [] := by rw [Rk.shown, if_neg ha]
    rw [e1]
    exact (rread_no B d R f ha w hR).mono fun e w2 ⟨he, hw⟩ => ⟨none, 0, he, Rd.nil _ _, hw⟩
theorem new_good (r : Int) (h : ¬ (r < 1 ∨ 16777216 < r)) : ∃ n : Nat, r = (n : Int) ∧ 1 ≤ n ∧ n ≤ 16777216 := ⟨r.toNat, by omega, by omega, by omega⟩

end Go.Proofs.Ytijckogioombdaa
