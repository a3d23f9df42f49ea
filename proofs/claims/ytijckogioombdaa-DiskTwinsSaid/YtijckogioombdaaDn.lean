/- What the walks of this seat show of Dn. -/
import Derived.Test.YtijckogioombdaaDm
import Derived.Test.YtijckogioombdaaProg
set_option linter.unusedVariables false
set_option linter.unusedSimpArgs false
namespace Go.Proofs.Ytijckogioombdaa
open Go Go.Sx
namespace TDn
theorem hm : Try.prog.follows .mixedOrders = true := by kernel_rfl
theorem el22 : Elem Try.prog 22 38 4 48 := Elem.of (by kernel_rfl)
end TDn
set_option maxHeartbeats 4000000 in
theorem dclone_some (a : Addr) (n lc : Nat) (xs : List Value) (w : World) (hXr : Rd w (some a) xs) (hl : xs.length = n * 4) (h1 : xs.all (·.oneCell') = true) (hm : n * 48 ≤ 140737488351232) : Calls Try.prog 32 #[.slice (some a) n lc] w fun e w2 => ∃ A c, e = .returned (.slice A n c) ∧ Own w2 w.heap.size 38 4 A n c xs ∧ Fr [] w w2 := by
  have hF := Fr.refl [] w
  refine calls_W 8 Try.func32 rfl Try.ntmps32 rfl [.tmp 2] rfl ?_
  refine W_seq_k fun K1_ hK1_ => ?_
  refine W_region [some 2] rfl ?_
  refine Ops_step (R_assign rfl) rfl rfl ?_
  refine Ops_nil ?_
  refine then_n (hK1_ _ _ ?_)
  clear hK1_ K1_
  refine W_seq_k fun K2_ hK2_ => ?_
  refine W_seq_k fun K3_ hK3_ => ?_
  refine W_region [some 3, some 4] rfl ?_
  refine Ops_step (R_move rfl) rfl rfl ?_
  refine Ops_step (R_slNil Try.underlying22 rfl rfl) rfl rfl ?_
  refine Ops_nil ?_
  refine then_n (hK3_ _ _ ?_)
  clear hK3_ K3_
  refine W_cond_false rfl ?_
  refine W_skip ?_
  refine then_n (hK2_ _ _ ?_)
  clear hK2_ K2_
  refine W_seq_k fun K4_ hK4_ => ?_
  refine W_region [some 5, some 6, some 7, some 2] rfl ?_
  have hz5 := hF.size
  have hz5_hF := hF.size
  refine Ops_to (R_buildSlice0 TDn.el22) rfl rfl ?_
  rintro _ w5_ ⟨b5, rfl, hb5, hB5, hF5_⟩
  replace hF := hF.fr0 hF5_
  clear hF5_
  have hO := Own.empty (B := w.heap.size) (size := 4) (by omega) hB5
  clear hB5
  refine Ops_step (R_move rfl) rfl rfl ?_
  have hof := hO.off
  have hzz := hF.size
  have hxr7 := hXr.fr0 hF
  refine Ops_to (R_append TDn.el22 rfl rfl hO (Src.ofRd Try.underlying22 (by decide) hxr7 hl h1) (by omega) (by simp only [maxLen]; omega) hzz) rfl rfl ?_
  rintro _ w7_ ⟨A7, c7, rfl, hQ7, hF7_⟩
  replace hF := hF.then hF7_ (fun i_ hi_ hj_ => absurd (hof i_ hi_) (by omega))
  clear hF7_
  rw [Nat.zero_add, List.nil_append] at hQ7
  rw [Nat.zero_add]
  refine Ops_step (R_assign rfl) rfl rfl ?_
  refine Ops_nil ?_
  refine then_n (hK4_ _ _ ?_)
  clear hK4_ K4_
  refine W_keepB [2] fun B5 hB5_ => ?_
  simp only [pickE, lookE, putE, zipE, args0, Nat.reduceAdd, Nat.zero_add, List.cons_append, List.nil_append, Nat.reduceBEq, cond_true, cond_false] at hB5_
  subst hB5_
  refine W_ret ?_
  refine ⟨_, ⟨_, _, rfl, rfl, rfl⟩, ?_⟩
  exact ⟨_, _, rfl, hQ7, hF⟩
set_option maxHeartbeats 4000000 in
theorem dclone_nil (n lc : Nat) (xs : List Value) (w : World) (hn : n = 0) (hl : xs.length = n * 4) : Calls Try.prog 32 #[.slice none n lc] w fun e w2 => ∃ A c, e = .returned (.slice A n c) ∧ Own w2 w.heap.size 38 4 A n c xs ∧ Fr [] w w2 := by
  subst hn
  obtain rfl : xs = [] := List.eq_nil_of_length_eq_zero (by omega)
  refine calls_W 8 Try.func32 rfl Try.ntmps32 rfl [.tmp 2] rfl ?_
  refine W_seq_k fun K1_ hK1_ => ?_
  refine W_region [some 2] rfl ?_
  refine Ops_step (R_assign rfl) rfl rfl ?_
  refine Ops_nil ?_
  refine then_n (hK1_ _ _ ?_)
  clear hK1_ K1_
  refine W_seq_k fun K2_ hK2_ => ?_
  refine W_seq_k fun K3_ hK3_ => ?_
  refine W_region [some 3, some 4] rfl ?_
  refine Ops_step (R_move rfl) rfl rfl ?_
  refine Ops_step (R_slNil Try.underlying22 rfl rfl) rfl rfl ?_
  refine Ops_nil ?_
  refine then_n (hK3_ _ _ ?_)
  clear hK3_ K3_
  refine W_cond_true rfl ?_
  refine W_seq_k fun K4_ hK4_ => ?_
  refine W_region [some 2] rfl ?_
  refine Ops_step (R_assign rfl) rfl rfl ?_
  refine Ops_nil ?_
  refine then_n (hK4_ _ _ ?_)
  clear hK4_ K4_
  refine W_ret ?_
  refine then_ret ?_
  clear hK2_ K2_
  refine ⟨_, ⟨_, _, rfl, rfl, rfl⟩, ?_⟩
  exact ⟨_, _, rfl, Own.nil _ _ _ _, Fr.refl _ _⟩

theorem dclone_any (A : Option Addr) (n lc : Nat) (xs : List Value) (w : World) (hXr : Rd w A xs) (hl : xs.length = n * 4) (h1 : xs.all (·.oneCell') = true) (hm : n * 48 ≤ 140737488351232) : Calls Try.prog 32 #[.slice A n lc] w fun e w2 => ∃ A c, e = .returned (.slice A n c) ∧ Own w2 w.heap.size 38 4 A n c xs ∧ Fr [] w w2 := by
  cases A with
  | some a => exact dclone_some a n lc xs w hXr hl h1 hm
  | none =>
    refine dclone_nil n lc xs w ?_ hl
    cases xs with
    | nil => simp at hl; omega
    | cons x xs => have := (hXr 0 x rfl).1; cases this

end Go.Proofs.Ytijckogioombdaa
