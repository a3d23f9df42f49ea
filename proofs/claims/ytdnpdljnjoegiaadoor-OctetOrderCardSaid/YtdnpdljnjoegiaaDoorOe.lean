/- bytes.Compare, over the model's own comparison. -/
import Derived.Test.YtdnpdljnjoegiaaDoorOep
import Derived.Test.YtdnpdljnjoegiaaDoorOb
import Derived.Test.YtdnpdljnjoegiaaDoorLx5
set_option linter.unusedVariables false
set_option linter.unusedSimpArgs false
namespace Go.Proofs.YtdnpdljnjoegiaaDoor
open Go Go.Sx Go.Lx
set_option maxHeartbeats 4000000 in
theorem bytes_Compare_ok {G : Gh} {w : World} (hS : St G w) (_hg : GL G) {A0 : Option Addr} {c0 : Nat} {x0 : List UInt8} (_hc0 : x0.length ≤ c0) (hs0 : Sl G A0 x0) {A1 : Option Addr} {c1 : Nat} {x1 : List UInt8} (_hc1 : x1.length ≤ c1) (hs1 : Sl G A1 x1) {Q : Int → Prop} (h : bytes_Compare x0 x1 Q) : Calls Tryd.prog 30 #[.slice A0 x0.length c0, .slice A1 x1.length c1] w fun e w2 => ∃ (r0 : Int) (L H : Gh), e = .returned (vi r0) ∧ Inv [] G w L H w2 ∧ Q r0 := by
  unfold bytes_Compare at h
  have hI := Inv.start (M := []) hS
  refine calls_W 8 Tryd.func30 rfl Tryd.ntmps30 rfl [.tmp 4] rfl ?_
  refine W_seq_k fun K1_ hK1_ => ?_
  refine W_region [some 4] rfl ?_
  refine Ops_step (R_assign rfl) rfl rfl ?_
  refine Ops_nil ?_
  refine then_n (hK1_ _ _ ?_)
  clear hK1_ K1_
  refine W_seq_k fun K2_ hK2_ => ?_
  refine W_region [some 5, some 6, some 7, some 4] rfl ?_
  refine Ops_step (R_move rfl) rfl rfl ?_
  refine Ops_step (R_move rfl) rfl rfl ?_
  refine Ops_step (R_extCmp (xs := x0) (ys := x1) Tryd.func55 (by kernel_rfl) (by kernel_rfl) (by kernel_rfl) (by kernel_rfl) rfl rfl (hs0.fz.rd hI.st) rfl rfl (hs1.fz.rd hI.st)) rfl rfl ?_
  refine Ops_step (R_assign rfl) rfl rfl ?_
  refine Ops_nil ?_
  refine then_n (hK2_ _ _ ?_)
  clear hK2_ K2_
  refine W_keepB [4] fun B3 hB3_ => ?_
  simp only [pickE, lookE, putE, zipE, args0, Nat.reduceAdd, Nat.zero_add, List.cons_append, List.nil_append, Nat.reduceBEq, cond_true, cond_false] at hB3_
  subst hB3_
  refine W_ret ?_
  refine ⟨_, ⟨_, _, rfl, rfl, rfl⟩, ?_⟩
  exact ⟨_, _, _, rfl, hI, h⟩
end Go.Proofs.YtdnpdljnjoegiaaDoor
