/- What the walks of this seat show of Wi. -/
import Derived.Test.YtghfohhekhedaaaDoorWh
import Derived.Test.YtghfohhekhedaaaDoorProg
set_option linter.unusedVariables false
set_option linter.unusedSimpArgs false
namespace Go.Proofs.YtghfohhekhedaaaDoor
open Go Go.Sx

namespace TWi
theorem hm : Tryd.prog.follows .mixedOrders = true := by kernel_rfl
theorem ag30 : aggB Tryd.prog 30 = some true := by kernel_rfl
theorem ag36 : aggB Tryd.prog 36 = some true := by kernel_rfl
theorem ag4 : aggB Tryd.prog 4 = some false := by kernel_rfl
theorem fo39_3 : offB Tryd.prog 39 3 = some 10 := by kernel_rfl
theorem sz30 : sz Tryd.prog 30 = some 32 := by kernel_rfl
theorem sz36 : sz Tryd.prog 36 = some 8 := by kernel_rfl
theorem zr30 : zr Tryd.prog 30 = some (List.replicate 32 (.int .u8 0)) := by kernel_rfl
end TWi
set_option maxHeartbeats 4000000 in
theorem add_nil (v : Value) (w : World) : Calls Tryd.prog 15 #[.pointer none, v] w fun e w2 => e = .returned (.int .i64 6) ∧ w2 = w := by
  refine calls_W 77 Tryd.func15 rfl Tryd.ntmps15 rfl [.tmp 4] rfl ?_
  refine W_seq_k fun K1_ hK1_ => ?_
  refine W_region [some 4] rfl ?_
  refine Ops_step (R_assign rfl) rfl rfl ?_
  refine Ops_nil ?_
  refine then_n (hK1_ _ _ ?_)
  clear hK1_ K1_
  refine W_seq_k fun K2_ hK2_ => ?_
  refine W_seq_k fun K3_ hK3_ => ?_
  refine W_region [some 7, some 8, some 9, some 10, some 11, some 12, some 13, some 14, some 15] rfl ?_
  refine Ops_step (R_move rfl) rfl rfl ?_
  refine Ops_step (R_ptrNil Tryd.underlying25 rfl rfl) rfl rfl ?_
  refine Ops_step (R_move rfl) rfl rfl ?_
  refine Ops_pass rfl rfl ?_
  refine Ops_pass rfl rfl ?_
  refine Ops_pass rfl rfl ?_
  refine Ops_pass rfl rfl ?_
  refine Ops_pass rfl rfl ?_
  refine Ops_step (R_pick_true rfl rfl) rfl rfl ?_
  refine Ops_nil ?_
  refine then_n (hK3_ _ _ ?_)
  clear hK3_ K3_
  refine W_keepB [0, 1, 15] fun B4 hB4_ => ?_
  simp only [pickE, lookE, putE, zipE, args0, Nat.reduceAdd, Nat.zero_add, List.cons_append, List.nil_append, Nat.reduceBEq, cond_true, cond_false] at hB4_
  subst hB4_
  refine W_cond_true rfl ?_
  refine W_seq_k fun K5_ hK5_ => ?_
  refine W_region [some 4] rfl ?_
  refine Ops_step (R_assign rfl) rfl rfl ?_
  refine Ops_nil ?_
  refine then_n (hK5_ _ _ ?_)
  clear hK5_ K5_
  refine W_ret ?_
  refine then_ret ?_
  clear hK2_ K2_
  refine ⟨_, ⟨_, _, rfl, rfl, rfl⟩, ?_⟩
  exact ⟨rfl, rfl⟩
set_option maxHeartbeats 4000000 in
theorem add_un (v : Value) (d : Nat) (w : World) (hB : Blk w d 39 unC) : Calls Tryd.prog 15 #[.pointer (some ⟨d, 0, none⟩), v] w fun e w2 => e = .returned (.int .i64 6) ∧ w2 = w := by
  refine calls_W 77 Tryd.func15 rfl Tryd.ntmps15 rfl [.tmp 4] rfl ?_
  refine W_seq_k fun K1_ hK1_ => ?_
  refine W_region [some 4] rfl ?_
  refine Ops_step (R_assign rfl) rfl rfl ?_
  refine Ops_nil ?_
  refine then_n (hK1_ _ _ ?_)
  clear hK1_ K1_
  refine W_seq_k fun K2_ hK2_ => ?_
  refine W_seq_k fun K3_ hK3_ => ?_
  refine W_region [some 7, some 8, some 9, some 10, some 11, some 12, some 13, some 14, some 15] rfl ?_
  refine Ops_step (R_move rfl) rfl rfl ?_
  refine Ops_step (R_ptrNil Tryd.underlying25 rfl rfl) rfl rfl ?_
  refine Ops_step (R_move rfl) rfl rfl ?_
  refine Ops_step (R_move rfl) rfl rfl ?_
  refine Ops_step (R_nilCheck rfl) rfl rfl ?_
  refine Ops_step (R_fieldAddr TWi.fo39_3 rfl) rfl rfl ?_
  refine Ops_step (R_loadB TWi.ag4 rfl hB rfl) rfl rfl ?_
  refine Ops_step (R_not rfl) rfl rfl ?_
  refine Ops_step (R_pick_false rfl rfl) rfl rfl ?_
  refine Ops_nil ?_
  refine then_n (hK3_ _ _ ?_)
  clear hK3_ K3_
  refine W_keepB [0, 1, 15] fun B4 hB4_ => ?_
  simp only [pickE, lookE, putE, zipE, args0, Nat.reduceAdd, Nat.zero_add, List.cons_append, List.nil_append, Nat.reduceBEq, cond_true, cond_false] at hB4_
  subst hB4_
  refine W_cond_true rfl ?_
  refine W_seq_k fun K5_ hK5_ => ?_
  refine W_region [some 4] rfl ?_
  refine Ops_step (R_assign rfl) rfl rfl ?_
  refine Ops_nil ?_
  refine then_n (hK5_ _ _ ?_)
  clear hK5_ K5_
  refine W_ret ?_
  refine then_ret ?_
  clear hK2_ K2_
  refine ⟨_, ⟨_, _, rfl, rfl, rfl⟩, ?_⟩
  exact ⟨rfl, rfl⟩
set_option maxHeartbeats 4000000 in
theorem sum_nil (w : World) : Calls Tryd.prog 16 #[.pointer none] w fun e w2 => e = .returned (.agg ((List.replicate 32 (0 : UInt8)).map vb).toArray) ∧ Fr [] w w2 := by
  have hF := Fr.refl [] w
  refine calls_W 81 Tryd.func16 rfl Tryd.ntmps16 rfl [.cell 2 30] rfl ?_
  refine W_seq_k fun K1_ hK1_ => ?_
  refine W_region [some 2] rfl ?_
  have hz2_hF := hF.size
  refine Ops_to (R_alloc TWi.zr30) rfl rfl ?_
  rintro _ w2_ ⟨b2, rfl, hb2, hB2, hF2_⟩
  have hl2 := hB2.lt
  replace hF := hF.fr0 hF2_
  clear hF2_
  refine Ops_nil ?_
  refine then_n (hK1_ _ _ ?_)
  clear hK1_ K1_
  refine W_seq_k fun K2_ hK2_ => ?_
  refine W_region [some 3] rfl ?_
  have hz3_hF := hF.size
  have hn3_hB2 := hB2.lt
  refine Ops_to (R_alloc TWi.zr30) rfl rfl ?_
  rintro _ w3_ ⟨b3, rfl, hb3, hB3, hF3_⟩
  have hl3 := hB3.lt
  replace hF := hF.fr0 hF3_
  replace hB2 := hB2.fr0 hF3_
  clear hF3_
  refine Ops_nil ?_
  refine then_n (hK2_ _ _ ?_)
  clear hK2_ K2_
  refine W_seq_k fun K3_ hK3_ => ?_
  refine W_seq_k fun K4_ hK4_ => ?_
  refine W_region [some 8, some 9, some 10, some 11, some 12, some 13, some 14, some 15, some 16] rfl ?_
  refine Ops_step (R_move rfl) rfl rfl ?_
  refine Ops_step (R_ptrNil Tryd.underlying25 rfl rfl) rfl rfl ?_
  refine Ops_step (R_move rfl) rfl rfl ?_
  refine Ops_pass rfl rfl ?_
  refine Ops_pass rfl rfl ?_
  refine Ops_pass rfl rfl ?_
  refine Ops_pass rfl rfl ?_
  refine Ops_pass rfl rfl ?_
  refine Ops_step (R_pick_true rfl rfl) rfl rfl ?_
  refine Ops_nil ?_
  refine then_n (hK4_ _ _ ?_)
  clear hK4_ K4_
  refine W_keepB [0, 2, 3, 16] fun B5 hB5_ => ?_
  simp only [pickE, lookE, putE, zipE, args0, Nat.reduceAdd, Nat.zero_add, List.cons_append, List.nil_append, Nat.reduceBEq, cond_true, cond_false] at hB5_
  subst hB5_
  refine W_cond_true rfl ?_
  refine W_seq_k fun K6_ hK6_ => ?_
  refine W_region [some 17, none] rfl ?_
  refine Ops_step (R_loadN TWi.ag30 TWi.sz30 rfl hB3 (by decide)) rfl rfl ?_
  refine Ops_to0 (R_storeN TWi.sz30 rfl rfl rfl hB2 (by decide) rfl) rfl ?_
  clear hB2
  rintro _ w7_ ⟨hB2, hF7_⟩
  replace hF := hF.then hF7_ (by simp only [List.mem_cons, List.not_mem_nil, or_false]; intro i_ hi_ hj_; omega)
  replace hB3 := hB3.fr hF7_ (by simp only [List.mem_cons, List.not_mem_nil, or_false]; omega)
  clear hF7_
  replace hB2 := hB2.to (cs' := (List.replicate 32 (0 : UInt8)).map vb) (by kernel_rfl)
  refine Ops_nil ?_
  refine then_n (hK6_ _ _ ?_)
  clear hK6_ K6_
  refine W_ret ?_
  refine then_ret ?_
  clear hK3_ K3_
  refine ⟨_, ⟨_, _, _, rfl, rfl, run_loadVarN TWi.ag30 TWi.sz30 hB2 (by decide), rfl⟩, ?_⟩
  exact ⟨rfl, hF⟩
set_option maxHeartbeats 4000000 in
theorem sum_un (d : Nat) (w : World) (hB : Blk w d 39 unC) : Calls Tryd.prog 16 #[.pointer (some ⟨d, 0, none⟩)] w fun e w2 => e = .returned (.agg ((List.replicate 32 (0 : UInt8)).map vb).toArray) ∧ Fr [] w w2 := by
  have hF := Fr.refl [] w
  refine calls_W 81 Tryd.func16 rfl Tryd.ntmps16 rfl [.cell 2 30] rfl ?_
  refine W_seq_k fun K1_ hK1_ => ?_
  refine W_region [some 2] rfl ?_
  have hz2_hF := hF.size
  refine Ops_to (R_alloc TWi.zr30) rfl rfl ?_
  rintro _ w2_ ⟨b2, rfl, hb2, hB2, hF2_⟩
  have hl2 := hB2.lt
  replace hF := hF.fr0 hF2_
  clear hF2_
  refine Ops_nil ?_
  refine then_n (hK1_ _ _ ?_)
  clear hK1_ K1_
  refine W_seq_k fun K2_ hK2_ => ?_
  refine W_region [some 3] rfl ?_
  have hz3_hF := hF.size
  have hn3_hB2 := hB2.lt
  refine Ops_to (R_alloc TWi.zr30) rfl rfl ?_
  rintro _ w3_ ⟨b3, rfl, hb3, hB3, hF3_⟩
  have hl3 := hB3.lt
  replace hF := hF.fr0 hF3_
  replace hB2 := hB2.fr0 hF3_
  clear hF3_
  refine Ops_nil ?_
  refine then_n (hK2_ _ _ ?_)
  clear hK2_ K2_
  refine W_seq_k fun K3_ hK3_ => ?_
  refine W_seq_k fun K4_ hK4_ => ?_
  refine W_region [some 8, some 9, some 10, some 11, some 12, some 13, some 14, some 15, some 16] rfl ?_
  refine Ops_step (R_move rfl) rfl rfl ?_
  refine Ops_step (R_ptrNil Tryd.underlying25 rfl rfl) rfl rfl ?_
  refine Ops_step (R_move rfl) rfl rfl ?_
  refine Ops_step (R_move rfl) rfl rfl ?_
  refine Ops_step (R_nilCheck rfl) rfl rfl ?_
  refine Ops_step (R_fieldAddr TWi.fo39_3 rfl) rfl rfl ?_
  refine Ops_step (R_loadB TWi.ag4 rfl (hB.fr0 hF) rfl) rfl rfl ?_
  refine Ops_step (R_not rfl) rfl rfl ?_
  refine Ops_step (R_pick_false rfl rfl) rfl rfl ?_
  refine Ops_nil ?_
  refine then_n (hK4_ _ _ ?_)
  clear hK4_ K4_
  refine W_keepB [0, 2, 3, 16] fun B5 hB5_ => ?_
  simp only [pickE, lookE, putE, zipE, args0, Nat.reduceAdd, Nat.zero_add, List.cons_append, List.nil_append, Nat.reduceBEq, cond_true, cond_false] at hB5_
  subst hB5_
  refine W_cond_true rfl ?_
  refine W_seq_k fun K6_ hK6_ => ?_
  refine W_region [some 17, none] rfl ?_
  refine Ops_step (R_loadN TWi.ag30 TWi.sz30 rfl hB3 (by decide)) rfl rfl ?_
  refine Ops_to0 (R_storeN TWi.sz30 rfl rfl rfl hB2 (by decide) rfl) rfl ?_
  clear hB2
  rintro _ w7_ ⟨hB2, hF7_⟩
  replace hF := hF.then hF7_ (by simp only [List.mem_cons, List.not_mem_nil, or_false]; intro i_ hi_ hj_; omega)
  replace hB3 := hB3.fr hF7_ (by simp only [List.mem_cons, List.not_mem_nil, or_false]; omega)
  clear hF7_
  replace hB2 := hB2.to (cs' := (List.replicate 32 (0 : UInt8)).map vb) (by kernel_rfl)
  refine Ops_nil ?_
  refine then_n (hK6_ _ _ ?_)
  clear hK6_ K6_
  refine W_ret ?_
  refine then_ret ?_
  clear hK3_ K3_
  refine ⟨_, ⟨_, _, _, rfl, rfl, run_loadVarN TWi.ag30 TWi.sz30 hB2 (by decide), rfl⟩, ?_⟩
  exact ⟨rfl, hF⟩
set_option maxHeartbeats 4000000 in
theorem clone_nil (w : World) : Calls Tryd.prog 17 #[.pointer none] w fun e w2 => e = .returned (.pointer none) ∧ w2 = w := by
  refine calls_W 16 Tryd.func17 rfl Tryd.ntmps17 rfl [.tmp 2] rfl ?_
  refine W_seq_k fun K1_ hK1_ => ?_
  refine W_region [some 2] rfl ?_
  refine Ops_step (R_assign rfl) rfl rfl ?_
  refine Ops_nil ?_
  refine then_n (hK1_ _ _ ?_)
  clear hK1_ K1_
  refine W_seq_k fun K2_ hK2_ => ?_
  refine W_seq_k fun K3_ hK3_ => ?_
  refine W_region [some 4, some 5, some 6, some 7, some 8, some 9, some 10, some 11, some 12] rfl ?_
  refine Ops_step (R_move rfl) rfl rfl ?_
  refine Ops_step (R_ptrNil Tryd.underlying25 rfl rfl) rfl rfl ?_
  refine Ops_step (R_move rfl) rfl rfl ?_
  refine Ops_pass rfl rfl ?_
  refine Ops_pass rfl rfl ?_
  refine Ops_pass rfl rfl ?_
  refine Ops_pass rfl rfl ?_
  refine Ops_pass rfl rfl ?_
  refine Ops_step (R_pick_true rfl rfl) rfl rfl ?_
  refine Ops_nil ?_
  refine then_n (hK3_ _ _ ?_)
  clear hK3_ K3_
  refine W_keepB [0, 12] fun B4 hB4_ => ?_
  simp only [pickE, lookE, putE, zipE, args0, Nat.reduceAdd, Nat.zero_add, List.cons_append, List.nil_append, Nat.reduceBEq, cond_true, cond_false] at hB4_
  subst hB4_
  refine W_cond_true rfl ?_
  refine W_seq_k fun K5_ hK5_ => ?_
  refine W_region [some 2] rfl ?_
  refine Ops_step (R_assign rfl) rfl rfl ?_
  refine Ops_nil ?_
  refine then_n (hK5_ _ _ ?_)
  clear hK5_ K5_
  refine W_ret ?_
  refine then_ret ?_
  clear hK2_ K2_
  refine ⟨_, ⟨_, _, rfl, rfl, rfl⟩, ?_⟩
  exact ⟨rfl, rfl⟩
set_option maxHeartbeats 4000000 in
theorem clone_un (d : Nat) (w : World) (hB : Blk w d 39 unC) : Calls Tryd.prog 17 #[.pointer (some ⟨d, 0, none⟩)] w fun e w2 => e = .returned (.pointer none) ∧ w2 = w := by
  refine calls_W 16 Tryd.func17 rfl Tryd.ntmps17 rfl [.tmp 2] rfl ?_
  refine W_seq_k fun K1_ hK1_ => ?_
  refine W_region [some 2] rfl ?_
  refine Ops_step (R_assign rfl) rfl rfl ?_
  refine Ops_nil ?_
  refine then_n (hK1_ _ _ ?_)
  clear hK1_ K1_
  refine W_seq_k fun K2_ hK2_ => ?_
  refine W_seq_k fun K3_ hK3_ => ?_
  refine W_region [some 4, some 5, some 6, some 7, some 8, some 9, some 10, some 11, some 12] rfl ?_
  refine Ops_step (R_move rfl) rfl rfl ?_
  refine Ops_step (R_ptrNil Tryd.underlying25 rfl rfl) rfl rfl ?_
  refine Ops_step (R_move rfl) rfl rfl ?_
  refine Ops_step (R_move rfl) rfl rfl ?_
  refine Ops_step (R_nilCheck rfl) rfl rfl ?_
  refine Ops_step (R_fieldAddr TWi.fo39_3 rfl) rfl rfl ?_
  refine Ops_step (R_loadB TWi.ag4 rfl hB rfl) rfl rfl ?_
  refine Ops_step (R_not rfl) rfl rfl ?_
  refine Ops_step (R_pick_false rfl rfl) rfl rfl ?_
  refine Ops_nil ?_
  refine then_n (hK3_ _ _ ?_)
  clear hK3_ K3_
  refine W_keepB [0, 12] fun B4 hB4_ => ?_
  simp only [pickE, lookE, putE, zipE, args0, Nat.reduceAdd, Nat.zero_add, List.cons_append, List.nil_append, Nat.reduceBEq, cond_true, cond_false] at hB4_
  subst hB4_
  refine W_cond_true rfl ?_
  refine W_seq_k fun K5_ hK5_ => ?_
  refine W_region [some 2] rfl ?_
  refine Ops_step (R_assign rfl) rfl rfl ?_
  refine Ops_nil ?_
  refine then_n (hK5_ _ _ ?_)
  clear hK5_ K5_
  refine W_ret ?_
  refine then_ret ?_
  clear hK2_ K2_
  refine ⟨_, ⟨_, _, rfl, rfl, rfl⟩, ?_⟩
  exact ⟨rfl, rfl⟩

/-- a digest that no call made -/
def Nob (w : World) (p : Option Addr) : Prop := p = none ∨ ∃ d, p = some ⟨d, 0, none⟩ ∧ Blk w d 39 unC
theorem Nob.fr0 {w w' : World} {p : Option Addr} (h : Nob w p) (hf : Fr [] w w') : Nob w' p := by
  rcases h with rfl | ⟨d, rfl, hB⟩
  · exact .inl rfl
  · exact .inr ⟨d, rfl, hB.fr0 hf⟩
theorem add_nob (p : Option Addr) (v : Value) (w : World) (h : Nob w p) : Calls Tryd.prog 15 #[.pointer p, v] w fun e w2 => e = .returned (.int .i64 6) ∧ w2 = w := by
  rcases h with rfl | ⟨d, rfl, hB⟩
  · exact add_nil v w
  · exact add_un v d w hB
theorem sum_nob (p : Option Addr) (w : World) (h : Nob w p) : Calls Tryd.prog 16 #[.pointer p] w fun e w2 => e = .returned (.agg ((List.replicate 32 (0 : UInt8)).map vb).toArray) ∧ Fr [] w w2 := by
  rcases h with rfl | ⟨d, rfl, hB⟩
  · exact sum_nil w
  · exact sum_un d w hB
theorem clone_nob (p : Option Addr) (w : World) (h : Nob w p) : Calls Tryd.prog 17 #[.pointer p] w fun e w2 => e = .returned (.pointer none) ∧ w2 = w := by
  rcases h with rfl | ⟨d, rfl, hB⟩
  · exact clone_nil w
  · exact clone_un d w hB
theorem nob_two {w : World} {b d : Nat} (h : Blk w b 25 [.pointer none, .pointer (some ⟨d, 0, none⟩)]) (hd : Blk w d 39 unC) {i : Nat} (hi : i < 2) :
    ∃ p, w.cell? ((adr (some ⟨b, 0, none⟩)).add ((i : Int).toNat * 1)) = some (.pointer p) ∧ Nob w p := by
  simp only [adr, Option.getD_some, add_flat, Nat.zero_add, Int.toNat_natCast, Nat.mul_one]
  match i, hi with
  | 0, _ => exact ⟨none, h.at_ rfl, .inl rfl⟩
  | 1, _ => exact ⟨_, h.at_ rfl, .inr ⟨d, rfl, hd⟩⟩

end Go.Proofs.YtghfohhekhedaaaDoor
