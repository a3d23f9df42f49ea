/- What the walks of this seat show of Wc. -/
import Derived.Test.YtghfohhekhedaaaDoorDg
import Derived.Test.YtghfohhekhedaaaDoorWa
import Derived.Test.YtghfohhekhedaaaDoorProg
set_option linter.unusedVariables false
set_option linter.unusedSimpArgs false
namespace Go.Proofs.YtghfohhekhedaaaDoor
open Go Go.Sx

namespace TWc
theorem hm : Tryd.prog.follows .mixedOrders = true := by kernel_rfl
theorem ag34 : aggB Tryd.prog 34 = some false := by kernel_rfl
theorem ag36 : aggB Tryd.prog 36 = some true := by kernel_rfl
theorem bd35 : bodied Tryd.prog 35 = true := by kernel_rfl
theorem el22 : Elem Tryd.prog 22 5 1 1 := Elem.of (by kernel_rfl)
theorem fo39_0 : offB Tryd.prog 39 0 = some 0 := by kernel_rfl
theorem fo39_1 : offB Tryd.prog 39 1 = some 8 := by kernel_rfl
theorem pl39 : partPl Tryd.prog 39 = some [(0, 8), (8, 1), (9, 1), (10, 1)] := by kernel_rfl
theorem sz22 : sz Tryd.prog 22 = some 1 := by kernel_rfl
theorem sz34 : sz Tryd.prog 34 = some 1 := by kernel_rfl
theorem sz36 : sz Tryd.prog 36 = some 8 := by kernel_rfl
theorem zr39 : zr Tryd.prog 39 = some (List.replicate 8 (.int .u32 0) ++ [.slice none 0 0] ++ [.int .u64 0] ++ [.bool false]) := by kernel_rfl
theorem zr5 : zr Tryd.prog 5 = some ([.int .u8 0]) := by kernel_rfl
end TWc
set_option maxHeartbeats 4000000 in
theorem begin_any (K : Option Addr) (key : List UInt8) (hl : key.length ≤ 32) (kc : Nat) (w : World) (hk : Rd w K (key.map vb)) :
    Calls Tryd.prog 30 #[.slice K key.length kc] w fun e w2 => ∃ d, e = .returned (.pointer (some ⟨d, 0, none⟩)) ∧ Dig w2 w.heap.size d (Bl.begin_ key) ∧ Fr [] w w2 := by
  have hF := Fr.refl [] w
  refine calls_W 36 Tryd.func30 rfl Tryd.ntmps30 rfl [.tmp 2] rfl ?_
  refine W_seq_k fun K1_ hK1_ => ?_
  refine W_region [some 2] rfl ?_
  refine Ops_step (R_assign rfl) rfl rfl ?_
  refine Ops_nil ?_
  refine then_n (hK1_ _ _ ?_)
  clear hK1_ K1_
  refine W_seq_k fun K2_ hK2_ => ?_
  refine W_region [some 4, some 5, some 6, some 3] rfl ?_
  refine Ops_call (C_func TWc.bd35 rfl) rfl rfl ?_
  refine (first_any _).mono ?_
  rintro _ w4_ ⟨rfl, hF4_⟩
  replace hF := hF.fr0 hF4_
  clear hF4_
  refine ⟨_, rfl, ?_⟩
  refine Ops_step (R_build (pl := [(0, 8), (10, 1)]) (cs := digC Bl.first none 0 0 0) TWc.zr39 TWc.pl39 rfl rfl (by kernel_rfl)) rfl rfl ?_
  have hz6_hF := hF.size
  refine Ops_to (R_box rfl) rfl rfl ?_
  rintro _ w6_ ⟨b6, rfl, hb6, hB6, hF6_⟩
  have hl6 := hB6.lt
  replace hF := hF.fr0 hF6_
  clear hF6_
  replace hB6 : Blk _ b6 39 (Bl.first.map w32 ++ [.slice none 0 0, w64 0#64, .bool true]) := hB6
  refine Ops_step (R_assign rfl) rfl rfl ?_
  refine Ops_nil ?_
  refine then_n (hK2_ _ _ ?_)
  clear hK2_ K2_
  refine W_seq_k fun K3_ hK3_ => ?_
  refine W_drawF [some 7, some 8, some 9, some 10, some 11, some 12, some 13, some 14, some 15, some 16, some 17, some 18, some 19, some 20, some 21, none] [(0, true), (1, true), (2, true), (3, true), (4, true), (5, true), (6, true), (7, true), (8, true), (9, true), (10, true), (11, true), (12, true), (13, true), (14, true), (15, false)] TWc.hm rfl (by kernel_rfl) fun ops4_ w4_ hops4_ hF4_ => ?_
  replace hF := hF.fr0 hF4_
  replace hB6 := hB6.fr0 hF4_
  clear hF4_
  refine HS_pure (fun w_ => R_move rfl) rfl rfl ?_
  refine HS_pure (fun w_ => R_nilCheck rfl) rfl rfl ?_
  refine HS_pure (fun w_ => R_fieldAddr TWc.fo39_0 rfl) rfl rfl ?_
  refine HS_pure (fun w_ => R_indexArr Tryd.underlying36 TWc.sz34 rfl rfl (by omega) (by omega)) rfl rfl ?_
  refine HS_loadB TWc.ag34 rfl hB6 (getwt (a := 0) (by decide)) rfl rfl ?_
  refine HS_pure (fun w_ => R_move rfl) rfl rfl ?_
  refine HS_pure (fun w_ => R_len Tryd.underlying22 rfl rfl) rfl rfl ?_
  refine HS_pure (fun w_ => R_conv Tryd.underlying3 Tryd.underlying34 rfl (cI_32 _)) rfl rfl ?_
  refine HS_pure (fun w_ => R_shl rfl rfl (by decide) (shl32 _ 8 (by decide))) rfl rfl ?_
  refine HS_pure (fun w_ => R_xor rfl rfl (xor32 (16842752#32) _)) rfl rfl ?_
  refine HS_pure (fun w_ => R_xor rfl rfl (xor32 _ (32#32))) rfl rfl ?_
  refine HS_pure (fun w_ => R_xor rfl rfl (xor32 _ _)) rfl rfl ?_
  refine HS_pure (fun w_ => R_nilCheck rfl) rfl rfl ?_
  refine HS_pure (fun w_ => R_fieldAddr TWc.fo39_0 rfl) rfl rfl ?_
  refine HS_pure (fun w_ => R_indexArr Tryd.underlying36 TWc.sz34 rfl rfl (by omega) (by omega)) rfl rfl ?_
  refine HS_to0 [] _ rfl (by rw [hops4_]; kernel_rfl) (R_store TWc.sz34 rfl rfl hB6 (by decide) rfl) rfl ?_
  clear hB6
  rintro _ w5_ ⟨hB6, hF5_⟩
  replace hF := hF.then hF5_ (by simp only [List.mem_cons, List.not_mem_nil, or_false]; intro i_ hi_ hj_; omega)
  clear hF5_
  replace hB6 := hB6.to (cs' := digC (Bl.first0 key.length) none 0 0 0) (by rw [digC, first0_eq]; exact setwt _ _ 0 _ (by decide))
  refine ⟨trivial, ?_⟩
  refine HS_nil ?_
  clear hops4_
  refine then_n (hK3_ _ _ ?_)
  clear hK3_ K3_
  refine W_keepB [0, 3] fun B6 hB6_ => ?_
  simp only [pickE, lookE, putE, zipE, args0, Nat.reduceAdd, Nat.zero_add, List.cons_append, List.nil_append, Nat.reduceBEq, cond_true, cond_false] at hB6_
  subst hB6_
  refine W_seq_k fun K7_ hK7_ => ?_
  refine W_seq_k fun K8_ hK8_ => ?_
  refine W_region [some 22, some 23, some 24] rfl ?_
  refine Ops_step (R_move rfl) rfl rfl ?_
  refine Ops_step (R_len Tryd.underlying22 rfl rfl) rfl rfl ?_
  refine Ops_step (R_gtr rfl rfl) rfl rfl ?_
  refine Ops_nil ?_
  refine then_n (hK8_ _ _ ?_)
  clear hK8_ K8_
  refine W_if rfl (fun hc24 => ?_) (fun hc24 => ?_)
  · refine W_region [some 25, some 26, some 27, some 28, some 29, some 30, some 31, some 32, some 33, some 34, none] rfl ?_
    refine Ops_step (R_move rfl) rfl rfl ?_
    have hz26 := hF.size
    have hz26_hF := hF.size
    have hn26_hB6 := hB6.lt
    refine Ops_to (R_buildSlice0 TWc.el22) rfl rfl ?_
    rintro _ w26_ ⟨b26, rfl, hb26, hB26, hF26_⟩
    replace hF := hF.fr0 hF26_
    replace hB6 := hB6.fr0 hF26_
    clear hF26_
    have hO := Own.empty (B := w.heap.size) (size := 1) (by omega) hB26
    clear hB26
    refine Ops_step (R_move rfl) rfl rfl ?_
    have hlt28 := hO.off
    have hno28 := hO.notin hB6 (by decide)
    refine Ops_to (R_append TWc.el22 rfl rfl hO (Src.ofRd Tryd.underlying22 (by decide) (hk.fr0 hF) (by simp) allb) (by omega) (by simp only [maxLen]; omega) hF.size) rfl rfl ?_
    clear hO
    rintro _ w28_ ⟨A28, c28, rfl, hO, hF28_⟩
    replace hF := hF.then hF28_ (fun i_ hi_ hj_ => absurd (hlt28 i_ hi_) (by omega))
    replace hB6 := hB6.fr hF28_ hno28
    clear hF28_
    refine Ops_step (R_move rfl) rfl rfl ?_
    refine Ops_step (R_len Tryd.underlying22 rfl rfl) rfl rfl ?_
    refine Ops_step (R_sub rfl rfl (wIc (n := 64 - key.length) (by omega) (by omega))) rfl rfl ?_
    have hlt32 := hO.off
    have hno32 := hO.notin hB6 (by decide)
    refine Ops_to (R_appendZeros TWc.el22 TWc.zr5 (by decide) Tryd.underlying3 rfl rfl hO (by omega) (by simp only [maxLen]; omega) hF.size) rfl rfl ?_
    clear hO
    rintro _ w32_ ⟨A32, c32, rfl, hO, hF32_⟩
    replace hF := hF.then hF32_ (fun i_ hi_ hj_ => absurd (hlt32 i_ hi_) (by omega))
    replace hB6 := hB6.fr hF32_ hno32
    clear hF32_
    rw [List.nil_append, pad_eq] at hO
    have e64 : 0 + key.length + (64 - key.length) = 64 := by omega
    rw [e64] at hO ⊢
    have hno := hO.notin hB6 (by decide)
    refine Ops_step (R_nilCheck rfl) rfl rfl ?_
    refine Ops_step (R_fieldAddr TWc.fo39_1 rfl) rfl rfl ?_
    refine Ops_to0 (R_store TWc.sz22 rfl rfl hB6 (by rw [digC_len (first0_len _)]; decide) rfl) rfl ?_
    clear hB6
    rintro _ w9_ ⟨hB6, hF9_⟩
    replace hF := hF.then hF9_ (by simp only [List.mem_cons, List.not_mem_nil, or_false]; intro i_ hi_ hj_; omega)
    replace hO := hO.fr hF9_ (fun i_ hi_ hj_ => hno (by rw [← List.mem_singleton.1 hj_]; exact hi_))
    clear hF9_
    have hkey : key ≠ [] := by intro h_; simp [h_] at hc24
    replace hB6 := hB6.to (digC_rest (first0_len _) _ _ _ _ _ _ _)
    have hD := dig_begin (B := w.heap.size) hkey hl hB6 (by omega) hO
    refine Ops_nil ?_
    refine then_n (hK7_ _ _ ?_)
    clear hK7_ K7_
    refine W_keepB [3] fun B10 hB10_ => ?_
    simp only [pickE, lookE, putE, zipE, args0, Nat.reduceAdd, Nat.zero_add, List.cons_append, List.nil_append, Nat.reduceBEq, cond_true, cond_false] at hB10_
    subst hB10_
    refine W_seq_k fun K11_ hK11_ => ?_
    refine W_region [some 35, some 2] rfl ?_
    refine Ops_step (R_move rfl) rfl rfl ?_
    refine Ops_step (R_assign rfl) rfl rfl ?_
    refine Ops_nil ?_
    refine then_n (hK11_ _ _ ?_)
    clear hK11_ K11_
    refine W_ret ?_
    refine ⟨_, ⟨_, _, rfl, rfl, rfl⟩, ?_⟩
    exact ⟨_, rfl, hD, hF⟩
  · have hkey : key = [] := List.eq_nil_of_length_eq_zero (by omega)
    have hD := dig_begin0 (B := w.heap.size) (A := none) hkey hB6 (by omega)
    refine W_skip ?_
    refine then_n (hK7_ _ _ ?_)
    clear hK7_ K7_
    refine W_seq_k fun K12_ hK12_ => ?_
    refine W_region [some 35, some 2] rfl ?_
    refine Ops_step (R_move rfl) rfl rfl ?_
    refine Ops_step (R_assign rfl) rfl rfl ?_
    refine Ops_nil ?_
    refine then_n (hK12_ _ _ ?_)
    clear hK12_ K12_
    refine W_keepB [2] fun B13 hB13_ => ?_
    simp only [pickE, lookE, putE, zipE, args0, Nat.reduceAdd, Nat.zero_add, List.cons_append, List.nil_append, Nat.reduceBEq, cond_true, cond_false] at hB13_
    subst hB13_
    refine W_ret ?_
    refine ⟨_, ⟨_, _, rfl, rfl, rfl⟩, ?_⟩
    exact ⟨_, rfl, hD, hF⟩

end Go.Proofs.YtghfohhekhedaaaDoor
