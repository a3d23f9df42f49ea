/- The law CipherOpens: what any bytes are, opened with any head, or why they are not: true at every input. -/
import Derived.Test.YtohneemghiehdaaDoorCtB
import Derived.Test.YtohneemghiehdaaDoorP2zz
import Derived.Test.YtohneemghiehdaaDoorSx13
import Derived.Test.YtohneemghiehdaaDoorLx4
import Derived.Test.YtohneemghiehdaaDoorRows
import Derived.Test.YtohneemghiehdaaDoorCards
import Derived.Test.YtohneemghiehdaaDoorTie
import Derived.WalkKit
import Derived.ProofKit
import Derived.OpenShut
import Derived.ShutString
import Derived.ChangeOld
import Derived.Below
import Derived.Carry
import Derived.Deep.DeepHandedRow
set_option linter.unusedVariables false
set_option linter.unusedSimpArgs false
namespace Go.Proofs.YtohneemghiehdaaDoor.cipherOpens
open Go Go.Sx Go.Lx Go.ChangeShapes Go.WideShapes Go.ChangeAt Go.RowKit
open Go.ChangeMaps (open_string shut_string)


theorem own : ownKnob Tryd.prog.godebug = none := by kernel_rfl
theorem laidOut : laidOutB Tryd.prog = true := by kernel_rfl
theorem gNamed : Tryd.prog.globalNamed "sealskin/hash.order" = some 0 := by kernel_rfl
def tabI : List (List Int) := Bl.orders.map fun o => o.map fun (x : Nat) => (x : Int)
theorem laidGL (W : World) (hL : laidMetH Tryd.prog Rows.cipherOpensRow.laid W) : GL (GW W) := by
  have h1 : laidMet Tryd.prog [("sealskin/hash.order", rowsData .u8 tabI)] W := hL
  have h2 := rows_of_head (n := 10) (m := 16) gNamed (by kernel_rfl) Tryd.underlying79 Tryd.underlying78 Tryd.underlying5 (by kernel_rfl) (by kernel_rfl) (by kernel_rfl) (by decide) rfl h1
  have e : (tabI.map fun zs => zs.map fun z => Value.int .u8 z).flatten = ordC := by kernel_rfl
  rw [e] at h2
  exact fun w hs j v hv => ⟨(h2 j v hv).1, hs _ _ (h2 j v hv).2⟩
theorem contract (H : Type) (enc : TypeId × Value → H) (W : World) (base : Nat) (args : Array Value) (ds gs : List (DataW H)) (before : List MemPlace)
    (hval0 : ∀ (j : Nat) t v, Tryd.f7.params[j]? = some t → args[j]? = some v → Value.okWide Tryd.prog W .any base t v)
    (hW : DataW.Whole enc Tryd.prog Tryd.f7.params.toList Rows.cipherOpensSpec.vars false W args.toList ds gs before)
    (hsz0 : (DataW.weightsEach Tryd.prog (Tryd.f7.params.toList ++ Rows.cipherOpensSpec.plain.varTypes Tryd.prog) (ds ++ gs)).all (· ≤ reachBytes) = true) (hL : laidMetH Tryd.prog Rows.cipherOpensRow.laid W) :
    Calls Tryd.prog 7 args W fun e W2 => ∃ v, e = .returned v ∧ Rows.cipherOpensSpec.post enc Tryd.prog Tryd.f7 false true false false W args v W2 := by
  have hval := hval0
  have hW2 := hW
  obtain ⟨p, q, hA0, hV, rfl, hfz, hnd⟩ := hW
  have hA : DataW.TrodAll enc Tryd.prog W 0 (fun _ => true) true Tryd.f7.params.toList args.toList ds p := hA0
  rw [Tryd.params7] at hA hval
  obtain ⟨v0, vs0, d0, ds0, p0, q0, hargs, rfl, rfl, h0, r0⟩ := trodAll_cons hA
  obtain ⟨v1, vs1, d1, ds1, p1, q1, rfl, rfl, rfl, h1, r1⟩ := trodAll_cons r0
  obtain ⟨v2, vs2, d2, ds2, p2, q2, rfl, rfl, rfl, h2, r2⟩ := trodAll_cons r1
  obtain ⟨v3, vs3, d3, ds3, p3, q3, rfl, rfl, rfl, h3, r3⟩ := trodAll_cons r2
  obtain ⟨rfl, rfl, rfl⟩ := trodAll_nil r3
  obtain rfl : args = #[v0, v1, v2, v3] := by cases args; simp_all
  obtain ⟨rfl, rfl⟩ := trodVars_none hV
  have k0 := h0
  have lt0 : ∀ x ∈ p0, x.block < W.heap.size := by obtain ⟨m, hm⟩ := k0; exact DataW.trod_lt m _ _ _ hm
  obtain ⟨a0, n0, c0, rfl⟩ := okWide_slice Tryd.underlying22 (hval 0 22 v0 rfl rfl)
  obtain ⟨x0, ⟨A0, c0', e0, hc0, hs0⟩, w0⟩ := (Opn.at_ (show Opn Tryd.prog 22 (List UInt8) from (opn_sl Tryd.underlying22 (opn_u8 Tryd.underlying5) (by kernel_rfl))) h0)
  simp only [Value.cells, List.cons.injEq, Value.slice.injEq, and_true] at e0
  obtain ⟨rfl, rfl, rfl⟩ := e0
  have k1 := h1
  have lt1 : ∀ x ∈ p1, x.block < W.heap.size := by obtain ⟨m, hm⟩ := k1; exact DataW.trod_lt m _ _ _ hm
  obtain ⟨a1, rfl⟩ := okWide_int Tryd.underlying23 (hval 1 23 v1 rfl rfl)
  obtain ⟨x1, e1, w1⟩ := (Opn.at_ (show Opn Tryd.prog 23 (BitVec 64) from (opn_u64 Tryd.underlying23)) h1)
  have e1' : (.int .u64 a1 : Value) = .int .u64 (x1.toNat : Int) := by have h_ : [(.int .u64 a1 : Value)] = [.int .u64 (x1.toNat : Int)] := e1; exact (List.cons.inj h_).1
  have e12 := And.right (Value.int.inj e1')
  clear e1 e1'
  subst a1
  have k2 := h2
  have lt2 : ∀ x ∈ p2, x.block < W.heap.size := by obtain ⟨m, hm⟩ := k2; exact DataW.trod_lt m _ _ _ hm
  obtain ⟨a2, n2, c2, rfl⟩ := okWide_slice Tryd.underlying22 (hval 2 22 v2 rfl rfl)
  obtain ⟨x2, ⟨A2, c2', e2, hc2, hs2⟩, w2⟩ := (Opn.at_ (show Opn Tryd.prog 22 (List UInt8) from (opn_sl Tryd.underlying22 (opn_u8 Tryd.underlying5) (by kernel_rfl))) h2)
  simp only [Value.cells, List.cons.injEq, Value.slice.injEq, and_true] at e2
  obtain ⟨rfl, rfl, rfl⟩ := e2
  have k3 := h3
  have lt3 : ∀ x ∈ p3, x.block < W.heap.size := by obtain ⟨m, hm⟩ := k3; exact DataW.trod_lt m _ _ _ hm
  obtain ⟨a3, n3, c3, rfl⟩ := okWide_slice Tryd.underlying22 (hval 3 22 v3 rfl rfl)
  obtain ⟨x3, ⟨A3, c3', e3, hc3, hs3⟩, w3⟩ := (Opn.at_ (show Opn Tryd.prog 22 (List UInt8) from (opn_sl Tryd.underlying22 (opn_u8 Tryd.underlying5) (by kernel_rfl))) h3)
  simp only [Value.cells, List.cons.injEq, Value.slice.injEq, and_true] at e3
  obtain ⟨rfl, rfl, rfl⟩ := e3
  refine (sealskinlaw08_CipherOpens_ok (x0 := x0) (x1 := x1) (x2 := x2) (x3 := x3) (GW.st W) (laidGL W hL) hc0 hs0 hc2 hs2 hc3 hs3 (CipherOpens_all x0 x1 x2 x3 w0 w1 w2 w3)).mono fun e W2 h_ => ?_
  obtain ⟨r_, L_, H_, he, hI_, hr_⟩ := h_
  have bel := hI_.fr.below
  replace hr_ : r_ = true := hr_
  subst hr_
  subst he
  exact ⟨_, rfl, _, _, _, [], _, [], hW2, trodAll_mk1 (shut_bool Tryd.underlying4 _), (trodAll_cons_mk (Below.trod laidOut (by kernel_rfl) (of_decide_eq_true (by kernel_rfl)) k0 bel lt0) (trodAll_cons_mk (Below.trod laidOut (by kernel_rfl) (of_decide_eq_true (by kernel_rfl)) k1 bel lt1) (trodAll_cons_mk (Below.trod laidOut (by kernel_rfl) (of_decide_eq_true (by kernel_rfl)) k2 bel lt2) (trodAll_cons_mk (Below.trod laidOut (by kernel_rfl) (of_decide_eq_true (by kernel_rfl)) k3 bel lt3) trodAll_mk0)))), rfl, bel.frame _, fun h => by cases h⟩
noncomputable def laidWorld (os : Os) : World :=
  { World.holding Tryd.prog os ⟨#[], #[], []⟩ with heap := ((World.holding Tryd.prog os ⟨#[], #[], []⟩).heap).modify 0 fun | .cells _ t frozen => .cells (ordC).toArray t frozen | o => o }
theorem laid_met (os : Os) : laidMet Tryd.prog Rows.cipherOpensRow.laid ((laidWorld os).forCall (fun _ _ => 0) ⟨#[], #[.slice none 0 0, .int .u64 0, .slice none 0 0, .slice none 0 0], []⟩).memory :=
  laidMet_of_run' 8 (by kernel_rfl) (by kernel_rfl)
theorem reads (os : Os) {H : Type} (enc : TypeId × Value → H) : ∃ places, DataW.whole enc Tryd.prog ((laidWorld os).forCall (fun _ _ => 0) ⟨#[], #[.slice none 0 0, .int .u64 0, .slice none 0 0, .slice none 0 0], []⟩).memory Tryd.f7.params.toList Rows.cipherOpensSpec.vars false (#[.slice none 0 0, .int .u64 0, .slice none 0 0, .slice none 0 0] : Array Value).toList 8 = some ([.nil, .lit (.int .u64 0), .nil, .nil], [], places) :=
  ⟨[], by kernel_rfl⟩
set_option maxRecDepth 100000 in
theorem lifted (os : Os) (started : os.Started) (H : Type) (enc : TypeId × Value → H) (F : Stop.Interp) :
    ReturnsInHanded {} Tryd.checked os 7 .any ((OpenSpec.ofChange Rows.cipherOpensSpec).preRow enc Tryd.prog Tryd.f7 Rows.cipherOpensRow.domain false Rows.cipherOpensRow.laid) (((OpenSpec.ofChange Rows.cipherOpensSpec).at F).post enc Tryd.prog Tryd.f7 false true false false) := by
  obtain ⟨places, hx⟩ := reads os enc
  refine returnsInHanded_of_row (C := Tryd.checked) (s := OpenSpec.ofChange Rows.cipherOpensSpec) own started (by kernel_rfl) Tryd.func7
    (witness_row_at (enc := enc) (C := Tryd.checked) false (laidWorld os) #[.slice none 0 0, .int .u64 0, .slice none 0 0, .slice none 0 0] rfl (by kernel_rfl) (by kernel_rfl) (by kernel_rfl)
      (OpenSpec.preRow_of_cond 8 hx (by kernel_rfl) (fun k hk => by cases hk) (by kernel_rfl) (laid_met os))) ?_
  intro W base args ds gs before hval hW _ _ hsz hL _ _
  exact contract H enc W base args ds gs before hval hW hsz hL
theorem said : Rows.CipherOpensSaid :=
  OpenClaim.holds_of_cond 7 Tryd.f7 rfl rfl rfl rfl rfl rfl rfl ⟨rfl, rfl, rfl, rfl, rfl⟩ rfl rfl rfl rfl rfl (by kernel_rfl) Tryd.func7 (by kernel_rfl)
    (of_decide_eq_true (by kernel_rfl)) (by unfold Func.isWrapper; first | (rw [if_pos (by decide +kernel)]; kernel_rfl) | (rw [if_neg (by decide +kernel)]; exact ⟨rfl, rfl⟩))
    (fun os started H enc _ F => by rw [OpenClaim.pre_eq_preRow]; exact lifted os started H enc F)
theorem plain (f : FuncId) (fn : Func) (hf : Tryd.pinned.checked.prog.funcNamed "sealskin/sealskinlaw08.CipherOpens" = some f) (hfn : Tryd.pinned.checked.prog.funcs[f]? = some fn) :
    false = Tryd.pinned.checked.prog.looks [] ∧ ∀ (j : Nat) t, fn.params[j]? = some t → Tryd.pinned.checked.prog.wantsStandIn t = false := by
  obtain rfl : f = 7 := Option.some.inj ((show Tryd.prog.funcNamed "sealskin/sealskinlaw08.CipherOpens" = some 7 by kernel_rfl).symm.trans hf) |>.symm
  obtain rfl : fn = Tryd.f7 := (Option.some.inj (Tryd.func7.symm.trans hfn)).symm
  refine ⟨by kernel_rfl, fun j t ht => ?_⟩
  rw [Tryd.params7] at ht
  have key : ∀ (l : List Nat), (∀ x ∈ l, Tryd.prog.wantsStandIn x = false) → ∀ (j t : Nat), l.toArray[j]? = some t → Tryd.prog.wantsStandIn t = false := by
    intro l h j t ht; exact h t (List.mem_of_getElem? (by simpa using ht))
  exact key [22, 23, 22, 22] (by intro x hx; simp only [List.mem_cons, List.not_mem_nil, or_false] at hx; rcases hx with rfl | rfl | rfl | rfl <;> kernel_rfl) j t ht
theorem card : Rows.CipherOpensCardSaid :=
  Claim7.holds_tied_plain_at .later [] _ _ _ _ said (fun _ h => by cases h) (by kernel_rfl) (fun _ h => by cases h) cipherOpens_row_tie rfl ⟨rfl, rfl⟩ (by kernel_rfl) rfl plain (by kernel_rfl)
end Go.Proofs.YtohneemghiehdaaDoor.cipherOpens
namespace Go.Proofs.YtohneemghiehdaaDoor
theorem cipherOpens_holds : Rows.CipherOpensCardSaid := cipherOpens.card
#print axioms cipherOpens_holds
end Go.Proofs.YtohneemghiehdaaDoor
