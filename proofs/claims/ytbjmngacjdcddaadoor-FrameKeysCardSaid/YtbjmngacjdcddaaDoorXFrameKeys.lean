/- The law FrameKeys answers true at every input: the key of a connection is what the document says. -/
import Derived.Test.YtbjmngacjdcddaaDoorZK1
import Derived.Test.YtbjmngacjdcddaaDoorZK6
import Derived.Test.YtbjmngacjdcddaaDoorZK21
import Derived.Test.YtbjmngacjdcddaaDoorRows
import Derived.Test.YtbjmngacjdcddaaDoorCards
import Derived.Test.YtbjmngacjdcddaaDoorTie
import Derived.WalkKit
import Derived.ProofKit
import Derived.OpenShut
import Derived.ShutString
import Derived.ChangeOld
import Derived.Below
import Derived.Carry
import Derived.Deep.DeepHandedRow
set_option linter.unusedVariables false
set_option linter.unusedSimpArgs false
namespace Go.Proofs.YtbjmngacjdcddaaDoor.frameKeys
open Go Go.Sx Go.Lx Go.ChangeShapes Go.WideShapes Go.ChangeAt Go.RowKit
open Go.ChangeMaps (open_string shut_string)


theorem own : ownKnob Tryd.prog.godebug = none := by kernel_rfl
theorem laidOut : laidOutB Tryd.prog = true := by kernel_rfl
theorem extra : U8Extra Tryd.prog laysValid_ren := ⟨by kernel_rfl, by kernel_rfl, by kernel_rfl, by kernel_rfl, by kernel_rfl, by kernel_rfl, by kernel_rfl⟩
theorem gNamed : Tryd.prog.globalNamed "sealskin/hash.order" = some 2 := by kernel_rfl
def tabI : List (List Int) := Bl.orders.map fun o => o.map fun (x : Nat) => (x : Int)
theorem laidGL (W : World) (hL : laidMetH Tryd.prog Rows.frameKeysRow.laid W) : GL (GW W) := by
 have h1 : laidMet Tryd.prog Rows.frameKeysRow.laid W := hL
 have h1' : laidMet Tryd.prog [("unicode/utf8.acceptRanges", Rows.laid_unicode_utf8_acceptRanges), ("sealskin/hash.order", rowsData .u8 tabI), ("unicode/utf8.first", Rows.laid_unicode_utf8_first)] W := hL
 have h2 := rows_of_second (n := 10) (m := 16) gNamed (by kernel_rfl) Tryd.underlying140 Tryd.underlying139 Tryd.underlying5 (by kernel_rfl) (by kernel_rfl) (by kernel_rfl) (by decide) rfl h1'
 have e : (tabI.map fun zs => zs.map fun z => Value.int .u8 z).flatten = ordC := by kernel_rfl
 rw [e] at h2
 obtain ⟨ps, hv, _⟩ := h1
 have e1 : Rows.laid_unicode_utf8_first = Go.Lib.firstData := by kernel_rfl
 have e2 : Rows.laid_unicode_utf8_acceptRanges = Go.Lib.acceptData := by kernel_rfl
 have r1 := Go.Lib.LaidVars_reads hv "unicode/utf8.first" Rows.laid_unicode_utf8_first (List.Mem.tail _ (List.Mem.tail _ (List.Mem.head _)))
 have r2 := Go.Lib.LaidVars_reads hv "unicode/utf8.acceptRanges" Rows.laid_unicode_utf8_acceptRanges (List.Mem.head _)
 rw [e1] at r1
 rw [e2] at r2
 have hT : Go.Lib.Utf8Tabs 0 1 W := utf8Tabs_of_readsT (U8Types.of196 laysValid) extra r1 r2
 exact fun w hs => ⟨⟨fun c hc => hs _ _ (hT.1 c hc), fun i hi => ⟨hs _ _ (hT.2 i hi).1, hs _ _ (hT.2 i hi).2⟩⟩, fun j v hv => ⟨(h2 j v hv).1, hs _ _ (h2 j v hv).2⟩⟩
set_option maxRecDepth 100000 in
theorem contract (H : Type) (enc : TypeId × Value → H) (W : World) (base : Nat) (args : Array Value) (ds gs : List (DataW H)) (before : List MemPlace)
  (hval0 : ∀ (j : Nat) t v, Tryd.f7.params[j]? = some t → args[j]? = some v → Value.okWide Tryd.prog W .any base t v)
  (hW : DataW.Whole enc Tryd.prog Tryd.f7.params.toList Rows.frameKeysSpec.vars false W args.toList ds gs before)
  (hsz0 : (DataW.weightsEach Tryd.prog (Tryd.f7.params.toList ++ Rows.frameKeysSpec.plain.varTypes Tryd.prog) (ds ++ gs)).all (· ≤ reachBytes) = true) (hL : laidMetH Tryd.prog Rows.frameKeysRow.laid W) :
  Calls Tryd.prog 7 args W fun e W2 => ∃ v, e = .returned v ∧ Rows.frameKeysSpec.post enc Tryd.prog Tryd.f7 false true false false W args v W2 := by
 have hval := hval0
 have hW2 := hW
 obtain ⟨p, q, hA0, hV, rfl, hfz, hnd⟩ := hW
 have hA : DataW.TrodAll enc Tryd.prog W 0 (fun _ => true) true Tryd.f7.params.toList args.toList ds p := hA0
 rw [Tryd.params7] at hA hval
 obtain ⟨v0, vs0, d0, ds0, p0, q0, hargs, rfl, rfl, h0, r0⟩ := trodAll_cons hA
 obtain ⟨v1, vs1, d1, ds1, p1, q1, rfl, rfl, rfl, h1, r1⟩ := trodAll_cons r0
 obtain ⟨v2, vs2, d2, ds2, p2, q2, rfl, rfl, rfl, h2, r2⟩ := trodAll_cons r1
 obtain ⟨rfl, rfl, rfl⟩ := trodAll_nil r2
 obtain rfl : args = #[v0, v1, v2] := by cases args; simp_all
 obtain ⟨rfl, rfl⟩ := trodVars_none hV
 have k0 := h0
 have lt0 : ∀ x ∈ p0, x.block < W.heap.size := by obtain ⟨m, hm⟩ := k0; exact DataW.trod_lt m _ _ _ hm
 obtain ⟨a0, rfl⟩ := okWide_string Tryd.underlying9 (hval 0 9 v0 rfl rfl)
 obtain ⟨x0, e0, w0⟩ := (Opn.at_ (show Opn Tryd.prog 9 (Str) from (opn_str Tryd.underlying9)) h0)
 have e0' : (.string a0 : Value) = .string ⟨x0.b.toArray⟩ := by have h_ : [(.string a0 : Value)] = [.string ⟨x0.b.toArray⟩] := e0; exact (List.cons.inj h_).1
 have e02 := Value.string.inj e0'
 clear e0 e0'
 subst a0
 have k1 := h1
 have lt1 : ∀ x ∈ p1, x.block < W.heap.size := by obtain ⟨m, hm⟩ := k1; exact DataW.trod_lt m _ _ _ hm
 obtain ⟨a1, rfl⟩ := okWide_int Tryd.underlying3 (hval 1 3 v1 rfl rfl)
 obtain ⟨x1, e1, w1⟩ := (Opn.at_ (show Opn Tryd.prog 3 (Int) from (opn_i64 Tryd.underlying3)) h1)
 have e1' : (.int .i64 a1 : Value) = .int .i64 x1 := by have h_ : [(.int .i64 a1 : Value)] = [.int .i64 x1] := e1; exact (List.cons.inj h_).1
 have e12 := And.right (Value.int.inj e1')
 clear e1 e1'
 subst a1
 have k2 := h2
 have lt2 : ∀ x ∈ p2, x.block < W.heap.size := by obtain ⟨m, hm⟩ := k2; exact DataW.trod_lt m _ _ _ hm
 obtain ⟨a2, rfl⟩ := okWide_int Tryd.underlying3 (hval 2 3 v2 rfl rfl)
 obtain ⟨x2, e2, w2⟩ := (Opn.at_ (show Opn Tryd.prog 3 (Int) from (opn_i64 Tryd.underlying3)) h2)
 have e2' : (.int .i64 a2 : Value) = .int .i64 x2 := by have h_ : [(.int .i64 a2 : Value)] = [.int .i64 x2] := e2; exact (List.cons.inj h_).1
 have e22 := And.right (Value.int.inj e2')
 clear e2 e2'
 subst a2
 refine (sealskinlaw13_FrameKeys_ok (x0 := x0) (x1 := x1) (x2 := x2) (GW.st W) (laidGL W hL)  (FrameKeys_all x0 x1 x2 w0 w1 w2)).mono fun e W2 h_ => ?_
 obtain ⟨r_, L_, H_, he, hI_, hr_⟩ := h_
 have bel := hI_.fr.below
 replace hr_ : r_ = true := hr_
 subst hr_
 subst he
 exact ⟨_, rfl, _, _, _, [], _, [], hW2, trodAll_mk1 (shut_bool Tryd.underlying4 _), (trodAll_cons_mk (Below.trod laidOut (by kernel_rfl) (of_decide_eq_true (by kernel_rfl)) k0 bel lt0) (trodAll_cons_mk (Below.trod laidOut (by kernel_rfl) (of_decide_eq_true (by kernel_rfl)) k1 bel lt1) (trodAll_cons_mk (Below.trod laidOut (by kernel_rfl) (of_decide_eq_true (by kernel_rfl)) k2 bel lt2) trodAll_mk0))), rfl, bel.frame _, fun h => by cases h⟩
noncomputable def laidWorld (os : Os) : World :=
 { World.holding Tryd.prog os ⟨#[], #[], []⟩ with heap := ((((World.holding Tryd.prog os ⟨#[], #[], []⟩).heap).modify 1 fun | .cells _ t frozen => .cells (((List.range 16).map fun i => [Value.int .u8 (Go.Lib.accLo i : Int), Value.int .u8 (Go.Lib.accHi i : Int)]).flatten).toArray t frozen | o => o).modify 2 fun | .cells _ t frozen => .cells (ordC).toArray t frozen | o => o).modify 0 fun | .cells _ t frozen => .cells ((List.range 256).map fun c => Value.int .u8 (Go.Lib.firstT c : Int)).toArray t frozen | o => o }
theorem laid_met (os : Os) : laidMet Tryd.prog Rows.frameKeysRow.laid ((laidWorld os).forCall (fun _ _ => 0) ⟨#[], #[.string ByteArray.empty, .int .i64 0, .int .i64 0], []⟩).memory :=
 laidMet_of_run' 8 (by kernel_rfl) (by kernel_rfl)
theorem reads (os : Os) {H : Type} (enc : TypeId × Value → H) : ∃ places, DataW.whole enc Tryd.prog ((laidWorld os).forCall (fun _ _ => 0) ⟨#[], #[.string ByteArray.empty, .int .i64 0, .int .i64 0], []⟩).memory Tryd.f7.params.toList Rows.frameKeysSpec.vars false (#[.string ByteArray.empty, .int .i64 0, .int .i64 0] : Array Value).toList 8 = some ([.lit (.string []), .lit (.int .i64 0), .lit (.int .i64 0)], [], places) :=
 ⟨[], by kernel_rfl⟩
set_option maxRecDepth 100000 in
theorem lifted (os : Os) (started : os.Started) (H : Type) (enc : TypeId × Value → H) (F : Stop.Interp) :
  ReturnsInHanded {} Tryd.checked os 7 .any ((OpenSpec.ofChange Rows.frameKeysSpec).preRow enc Tryd.prog Tryd.f7 Rows.frameKeysRow.domain false Rows.frameKeysRow.laid) (((OpenSpec.ofChange Rows.frameKeysSpec).at F).post enc Tryd.prog Tryd.f7 false true false false) := by
 obtain ⟨places, hx⟩ := reads os enc
 refine returnsInHanded_of_row (C := Tryd.checked) (s := OpenSpec.ofChange Rows.frameKeysSpec) own started (by kernel_rfl) Tryd.func7
  (witness_row_at (enc := enc) (C := Tryd.checked) false (laidWorld os) #[.string ByteArray.empty, .int .i64 0, .int .i64 0] rfl (by kernel_rfl) (by kernel_rfl) (by kernel_rfl)
   (OpenSpec.preRow_of_cond 8 hx (by kernel_rfl) (fun k hk => by cases hk) (by kernel_rfl) (laid_met os))) ?_
 intro W base args ds gs before hval hW _ _ hsz hL _ _
 exact contract H enc W base args ds gs before hval hW hsz hL
theorem said : Rows.FrameKeysSaid :=
 OpenClaim.holds_of_cond 7 Tryd.f7 rfl rfl rfl rfl rfl rfl rfl ⟨rfl, rfl, rfl, rfl, rfl⟩ rfl rfl rfl rfl rfl (by kernel_rfl) Tryd.func7 (by kernel_rfl)
  (of_decide_eq_true (by kernel_rfl)) (by unfold Func.isWrapper; first | (rw [if_pos (by decide +kernel)]; kernel_rfl) | (rw [if_neg (by decide +kernel)]; exact ⟨rfl, rfl⟩))
  (fun os started H enc _ F => by rw [OpenClaim.pre_eq_preRow]; exact lifted os started H enc F)
theorem plain (f : FuncId) (fn : Func) (hf : Tryd.pinned.checked.prog.funcNamed "sealskin/sealskinlaw13.FrameKeys" = some f) (hfn : Tryd.pinned.checked.prog.funcs[f]? = some fn) :
  false = Tryd.pinned.checked.prog.looks [] ∧ ∀ (j : Nat) t, fn.params[j]? = some t → Tryd.pinned.checked.prog.wantsStandIn t = false := by
 obtain rfl : f = 7 := Option.some.inj ((show Tryd.prog.funcNamed "sealskin/sealskinlaw13.FrameKeys" = some 7 by kernel_rfl).symm.trans hf) |>.symm
 obtain rfl : fn = Tryd.f7 := (Option.some.inj (Tryd.func7.symm.trans hfn)).symm
 refine ⟨by kernel_rfl, fun j t ht => ?_⟩
 rw [Tryd.params7] at ht
 have key : ∀ (l : List Nat), (∀ x ∈ l, Tryd.prog.wantsStandIn x = false) → ∀ (j t : Nat), l.toArray[j]? = some t → Tryd.prog.wantsStandIn t = false := by
  intro l h j t ht; exact h t (List.mem_of_getElem? (by simpa using ht))
 exact key [9, 3, 3] (by intro x hx; simp only [List.mem_cons, List.not_mem_nil, or_false] at hx; rcases hx with rfl | rfl | rfl <;> kernel_rfl) j t ht
theorem card : Rows.FrameKeysCardSaid :=
 Claim7.holds_tied_plain_at .later [] _ _ _ _ said (fun _ h => by cases h) (by kernel_rfl) (fun _ h => by cases h) frameKeys_row_tie rfl ⟨rfl, rfl⟩ (by kernel_rfl) rfl plain (by kernel_rfl)
end Go.Proofs.YtbjmngacjdcddaaDoor.frameKeys
namespace Go.Proofs.YtbjmngacjdcddaaDoor
theorem frameKeys_holds : Rows.FrameKeysCardSaid := frameKeys.card
#print axioms frameKeys_holds
end Go.Proofs.YtbjmngacjdcddaaDoor

