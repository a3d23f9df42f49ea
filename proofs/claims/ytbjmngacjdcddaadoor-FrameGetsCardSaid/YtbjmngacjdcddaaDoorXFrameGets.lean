/- The law FrameGets answers true at every input: the message that bytes are, or that they are none, is what the document says. -/
import Derived.Test.YtbjmngacjdcddaaDoorZG1
import Derived.Test.YtbjmngacjdcddaaDoorZG6
import Derived.Test.YtbjmngacjdcddaaDoorZG21
import Derived.Test.YtbjmngacjdcddaaDoorRows
import Derived.Test.YtbjmngacjdcddaaDoorCards
import Derived.Test.YtbjmngacjdcddaaDoorTie
import Derived.WalkKit
import Derived.ProofKit
import Derived.OpenShut
import Derived.ShutString
import Derived.ChangeOld
import Derived.Below
import Derived.Carry
import Derived.Deep.DeepHandedRow
set_option linter.unusedVariables false
set_option linter.unusedSimpArgs false
namespace Go.Proofs.YtbjmngacjdcddaaDoor.frameGets
open Go Go.Sx Go.Lx Go.ChangeShapes Go.WideShapes Go.ChangeAt Go.RowKit
open Go.ChangeMaps (open_string shut_string)


theorem own : ownKnob Tryd.prog.godebug = none := by kernel_rfl
theorem laidOut : laidOutB Tryd.prog = true := by kernel_rfl
theorem extra : U8Extra Tryd.prog laysValid_ren := ⟨by kernel_rfl, by kernel_rfl, by kernel_rfl, by kernel_rfl, by kernel_rfl, by kernel_rfl, by kernel_rfl⟩
theorem gNamed : Tryd.prog.globalNamed "sealskin/hash.order" = some 2 := by kernel_rfl
def tabI : List (List Int) := Bl.orders.map fun o => o.map fun (x : Nat) => (x : Int)
theorem laidGL (W : World) (hL : laidMetH Tryd.prog Rows.frameGetsRow.laid W) : GL (GW W) := by
 have h1 : laidMet Tryd.prog Rows.frameGetsRow.laid W := hL
 have h1' : laidMet Tryd.prog [("unicode/utf8.acceptRanges", Rows.laid_unicode_utf8_acceptRanges), ("sealskin/hash.order", rowsData .u8 tabI), ("unicode/utf8.first", Rows.laid_unicode_utf8_first)] W := hL
 have h2 := rows_of_second (n := 10) (m := 16) gNamed (by kernel_rfl) Tryd.underlying140 Tryd.underlying139 Tryd.underlying5 (by kernel_rfl) (by kernel_rfl) (by kernel_rfl) (by decide) rfl h1'
 have e : (tabI.map fun zs => zs.map fun z => Value.int .u8 z).flatten = ordC := by kernel_rfl
 rw [e] at h2
 obtain ⟨ps, hv, _⟩ := h1
 have e1 : Rows.laid_unicode_utf8_first = Go.Lib.firstData := by kernel_rfl
 have e2 : Rows.laid_unicode_utf8_acceptRanges = Go.Lib.acceptData := by kernel_rfl
 have r1 := Go.Lib.LaidVars_reads hv "unicode/utf8.first" Rows.laid_unicode_utf8_first (List.Mem.tail _ (List.Mem.tail _ (List.Mem.head _)))
 have r2 := Go.Lib.LaidVars_reads hv "unicode/utf8.acceptRanges" Rows.laid_unicode_utf8_acceptRanges (List.Mem.head _)
 rw [e1] at r1
 rw [e2] at r2
 have hT : Go.Lib.Utf8Tabs 0 1 W := utf8Tabs_of_readsT (U8Types.of196 laysValid) extra r1 r2
 exact fun w hs => ⟨⟨fun c hc => hs _ _ (hT.1 c hc), fun i hi => ⟨hs _ _ (hT.2 i hi).1, hs _ _ (hT.2 i hi).2⟩⟩, fun j v hv => ⟨(h2 j v hv).1, hs _ _ (h2 j v hv).2⟩⟩
set_option maxRecDepth 100000 in
theorem contract (H : Type) (enc : TypeId × Value → H) (W : World) (base : Nat) (args : Array Value) (ds gs : List (DataW H)) (before : List MemPlace)
  (hval0 : ∀ (j : Nat) t v, Tryd.f11.params[j]? = some t → args[j]? = some v → Value.okWide Tryd.prog W .any base t v)
  (hW : DataW.Whole enc Tryd.prog Tryd.f11.params.toList Rows.frameGetsSpec.vars false W args.toList ds gs before)
  (hsz0 : (DataW.weightsEach Tryd.prog (Tryd.f11.params.toList ++ Rows.frameGetsSpec.plain.varTypes Tryd.prog) (ds ++ gs)).all (· ≤ reachBytes) = true) (hL : laidMetH Tryd.prog Rows.frameGetsRow.laid W) :
  Calls Tryd.prog 11 args W fun e W2 => ∃ v, e = .returned v ∧ Rows.frameGetsSpec.post enc Tryd.prog Tryd.f11 false true false false W args v W2 := by
 have hval := hval0
 have hW2 := hW
 obtain ⟨p, q, hA0, hV, rfl, hfz, hnd⟩ := hW
 have hA : DataW.TrodAll enc Tryd.prog W 0 (fun _ => true) true Tryd.f11.params.toList args.toList ds p := hA0
 rw [Tryd.params11] at hA hval
 obtain ⟨v0, vs0, d0, ds0, p0, q0, hargs, rfl, rfl, h0, r0⟩ := trodAll_cons hA
 obtain ⟨rfl, rfl, rfl⟩ := trodAll_nil r0
 obtain rfl : args = #[v0] := by cases args; simp_all
 obtain ⟨rfl, rfl⟩ := trodVars_none hV
 have k0 := h0
 have lt0 : ∀ x ∈ p0, x.block < W.heap.size := by obtain ⟨m, hm⟩ := k0; exact DataW.trod_lt m _ _ _ hm
 obtain ⟨a0, n0, c0, rfl⟩ := okWide_slice Tryd.underlying30 (hval 0 30 v0 rfl rfl)
 obtain ⟨x0, ⟨A0, c0', e0, hc0, hs0⟩, w0⟩ := (Opn.at_ (show Opn Tryd.prog 30 (List UInt8) from (opn_sl Tryd.underlying30 (opn_u8 Tryd.underlying5) (by kernel_rfl))) h0)
 simp only [Value.cells, List.cons.injEq, Value.slice.injEq, and_true] at e0
 obtain ⟨rfl, rfl, rfl⟩ := e0
 refine (sealskinlaw13_FrameGets_ok (x0 := x0) (GW.st W) (laidGL W hL) hc0 hs0 (FrameGets_all x0 w0)).mono fun e W2 h_ => ?_
 obtain ⟨r_, L_, H_, he, hI_, hr_⟩ := h_
 have bel := hI_.fr.below
 replace hr_ : r_ = true := hr_
 subst hr_
 subst he
 exact ⟨_, rfl, _, _, _, [], _, [], hW2, trodAll_mk1 (shut_bool Tryd.underlying4 _), (trodAll_cons_mk (Below.trod laidOut (by kernel_rfl) (of_decide_eq_true (by kernel_rfl)) k0 bel lt0) trodAll_mk0), rfl, bel.frame _, fun h => by cases h⟩
noncomputable def laidWorld (os : Os) : World :=
 { World.holding Tryd.prog os ⟨#[], #[], []⟩ with heap := ((((World.holding Tryd.prog os ⟨#[], #[], []⟩).heap).modify 1 fun | .cells _ t frozen => .cells (((List.range 16).map fun i => [Value.int .u8 (Go.Lib.accLo i : Int), Value.int .u8 (Go.Lib.accHi i : Int)]).flatten).toArray t frozen | o => o).modify 2 fun | .cells _ t frozen => .cells (ordC).toArray t frozen | o => o).modify 0 fun | .cells _ t frozen => .cells ((List.range 256).map fun c => Value.int .u8 (Go.Lib.firstT c : Int)).toArray t frozen | o => o }
theorem laid_met (os : Os) : laidMet Tryd.prog Rows.frameGetsRow.laid ((laidWorld os).forCall (fun _ _ => 0) ⟨#[], #[.slice none 0 0], []⟩).memory :=
 laidMet_of_run' 8 (by kernel_rfl) (by kernel_rfl)
theorem reads (os : Os) {H : Type} (enc : TypeId × Value → H) : ∃ places, DataW.whole enc Tryd.prog ((laidWorld os).forCall (fun _ _ => 0) ⟨#[], #[.slice none 0 0], []⟩).memory Tryd.f11.params.toList Rows.frameGetsSpec.vars false (#[.slice none 0 0] : Array Value).toList 8 = some ([.nil], [], places) :=
 ⟨[], by kernel_rfl⟩
set_option maxRecDepth 100000 in
theorem lifted (os : Os) (started : os.Started) (H : Type) (enc : TypeId × Value → H) (F : Stop.Interp) :
  ReturnsInHanded {} Tryd.checked os 11 .any ((OpenSpec.ofChange Rows.frameGetsSpec).preRow enc Tryd.prog Tryd.f11 Rows.frameGetsRow.domain false Rows.frameGetsRow.laid) (((OpenSpec.ofChange Rows.frameGetsSpec).at F).post enc Tryd.prog Tryd.f11 false true false false) := by
 obtain ⟨places, hx⟩ := reads os enc
 refine returnsInHanded_of_row (C := Tryd.checked) (s := OpenSpec.ofChange Rows.frameGetsSpec) own started (by kernel_rfl) Tryd.func11
  (witness_row_at (enc := enc) (C := Tryd.checked) false (laidWorld os) #[.slice none 0 0] rfl (by kernel_rfl) (by kernel_rfl) (by kernel_rfl)
   (OpenSpec.preRow_of_cond 8 hx (by kernel_rfl) (fun k hk => by cases hk) (by kernel_rfl) (laid_met os))) ?_
 intro W base args ds gs before hval hW _ _ hsz hL _ _
 exact contract H enc W base args ds gs before hval hW hsz hL
theorem said : Rows.FrameGetsSaid :=
 OpenClaim.holds_of_cond 11 Tryd.f11 rfl rfl rfl rfl rfl rfl rfl ⟨rfl, rfl, rfl, rfl, rfl⟩ rfl rfl rfl rfl rfl (by kernel_rfl) Tryd.func11 (by kernel_rfl)
  (of_decide_eq_true (by kernel_rfl)) (by unfold Func.isWrapper; first | (rw [if_pos (by decide +kernel)]; kernel_rfl) | (rw [if_neg (by decide +kernel)]; exact ⟨rfl, rfl⟩))
  (fun os started H enc _ F => by rw [OpenClaim.pre_eq_preRow]; exact lifted os started H enc F)
theorem plain (f : FuncId) (fn : Func) (hf : Tryd.pinned.checked.prog.funcNamed "sealskin/sealskinlaw13.FrameGets" = some f) (hfn : Tryd.pinned.checked.prog.funcs[f]? = some fn) :
  false = Tryd.pinned.checked.prog.looks [] ∧ ∀ (j : Nat) t, fn.params[j]? = some t → Tryd.pinned.checked.prog.wantsStandIn t = false := by
 obtain rfl : f = 11 := Option.some.inj ((show Tryd.prog.funcNamed "sealskin/sealskinlaw13.FrameGets" = some 11 by kernel_rfl).symm.trans hf) |>.symm
 obtain rfl : fn = Tryd.f11 := (Option.some.inj (Tryd.func11.symm.trans hfn)).symm
 refine ⟨by kernel_rfl, fun j t ht => ?_⟩
 rw [Tryd.params11] at ht
 have key : ∀ (l : List Nat), (∀ x ∈ l, Tryd.prog.wantsStandIn x = false) → ∀ (j t : Nat), l.toArray[j]? = some t → Tryd.prog.wantsStandIn t = false := by
  intro l h j t ht; exact h t (List.mem_of_getElem? (by simpa using ht))
 exact key [30] (by intro x hx; simp only [List.mem_cons, List.not_mem_nil, or_false] at hx; rcases hx with rfl <;> kernel_rfl) j t ht
theorem card : Rows.FrameGetsCardSaid :=
 Claim7.holds_tied_plain_at .later [] _ _ _ _ said (fun _ h => by cases h) (by kernel_rfl) (fun _ h => by cases h) frameGets_row_tie rfl ⟨rfl, rfl⟩ (by kernel_rfl) rfl plain (by kernel_rfl)
end Go.Proofs.YtbjmngacjdcddaaDoor.frameGets
namespace Go.Proofs.YtbjmngacjdcddaaDoor
theorem frameGets_holds : Rows.FrameGetsCardSaid := frameGets.card
#print axioms frameGets_holds
end Go.Proofs.YtbjmngacjdcddaaDoor

