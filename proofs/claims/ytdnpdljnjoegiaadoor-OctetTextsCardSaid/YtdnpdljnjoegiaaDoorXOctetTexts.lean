/- The law OctetTexts: whatever text is read is UTF-8, of at most as many code points as were asked for: true at every input. -/
import Derived.Test.YtdnpdljnjoegiaaDoorOmTexts
import Derived.Test.YtdnpdljnjoegiaaDoorP2zz
import Derived.Test.YtdnpdljnjoegiaaDoorLx4
import Derived.Test.YtdnpdljnjoegiaaDoorRows
import Derived.Test.YtdnpdljnjoegiaaDoorCards
import Derived.Test.YtdnpdljnjoegiaaDoorTie
import Derived.WalkKit
import Derived.ProofKit
import Derived.OpenShut
import Derived.ShutString
import Derived.ChangeOld
import Derived.Below
import Derived.Carry
import Derived.Deep.DeepHandedRow
set_option linter.unusedVariables false
set_option linter.unusedSimpArgs false
namespace Go.Proofs.YtdnpdljnjoegiaaDoor.octetTexts
open Go Go.Sx Go.Lx Go.ChangeShapes Go.WideShapes Go.ChangeAt Go.RowKit
open Go.ChangeMaps (open_string shut_string)


theorem own : ownKnob Tryd.prog.godebug = none := by kernel_rfl
theorem laidOut : laidOutB Tryd.prog = true := by kernel_rfl
theorem extra : U8Extra Tryd.prog laysValid_ren := ⟨by kernel_rfl, by kernel_rfl, by kernel_rfl, by kernel_rfl, by kernel_rfl, by kernel_rfl, by kernel_rfl⟩
theorem laidGL (W : World) (hL : laidMetH Tryd.prog Rows.octetTextsRow.laid W) : GL (GW W) := by
  have h1 : laidMet Tryd.prog Rows.octetTextsRow.laid W := hL
  obtain ⟨ps, hv, _⟩ := h1
  have e1 : Rows.laid_unicode_utf8_first = Go.Lib.firstData := by kernel_rfl
  have e2 : Rows.laid_unicode_utf8_acceptRanges = Go.Lib.acceptData := by kernel_rfl
  have r1 := Go.Lib.LaidVars_reads hv "unicode/utf8.first" Rows.laid_unicode_utf8_first (List.Mem.tail _ (List.Mem.head _))
  have r2 := Go.Lib.LaidVars_reads hv "unicode/utf8.acceptRanges" Rows.laid_unicode_utf8_acceptRanges (List.Mem.head _)
  rw [e1] at r1
  rw [e2] at r2
  have hT : Go.Lib.Utf8Tabs 0 1 W := utf8Tabs_of_readsT (U8Types.of196 laysValid) extra r1 r2
  exact fun w hs => ⟨fun c hc => hs _ _ (hT.1 c hc), fun i hi => ⟨hs _ _ (hT.2 i hi).1, hs _ _ (hT.2 i hi).2⟩⟩
theorem contract (H : Type) (enc : TypeId × Value → H) (W : World) (base : Nat) (args : Array Value) (ds gs : List (DataW H)) (before : List MemPlace)
    (hval0 : ∀ (j : Nat) t v, Tryd.f13.params[j]? = some t → args[j]? = some v → Value.okWide Tryd.prog W .any base t v)
    (hW : DataW.Whole enc Tryd.prog Tryd.f13.params.toList Rows.octetTextsSpec.vars false W args.toList ds gs before)
    (hsz0 : (DataW.weightsEach Tryd.prog (Tryd.f13.params.toList ++ Rows.octetTextsSpec.plain.varTypes Tryd.prog) (ds ++ gs)).all (· ≤ reachBytes) = true) (hL : laidMetH Tryd.prog Rows.octetTextsRow.laid W) :
    Calls Tryd.prog 13 args W fun e W2 => ∃ v, e = .returned v ∧ Rows.octetTextsSpec.post enc Tryd.prog Tryd.f13 false true false false W args v W2 := by
  have hval := hval0
  have hW2 := hW
  obtain ⟨p, q, hA0, hV, rfl, hfz, hnd⟩ := hW
  have hA : DataW.TrodAll enc Tryd.prog W 0 (fun _ => true) true Tryd.f13.params.toList args.toList ds p := hA0
  rw [Tryd.params13] at hA hval
  obtain ⟨v0, vs0, d0, ds0, p0, q0, hargs, rfl, rfl, h0, r0⟩ := trodAll_cons hA
  obtain ⟨v1, vs1, d1, ds1, p1, q1, rfl, rfl, rfl, h1, r1⟩ := trodAll_cons r0
  obtain ⟨rfl, rfl, rfl⟩ := trodAll_nil r1
  obtain rfl : args = #[v0, v1] := by cases args; simp_all
  obtain ⟨rfl, rfl⟩ := trodVars_none hV
  have k0 := h0
  have lt0 : ∀ x ∈ p0, x.block < W.heap.size := by obtain ⟨m, hm⟩ := k0; exact DataW.trod_lt m _ _ _ hm
  obtain ⟨a0, n0, c0, rfl⟩ := okWide_slice Tryd.underlying22 (hval 0 22 v0 rfl rfl)
  obtain ⟨x0, ⟨A0, c0', e0, hc0, hs0⟩, w0⟩ := (Opn.at_ (show Opn Tryd.prog 22 (List UInt8) from (opn_sl Tryd.underlying22 (opn_u8 Tryd.underlying5) (by kernel_rfl))) h0)
  simp only [Value.cells, List.cons.injEq, Value.slice.injEq, and_true] at e0
  obtain ⟨rfl, rfl, rfl⟩ := e0
  have k1 := h1
  have lt1 : ∀ x ∈ p1, x.block < W.heap.size := by obtain ⟨m, hm⟩ := k1; exact DataW.trod_lt m _ _ _ hm
  obtain ⟨a1, rfl⟩ := okWide_int Tryd.underlying3 (hval 1 3 v1 rfl rfl)
  obtain ⟨x1, e1, w1⟩ := (Opn.at_ (show Opn Tryd.prog 3 (Int) from (opn_i64 Tryd.underlying3)) h1)
  have e1' : (.int .i64 a1 : Value) = .int .i64 x1 := by have h_ : [(.int .i64 a1 : Value)] = [.int .i64 x1] := e1; exact (List.cons.inj h_).1
  have e12 := And.right (Value.int.inj e1')
  clear e1 e1'
  subst a1
  refine (sealskinlaw02_OctetTexts_ok (x0 := x0) (x1 := x1) (GW.st W) (laidGL W hL) hc0 hs0 (OctetTexts_all x0 x1 w0 w1)).mono fun e W2 h_ => ?_
  obtain ⟨r_, L_, H_, he, hI_, hr_⟩ := h_
  have bel := hI_.fr.below
  replace hr_ : r_ = true := hr_
  subst hr_
  subst he
  exact ⟨_, rfl, _, _, _, [], _, [], hW2, trodAll_mk1 (shut_bool Tryd.underlying4 _), (trodAll_cons_mk (Below.trod laidOut (by kernel_rfl) (of_decide_eq_true (by kernel_rfl)) k0 bel lt0) (trodAll_cons_mk (Below.trod laidOut (by kernel_rfl) (of_decide_eq_true (by kernel_rfl)) k1 bel lt1) trodAll_mk0)), rfl, bel.frame _, fun h => by cases h⟩
noncomputable def laidWorld (os : Os) : World :=
  { World.holding Tryd.prog os ⟨#[], #[], []⟩ with heap := (((World.holding Tryd.prog os ⟨#[], #[], []⟩).heap).modify 1 fun | .cells _ t frozen => .cells (((List.range 16).map fun i => [Value.int .u8 (Go.Lib.accLo i : Int), Value.int .u8 (Go.Lib.accHi i : Int)]).flatten).toArray t frozen | o => o).modify 0 fun | .cells _ t frozen => .cells ((List.range 256).map fun c => Value.int .u8 (Go.Lib.firstT c : Int)).toArray t frozen | o => o }
theorem laid_met (os : Os) : laidMet Tryd.prog Rows.octetTextsRow.laid ((laidWorld os).forCall (fun _ _ => 0) ⟨#[], #[.slice none 0 0, .int .i64 0], []⟩).memory :=
  laidMet_of_run' 8 (by kernel_rfl) (by kernel_rfl)
theorem reads (os : Os) {H : Type} (enc : TypeId × Value → H) : ∃ places, DataW.whole enc Tryd.prog ((laidWorld os).forCall (fun _ _ => 0) ⟨#[], #[.slice none 0 0, .int .i64 0], []⟩).memory Tryd.f13.params.toList Rows.octetTextsSpec.vars false (#[.slice none 0 0, .int .i64 0] : Array Value).toList 8 = some ([.nil, .lit (.int .i64 0)], [], places) :=
  ⟨[], by kernel_rfl⟩
set_option maxRecDepth 100000 in
theorem lifted (os : Os) (started : os.Started) (H : Type) (enc : TypeId × Value → H) (F : Stop.Interp) :
    ReturnsInHanded {} Tryd.checked os 13 .any ((OpenSpec.ofChange Rows.octetTextsSpec).preRow enc Tryd.prog Tryd.f13 Rows.octetTextsRow.domain false Rows.octetTextsRow.laid) (((OpenSpec.ofChange Rows.octetTextsSpec).at F).post enc Tryd.prog Tryd.f13 false true false false) := by
  obtain ⟨places, hx⟩ := reads os enc
  refine returnsInHanded_of_row (C := Tryd.checked) (s := OpenSpec.ofChange Rows.octetTextsSpec) own started (by kernel_rfl) Tryd.func13
    (witness_row_at (enc := enc) (C := Tryd.checked) false (laidWorld os) #[.slice none 0 0, .int .i64 0] rfl (by kernel_rfl) (by kernel_rfl) (by kernel_rfl)
      (OpenSpec.preRow_of_cond 8 hx (by kernel_rfl) (fun k hk => by cases hk) (by kernel_rfl) (laid_met os))) ?_
  intro W base args ds gs before hval hW _ _ hsz hL _ _
  exact contract H enc W base args ds gs before hval hW hsz hL
theorem said : Rows.OctetTextsSaid :=
  OpenClaim.holds_of_cond 13 Tryd.f13 rfl rfl rfl rfl rfl rfl rfl ⟨rfl, rfl, rfl, rfl, rfl⟩ rfl rfl rfl rfl rfl (by kernel_rfl) Tryd.func13 (by kernel_rfl)
    (of_decide_eq_true (by kernel_rfl)) (by unfold Func.isWrapper; first | (rw [if_pos (by decide +kernel)]; kernel_rfl) | (rw [if_neg (by decide +kernel)]; exact ⟨rfl, rfl⟩))
    (fun os started H enc _ F => by rw [OpenClaim.pre_eq_preRow]; exact lifted os started H enc F)
theorem plain (f : FuncId) (fn : Func) (hf : Tryd.pinned.checked.prog.funcNamed "sealskin/sealskinlaw02.OctetTexts" = some f) (hfn : Tryd.pinned.checked.prog.funcs[f]? = some fn) :
    false = Tryd.pinned.checked.prog.looks [] ∧ ∀ (j : Nat) t, fn.params[j]? = some t → Tryd.pinned.checked.prog.wantsStandIn t = false := by
  obtain rfl : f = 13 := Option.some.inj ((show Tryd.prog.funcNamed "sealskin/sealskinlaw02.OctetTexts" = some 13 by kernel_rfl).symm.trans hf) |>.symm
  obtain rfl : fn = Tryd.f13 := (Option.some.inj (Tryd.func13.symm.trans hfn)).symm
  refine ⟨by kernel_rfl, fun j t ht => ?_⟩
  rw [Tryd.params13] at ht
  have key : ∀ (l : List Nat), (∀ x ∈ l, Tryd.prog.wantsStandIn x = false) → ∀ (j t : Nat), l.toArray[j]? = some t → Tryd.prog.wantsStandIn t = false := by
    intro l h j t ht; exact h t (List.mem_of_getElem? (by simpa using ht))
  exact key [22, 3] (by intro x hx; simp only [List.mem_cons, List.not_mem_nil, or_false] at hx; rcases hx with rfl | rfl <;> kernel_rfl) j t ht
theorem card : Rows.OctetTextsCardSaid :=
  Claim7.holds_tied_plain_at .later [] _ _ _ _ said (fun _ h => by cases h) (by kernel_rfl) (fun _ h => by cases h) octetTexts_row_tie rfl ⟨rfl, rfl⟩ (by kernel_rfl) rfl plain (by kernel_rfl)
end Go.Proofs.YtdnpdljnjoegiaaDoor.octetTexts
namespace Go.Proofs.YtdnpdljnjoegiaaDoor
theorem octetTexts_holds : Rows.OctetTextsCardSaid := octetTexts.card
#print axioms octetTexts_holds
end Go.Proofs.YtdnpdljnjoegiaaDoor
