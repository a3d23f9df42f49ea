/- The law FrameBack answers true at every input: what is put is got as it was, what is got is put so again. -/
import Derived.Test.YtbjmngacjdcddaaDoorZB1
import Derived.Test.YtbjmngacjdcddaaDoorZB6
import Derived.Test.YtbjmngacjdcddaaDoorZB21
import Derived.Test.YtbjmngacjdcddaaDoorRows
import Derived.Test.YtbjmngacjdcddaaDoorCards
import Derived.Test.YtbjmngacjdcddaaDoorTie
import Derived.WalkKit
import Derived.ProofKit
import Derived.OpenShut
import Derived.ShutString
import Derived.ChangeOld
import Derived.Below
import Derived.Carry
import Derived.Deep.DeepHandedRow
set_option linter.unusedVariables false
set_option linter.unusedSimpArgs false
namespace Go.Proofs.YtbjmngacjdcddaaDoor.frameBack
open Go Go.Sx Go.Lx Go.ChangeShapes Go.WideShapes Go.ChangeAt Go.RowKit
open Go.ChangeMaps (open_string shut_string)
instance : Wf api_Part := ⟨fun x => Wf.wf x.Kind_ ∧ Wf.wf x.N_ ∧ Wf.wf x.Text_⟩
set_option maxRecDepth 100000 in
theorem opn_api_Part : Opn Tryd.prog 54 api_Part := fun {W H enc fuel cs x} h => by
 obtain ⟨hl, fuel2, hf⟩ := trod_fields Tryd.underlying54 (by kernel_rfl : Tryd.prog.cellsOf 54 = 3) h
 obtain ⟨y0, g0⟩ := hf 0 _ rfl
 have g0' : DataW.trod enc Tryd.prog W 0 (fun _ => true) true fuel2 3 ((cs.drop 0).take 1) = some y0 := g0
 obtain ⟨v0, r0, w0⟩ := (opn_i64 Tryd.underlying3) g0'
 obtain ⟨y1, g1⟩ := hf 1 _ rfl
 have g1' : DataW.trod enc Tryd.prog W 0 (fun _ => true) true fuel2 3 ((cs.drop 1).take 1) = some y1 := g1
 obtain ⟨v1, r1, w1⟩ := (opn_i64 Tryd.underlying3) g1'
 obtain ⟨y2, g2⟩ := hf 2 _ rfl
 have g2' : DataW.trod enc Tryd.prog W 0 (fun _ => true) true fuel2 9 ((cs.drop 2).take 1) = some y2 := g2
 obtain ⟨v2, r2, w2⟩ := (opn_str Tryd.underlying9) g2'
 have e3 : cs.drop 3 = [] := List.drop_eq_nil_of_le (by omega)
 have e : cs = (cs.drop 0).take 1 ++ ((cs.drop 1).take 1 ++ ((cs.drop 2).take 1 ++ ([]))) := by
  rw [← e3, piece 2 1 3 rfl, piece 1 1 2 rfl, piece 0 1 1 rfl, List.drop_zero]
 have q0 := r0
 have q1 := r1
 have q2 := r2
 exact ⟨⟨v0, v1, v2⟩, (e.trans (by rw [show (cs.drop 0).take 1 = _ from q0, show (cs.drop 1).take 1 = _ from q1, show (cs.drop 2).take 1 = _ from q2]; rfl)), w0, w1, w2⟩
instance : Wf api_Msg := ⟨fun x => Wf.wf x.Kind_ ∧ Wf.wf x.Who_ ∧ Wf.wf x.Seq_ ∧ Wf.wf x.Rev_ ∧ Wf.wf x.At_ ∧ Wf.wf x.N_ ∧ Wf.wf x.Target_ ∧ Wf.wf x.Err_ ∧ Wf.wf x.Edit_⟩
set_option maxRecDepth 100000 in
theorem opn_api_Msg : Opn Tryd.prog 25 api_Msg := fun {W H enc fuel cs x} h => by
 obtain ⟨hl, fuel2, hf⟩ := trod_fields Tryd.underlying25 (by kernel_rfl : Tryd.prog.cellsOf 25 = 9) h
 obtain ⟨y0, g0⟩ := hf 0 _ rfl
 have g0' : DataW.trod enc Tryd.prog W 0 (fun _ => true) true fuel2 3 ((cs.drop 0).take 1) = some y0 := g0
 obtain ⟨v0, r0, w0⟩ := (opn_i64 Tryd.underlying3) g0'
 obtain ⟨y1, g1⟩ := hf 1 _ rfl
 have g1' : DataW.trod enc Tryd.prog W 0 (fun _ => true) true fuel2 3 ((cs.drop 1).take 1) = some y1 := g1
 obtain ⟨v1, r1, w1⟩ := (opn_i64 Tryd.underlying3) g1'
 obtain ⟨y2, g2⟩ := hf 2 _ rfl
 have g2' : DataW.trod enc Tryd.prog W 0 (fun _ => true) true fuel2 3 ((cs.drop 2).take 1) = some y2 := g2
 obtain ⟨v2, r2, w2⟩ := (opn_i64 Tryd.underlying3) g2'
 obtain ⟨y3, g3⟩ := hf 3 _ rfl
 have g3' : DataW.trod enc Tryd.prog W 0 (fun _ => true) true fuel2 3 ((cs.drop 3).take 1) = some y3 := g3
 obtain ⟨v3, r3, w3⟩ := (opn_i64 Tryd.underlying3) g3'
 obtain ⟨y4, g4⟩ := hf 4 _ rfl
 have g4' : DataW.trod enc Tryd.prog W 0 (fun _ => true) true fuel2 3 ((cs.drop 4).take 1) = some y4 := g4
 obtain ⟨v4, r4, w4⟩ := (opn_i64 Tryd.underlying3) g4'
 obtain ⟨y5, g5⟩ := hf 5 _ rfl
 have g5' : DataW.trod enc Tryd.prog W 0 (fun _ => true) true fuel2 3 ((cs.drop 5).take 1) = some y5 := g5
 obtain ⟨v5, r5, w5⟩ := (opn_i64 Tryd.underlying3) g5'
 obtain ⟨y6, g6⟩ := hf 6 _ rfl
 have g6' : DataW.trod enc Tryd.prog W 0 (fun _ => true) true fuel2 3 ((cs.drop 6).take 1) = some y6 := g6
 obtain ⟨v6, r6, w6⟩ := (opn_i64 Tryd.underlying3) g6'
 obtain ⟨y7, g7⟩ := hf 7 _ rfl
 have g7' : DataW.trod enc Tryd.prog W 0 (fun _ => true) true fuel2 22 ((cs.drop 7).take 1) = some y7 := g7
 obtain ⟨v7, r7, w7⟩ := (opn_i64 Tryd.underlying22) g7'
 obtain ⟨y8, g8⟩ := hf 8 _ rfl
 have g8' : DataW.trod enc Tryd.prog W 0 (fun _ => true) true fuel2 23 ((cs.drop 8).take 1) = some y8 := g8
 obtain ⟨v8, r8, w8⟩ := (opn_sl Tryd.underlying23 (opn_api_Part) (by kernel_rfl)) g8'
 have e3 : cs.drop 9 = [] := List.drop_eq_nil_of_le (by omega)
 have e : cs = (cs.drop 0).take 1 ++ ((cs.drop 1).take 1 ++ ((cs.drop 2).take 1 ++ ((cs.drop 3).take 1 ++ ((cs.drop 4).take 1 ++ ((cs.drop 5).take 1 ++ ((cs.drop 6).take 1 ++ ((cs.drop 7).take 1 ++ ((cs.drop 8).take 1 ++ ([]))))))))) := by
  rw [← e3, piece 8 1 9 rfl, piece 7 1 8 rfl, piece 6 1 7 rfl, piece 5 1 6 rfl, piece 4 1 5 rfl, piece 3 1 4 rfl, piece 2 1 3 rfl, piece 1 1 2 rfl, piece 0 1 1 rfl, List.drop_zero]
 have q0 := r0
 have q1 := r1
 have q2 := r2
 have q3 := r3
 have q4 := r4
 have q5 := r5
 have q6 := r6
 have q7 := r7
 obtain ⟨A8_0, c8_0, q8, hc8_0, hs8_0⟩ := r8
 exact ⟨⟨v0, v1, v2, v3, v4, v5, v6, v7, v8⟩, ⟨A8_0, c8_0, (e.trans (by rw [show (cs.drop 0).take 1 = _ from q0, show (cs.drop 1).take 1 = _ from q1, show (cs.drop 2).take 1 = _ from q2, show (cs.drop 3).take 1 = _ from q3, show (cs.drop 4).take 1 = _ from q4, show (cs.drop 5).take 1 = _ from q5, show (cs.drop 6).take 1 = _ from q6, show (cs.drop 7).take 1 = _ from q7, show (cs.drop 8).take 1 = _ from q8]; rfl)), ⟨hc8_0, hs8_0⟩⟩, w0, w1, w2, w3, w4, w5, w6, w7, w8⟩

theorem own : ownKnob Tryd.prog.godebug = none := by kernel_rfl
theorem laidOut : laidOutB Tryd.prog = true := by kernel_rfl
theorem extra : U8Extra Tryd.prog laysValid_ren := ⟨by kernel_rfl, by kernel_rfl, by kernel_rfl, by kernel_rfl, by kernel_rfl, by kernel_rfl, by kernel_rfl⟩
theorem gNamed : Tryd.prog.globalNamed "sealskin/hash.order" = some 2 := by kernel_rfl
def tabI : List (List Int) := Bl.orders.map fun o => o.map fun (x : Nat) => (x : Int)
theorem laidGL (W : World) (hL : laidMetH Tryd.prog Rows.frameBackRow.laid W) : GL (GW W) := by
 have h1 : laidMet Tryd.prog Rows.frameBackRow.laid W := hL
 have h1' : laidMet Tryd.prog [("unicode/utf8.acceptRanges", Rows.laid_unicode_utf8_acceptRanges), ("sealskin/hash.order", rowsData .u8 tabI), ("unicode/utf8.first", Rows.laid_unicode_utf8_first)] W := hL
 have h2 := rows_of_second (n := 10) (m := 16) gNamed (by kernel_rfl) Tryd.underlying140 Tryd.underlying139 Tryd.underlying5 (by kernel_rfl) (by kernel_rfl) (by kernel_rfl) (by decide) rfl h1'
 have e : (tabI.map fun zs => zs.map fun z => Value.int .u8 z).flatten = ordC := by kernel_rfl
 rw [e] at h2
 obtain ⟨ps, hv, _⟩ := h1
 have e1 : Rows.laid_unicode_utf8_first = Go.Lib.firstData := by kernel_rfl
 have e2 : Rows.laid_unicode_utf8_acceptRanges = Go.Lib.acceptData := by kernel_rfl
 have r1 := Go.Lib.LaidVars_reads hv "unicode/utf8.first" Rows.laid_unicode_utf8_first (List.Mem.tail _ (List.Mem.tail _ (List.Mem.head _)))
 have r2 := Go.Lib.LaidVars_reads hv "unicode/utf8.acceptRanges" Rows.laid_unicode_utf8_acceptRanges (List.Mem.head _)
 rw [e1] at r1
 rw [e2] at r2
 have hT : Go.Lib.Utf8Tabs 0 1 W := utf8Tabs_of_readsT (U8Types.of196 laysValid) extra r1 r2
 exact fun w hs => ⟨⟨fun c hc => hs _ _ (hT.1 c hc), fun i hi => ⟨hs _ _ (hT.2 i hi).1, hs _ _ (hT.2 i hi).2⟩⟩, fun j v hv => ⟨(h2 j v hv).1, hs _ _ (h2 j v hv).2⟩⟩
set_option maxRecDepth 100000 in
theorem contract (H : Type) (enc : TypeId × Value → H) (W : World) (base : Nat) (args : Array Value) (ds gs : List (DataW H)) (before : List MemPlace)
  (hval0 : ∀ (j : Nat) t v, Tryd.f10.params[j]? = some t → args[j]? = some v → Value.okWide Tryd.prog W .any base t v)
  (hW : DataW.Whole enc Tryd.prog Tryd.f10.params.toList Rows.frameBackSpec.vars false W args.toList ds gs before)
  (hsz0 : (DataW.weightsEach Tryd.prog (Tryd.f10.params.toList ++ Rows.frameBackSpec.plain.varTypes Tryd.prog) (ds ++ gs)).all (· ≤ reachBytes) = true) (hL : laidMetH Tryd.prog Rows.frameBackRow.laid W) :
  Calls Tryd.prog 10 args W fun e W2 => ∃ v, e = .returned v ∧ Rows.frameBackSpec.post enc Tryd.prog Tryd.f10 false true false false W args v W2 := by
 have hval := hval0
 have hW2 := hW
 obtain ⟨p, q, hA0, hV, rfl, hfz, hnd⟩ := hW
 have hA : DataW.TrodAll enc Tryd.prog W 0 (fun _ => true) true Tryd.f10.params.toList args.toList ds p := hA0
 rw [Tryd.params10] at hA hval
 obtain ⟨v0, vs0, d0, ds0, p0, q0, hargs, rfl, rfl, h0, r0⟩ := trodAll_cons hA
 obtain ⟨v1, vs1, d1, ds1, p1, q1, rfl, rfl, rfl, h1, r1⟩ := trodAll_cons r0
 obtain ⟨rfl, rfl, rfl⟩ := trodAll_nil r1
 obtain rfl : args = #[v0, v1] := by cases args; simp_all
 obtain ⟨rfl, rfl⟩ := trodVars_none hV
 have k0 := h0
 have lt0 : ∀ x ∈ p0, x.block < W.heap.size := by obtain ⟨m, hm⟩ := k0; exact DataW.trod_lt m _ _ _ hm
 obtain ⟨cs0, rfl, _⟩ := okWide_struct Tryd.underlying25 (hval 0 25 v0 rfl rfl)
 obtain ⟨x0, hr0, w0⟩ := (Opn.at_ (show Opn Tryd.prog 25 (api_Msg) from (opn_api_Msg)) h0)
 have hr0' : Rp.cs (GW W) x0 cs0.toList := by simpa [Value.cells] using hr0
 have k1 := h1
 have lt1 : ∀ x ∈ p1, x.block < W.heap.size := by obtain ⟨m, hm⟩ := k1; exact DataW.trod_lt m _ _ _ hm
 obtain ⟨a1, n1, c1, rfl⟩ := okWide_slice Tryd.underlying30 (hval 1 30 v1 rfl rfl)
 obtain ⟨x1, ⟨A1, c1', e1, hc1, hs1⟩, w1⟩ := (Opn.at_ (show Opn Tryd.prog 30 (List UInt8) from (opn_sl Tryd.underlying30 (opn_u8 Tryd.underlying5) (by kernel_rfl))) h1)
 simp only [Value.cells, List.cons.injEq, Value.slice.injEq, and_true] at e1
 obtain ⟨rfl, rfl, rfl⟩ := e1
 refine (sealskinlaw13_FrameBack_ok (x0 := x0) (x1 := x1) (GW.st W) (laidGL W hL) hr0' hc1 hs1 (FrameBack_all x0 x1 w0 w1)).mono fun e W2 h_ => ?_
 obtain ⟨r_, L_, H_, he, hI_, hr_⟩ := h_
 have bel := hI_.fr.below
 replace hr_ : r_ = true := hr_
 subst hr_
 subst he
 exact ⟨_, rfl, _, _, _, [], _, [], hW2, trodAll_mk1 (shut_bool Tryd.underlying4 _), (trodAll_cons_mk (Below.trod laidOut (by kernel_rfl) (of_decide_eq_true (by kernel_rfl)) k0 bel lt0) (trodAll_cons_mk (Below.trod laidOut (by kernel_rfl) (of_decide_eq_true (by kernel_rfl)) k1 bel lt1) trodAll_mk0)), rfl, bel.frame _, fun h => by cases h⟩
noncomputable def laidWorld (os : Os) : World :=
 { World.holding Tryd.prog os ⟨#[], #[], []⟩ with heap := ((((World.holding Tryd.prog os ⟨#[], #[], []⟩).heap).modify 1 fun | .cells _ t frozen => .cells (((List.range 16).map fun i => [Value.int .u8 (Go.Lib.accLo i : Int), Value.int .u8 (Go.Lib.accHi i : Int)]).flatten).toArray t frozen | o => o).modify 2 fun | .cells _ t frozen => .cells (ordC).toArray t frozen | o => o).modify 0 fun | .cells _ t frozen => .cells ((List.range 256).map fun c => Value.int .u8 (Go.Lib.firstT c : Int)).toArray t frozen | o => o }
theorem laid_met (os : Os) : laidMet Tryd.prog Rows.frameBackRow.laid ((laidWorld os).forCall (fun _ _ => 0) ⟨#[], #[.agg #[.int .i64 0, .int .i64 0, .int .i64 0, .int .i64 0, .int .i64 0, .int .i64 0, .int .i64 0, .int .i64 0, .slice none 0 0], .slice none 0 0], []⟩).memory :=
 laidMet_of_run' 8 (by kernel_rfl) (by kernel_rfl)
theorem reads (os : Os) {H : Type} (enc : TypeId × Value → H) : ∃ places, DataW.whole enc Tryd.prog ((laidWorld os).forCall (fun _ _ => 0) ⟨#[], #[.agg #[.int .i64 0, .int .i64 0, .int .i64 0, .int .i64 0, .int .i64 0, .int .i64 0, .int .i64 0, .int .i64 0, .slice none 0 0], .slice none 0 0], []⟩).memory Tryd.f10.params.toList Rows.frameBackSpec.vars false (#[.agg #[.int .i64 0, .int .i64 0, .int .i64 0, .int .i64 0, .int .i64 0, .int .i64 0, .int .i64 0, .int .i64 0, .slice none 0 0], .slice none 0 0] : Array Value).toList 8 = some ([.agg [.lit (.int .i64 0), .lit (.int .i64 0), .lit (.int .i64 0), .lit (.int .i64 0), .lit (.int .i64 0), .lit (.int .i64 0), .lit (.int .i64 0), .lit (.int .i64 0), .nil], .nil], [], places) :=
 ⟨[], by kernel_rfl⟩
set_option maxRecDepth 100000 in
theorem lifted (os : Os) (started : os.Started) (H : Type) (enc : TypeId × Value → H) (F : Stop.Interp) :
  ReturnsInHanded {} Tryd.checked os 10 .any ((OpenSpec.ofChange Rows.frameBackSpec).preRow enc Tryd.prog Tryd.f10 Rows.frameBackRow.domain false Rows.frameBackRow.laid) (((OpenSpec.ofChange Rows.frameBackSpec).at F).post enc Tryd.prog Tryd.f10 false true false false) := by
 obtain ⟨places, hx⟩ := reads os enc
 refine returnsInHanded_of_row (C := Tryd.checked) (s := OpenSpec.ofChange Rows.frameBackSpec) own started (by kernel_rfl) Tryd.func10
  (witness_row_at (enc := enc) (C := Tryd.checked) false (laidWorld os) #[.agg #[.int .i64 0, .int .i64 0, .int .i64 0, .int .i64 0, .int .i64 0, .int .i64 0, .int .i64 0, .int .i64 0, .slice none 0 0], .slice none 0 0] rfl (by kernel_rfl) (by kernel_rfl) (by kernel_rfl)
   (OpenSpec.preRow_of_cond 8 hx (by kernel_rfl) (fun k hk => by cases hk) (by kernel_rfl) (laid_met os))) ?_
 intro W base args ds gs before hval hW _ _ hsz hL _ _
 exact contract H enc W base args ds gs before hval hW hsz hL
theorem said : Rows.FrameBackSaid :=
 OpenClaim.holds_of_cond 10 Tryd.f10 rfl rfl rfl rfl rfl rfl rfl ⟨rfl, rfl, rfl, rfl, rfl⟩ rfl rfl rfl rfl rfl (by kernel_rfl) Tryd.func10 (by kernel_rfl)
  (of_decide_eq_true (by kernel_rfl)) (by unfold Func.isWrapper; first | (rw [if_pos (by decide +kernel)]; kernel_rfl) | (rw [if_neg (by decide +kernel)]; exact ⟨rfl, rfl⟩))
  (fun os started H enc _ F => by rw [OpenClaim.pre_eq_preRow]; exact lifted os started H enc F)
theorem plain (f : FuncId) (fn : Func) (hf : Tryd.pinned.checked.prog.funcNamed "sealskin/sealskinlaw13.FrameBack" = some f) (hfn : Tryd.pinned.checked.prog.funcs[f]? = some fn) :
  false = Tryd.pinned.checked.prog.looks [] ∧ ∀ (j : Nat) t, fn.params[j]? = some t → Tryd.pinned.checked.prog.wantsStandIn t = false := by
 obtain rfl : f = 10 := Option.some.inj ((show Tryd.prog.funcNamed "sealskin/sealskinlaw13.FrameBack" = some 10 by kernel_rfl).symm.trans hf) |>.symm
 obtain rfl : fn = Tryd.f10 := (Option.some.inj (Tryd.func10.symm.trans hfn)).symm
 refine ⟨by kernel_rfl, fun j t ht => ?_⟩
 rw [Tryd.params10] at ht
 have key : ∀ (l : List Nat), (∀ x ∈ l, Tryd.prog.wantsStandIn x = false) → ∀ (j t : Nat), l.toArray[j]? = some t → Tryd.prog.wantsStandIn t = false := by
  intro l h j t ht; exact h t (List.mem_of_getElem? (by simpa using ht))
 exact key [25, 30] (by intro x hx; simp only [List.mem_cons, List.not_mem_nil, or_false] at hx; rcases hx with rfl | rfl <;> kernel_rfl) j t ht
theorem card : Rows.FrameBackCardSaid :=
 Claim7.holds_tied_plain_at .later [] _ _ _ _ said (fun _ h => by cases h) (by kernel_rfl) (fun _ h => by cases h) frameBack_row_tie rfl ⟨rfl, rfl⟩ (by kernel_rfl) rfl plain (by kernel_rfl)
end Go.Proofs.YtbjmngacjdcddaaDoor.frameBack
namespace Go.Proofs.YtbjmngacjdcddaaDoor
theorem frameBack_holds : Rows.FrameBackCardSaid := frameBack.card
#print axioms frameBack_holds
end Go.Proofs.YtbjmngacjdcddaaDoor

