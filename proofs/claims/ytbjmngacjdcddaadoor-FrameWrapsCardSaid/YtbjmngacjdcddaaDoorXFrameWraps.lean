/- The law FrameWraps answers true at every input: a frame as bytes by any key is what the document says. -/
import Derived.Test.YtbjmngacjdcddaaDoorZW1
import Derived.Test.YtbjmngacjdcddaaDoorZW6
import Derived.Test.YtbjmngacjdcddaaDoorZW21
import Derived.Test.YtbjmngacjdcddaaDoorRows
import Derived.Test.YtbjmngacjdcddaaDoorCards
import Derived.Test.YtbjmngacjdcddaaDoorTie
import Derived.WalkKit
import Derived.ProofKit
import Derived.OpenShut
import Derived.ShutString
import Derived.ChangeOld
import Derived.Below
import Derived.Carry
import Derived.Deep.DeepHandedRow
set_option linter.unusedVariables false
set_option linter.unusedSimpArgs false
namespace Go.Proofs.YtbjmngacjdcddaaDoor.frameWraps
open Go Go.Sx Go.Lx Go.ChangeShapes Go.WideShapes Go.ChangeAt Go.RowKit
open Go.ChangeMaps (open_string shut_string)
instance : Wf api_Frame := ⟨fun x => Wf.wf x.Conn_ ∧ Wf.wf x.Seq_ ∧ Wf.wf x.Ack_ ∧ Wf.wf x.Body_⟩
set_option maxRecDepth 100000 in
theorem opn_api_Frame : Opn Tryd.prog 32 api_Frame := fun {W H enc fuel cs x} h => by
 obtain ⟨hl, fuel2, hf⟩ := trod_fields Tryd.underlying32 (by kernel_rfl : Tryd.prog.cellsOf 32 = 4) h
 obtain ⟨y0, g0⟩ := hf 0 _ rfl
 have g0' : DataW.trod enc Tryd.prog W 0 (fun _ => true) true fuel2 3 ((cs.drop 0).take 1) = some y0 := g0
 obtain ⟨v0, r0, w0⟩ := (opn_i64 Tryd.underlying3) g0'
 obtain ⟨y1, g1⟩ := hf 1 _ rfl
 have g1' : DataW.trod enc Tryd.prog W 0 (fun _ => true) true fuel2 3 ((cs.drop 1).take 1) = some y1 := g1
 obtain ⟨v1, r1, w1⟩ := (opn_i64 Tryd.underlying3) g1'
 obtain ⟨y2, g2⟩ := hf 2 _ rfl
 have g2' : DataW.trod enc Tryd.prog W 0 (fun _ => true) true fuel2 3 ((cs.drop 2).take 1) = some y2 := g2
 obtain ⟨v2, r2, w2⟩ := (opn_i64 Tryd.underlying3) g2'
 obtain ⟨y3, g3⟩ := hf 3 _ rfl
 have g3' : DataW.trod enc Tryd.prog W 0 (fun _ => true) true fuel2 30 ((cs.drop 3).take 1) = some y3 := g3
 obtain ⟨v3, r3, w3⟩ := (opn_sl Tryd.underlying30 (opn_u8 Tryd.underlying5) (by kernel_rfl)) g3'
 have e3 : cs.drop 4 = [] := List.drop_eq_nil_of_le (by omega)
 have e : cs = (cs.drop 0).take 1 ++ ((cs.drop 1).take 1 ++ ((cs.drop 2).take 1 ++ ((cs.drop 3).take 1 ++ ([])))) := by
  rw [← e3, piece 3 1 4 rfl, piece 2 1 3 rfl, piece 1 1 2 rfl, piece 0 1 1 rfl, List.drop_zero]
 have q0 := r0
 have q1 := r1
 have q2 := r2
 obtain ⟨A3_0, c3_0, q3, hc3_0, hs3_0⟩ := r3
 exact ⟨⟨v0, v1, v2, v3⟩, ⟨A3_0, c3_0, (e.trans (by rw [show (cs.drop 0).take 1 = _ from q0, show (cs.drop 1).take 1 = _ from q1, show (cs.drop 2).take 1 = _ from q2, show (cs.drop 3).take 1 = _ from q3]; rfl)), ⟨hc3_0, hs3_0⟩⟩, w0, w1, w2, w3⟩

theorem own : ownKnob Tryd.prog.godebug = none := by kernel_rfl
theorem laidOut : laidOutB Tryd.prog = true := by kernel_rfl
theorem extra : U8Extra Tryd.prog laysValid_ren := ⟨by kernel_rfl, by kernel_rfl, by kernel_rfl, by kernel_rfl, by kernel_rfl, by kernel_rfl, by kernel_rfl⟩
theorem gNamed : Tryd.prog.globalNamed "sealskin/hash.order" = some 2 := by kernel_rfl
def tabI : List (List Int) := Bl.orders.map fun o => o.map fun (x : Nat) => (x : Int)
theorem laidGL (W : World) (hL : laidMetH Tryd.prog Rows.frameWrapsRow.laid W) : GL (GW W) := by
 have h1 : laidMet Tryd.prog Rows.frameWrapsRow.laid W := hL
 have h1' : laidMet Tryd.prog [("unicode/utf8.acceptRanges", Rows.laid_unicode_utf8_acceptRanges), ("sealskin/hash.order", rowsData .u8 tabI), ("unicode/utf8.first", Rows.laid_unicode_utf8_first)] W := hL
 have h2 := rows_of_second (n := 10) (m := 16) gNamed (by kernel_rfl) Tryd.underlying140 Tryd.underlying139 Tryd.underlying5 (by kernel_rfl) (by kernel_rfl) (by kernel_rfl) (by decide) rfl h1'
 have e : (tabI.map fun zs => zs.map fun z => Value.int .u8 z).flatten = ordC := by kernel_rfl
 rw [e] at h2
 obtain ⟨ps, hv, _⟩ := h1
 have e1 : Rows.laid_unicode_utf8_first = Go.Lib.firstData := by kernel_rfl
 have e2 : Rows.laid_unicode_utf8_acceptRanges = Go.Lib.acceptData := by kernel_rfl
 have r1 := Go.Lib.LaidVars_reads hv "unicode/utf8.first" Rows.laid_unicode_utf8_first (List.Mem.tail _ (List.Mem.tail _ (List.Mem.head _)))
 have r2 := Go.Lib.LaidVars_reads hv "unicode/utf8.acceptRanges" Rows.laid_unicode_utf8_acceptRanges (List.Mem.head _)
 rw [e1] at r1
 rw [e2] at r2
 have hT : Go.Lib.Utf8Tabs 0 1 W := utf8Tabs_of_readsT (U8Types.of196 laysValid) extra r1 r2
 exact fun w hs => ⟨⟨fun c hc => hs _ _ (hT.1 c hc), fun i hi => ⟨hs _ _ (hT.2 i hi).1, hs _ _ (hT.2 i hi).2⟩⟩, fun j v hv => ⟨(h2 j v hv).1, hs _ _ (h2 j v hv).2⟩⟩
set_option maxRecDepth 100000 in
theorem contract (H : Type) (enc : TypeId × Value → H) (W : World) (base : Nat) (args : Array Value) (ds gs : List (DataW H)) (before : List MemPlace)
  (hval0 : ∀ (j : Nat) t v, Tryd.f8.params[j]? = some t → args[j]? = some v → Value.okWide Tryd.prog W .any base t v)
  (hW : DataW.Whole enc Tryd.prog Tryd.f8.params.toList Rows.frameWrapsSpec.vars false W args.toList ds gs before)
  (hsz0 : (DataW.weightsEach Tryd.prog (Tryd.f8.params.toList ++ Rows.frameWrapsSpec.plain.varTypes Tryd.prog) (ds ++ gs)).all (· ≤ reachBytes) = true) (hL : laidMetH Tryd.prog Rows.frameWrapsRow.laid W) :
  Calls Tryd.prog 8 args W fun e W2 => ∃ v, e = .returned v ∧ Rows.frameWrapsSpec.post enc Tryd.prog Tryd.f8 false true false false W args v W2 := by
 have hval := hval0
 have hW2 := hW
 obtain ⟨p, q, hA0, hV, rfl, hfz, hnd⟩ := hW
 have hA : DataW.TrodAll enc Tryd.prog W 0 (fun _ => true) true Tryd.f8.params.toList args.toList ds p := hA0
 rw [Tryd.params8] at hA hval
 obtain ⟨v0, vs0, d0, ds0, p0, q0, hargs, rfl, rfl, h0, r0⟩ := trodAll_cons hA
 obtain ⟨v1, vs1, d1, ds1, p1, q1, rfl, rfl, rfl, h1, r1⟩ := trodAll_cons r0
 obtain ⟨v2, vs2, d2, ds2, p2, q2, rfl, rfl, rfl, h2, r2⟩ := trodAll_cons r1
 obtain ⟨rfl, rfl, rfl⟩ := trodAll_nil r2
 obtain rfl : args = #[v0, v1, v2] := by cases args; simp_all
 obtain ⟨rfl, rfl⟩ := trodVars_none hV
 have k0 := h0
 have lt0 : ∀ x ∈ p0, x.block < W.heap.size := by obtain ⟨m, hm⟩ := k0; exact DataW.trod_lt m _ _ _ hm
 obtain ⟨a0, n0, c0, rfl⟩ := okWide_slice Tryd.underlying30 (hval 0 30 v0 rfl rfl)
 obtain ⟨x0, ⟨A0, c0', e0, hc0, hs0⟩, w0⟩ := (Opn.at_ (show Opn Tryd.prog 30 (List UInt8) from (opn_sl Tryd.underlying30 (opn_u8 Tryd.underlying5) (by kernel_rfl))) h0)
 simp only [Value.cells, List.cons.injEq, Value.slice.injEq, and_true] at e0
 obtain ⟨rfl, rfl, rfl⟩ := e0
 have k1 := h1
 have lt1 : ∀ x ∈ p1, x.block < W.heap.size := by obtain ⟨m, hm⟩ := k1; exact DataW.trod_lt m _ _ _ hm
 obtain ⟨a1, rfl⟩ := okWide_bool Tryd.underlying4 (hval 1 4 v1 rfl rfl)
 obtain ⟨x1, e1, w1⟩ := (Opn.at_ (show Opn Tryd.prog 4 (Bool) from (opn_bool Tryd.underlying4)) h1)
 have e1' : (.bool a1 : Value) = .bool x1 := by have h_ : [(.bool a1 : Value)] = [.bool x1] := e1; exact (List.cons.inj h_).1
 have e12 := Value.bool.inj e1'
 clear e1 e1'
 subst a1
 have k2 := h2
 have lt2 : ∀ x ∈ p2, x.block < W.heap.size := by obtain ⟨m, hm⟩ := k2; exact DataW.trod_lt m _ _ _ hm
 obtain ⟨cs2, rfl, _⟩ := okWide_struct Tryd.underlying32 (hval 2 32 v2 rfl rfl)
 obtain ⟨x2, hr2, w2⟩ := (Opn.at_ (show Opn Tryd.prog 32 (api_Frame) from (opn_api_Frame)) h2)
 have hr2' : Rp.cs (GW W) x2 cs2.toList := by simpa [Value.cells] using hr2
 refine (sealskinlaw13_FrameWraps_ok (x0 := x0) (x1 := x1) (x2 := x2) (GW.st W) (laidGL W hL) hc0 hs0 hr2' (FrameWraps_all x0 x1 x2 w0 w1 w2)).mono fun e W2 h_ => ?_
 obtain ⟨r_, L_, H_, he, hI_, hr_⟩ := h_
 have bel := hI_.fr.below
 replace hr_ : r_ = true := hr_
 subst hr_
 subst he
 exact ⟨_, rfl, _, _, _, [], _, [], hW2, trodAll_mk1 (shut_bool Tryd.underlying4 _), (trodAll_cons_mk (Below.trod laidOut (by kernel_rfl) (of_decide_eq_true (by kernel_rfl)) k0 bel lt0) (trodAll_cons_mk (Below.trod laidOut (by kernel_rfl) (of_decide_eq_true (by kernel_rfl)) k1 bel lt1) (trodAll_cons_mk (Below.trod laidOut (by kernel_rfl) (of_decide_eq_true (by kernel_rfl)) k2 bel lt2) trodAll_mk0))), rfl, bel.frame _, fun h => by cases h⟩
noncomputable def laidWorld (os : Os) : World :=
 { World.holding Tryd.prog os ⟨#[], #[], []⟩ with heap := ((((World.holding Tryd.prog os ⟨#[], #[], []⟩).heap).modify 1 fun | .cells _ t frozen => .cells (((List.range 16).map fun i => [Value.int .u8 (Go.Lib.accLo i : Int), Value.int .u8 (Go.Lib.accHi i : Int)]).flatten).toArray t frozen | o => o).modify 2 fun | .cells _ t frozen => .cells (ordC).toArray t frozen | o => o).modify 0 fun | .cells _ t frozen => .cells ((List.range 256).map fun c => Value.int .u8 (Go.Lib.firstT c : Int)).toArray t frozen | o => o }
theorem laid_met (os : Os) : laidMet Tryd.prog Rows.frameWrapsRow.laid ((laidWorld os).forCall (fun _ _ => 0) ⟨#[], #[.slice none 0 0, .bool false, .agg #[.int .i64 0, .int .i64 0, .int .i64 0, .slice none 0 0]], []⟩).memory :=
 laidMet_of_run' 8 (by kernel_rfl) (by kernel_rfl)
theorem reads (os : Os) {H : Type} (enc : TypeId × Value → H) : ∃ places, DataW.whole enc Tryd.prog ((laidWorld os).forCall (fun _ _ => 0) ⟨#[], #[.slice none 0 0, .bool false, .agg #[.int .i64 0, .int .i64 0, .int .i64 0, .slice none 0 0]], []⟩).memory Tryd.f8.params.toList Rows.frameWrapsSpec.vars false (#[.slice none 0 0, .bool false, .agg #[.int .i64 0, .int .i64 0, .int .i64 0, .slice none 0 0]] : Array Value).toList 8 = some ([.nil, .lit (.bool false), .agg [.lit (.int .i64 0), .lit (.int .i64 0), .lit (.int .i64 0), .nil]], [], places) :=
 ⟨[], by kernel_rfl⟩
set_option maxRecDepth 100000 in
theorem lifted (os : Os) (started : os.Started) (H : Type) (enc : TypeId × Value → H) (F : Stop.Interp) :
  ReturnsInHanded {} Tryd.checked os 8 .any ((OpenSpec.ofChange Rows.frameWrapsSpec).preRow enc Tryd.prog Tryd.f8 Rows.frameWrapsRow.domain false Rows.frameWrapsRow.laid) (((OpenSpec.ofChange Rows.frameWrapsSpec).at F).post enc Tryd.prog Tryd.f8 false true false false) := by
 obtain ⟨places, hx⟩ := reads os enc
 refine returnsInHanded_of_row (C := Tryd.checked) (s := OpenSpec.ofChange Rows.frameWrapsSpec) own started (by kernel_rfl) Tryd.func8
  (witness_row_at (enc := enc) (C := Tryd.checked) false (laidWorld os) #[.slice none 0 0, .bool false, .agg #[.int .i64 0, .int .i64 0, .int .i64 0, .slice none 0 0]] rfl (by kernel_rfl) (by kernel_rfl) (by kernel_rfl)
   (OpenSpec.preRow_of_cond 8 hx (by kernel_rfl) (fun k hk => by cases hk) (by kernel_rfl) (laid_met os))) ?_
 intro W base args ds gs before hval hW _ _ hsz hL _ _
 exact contract H enc W base args ds gs before hval hW hsz hL
theorem said : Rows.FrameWrapsSaid :=
 OpenClaim.holds_of_cond 8 Tryd.f8 rfl rfl rfl rfl rfl rfl rfl ⟨rfl, rfl, rfl, rfl, rfl⟩ rfl rfl rfl rfl rfl (by kernel_rfl) Tryd.func8 (by kernel_rfl)
  (of_decide_eq_true (by kernel_rfl)) (by unfold Func.isWrapper; first | (rw [if_pos (by decide +kernel)]; kernel_rfl) | (rw [if_neg (by decide +kernel)]; exact ⟨rfl, rfl⟩))
  (fun os started H enc _ F => by rw [OpenClaim.pre_eq_preRow]; exact lifted os started H enc F)
theorem plain (f : FuncId) (fn : Func) (hf : Tryd.pinned.checked.prog.funcNamed "sealskin/sealskinlaw13.FrameWraps" = some f) (hfn : Tryd.pinned.checked.prog.funcs[f]? = some fn) :
  false = Tryd.pinned.checked.prog.looks [] ∧ ∀ (j : Nat) t, fn.params[j]? = some t → Tryd.pinned.checked.prog.wantsStandIn t = false := by
 obtain rfl : f = 8 := Option.some.inj ((show Tryd.prog.funcNamed "sealskin/sealskinlaw13.FrameWraps" = some 8 by kernel_rfl).symm.trans hf) |>.symm
 obtain rfl : fn = Tryd.f8 := (Option.some.inj (Tryd.func8.symm.trans hfn)).symm
 refine ⟨by kernel_rfl, fun j t ht => ?_⟩
 rw [Tryd.params8] at ht
 have key : ∀ (l : List Nat), (∀ x ∈ l, Tryd.prog.wantsStandIn x = false) → ∀ (j t : Nat), l.toArray[j]? = some t → Tryd.prog.wantsStandIn t = false := by
  intro l h j t ht; exact h t (List.mem_of_getElem? (by simpa using ht))
 exact key [30, 4, 32] (by intro x hx; simp only [List.mem_cons, List.not_mem_nil, or_false] at hx; rcases hx with rfl | rfl | rfl <;> kernel_rfl) j t ht
theorem card : Rows.FrameWrapsCardSaid :=
 Claim7.holds_tied_plain_at .later [] _ _ _ _ said (fun _ h => by cases h) (by kernel_rfl) (fun _ h => by cases h) frameWraps_row_tie rfl ⟨rfl, rfl⟩ (by kernel_rfl) rfl plain (by kernel_rfl)
end Go.Proofs.YtbjmngacjdcddaaDoor.frameWraps
namespace Go.Proofs.YtbjmngacjdcddaaDoor
theorem frameWraps_holds : Rows.FrameWrapsCardSaid := frameWraps.card
#print axioms frameWraps_holds
end Go.Proofs.YtbjmngacjdcddaaDoor

