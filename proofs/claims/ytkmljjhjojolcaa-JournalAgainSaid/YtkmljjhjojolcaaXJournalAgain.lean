/- The law JournalAgain answers true at every input: what was opened is opened again as it is, and both go on alike. -/
import Derived.Test.YtkmljjhjojolcaaZg1
import Derived.Test.YtkmljjhjojolcaaZg6
import Derived.Test.YtkmljjhjojolcaaZg12
import Derived.Test.YtkmljjhjojolcaaRows
import Derived.WalkKit
import Derived.ProofKit
import Derived.OpenShut
import Derived.ShutString
import Derived.ChangeOld
import Derived.Below
import Derived.Carry
import Derived.Deep.DeepHandedRow
set_option linter.unusedVariables false
set_option linter.unusedSimpArgs false
namespace Go.Proofs.Ytkmljjhjojolcaa.journalAgain
open Go Go.Sx Go.Lx Go.ChangeShapes Go.WideShapes Go.ChangeAt Go.RowKit
open Go.ChangeMaps (open_string shut_string)
instance : Wf sealskinlaw06_Do := ⟨fun x => Wf.wf x.Op_ ∧ Wf.wf x.Label_ ∧ Wf.wf x.N_ ∧ Wf.wf x.B_⟩
set_option maxRecDepth 100000 in
theorem opn_sealskinlaw06_Do : Opn Try.prog 31 sealskinlaw06_Do := fun {W H enc fuel cs x} h => by
 obtain ⟨hl, fuel2, hf⟩ := trod_fields Try.underlying31 (by kernel_rfl : Try.prog.cellsOf 31 = 4) h
 obtain ⟨y0, g0⟩ := hf 0 _ rfl
 have g0' : DataW.trod enc Try.prog W 0 (fun _ => true) true fuel2 3 ((cs.drop 0).take 1) = some y0 := g0
 obtain ⟨v0, r0, w0⟩ := (opn_i64 Try.underlying3) g0'
 obtain ⟨y1, g1⟩ := hf 1 _ rfl
 have g1' : DataW.trod enc Try.prog W 0 (fun _ => true) true fuel2 3 ((cs.drop 1).take 1) = some y1 := g1
 obtain ⟨v1, r1, w1⟩ := (opn_i64 Try.underlying3) g1'
 obtain ⟨y2, g2⟩ := hf 2 _ rfl
 have g2' : DataW.trod enc Try.prog W 0 (fun _ => true) true fuel2 3 ((cs.drop 2).take 1) = some y2 := g2
 obtain ⟨v2, r2, w2⟩ := (opn_i64 Try.underlying3) g2'
 obtain ⟨y3, g3⟩ := hf 3 _ rfl
 have g3' : DataW.trod enc Try.prog W 0 (fun _ => true) true fuel2 29 ((cs.drop 3).take 1) = some y3 := g3
 obtain ⟨v3, r3, w3⟩ := (opn_sl Try.underlying29 (opn_u8 Try.underlying5) (by kernel_rfl)) g3'
 have e3 : cs.drop 4 = [] := List.drop_eq_nil_of_le (by omega)
 have e : cs = (cs.drop 0).take 1 ++ ((cs.drop 1).take 1 ++ ((cs.drop 2).take 1 ++ ((cs.drop 3).take 1 ++ ([])))) := by
  rw [← e3, piece 3 1 4 rfl, piece 2 1 3 rfl, piece 1 1 2 rfl, piece 0 1 1 rfl, List.drop_zero]
 have q0 := r0
 have q1 := r1
 have q2 := r2
 obtain ⟨A3_0, c3_0, q3, hc3_0, hs3_0⟩ := r3
 exact ⟨⟨v0, v1, v2, v3⟩, ⟨A3_0, c3_0, (e.trans (by rw [show (cs.drop 0).take 1 = _ from q0, show (cs.drop 1).take 1 = _ from q1, show (cs.drop 2).take 1 = _ from q2, show (cs.drop 3).take 1 = _ from q3]; rfl)), ⟨hc3_0, hs3_0⟩⟩, w0, w1, w2, w3⟩

theorem own : ownKnob Try.prog.godebug = none := by kernel_rfl
theorem laidOut : laidOutB Try.prog = true := by kernel_rfl
theorem laidGL (W : World) : GL (GW W) := trivial
set_option maxRecDepth 100000 in
theorem contract (H : Type) (enc : TypeId × Value → H) (W : World) (base : Nat) (args : Array Value) (ds gs : List (DataW H)) (before : List MemPlace)
  (hval0 : ∀ (j : Nat) t v, Try.f7.params[j]? = some t → args[j]? = some v → Value.okWide Try.prog W .any base t v)
  (hW : DataW.Whole enc Try.prog Try.f7.params.toList Rows.journalAgainSpec.vars false W args.toList ds gs before)
  (hsz0 : (DataW.weightsEach Try.prog (Try.f7.params.toList ++ Rows.journalAgainSpec.plain.varTypes Try.prog) (ds ++ gs)).all (· ≤ reachBytes) = true) :
  Calls Try.prog 7 args W fun e W2 => ∃ v, e = .returned v ∧ Rows.journalAgainSpec.post enc Try.prog Try.f7 false true false false W args v W2 := by
 have hval := hval0
 have hW2 := hW
 obtain ⟨p, q, hA0, hV, rfl, hfz, hnd⟩ := hW
 have hA : DataW.TrodAll enc Try.prog W 0 (fun _ => true) true Try.f7.params.toList args.toList ds p := hA0
 rw [Try.params7] at hA hval
 obtain ⟨v0, vs0, d0, ds0, p0, q0, hargs, rfl, rfl, h0, r0⟩ := trodAll_cons hA
 obtain ⟨v1, vs1, d1, ds1, p1, q1, rfl, rfl, rfl, h1, r1⟩ := trodAll_cons r0
 obtain ⟨v2, vs2, d2, ds2, p2, q2, rfl, rfl, rfl, h2, r2⟩ := trodAll_cons r1
 obtain ⟨v3, vs3, d3, ds3, p3, q3, rfl, rfl, rfl, h3, r3⟩ := trodAll_cons r2
 obtain ⟨rfl, rfl, rfl⟩ := trodAll_nil r3
 obtain rfl : args = #[v0, v1, v2, v3] := by cases args; simp_all
 obtain ⟨rfl, rfl⟩ := trodVars_none hV
 have k0 := h0
 have lt0 : ∀ x ∈ p0, x.block < W.heap.size := by obtain ⟨m, hm⟩ := k0; exact DataW.trod_lt m _ _ _ hm
 obtain ⟨a0, n0, c0, rfl⟩ := okWide_slice Try.underlying29 (hval 0 29 v0 rfl rfl)
 obtain ⟨x0, ⟨A0, c0', e0, hc0, hs0⟩, w0⟩ := (Opn.at_ (show Opn Try.prog 29 (List UInt8) from (opn_sl Try.underlying29 (opn_u8 Try.underlying5) (by kernel_rfl))) h0)
 simp only [Value.cells, List.cons.injEq, Value.slice.injEq, and_true] at e0
 obtain ⟨rfl, rfl, rfl⟩ := e0
 have k1 := h1
 have lt1 : ∀ x ∈ p1, x.block < W.heap.size := by obtain ⟨m, hm⟩ := k1; exact DataW.trod_lt m _ _ _ hm
 obtain ⟨a1, n1, c1, rfl⟩ := okWide_slice Try.underlying29 (hval 1 29 v1 rfl rfl)
 obtain ⟨x1, ⟨A1, c1', e1, hc1, hs1⟩, w1⟩ := (Opn.at_ (show Opn Try.prog 29 (List UInt8) from (opn_sl Try.underlying29 (opn_u8 Try.underlying5) (by kernel_rfl))) h1)
 simp only [Value.cells, List.cons.injEq, Value.slice.injEq, and_true] at e1
 obtain ⟨rfl, rfl, rfl⟩ := e1
 have k2 := h2
 have lt2 : ∀ x ∈ p2, x.block < W.heap.size := by obtain ⟨m, hm⟩ := k2; exact DataW.trod_lt m _ _ _ hm
 obtain ⟨a2, n2, c2, rfl⟩ := okWide_slice Try.underlying29 (hval 2 29 v2 rfl rfl)
 obtain ⟨x2, ⟨A2, c2', e2, hc2, hs2⟩, w2⟩ := (Opn.at_ (show Opn Try.prog 29 (List UInt8) from (opn_sl Try.underlying29 (opn_u8 Try.underlying5) (by kernel_rfl))) h2)
 simp only [Value.cells, List.cons.injEq, Value.slice.injEq, and_true] at e2
 obtain ⟨rfl, rfl, rfl⟩ := e2
 have k3 := h3
 have lt3 : ∀ x ∈ p3, x.block < W.heap.size := by obtain ⟨m, hm⟩ := k3; exact DataW.trod_lt m _ _ _ hm
 obtain ⟨a3, n3, c3, rfl⟩ := okWide_slice Try.underlying22 (hval 3 22 v3 rfl rfl)
 obtain ⟨x3, ⟨A3, c3', e3, hc3, hs3⟩, w3⟩ := (Opn.at_ (show Opn Try.prog 22 (List sealskinlaw06_Do) from (opn_sl Try.underlying22 (opn_sealskinlaw06_Do) (by kernel_rfl))) h3)
 simp only [Value.cells, List.cons.injEq, Value.slice.injEq, and_true] at e3
 obtain ⟨rfl, rfl, rfl⟩ := e3
 refine (sealskinlaw06_JournalAgain_ok (x0 := x0) (x1 := x1) (x2 := x2) (x3 := x3) (GW.st W) (laidGL W) hc0 hs0 hc1 hs1 hc2 hs2 hc3 hs3 (JournalAgain_all x0 x1 x2 x3 w0 w1 w2 w3)).mono fun e W2 h_ => ?_
 obtain ⟨r_, L_, H_, he, hI_, hr_⟩ := h_
 have bel := hI_.fr.below
 replace hr_ : r_ = true := hr_
 subst hr_
 subst he
 exact ⟨_, rfl, _, _, _, [], _, [], hW2, trodAll_mk1 (shut_bool Try.underlying4 _), (trodAll_cons_mk (Below.trod laidOut (by kernel_rfl) (of_decide_eq_true (by kernel_rfl)) k0 bel lt0) (trodAll_cons_mk (Below.trod laidOut (by kernel_rfl) (of_decide_eq_true (by kernel_rfl)) k1 bel lt1) (trodAll_cons_mk (Below.trod laidOut (by kernel_rfl) (of_decide_eq_true (by kernel_rfl)) k2 bel lt2) (trodAll_cons_mk (Below.trod laidOut (by kernel_rfl) (of_decide_eq_true (by kernel_rfl)) k3 bel lt3) trodAll_mk0)))), rfl, bel.frame _, fun h => by cases h⟩
set_option maxRecDepth 100000 in
theorem lifted (os : Os) (started : os.Started) (H : Type) (enc : TypeId × Value → H) :
  ReturnsInHanded {} Try.checked os 7 .any (Rows.journalAgainSpec.pre6 enc Try.prog Try.f7 Rows.journalAgainRow.domain false) (Rows.journalAgainSpec.post enc Try.prog Try.f7 false true false false) := by
 refine returnsInHanded_of_change_sized (C := Try.checked) own started (by kernel_rfl) Try.func7
  (ChangeSpec.witness6 (enc := enc) (C := Try.checked) false ⟨#[], #[.slice none 0 0, .slice none 0 0, .slice none 0 0, .slice none 0 0], []⟩ 8 (by kernel_rfl) (by kernel_rfl) (by kernel_rfl) (by kernel_rfl)) ?_
 intro W base args ds gs before hval hW _ hsz _
 exact contract H enc W base args ds gs before hval hW hsz
theorem said : Rows.JournalAgainSaid :=
 OpenClaim.holds_of_wide 7 Try.f7 rfl rfl rfl rfl rfl rfl rfl ⟨rfl, rfl, rfl, rfl, rfl⟩ rfl rfl rfl rfl rfl (by kernel_rfl) Try.func7 (by kernel_rfl)
  (of_decide_eq_true (by kernel_rfl)) (by unfold Func.isWrapper; first | (rw [if_pos (by decide +kernel)]; kernel_rfl) | (rw [if_neg (by decide +kernel)]; exact ⟨rfl, rfl⟩))
  (fun os started H enc _ => lifted os started H enc)
end Go.Proofs.Ytkmljjhjojolcaa.journalAgain
namespace Go.Proofs.Ytkmljjhjojolcaa
theorem journalAgain_holds : Rows.JournalAgainSaid := journalAgain.said
#print axioms journalAgain_holds
end Go.Proofs.Ytkmljjhjojolcaa

