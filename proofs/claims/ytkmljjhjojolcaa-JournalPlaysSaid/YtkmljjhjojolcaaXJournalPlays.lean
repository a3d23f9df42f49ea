/- The law JournalPlays answers true at every input: a journal plays as the document says, call by call. -/
import Derived.Test.YtkmljjhjojolcaaZp1
import Derived.Test.YtkmljjhjojolcaaZp6
import Derived.Test.YtkmljjhjojolcaaZp19
import Derived.Test.YtkmljjhjojolcaaRows
import Derived.WalkKit
import Derived.ProofKit
import Derived.OpenShut
import Derived.ShutString
import Derived.ChangeOld
import Derived.Below
import Derived.Carry
import Derived.Deep.DeepHandedRow
set_option linter.unusedVariables false
set_option linter.unusedSimpArgs false
namespace Go.Proofs.Ytkmljjhjojolcaa.journalPlays
open Go Go.Sx Go.Lx Go.ChangeShapes Go.WideShapes Go.ChangeAt Go.RowKit
open Go.ChangeMaps (open_string shut_string)
instance : Wf sealskinlaw06_Do := ⟨fun x => Wf.wf x.Op_ ∧ Wf.wf x.Label_ ∧ Wf.wf x.N_ ∧ Wf.wf x.B_⟩
instance : Wz sealskinlaw06_Do := ⟨fun x => Wz.wz x.Op_ ∧ Wz.wz x.Label_ ∧ Wz.wz x.N_ ∧ Wz.wz x.B_⟩
set_option maxRecDepth 100000 in
theorem opz_sealskinlaw06_Do : Opz Try.prog 31 sealskinlaw06_Do := fun {W H enc fuel cs x} h hsz => by
 obtain ⟨hl, fuel2, hf⟩ := trod_fieldsZ Try.underlying31 (by kernel_rfl : Try.prog.cellsOf 31 = 4) h hsz
 obtain ⟨y0, g0, l0⟩ := hf 0 _ rfl
 have g0' : DataW.trod enc Try.prog W 0 (fun _ => true) true fuel2 3 ((cs.drop 0).take 1) = some y0 := g0
 obtain ⟨v0, r0, w0, u0⟩ := (Opn.z (opn_i64 Try.underlying3) fun _ => trivial) g0' l0
 obtain ⟨y1, g1, l1⟩ := hf 1 _ rfl
 have g1' : DataW.trod enc Try.prog W 0 (fun _ => true) true fuel2 3 ((cs.drop 1).take 1) = some y1 := g1
 obtain ⟨v1, r1, w1, u1⟩ := (Opn.z (opn_i64 Try.underlying3) fun _ => trivial) g1' l1
 obtain ⟨y2, g2, l2⟩ := hf 2 _ rfl
 have g2' : DataW.trod enc Try.prog W 0 (fun _ => true) true fuel2 3 ((cs.drop 2).take 1) = some y2 := g2
 obtain ⟨v2, r2, w2, u2⟩ := (Opn.z (opn_i64 Try.underlying3) fun _ => trivial) g2' l2
 obtain ⟨y3, g3, l3⟩ := hf 3 _ rfl
 have g3' : DataW.trod enc Try.prog W 0 (fun _ => true) true fuel2 29 ((cs.drop 3).take 1) = some y3 := g3
 obtain ⟨v3, r3, w3, u3⟩ := (opz_sl Try.underlying29 (Opn.z (opn_u8 Try.underlying5) fun _ => trivial) (by kernel_rfl) (Nat.le_of_ble_eq_true (by kernel_rfl))) g3' l3
 have e3 : cs.drop 4 = [] := List.drop_eq_nil_of_le (by omega)
 have e : cs = (cs.drop 0).take 1 ++ ((cs.drop 1).take 1 ++ ((cs.drop 2).take 1 ++ ((cs.drop 3).take 1 ++ ([])))) := by
  rw [← e3, piece 3 1 4 rfl, piece 2 1 3 rfl, piece 1 1 2 rfl, piece 0 1 1 rfl, List.drop_zero]
 have q0 := r0
 have q1 := r1
 have q2 := r2
 obtain ⟨A3_0, c3_0, q3, hc3_0, hs3_0⟩ := r3
 exact ⟨⟨v0, v1, v2, v3⟩, ⟨A3_0, c3_0, (e.trans (by rw [show (cs.drop 0).take 1 = _ from q0, show (cs.drop 1).take 1 = _ from q1, show (cs.drop 2).take 1 = _ from q2, show (cs.drop 3).take 1 = _ from q3]; rfl)), ⟨hc3_0, hs3_0⟩⟩, ⟨w0, w1, w2, w3⟩, u0, u1, u2, u3⟩

theorem own : ownKnob Try.prog.godebug = none := by kernel_rfl
theorem laidOut : laidOutB Try.prog = true := by kernel_rfl
theorem laidGL (W : World) : GL (GW W) := trivial
set_option maxRecDepth 100000 in
theorem contract (H : Type) (enc : TypeId × Value → H) (W : World) (base : Nat) (args : Array Value) (ds gs : List (DataW H)) (before : List MemPlace)
  (hval0 : ∀ (j : Nat) t v, Try.f10.params[j]? = some t → args[j]? = some v → Value.okWide Try.prog W .any base t v)
  (hW : DataW.Whole enc Try.prog Try.f10.params.toList Rows.journalPlaysSpec.vars false W args.toList ds gs before)
  (hsz0 : (DataW.weightsEach Try.prog (Try.f10.params.toList ++ Rows.journalPlaysSpec.plain.varTypes Try.prog) (ds ++ gs)).all (· ≤ reachBytes) = true) :
  Calls Try.prog 10 args W fun e W2 => ∃ v, e = .returned v ∧ Rows.journalPlaysSpec.post enc Try.prog Try.f10 false true false false W args v W2 := by
 have hval := hval0
 have hW2 := hW
 obtain ⟨p, q, hA0, hV, rfl, hfz, hnd⟩ := hW
 have hA : DataW.TrodAll enc Try.prog W 0 (fun _ => true) true Try.f10.params.toList args.toList ds p := hA0
 rw [Try.params10] at hA hval
 obtain ⟨v0, vs0, d0, ds0, p0, q0, hargs, rfl, rfl, h0, r0⟩ := trodAll_cons hA
 obtain ⟨v1, vs1, d1, ds1, p1, q1, rfl, rfl, rfl, h1, r1⟩ := trodAll_cons r0
 obtain ⟨rfl, rfl, rfl⟩ := trodAll_nil r1
 obtain rfl : args = #[v0, v1] := by cases args; simp_all
 obtain ⟨rfl, rfl⟩ := trodVars_none hV
 have k0 := h0
 have lt0 : ∀ x ∈ p0, x.block < W.heap.size := by obtain ⟨m, hm⟩ := k0; exact DataW.trod_lt m _ _ _ hm
 obtain ⟨a0, rfl⟩ := okWide_int Try.underlying3 (hval 0 3 v0 rfl rfl)
 obtain ⟨x0, e0, w0⟩ := (Opz.at_ (show Opz Try.prog 3 (Int) from (Opn.z (opn_i64 Try.underlying3) fun _ => trivial)) h0 (light_arg hsz0 0 (by rw [Try.params10]; rfl) rfl))
 have e0' : (.int .i64 a0 : Value) = .int .i64 x0 := by have h_ : [(.int .i64 a0 : Value)] = [.int .i64 x0] := e0; exact (List.cons.inj h_).1
 have e02 := And.right (Value.int.inj e0')
 clear e0 e0'
 subst a0
 have k1 := h1
 have lt1 : ∀ x ∈ p1, x.block < W.heap.size := by obtain ⟨m, hm⟩ := k1; exact DataW.trod_lt m _ _ _ hm
 obtain ⟨a1, n1, c1, rfl⟩ := okWide_slice Try.underlying22 (hval 1 22 v1 rfl rfl)
 obtain ⟨x1, ⟨A1, c1', e1, hc1, hs1⟩, w1⟩ := (Opz.at_ (show Opz Try.prog 22 (List sealskinlaw06_Do) from (opz_sl Try.underlying22 (opz_sealskinlaw06_Do) (by kernel_rfl) (Nat.le_of_ble_eq_true (by kernel_rfl)))) h1 (light_arg hsz0 1 (by rw [Try.params10]; rfl) rfl))
 simp only [Value.cells, List.cons.injEq, Value.slice.injEq, and_true] at e1
 obtain ⟨rfl, rfl, rfl⟩ := e1
 refine (sealskinlaw06_JournalPlays_ok (x0 := x0) (x1 := x1) (GW.st W) (laidGL W) hc1 hs1 (JournalPlays_all x0 x1 w0 w1)).mono fun e W2 h_ => ?_
 obtain ⟨r_, L_, H_, he, hI_, hr_⟩ := h_
 have bel := hI_.fr.below
 replace hr_ : r_ = true := hr_
 subst hr_
 subst he
 exact ⟨_, rfl, _, _, _, [], _, [], hW2, trodAll_mk1 (shut_bool Try.underlying4 _), (trodAll_cons_mk (Below.trod laidOut (by kernel_rfl) (of_decide_eq_true (by kernel_rfl)) k0 bel lt0) (trodAll_cons_mk (Below.trod laidOut (by kernel_rfl) (of_decide_eq_true (by kernel_rfl)) k1 bel lt1) trodAll_mk0)), rfl, bel.frame _, fun h => by cases h⟩
set_option maxRecDepth 100000 in
theorem lifted (os : Os) (started : os.Started) (H : Type) (enc : TypeId × Value → H) :
  ReturnsInHanded {} Try.checked os 10 .any (Rows.journalPlaysSpec.pre6 enc Try.prog Try.f10 Rows.journalPlaysRow.domain false) (Rows.journalPlaysSpec.post enc Try.prog Try.f10 false true false false) := by
 refine returnsInHanded_of_change_sized (C := Try.checked) own started (by kernel_rfl) Try.func10
  (ChangeSpec.witness6 (enc := enc) (C := Try.checked) false ⟨#[], #[.int .i64 0, .slice none 0 0], []⟩ 8 (by kernel_rfl) (by kernel_rfl) (by kernel_rfl) (by kernel_rfl)) ?_
 intro W base args ds gs before hval hW _ hsz _
 exact contract H enc W base args ds gs before hval hW hsz
theorem said : Rows.JournalPlaysSaid :=
 OpenClaim.holds_of_wide 10 Try.f10 rfl rfl rfl rfl rfl rfl rfl ⟨rfl, rfl, rfl, rfl, rfl⟩ rfl rfl rfl rfl rfl (by kernel_rfl) Try.func10 (by kernel_rfl)
  (of_decide_eq_true (by kernel_rfl)) (by unfold Func.isWrapper; first | (rw [if_pos (by decide +kernel)]; kernel_rfl) | (rw [if_neg (by decide +kernel)]; exact ⟨rfl, rfl⟩))
  (fun os started H enc _ => lifted os started H enc)
end Go.Proofs.Ytkmljjhjojolcaa.journalPlays
namespace Go.Proofs.Ytkmljjhjojolcaa
theorem journalPlays_holds : Rows.JournalPlaysSaid := journalPlays.said
#print axioms journalPlays_holds
end Go.Proofs.Ytkmljjhjojolcaa

