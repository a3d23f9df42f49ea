/- SX, eighteenth part: an operation whose guard was itself passed over. -/
import Derived.Test.YtohneemghiehdaaDoorSx2
set_option linter.unusedVariables false
set_option linter.unusedSimpArgs false
namespace Go.Sx
open Go
def undefd (ds : List (Option Nat)) (E : Env) (g : Option (Nat × Bool)) : Bool :=
  match g with
  | none => false
  | some (j, _) => match ds[j]? with
    | some (some t) => match lookE E t with
      | some (.tuple _) => true
      | _ => false
    | _ => false
theorem undefd_spec {N : Nat} {E : Env} {ops : Array Oper} {ds : List (Option Nat)} (hds : Dsts ops ds) {o : Oper} {a : Act} (ha : Has N E a) (h : undefd ds E o.guard = true) : Region.wanted o (yielded ops a.tmps) = false := by
  unfold undefd at h
  unfold Region.wanted
  split at h
  · cases h
  · rename_i j b' hg
    rw [hg]
    dsimp only
    have hd := hds j
    cases hj : ds[j]? with
    | none => rw [hj] at h; cases h
    | some d =>
      cases d with
      | none => rw [hj] at h; cases h
      | some t =>
        rw [hj] at h hd
        dsimp only at h
        cases hv : lookE E t with
        | none => rw [hv] at h; cases h
        | some v =>
          have := ha.slot t v hv
          rw [hv] at h
          unfold yielded
          rw [hd]
          simp only [Option.bind_some, id, this]
          cases v <;> simp at h ⊢
section
variable {P : Program} {N : Nat} {E : Env} {w : World} {K : Post}
variable {ds : List (Option Nat)} {rest : List Oper} {t : Nat} {op : Op} {ty : TypeId} {pos : String} {after : Array Edge} {guard : Option (Nat × Bool)}
theorem Ops_passU (hg : undefd ds E guard = true) (hd : Nat.blt t N = true)
    (h : Ops P N ds rest ((t, undef) :: E) w K) : Ops P N ds (⟨some t, op, ty, pos, after, guard⟩ :: rest) E w K := fun ops hds a ha => by
  unfold wpList
  rw [undefd_spec hds (o := ⟨some t, op, ty, pos, after, guard⟩) ha hg]
  simp only [Bool.false_eq_true, if_false]
  exact h ops hds _ (ha.put (some t) _ hd)
end
end Go.Sx
