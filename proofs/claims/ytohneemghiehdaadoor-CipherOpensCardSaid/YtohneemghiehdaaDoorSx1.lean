/- SX, first part: frames as lists of known slots; one operation at a time. -/
import Derived.WalkKit
import Derived.Orders
import Derived.OrdersHeld
set_option linter.unusedVariables false
set_option linter.unusedSimpArgs false
namespace Go.Sx
open Go

abbrev Env := List (Nat × Value)

def lookE : Env → Nat → Option Value
  | [], _ => none
  | (k, v) :: E, t => bif k == t then some v else lookE E t

/-- What is known of a frame: its size, that nothing is deferred, and what some slots hold. -/
structure Has (N : Nat) (E : Env) (a : Act) : Prop where
  defers : a.defers = []
  size : a.tmps.size = N
  slot : ∀ t v, lookE E t = some v → a.tmps[t]? = some v

/-- What an operand is. -/
def ev (E : Env) : Operand → Option Value
  | .tmp t => lookE E t
  | .const v => some v
  | .global g => some (.pointer (some ⟨g, 0, none⟩))
  | .func f => some (.func (.func f) #[] #[])

theorem Has.eval {N : Nat} {E : Env} {a : Act} {x : Operand} {v : Value} (h : Has N E a) (hx : ev E x = some v) : a.eval x = v := by
  cases x with
  | tmp t =>
    have := h.slot t v hx
    simp [Act.eval, Array.getD_eq_getD_getElem?, this]
  | const u => simpa [ev, Act.eval] using hx
  | global g => simpa [ev, Act.eval] using hx
  | func f => simpa [ev, Act.eval] using hx

/-- What is written to a slot. -/
def putE (E : Env) (d : Option Nat) (v : Value) : Env :=
  match d with
  | some t => (t, v) :: E
  | none => E

def fits (N : Nat) (d : Option Nat) : Bool :=
  match d with
  | some t => Nat.blt t N
  | none => true

theorem Has.put {N : Nat} {E : Env} {a : Act} (h : Has N E a) (d : Option Nat) (v : Value) (hd : fits N d = true) : Has N (putE E d v) (a.put d v) := by
  cases d with
  | none => exact h
  | some t =>
    have ht : t < N := by simpa [fits, Nat.blt_eq] using hd
    refine ⟨h.defers, by simp [Act.put, h.size], fun u x hx => ?_⟩
    simp only [putE, lookE] at hx
    by_cases e : t = u
    · subst e
      simp at hx
      subst hx
      have : t < a.tmps.size := by rw [h.size]; exact ht
      simp [Act.put, this]
    · have e' : (t == u) = false := by simpa using e
      simp only [e', cond_false] at hx
      simp [Act.put, e, h.slot u x hx]

/-- E' says no more than E. -/
def Sub : Env → Env → Prop
  | [], _ => True
  | (t, v) :: E', E => lookE E t = some v ∧ Sub E' E

theorem Sub.at_ {E' E : Env} (h : Sub E' E) : ∀ t v, lookE E' t = some v → lookE E t = some v := by
  induction E' with
  | nil => intro t v hx; cases hx
  | cons p E' ih =>
    obtain ⟨k, u⟩ := p
    intro t v hx
    simp only [lookE] at hx
    by_cases e : k = t
    · subst e
      simp at hx
      subst hx
      exact h.1
    · have e' : (k == t) = false := by simpa using e
      simp only [e', cond_false] at hx
      exact ih h.2 t v hx

theorem Has.sub {N : Nat} {E E' : Env} {a : Act} (h : Has N E a) (hs : Sub E' E) : Has N E' a := ⟨h.defers, h.size, fun t v hx => h.slot t v (hs.at_ t v hx)⟩

theorem Has.sub' {N : Nat} {E : Env} {a : Act} {t : Nat} {v : Value} (h : Has N E a) (hv : lookE E t = some v) : Has N ((t, v) :: E) a := by
  refine ⟨h.defers, h.size, fun u x hx => ?_⟩
  simp only [lookE] at hx
  by_cases e : t = u
  · subst e; simp at hx; subst hx; exact h.slot _ _ hv
  · have e' : (t == u) = false := by simpa using e
    simp only [e', cond_false] at hx
    exact h.slot u x hx

/-- The slots kept. -/
def pickE (E : Env) : List Nat → Env
  | [] => []
  | t :: ts => match lookE E t with
    | some v => (t, v) :: pickE E ts
    | none => pickE E ts

theorem pickE_sub (E : Env) (ts : List Nat) : Sub (pickE E ts) E := by
  induction ts with
  | nil => trivial
  | cons t ts ih =>
    unfold pickE
    split
    · rename_i v hv; exact ⟨hv, ih⟩
    · exact ih

/-- an operation, run where the slots are as E says, leaves the value v, and the world as it is -/
def Runs (P : Program) (w : World) (E : Env) (o : Oper) (v : Value) : Prop := ∀ a N, Has N E a → (execOp a.eval o).run P w = .ok (.value v) w
/-- it leaves a value and a world of which Φ holds -/
def RunsTo (P : Program) (w : World) (E : Env) (o : Oper) (Φ : Value → World → Prop) : Prop :=
  ∀ a N, Has N E a → ∃ v w', Φ v w' ∧ ((execOp a.eval o).run P w = .ok (.value v) w' ∨ ((execOp a.eval o).run P w = .ok .skip w' ∧ v = undef))

abbrev Post := Exit → Env → World → Prop

/-- none of it panics -/
def toQ (N : Nat) (K : Post) : Exit → Act → World → Prop
  | .panic _, _, _ => False
  | .outgrown, _, _ => False
  | e, a, w => ∃ E, Has N E a ∧ K e E w

/-- The code, from a frame of which E is known. -/
def W (P : Program) (N : Nat) (c : Code) (E : Env) (w : World) (K : Post) : Prop := ∀ a, Has N E a → c.wp P (toQ N K) a w
/-- ds: where each of a region's operations writes -/
def Dsts (ops : Array Oper) (ds : List (Option Nat)) : Prop := ∀ j : Nat, (ops[j]?).bind (fun o : Oper => o.dst) = (ds[j]?).bind id
/-- The operations that are left of a region whose operations write to ds. -/
def Ops (P : Program) (N : Nat) (ds : List (Option Nat)) (rest : List Oper) (E : Env) (w : World) (K : Post) : Prop := ∀ ops, Dsts ops ds → ∀ a, Has N E a → wpList P ops (toQ N K) rest a w

def thenP (K1 : Env → World → Prop) (K : Post) : Post
  | .normal, E, w => K1 E w
  | e, E, w => K e E w
def blockP (id : Nat) (K : Post) : Post
  | .exit i, E, w => if i = id then K .normal E w else K (.exit i) E w
  | e, E, w => K e E w

section
variable {P : Program} {N : Nat} {E : Env} {w : World} {K : Post}

theorem W.mono {c : Code} {K' : Post} (h : W P N c E w K) (hk : ∀ e E w, K e E w → K' e E w) : W P N c E w K' :=
  fun a ha => wp_mono (h a ha) fun e _ _ h => by
    cases e <;> first | exact h | (obtain ⟨E, hE, hK⟩ := h; exact ⟨E, hE, hk _ _ _ hK⟩)
theorem W_keep (ts : List Nat) {c : Code} (h : W P N c (pickE E ts) w K) : W P N c E w K := fun a ha => h a (ha.sub (pickE_sub E ts))
theorem W_sub {E' : Env} {c : Code} (hs : Sub E' E) (h : W P N c E' w K) : W P N c E w K := fun a ha => h a (ha.sub hs)
theorem W_skip (h : K .normal E w) : W P N .skip E w K := fun _ ha => wp_skip ⟨E, ha, h⟩
theorem W_label {l : Nat} (h : K .normal E w) : W P N (.label l) E w K := fun _ ha => wp_label ⟨E, ha, h⟩
theorem W_ret (h : K .ret E w) : W P N .ret E w K := fun _ ha => wp_ret ⟨E, ha, h⟩
theorem W_exit {id : Nat} (h : K (.exit id) E w) : W P N (.exit id) E w K := fun _ ha => wp_exit ⟨E, ha, h⟩
theorem W_seq {x y : Code} (h : W P N x E w (thenP (fun E' w' => W P N y E' w' K) K)) : W P N (.seq x y) E w K :=
  fun a ha => wp_seq (wp_mono (h a ha) fun e a w h => by
    cases e with
    | normal => obtain ⟨E, hE, hK⟩ := h; exact hK a hE
    | _ => exact h)
/-- what follows behind a name -/
theorem W_seq_k {x y : Code} (h : ∀ K1 : Env → World → Prop, (∀ E' w', W P N y E' w' K → K1 E' w') → W P N x E w (thenP K1 K)) : W P N (.seq x y) E w K :=
  W_seq (h _ fun _ _ h => h)
theorem W_block {id : Nat} {c : Code} (h : W P N c E w (blockP id K)) : W P N (.block id c) E w K :=
  fun a ha => wp_block (wp_mono (h a ha) fun e a w h => by
    cases e with
    | exit i =>
      obtain ⟨E, hE, hK⟩ := h
      simp only [blockP, Exit.inBlock] at *
      split
      · rename_i hi; rw [if_pos hi] at hK; exact ⟨E, hE, hK⟩
      · rename_i hi; rw [if_neg hi] at hK; exact ⟨E, hE, hK⟩
    | _ => exact h)
theorem W_cond {c : Operand} {x y : Code} {t : Bool} (hc : ev E c = some (.bool t)) (ht : t = true → W P N x E w K) (hf : t = false → W P N y E w K) : W P N (.cond c x y) E w K :=
  fun a ha => wp_cond_split (ha.eval hc) (fun h => ht h a ha) (fun h => hf h a ha)
theorem W_cond_true {c : Operand} {x y : Code} (hc : ev E c = some (.bool true)) (ht : W P N x E w K) : W P N (.cond c x y) E w K :=
  fun a ha => wp_cond_true (ha.eval hc) (ht a ha)
theorem W_cond_false {c : Operand} {x y : Code} (hc : ev E c = some (.bool false)) (ht : W P N y E w K) : W P N (.cond c x y) E w K :=
  fun a ha => wp_cond_false (ha.eval hc) (ht a ha)
/-- a decided test -/
theorem W_yes {c : Operand} {x y : Code} {p : Prop} [Decidable p] (hc : ev E c = some (.bool (decide p))) (hp : p) (ht : W P N x E w K) : W P N (.cond c x y) E w K :=
  W_cond_true (by rw [hc, decide_eq_true hp]) ht
theorem W_no {c : Operand} {x y : Code} {p : Prop} [Decidable p] (hc : ev E c = some (.bool (decide p))) (hp : ¬ p) (ht : W P N y E w K) : W P N (.cond c x y) E w K :=
  W_cond_false (by rw [hc, decide_eq_false hp]) ht
theorem W_if {c : Operand} {x y : Code} {p : Prop} [Decidable p] (hc : ev E c = some (.bool (decide p))) (ht : p → W P N x E w K) (hf : ¬ p → W P N y E w K) : W P N (.cond c x y) E w K :=
  W_cond hc (fun h => ht (of_decide_eq_true h)) (fun h => hf (of_decide_eq_false h))

/-- A LOOP: I holds at each round's head, of the frame and the world, with a number that every round lowers. -/
theorem W_loop {c : Code} (I : Nat → Env → World → Prop) (n : Nat) (h0 : I n E w)
    (round : ∀ n E' w', I n E' w' → W P N c E' w' (thenP (fun E2 w2 => ∃ m E3, m < n ∧ Sub E3 E2 ∧ I m E3 w2) K)) : W P N (.loop c) E w K := by
  intro a ha b k cs
  have key : ∀ n, ∀ E' w', I n E' w' → ∀ a, Has N E' a → ∃ e a' w2, toQ N K e a' w2 ∧ Arrives P (lone (b.at a (.code c :: .inLoop c :: k)) cs w') b k cs e a' w2 := by
    intro n
    induction n using Nat.strongRecOn with
    | _ n ih =>
      intro E' w' hI a ha
      obtain ⟨e, a₁, w₁, hq, harr⟩ := round n E' w' hI a ha b (.inLoop c :: k) cs
      cases e with
      | normal =>
        obtain ⟨E2, hE2, hK⟩ := hq
        obtain ⟨m, E3, hlt, hs, hI3⟩ := hK
        obtain ⟨e₂, a₂, w₂, hq₂, harr₂⟩ := ih m hlt E3 w₁ hI3 a₁ (hE2.sub hs)
        exact ⟨e₂, a₂, w₂, hq₂, .of_steps (Steps.trans harr (.one step_inLoop)) harr₂⟩
      | exit id => exact ⟨.exit id, a₁, w₁, hq, .pass (x := .inLoop c) rfl (fun _ _ => .inl (by simp)) harr⟩
      | goto l => exact ⟨.goto l, a₁, w₁, hq, .pass (x := .inLoop c) rfl (fun _ _ => .inl (by simp)) harr⟩
      | ret => exact ⟨.ret, a₁, w₁, hq, .pass (x := .inLoop c) rfl (fun _ _ => .inl (by simp)) harr⟩
      | panic ch => exact ⟨.panic ch, a₁, w₁, hq, .pass (x := .inLoop c) rfl (fun _ _ => .inl (by simp)) harr⟩
      | outgrown => exact ⟨.outgrown, a₁, w₁, hq, .pass (x := .inLoop c) rfl (fun _ _ => .inl (by simp)) harr⟩
  obtain ⟨e, a', w2, hq, harr⟩ := key n E w h0 a ha
  exact ⟨e, a', w2, hq, .of_steps (.one step_loop) harr⟩

/-! ### A region in the order of the text -/
theorem dsts_of (l : List Oper) : Dsts l.toArray (l.map (·.dst)) := fun j => by
  simp only [List.getElem?_toArray, List.getElem?_map]
  cases l[j]? <;> rfl
theorem W_region {id : Nat} {l : List Oper} (ds : List (Option Nat)) (hds : l.map (·.dst) = ds) (h : Ops P N ds l E w K) : W P N (.region id l.toArray false) E w K := fun a ha => wp_region_lit (h _ (hds ▸ dsts_of l) a ha)
theorem Ops_nil {ds : List (Option Nat)} (h : K .normal E w) : Ops P N ds [] E w K := fun _ _ _ ha => wpList_nil ⟨E, ha, h⟩

/-- Is it carried out? -/
def wants (ds : List (Option Nat)) (E : Env) (g : Option (Nat × Bool)) : Option Bool :=
  match g with
  | none => some true
  | some (j, b) => match ds[j]? with
    | some (some t) => match lookE E t with
      | some (.bool c) => some (c == b)
      | _ => none
    | _ => none

theorem wants_spec {ops : Array Oper} {ds : List (Option Nat)} (hds : Dsts ops ds) {o : Oper} {b : Bool} {a : Act} (ha : Has N E a) (h : wants ds E o.guard = some b) : Region.wanted o (yielded ops a.tmps) = b := by
  unfold wants at h
  unfold Region.wanted
  split at h
  · rename_i hg; rw [hg]; simpa using h
  · rename_i j b' hg
    rw [hg]
    dsimp only
    have hd := hds j
    cases hj : ds[j]? with
    | none => rw [hj] at h; cases h
    | some d =>
      cases d with
      | none => rw [hj] at h; cases h
      | some t =>
        rw [hj] at h hd
        dsimp only at h
        cases hv : lookE E t with
        | none => rw [hv] at h; cases h
        | some v =>
          have := ha.slot t v hv
          rw [hv] at h
          unfold yielded
          rw [hd]
          simp only [Option.bind_some, id, this]
          cases v <;> simp at h ⊢
          exact h

section
variable {ds : List (Option Nat)} {rest : List Oper} {t : Nat} {op : Op} {ty : TypeId} {pos : String} {after : Array Edge} {guard : Option (Nat × Bool)}
theorem Ops_step {v : Value} (hr : Runs P w E ⟨some t, op, ty, pos, after, guard⟩ v) (hd : Nat.blt t N = true) (hg : wants ds E guard = some true)
    (h : Ops P N ds rest ((t, v) :: E) w K) : Ops P N ds (⟨some t, op, ty, pos, after, guard⟩ :: rest) E w K := fun ops hds a ha => by
  unfold wpList
  rw [wants_spec hds (o := ⟨some t, op, ty, pos, after, guard⟩) ha hg]
  refine .inl ?_
  unfold Oper.wp
  rw [hr a N ha]
  exact h ops hds _ (ha.put (some t) _ hd)
theorem Ops_to {Φ : Value → World → Prop} (hr : RunsTo P w E ⟨some t, op, ty, pos, after, guard⟩ Φ) (hd : Nat.blt t N = true) (hg : wants ds E guard = some true)
    (h : ∀ v w', Φ v w' → Ops P N ds rest ((t, v) :: E) w' K) : Ops P N ds (⟨some t, op, ty, pos, after, guard⟩ :: rest) E w K := fun ops hds a ha => by
  unfold wpList
  rw [wants_spec hds (o := ⟨some t, op, ty, pos, after, guard⟩) ha hg]
  refine .inl ?_
  unfold Oper.wp
  obtain ⟨v, w', hΦ, h1 | ⟨h1, rfl⟩⟩ := hr a N ha
  · rw [h1]; exact h _ _ hΦ ops hds _ (ha.put (some t) _ hd)
  · rw [h1]; exact h _ _ hΦ ops hds _ (ha.put (some t) _ hd)
/-- nothing is written to a slot -/
theorem Ops_to0 {Φ : Value → World → Prop} (hr : RunsTo P w E ⟨none, op, ty, pos, after, guard⟩ Φ) (hg : wants ds E guard = some true)
    (h : ∀ v w', Φ v w' → Ops P N ds rest E w' K) : Ops P N ds (⟨none, op, ty, pos, after, guard⟩ :: rest) E w K := fun ops hds a ha => by
  unfold wpList
  rw [wants_spec hds (o := ⟨none, op, ty, pos, after, guard⟩) ha hg]
  refine .inl ?_
  unfold Oper.wp
  obtain ⟨v, w', hΦ, h1 | ⟨h1, rfl⟩⟩ := hr a N ha
  · rw [h1]; exact h _ _ hΦ ops hds _ ha
  · rw [h1]; exact h _ _ hΦ ops hds _ ha
theorem Ops_pass (hg : wants ds E guard = some false) (hd : Nat.blt t N = true)
    (h : Ops P N ds rest ((t, undef) :: E) w K) : Ops P N ds (⟨some t, op, ty, pos, after, guard⟩ :: rest) E w K := fun ops hds a ha => by
  unfold wpList
  rw [wants_spec hds (o := ⟨some t, op, ty, pos, after, guard⟩) ha hg]
  simp only [Bool.false_eq_true, if_false]
  exact h ops hds _ (ha.put (some t) _ hd)
theorem Ops_pass0 (hg : wants ds E guard = some false)
    (h : Ops P N ds rest E w K) : Ops P N ds (⟨none, op, ty, pos, after, guard⟩ :: rest) E w K := fun ops hds a ha => by
  unfold wpList
  rw [wants_spec hds (o := ⟨none, op, ty, pos, after, guard⟩) ha hg]
  simp only [Bool.false_eq_true, if_false]
  exact h ops hds _ ha

/-- an operation that calls a Go function -/
def Enters (P : Program) (w : World) (E : Env) (o : Oper) (f : FuncId) (args : Array Value) : Prop :=
  ∀ a N, Has N E a → (execOp a.eval o).run P w = .ok (.enter f args) w

theorem Ops_call {f : FuncId} {args : Array Value} (hr : Enters P w E ⟨some t, op, ty, pos, after, guard⟩ f args) (hd : Nat.blt t N = true) (hg : wants ds E guard = some true)
    (h : Calls P f args w fun e w' => ∃ v, e = .returned v ∧ Ops P N ds rest ((t, v) :: E) w' K) : Ops P N ds (⟨some t, op, ty, pos, after, guard⟩ :: rest) E w K := fun ops hds a ha => by
  unfold wpList
  rw [wants_spec hds (o := ⟨some t, op, ty, pos, after, guard⟩) ha hg]
  refine .inl ?_
  unfold Oper.wp
  rw [hr a N ha]
  exact h.mono fun e w' ⟨v, he, hk⟩ => by subst he; exact hk ops hds _ (ha.put (some t) _ hd)
theorem Ops_call0 {f : FuncId} {args : Array Value} (hr : Enters P w E ⟨none, op, ty, pos, after, guard⟩ f args) (hg : wants ds E guard = some true)
    (h : Calls P f args w fun e w' => ∃ v, e = .returned v ∧ Ops P N ds rest E w' K) : Ops P N ds (⟨none, op, ty, pos, after, guard⟩ :: rest) E w K := fun ops hds a ha => by
  unfold wpList
  rw [wants_spec hds (o := ⟨none, op, ty, pos, after, guard⟩) ha hg]
  refine .inl ?_
  unfold Oper.wp
  rw [hr a N ha]
  exact h.mono fun e w' ⟨v, he, hk⟩ => by subst he; exact hk ops hds _ ha
end

/-! ### The function -/
def args0 : List Value → Nat → Env
  | [], _ => []
  | v :: vs, i => (i, v) :: args0 vs (i + 1)

/-- the results, read off the frame and the memory -/
def RetIs (P : Program) (w : World) (E : Env) : List ResultVar → List Value → Prop
  | [], vs => vs = []
  | .tmp t :: rs, vs => ∃ v vs', vs = v :: vs' ∧ lookE E t = some v ∧ RetIs P w E rs vs'
  | .cell t ty :: rs, vs => ∃ v vs' p, vs = v :: vs' ∧ lookE E t = some (.pointer (some p)) ∧ (loadVar ty p).run P w = .ok v w ∧ RetIs P w E rs vs'

def tupled : List Value → Value
  | [v] => v
  | vs => .tuple vs.toArray

theorem mapM_ret {w : World} {E : Env} {N : Nat} {a : Act} (ha : Has N E a) : ∀ (rs : List ResultVar) (vs : List Value), RetIs P w E rs vs →
    (rs.mapM (m := Sem) fun | .tmp t => pure (a.tmps.getD t undef) | .cell p t => do loadVar t (← asAddr (a.tmps.getD p undef))).run P w = .ok vs w := by
  intro rs
  induction rs with
  | nil => intro vs h; simp only [RetIs] at h; subst h; rfl
  | cons r rs ih =>
    intro vs h
    cases r with
    | tmp t =>
      obtain ⟨v, vs', rfl, hl, hr⟩ := h
      have e : a.tmps.getD t undef = v := by simp [Array.getD_eq_getD_getElem?, ha.slot t v hl]
      have := ih vs' hr
      simp only [List.mapM_cons, Sem.run_bind, e, Sem.run_pure, Result.andThen_ok]
      rw [this]
      rfl
    | cell t ty =>
      obtain ⟨v, vs', p, rfl, hl, hr1, hr⟩ := h
      have e : asAddr (a.tmps.getD t undef) = pure p := by simp [Array.getD_eq_getD_getElem?, ha.slot t _ hl, asAddr]
      have := ih vs' hr
      simp only [List.mapM_cons, Sem.run_bind, e, Sem.run_pure, Result.andThen_ok, hr1]
      rw [this]
      rfl

def endK (P : Program) (rs : List ResultVar) (R : Ending → World → Prop) : Post
  | .normal, E, w | .ret, E, w => ∃ vs, RetIs P w E rs vs ∧ R (.returned (tupled vs)) w
  | _, _, _ => False

theorem calls_W {f : FuncId} {fn : Func} {c : Code} {args : List Value} {w : World} {R : Ending → World → Prop} (N : Nat) (hf : P.funcs[f]? = some fn) (hb : fn.body = some c) (hN : fn.ntmps = N) (hl0 : Nat.ble args.length N = true)
    (rs : List ResultVar) (hrs : fn.results = rs.toArray) (h : W P N c (args0 args 0) w (endK P rs R)) : Calls P f args.toArray w R := by
  have hl : args.length ≤ N := Nat.le_of_ble_eq_true hl0
  refine calls_of_wp hf hb (wp_mono (h _ ⟨rfl, by simp; omega, ?_⟩) ?_)
  · intro t v hv
    have key : ∀ (l : List Value) (i : Nat), lookE (args0 l i) t = some v → i ≤ t ∧ l[t - i]? = some v := by
      intro l
      induction l with
      | nil => intro i h; cases h
      | cons x l ih =>
        intro i h
        simp only [args0, lookE] at h
        by_cases e : i = t
        · subst e; simp at h; subst h; simp
        · have e' : (i == t) = false := by simpa using e
          simp only [e', cond_false] at h
          obtain ⟨h1, h2⟩ := ih _ h
          refine ⟨by omega, ?_⟩
          have : t - i = (t - (i + 1)) + 1 := by omega
          rw [this, List.getElem?_cons_succ]; exact h2
    obtain ⟨_, h2⟩ := key args 0 hv
    have hlt : t < args.length := by
      rcases Nat.lt_or_ge t args.length with h | h
      · exact h
      · rw [Nat.sub_zero, List.getElem?_eq_none h] at h2; cases h2
    rw [Array.getElem?_append_left (by simpa using hlt)]
    simpa using h2
  · intro e a w hq
    have fin : ∀ E, Has N E a → ∀ vs, RetIs P w E rs vs → (results fn a.tmps).run P w = .ok (tupled vs) w := by
      intro E hE vs hv
      have h1 := mapM_ret hE rs vs hv
      unfold results
      rw [hrs]
      rw [List.mapM_toArray, Sem.run_bind]
      have h2 : ∀ (m : Sem (List Value)), m.run P w = .ok vs w → (List.toArray <$> m : Sem (Array Value)).run P w = .ok vs.toArray w := by
        intro m hm
        show Sem.run P (m >>= fun l => pure l.toArray) w = _
        rw [Sem.run_bind, hm, Result.andThen_ok, Sem.run_pure]
      refine (congrArg (fun r => Result.andThen r _) (h2 _ h1)).trans ?_
      rw [Result.andThen_ok]
      cases vs with
      | nil => simp [tupled]
      | cons x vs => cases vs <;> simp [tupled]
    cases e with
    | normal => obtain ⟨E, hE, vs, hv, hR⟩ := hq; exact ⟨hE.defers, _, fin E hE vs hv, hR⟩
    | ret => obtain ⟨E, hE, vs, hv, hR⟩ := hq; exact ⟨hE.defers, _, fin E hE vs hv, hR⟩
    | exit i => obtain ⟨E, hE, hK⟩ := hq; exact hK.elim
    | goto l => obtain ⟨E, hE, hK⟩ := hq; exact hK.elim
    | panic c => exact hq.elim
    | outgrown => exact hq.elim
end
end Go.Sx
