/- What is shown of the program on the way to the law. -/
import Derived.WalkKit
import Derived.Orders
import Derived.OrdersHeld
import Derived.Deep.Draws
import Derived.Deep.AppendSrc
import Derived.Maps.AppendAt
import Derived.Laws.AppendOwnNone
import Derived.Laws.CopyOwn
import Derived.Deep.Upon
import Derived.WideLaws
import Derived.Great.BuildSlice
import Derived.Lib.AppendZerosOnto
import Derived.Laws.IdiomStrings
import Derived.ChangeKeysEq
import Derived.Lib.Bytealg
import Derived.Deep.OwnRows
import Derived.Laws.OwnMore
import Derived.Laws.StructEq
import Derived.MapKept
import Derived.Test.YtkmljjhjojolcaaProg
import Derived.Carry
import Derived.SizedLaws
import Derived.ChangeSlices
import Derived.Lib.LaidTab
import Derived.Deep.Slices
set_option linter.unusedVariables false
set_option linter.unusedSimpArgs false
namespace Go.Lx
def Ck (n : Int) : Prop := -9223372036854775808 ≤ n ∧ n ≤ 9223372036854775807
def Rm (b n : Nat) : Prop := n * b ≤ 140737488355328
def cut {α : Type} (xs : List α) (lo hi : Int) : List α := (xs.drop lo.toNat).take (hi.toNat - lo.toNat)
def put {α : Type} (xs : List α) (i : Int) (x : α) : List α := xs.set i.toNat x
def shrI (m k : Int) : Int := m.fdiv (2 ^ (min k.toNat 64))
def andI (m n : Int) : Int := (BitVec.ofInt 64 m &&& BitVec.ofInt 64 n).toInt
def Jn0 (rest : Prop) (body : Prop → Prop) : Prop := ∃ J : Prop, (J → rest) ∧ body J
def Lp1 {S0 : Type} (body : S0 → (S0 → Prop) → Prop) (x0 : S0) : Prop := ∃ (I : Nat → S0 → Prop) (n : Nat), I n x0 ∧ ∀ n x0, I n x0 → body x0 (fun x0 => ∃ m, m < n ∧ I m x0)
def Jn1 {S0 : Type} (rest : S0 → Prop) (body : (S0 → Prop) → Prop) : Prop := ∃ J : S0 → Prop, (∀ x0, J x0 → rest x0) ∧ body J
def Lp2 {S0 S1 : Type} (body : S0 → S1 → (S0 → S1 → Prop) → Prop) (x0 : S0) (x1 : S1) : Prop := ∃ (I : Nat → S0 → S1 → Prop) (n : Nat), I n x0 x1 ∧ ∀ n x0 x1, I n x0 x1 → body x0 x1 (fun x0 x1 => ∃ m, m < n ∧ I m x0 x1)
def Jn2 {S0 S1 : Type} (rest : S0 → S1 → Prop) (body : (S0 → S1 → Prop) → Prop) : Prop := ∃ J : S0 → S1 → Prop, (∀ x0 x1, J x0 x1 → rest x0 x1) ∧ body J
def Lp3 {S0 S1 S2 : Type} (body : S0 → S1 → S2 → (S0 → S1 → S2 → Prop) → Prop) (x0 : S0) (x1 : S1) (x2 : S2) : Prop := ∃ (I : Nat → S0 → S1 → S2 → Prop) (n : Nat), I n x0 x1 x2 ∧ ∀ n x0 x1 x2, I n x0 x1 x2 → body x0 x1 x2 (fun x0 x1 x2 => ∃ m, m < n ∧ I m x0 x1 x2)
def Jn3 {S0 S1 S2 : Type} (rest : S0 → S1 → S2 → Prop) (body : (S0 → S1 → S2 → Prop) → Prop) : Prop := ∃ J : S0 → S1 → S2 → Prop, (∀ x0 x1 x2, J x0 x1 x2 → rest x0 x1 x2) ∧ body J
def Lp4 {S0 S1 S2 S3 : Type} (body : S0 → S1 → S2 → S3 → (S0 → S1 → S2 → S3 → Prop) → Prop) (x0 : S0) (x1 : S1) (x2 : S2) (x3 : S3) : Prop := ∃ (I : Nat → S0 → S1 → S2 → S3 → Prop) (n : Nat), I n x0 x1 x2 x3 ∧ ∀ n x0 x1 x2 x3, I n x0 x1 x2 x3 → body x0 x1 x2 x3 (fun x0 x1 x2 x3 => ∃ m, m < n ∧ I m x0 x1 x2 x3)
def Jn7 {S0 S1 S2 S3 S4 S5 S6 : Type} (rest : S0 → S1 → S2 → S3 → S4 → S5 → S6 → Prop) (body : (S0 → S1 → S2 → S3 → S4 → S5 → S6 → Prop) → Prop) : Prop := ∃ J : S0 → S1 → S2 → S3 → S4 → S5 → S6 → Prop, (∀ x0 x1 x2 x3 x4 x5 x6, J x0 x1 x2 x3 x4 x5 x6 → rest x0 x1 x2 x3 x4 x5 x6) ∧ body J
structure Str where
 b : List UInt8
 deriving DecidableEq, Inhabited
def At {α : Type} (xs : List α) (i : Int) (x : α) : Prop := 0 ≤ i ∧ xs[i.toNat]? = some x
theorem At.lt {α : Type} {xs : List α} {i : Int} {x : α} (h : At xs i x) : i < (xs.length : Int) := by
 have h1 := h.1
 have h2 := (List.getElem?_eq_some_iff.1 h.2).1
 omega
structure Arr (n : Nat) (α : Type) where
 l : List α
 deriving DecidableEq, Inhabited
theorem At.ltn {α : Type} {xs : List α} {i : Int} {x : α} {n : Nat} (h : At xs i x) (hn : xs.length = n) : i < (n : Int) := hn ▸ h.lt
theorem put_len {α : Type} {xs : List α} {i : Int} {y : α} {n : Nat} (h : xs.length = n) : (put xs i y).length = n := by rw [put, List.length_set, h]

end Go.Lx

namespace Go.Lx
def mget {α : Type} : List (Int × α) → Int → Option α
 | [], _ => none
 | (a, b) :: m, k => if k = a then some b else mget m k
def mput {α : Type} : List (Int × α) → Int → α → List (Int × α)
 | [], k, v => [(k, v)]
 | (a, b) :: m, k, v => if k = a then (a, v) :: m else (a, b) :: mput m k v
end Go.Lx

namespace Go.Sx
open Go

abbrev Env := List (Nat × Value)

def lookE : Env → Nat → Option Value
 | [], _ => none
 | (k, v) :: E, t => bif k == t then some v else lookE E t

structure Has (N : Nat) (E : Env) (a : Act) : Prop where
 defers : a.defers = []
 size : a.tmps.size = N
 slot : ∀ t v, lookE E t = some v → a.tmps[t]? = some v

def ev (E : Env) : Operand → Option Value
 | .tmp t => lookE E t
 | .const v => some v
 | .global g => some (.pointer (some ⟨g, 0, none⟩))
 | .func f => some (.func (.func f) #[] #[])

theorem Has.eval {N : Nat} {E : Env} {a : Act} {x : Operand} {v : Value} (h : Has N E a) (hx : ev E x = some v) : a.eval x = v := by
 cases x with
 | tmp t =>
  have := h.slot t v hx
  simp [Act.eval, Array.getD_eq_getD_getElem?, this]
 | const u => simpa [ev, Act.eval] using hx
 | global g => simpa [ev, Act.eval] using hx
 | func f => simpa [ev, Act.eval] using hx

def putE (E : Env) (d : Option Nat) (v : Value) : Env :=
 match d with
 | some t => (t, v) :: E
 | none => E

def fits (N : Nat) (d : Option Nat) : Bool :=
 match d with
 | some t => Nat.blt t N
 | none => true

theorem Has.put {N : Nat} {E : Env} {a : Act} (h : Has N E a) (d : Option Nat) (v : Value) (hd : fits N d = true) : Has N (putE E d v) (a.put d v) := by
 cases d with
 | none => exact h
 | some t =>
  have ht : t < N := by simpa [fits, Nat.blt_eq] using hd
  refine ⟨h.defers, by simp [Act.put, h.size], fun u x hx => ?_⟩
  simp only [putE, lookE] at hx
  by_cases e : t = u
  ·
   subst e
   simp at hx
   subst hx
   have : t < a.tmps.size := by rw [h.size]; exact ht
   simp [Act.put, this]
  ·
   have e' : (t == u) = false := by simpa using e
   simp only [e', cond_false] at hx
   simp [Act.put, e, h.slot u x hx]

def Sub : Env → Env → Prop
 | [], _ => True
 | (t, v) :: E', E => lookE E t = some v ∧ Sub E' E

theorem Sub.at_ {E' E : Env} (h : Sub E' E) : ∀ t v, lookE E' t = some v → lookE E t = some v := by
 induction E' with
 | nil => intro t v hx; cases hx
 | cons p E' ih =>
  obtain ⟨k, u⟩ := p
  intro t v hx
  simp only [lookE] at hx
  by_cases e : k = t
  ·
   subst e
   simp at hx
   subst hx
   exact h.1
  ·
   have e' : (k == t) = false := by simpa using e
   simp only [e', cond_false] at hx
   exact ih h.2 t v hx

theorem Has.sub {N : Nat} {E E' : Env} {a : Act} (h : Has N E a) (hs : Sub E' E) : Has N E' a := ⟨h.defers, h.size, fun t v hx => h.slot t v (hs.at_ t v hx)⟩

theorem Has.sub' {N : Nat} {E : Env} {a : Act} {t : Nat} {v : Value} (h : Has N E a) (hv : lookE E t = some v) : Has N ((t, v) :: E) a := by
 refine ⟨h.defers, h.size, fun u x hx => ?_⟩
 simp only [lookE] at hx
 by_cases e : t = u
 ·
  subst e; simp at hx; subst hx; exact h.slot _ _ hv
 ·
  have e' : (t == u) = false := by simpa using e
  simp only [e', cond_false] at hx
  exact h.slot u x hx

def pickE (E : Env) : List Nat → Env
 | [] => []
 | t :: ts => match lookE E t with
  | some v => (t, v) :: pickE E ts
  | none => pickE E ts

theorem pickE_sub (E : Env) (ts : List Nat) : Sub (pickE E ts) E := by
 induction ts with
 | nil => trivial
 | cons t ts ih =>
  unfold pickE
  split
  ·
   rename_i v hv; exact ⟨hv, ih⟩
  ·
   exact ih

def Runs (P : Program) (w : World) (E : Env) (o : Oper) (v : Value) : Prop := ∀ a N, Has N E a → (execOp a.eval o).run P w = .ok (.value v) w
def RunsTo (P : Program) (w : World) (E : Env) (o : Oper) (Φ : Value → World → Prop) : Prop :=
 ∀ a N, Has N E a → ∃ v w', Φ v w' ∧ ((execOp a.eval o).run P w = .ok (.value v) w' ∨ ((execOp a.eval o).run P w = .ok .skip w' ∧ v = undef))

abbrev Post := Exit → Env → World → Prop

def toQ (N : Nat) (K : Post) : Exit → Act → World → Prop
 | .panic _, _, _ => False
 | .outgrown, _, _ => False
 | e, a, w => ∃ E, Has N E a ∧ K e E w

def W (P : Program) (N : Nat) (c : Code) (E : Env) (w : World) (K : Post) : Prop := ∀ a, Has N E a → c.wp P (toQ N K) a w
def Dsts (ops : Array Oper) (ds : List (Option Nat)) : Prop := ∀ j : Nat, (ops[j]?).bind (fun o : Oper => o.dst) = (ds[j]?).bind id
def Ops (P : Program) (N : Nat) (ds : List (Option Nat)) (rest : List Oper) (E : Env) (w : World) (K : Post) : Prop := ∀ ops, Dsts ops ds → ∀ a, Has N E a → wpList P ops (toQ N K) rest a w

def thenP (K1 : Env → World → Prop) (K : Post) : Post
 | .normal, E, w => K1 E w
 | e, E, w => K e E w
def blockP (id : Nat) (K : Post) : Post
 | .exit i, E, w => if i = id then K .normal E w else K (.exit i) E w
 | e, E, w => K e E w

section
variable {P : Program} {N : Nat} {E : Env} {w : World} {K : Post}

theorem W.mono {c : Code} {K' : Post} (h : W P N c E w K) (hk : ∀ e E w, K e E w → K' e E w) : W P N c E w K' :=
 fun a ha => wp_mono (h a ha) fun e _ _ h => by
  cases e <;> first | exact h | (obtain ⟨E, hE, hK⟩ := h; exact ⟨E, hE, hk _ _ _ hK⟩)
theorem W_keep (ts : List Nat) {c : Code} (h : W P N c (pickE E ts) w K) : W P N c E w K := fun a ha => h a (ha.sub (pickE_sub E ts))
theorem W_sub {E' : Env} {c : Code} (hs : Sub E' E) (h : W P N c E' w K) : W P N c E w K := fun a ha => h a (ha.sub hs)
theorem W_skip (h : K .normal E w) : W P N .skip E w K := fun _ ha => wp_skip ⟨E, ha, h⟩
theorem W_ret (h : K .ret E w) : W P N .ret E w K := fun _ ha => wp_ret ⟨E, ha, h⟩
theorem W_exit {id : Nat} (h : K (.exit id) E w) : W P N (.exit id) E w K := fun _ ha => wp_exit ⟨E, ha, h⟩
theorem W_seq {x y : Code} (h : W P N x E w (thenP (fun E' w' => W P N y E' w' K) K)) : W P N (.seq x y) E w K :=
 fun a ha => wp_seq (wp_mono (h a ha) fun e a w h => by
  cases e with
  | normal => obtain ⟨E, hE, hK⟩ := h; exact hK a hE
  | _ => exact h)
theorem W_seq_k {x y : Code} (h : ∀ K1 : Env → World → Prop, (∀ E' w', W P N y E' w' K → K1 E' w') → W P N x E w (thenP K1 K)) : W P N (.seq x y) E w K :=
 W_seq (h _ fun _ _ h => h)
theorem W_block {id : Nat} {c : Code} (h : W P N c E w (blockP id K)) : W P N (.block id c) E w K :=
 fun a ha => wp_block (wp_mono (h a ha) fun e a w h => by
  cases e with
  | exit i =>
   obtain ⟨E, hE, hK⟩ := h
   simp only [blockP, Exit.inBlock] at *
   split
   ·
    rename_i hi; rw [if_pos hi] at hK; exact ⟨E, hE, hK⟩
   ·
    rename_i hi; rw [if_neg hi] at hK; exact ⟨E, hE, hK⟩
  | _ => exact h)
theorem W_cond {c : Operand} {x y : Code} {t : Bool} (hc : ev E c = some (.bool t)) (ht : t = true → W P N x E w K) (hf : t = false → W P N y E w K) : W P N (.cond c x y) E w K :=
 fun a ha => wp_cond_split (ha.eval hc) (fun h => ht h a ha) (fun h => hf h a ha)
theorem W_cond_true {c : Operand} {x y : Code} (hc : ev E c = some (.bool true)) (ht : W P N x E w K) : W P N (.cond c x y) E w K :=
 fun a ha => wp_cond_true (ha.eval hc) (ht a ha)
theorem W_cond_false {c : Operand} {x y : Code} (hc : ev E c = some (.bool false)) (ht : W P N y E w K) : W P N (.cond c x y) E w K :=
 fun a ha => wp_cond_false (ha.eval hc) (ht a ha)
theorem W_if {c : Operand} {x y : Code} {p : Prop} [Decidable p] (hc : ev E c = some (.bool (decide p))) (ht : p → W P N x E w K) (hf : ¬ p → W P N y E w K) : W P N (.cond c x y) E w K :=
 W_cond hc (fun h => ht (of_decide_eq_true h)) (fun h => hf (of_decide_eq_false h))

theorem W_loop {c : Code} (I : Nat → Env → World → Prop) (n : Nat) (h0 : I n E w)
  (round : ∀ n E' w', I n E' w' → W P N c E' w' (thenP (fun E2 w2 => ∃ m E3, m < n ∧ Sub E3 E2 ∧ I m E3 w2) K)) : W P N (.loop c) E w K := by
 intro a ha b k cs
 have key : ∀ n, ∀ E' w', I n E' w' → ∀ a, Has N E' a → ∃ e a' w2, toQ N K e a' w2 ∧ Arrives P (lone (b.at a (.code c :: .inLoop c :: k)) cs w') b k cs e a' w2 := by
  intro n
  induction n using Nat.strongRecOn with
  | _ n ih =>
   intro E' w' hI a ha
   obtain ⟨e, a₁, w₁, hq, harr⟩ := round n E' w' hI a ha b (.inLoop c :: k) cs
   cases e with
   | normal =>
    obtain ⟨E2, hE2, hK⟩ := hq
    obtain ⟨m, E3, hlt, hs, hI3⟩ := hK
    obtain ⟨e₂, a₂, w₂, hq₂, harr₂⟩ := ih m hlt E3 w₁ hI3 a₁ (hE2.sub hs)
    exact ⟨e₂, a₂, w₂, hq₂, .of_steps (Steps.trans harr (.one step_inLoop)) harr₂⟩
   | exit id => exact ⟨.exit id, a₁, w₁, hq, .pass (x := .inLoop c) rfl (fun _ _ => .inl (by simp)) harr⟩
   | goto l => exact ⟨.goto l, a₁, w₁, hq, .pass (x := .inLoop c) rfl (fun _ _ => .inl (by simp)) harr⟩
   | ret => exact ⟨.ret, a₁, w₁, hq, .pass (x := .inLoop c) rfl (fun _ _ => .inl (by simp)) harr⟩
   | panic ch => exact ⟨.panic ch, a₁, w₁, hq, .pass (x := .inLoop c) rfl (fun _ _ => .inl (by simp)) harr⟩
   | outgrown => exact ⟨.outgrown, a₁, w₁, hq, .pass (x := .inLoop c) rfl (fun _ _ => .inl (by simp)) harr⟩
 obtain ⟨e, a', w2, hq, harr⟩ := key n E w h0 a ha
 exact ⟨e, a', w2, hq, .of_steps (.one step_loop) harr⟩

theorem dsts_of (l : List Oper) : Dsts l.toArray (l.map (·.dst)) := fun j => by
 simp only [List.getElem?_toArray, List.getElem?_map]
 cases l[j]? <;> rfl
theorem W_region {id : Nat} {l : List Oper} (ds : List (Option Nat)) (hds : l.map (·.dst) = ds) (h : Ops P N ds l E w K) : W P N (.region id l.toArray false) E w K := fun a ha => wp_region_lit (h _ (hds ▸ dsts_of l) a ha)
theorem Ops_nil {ds : List (Option Nat)} (h : K .normal E w) : Ops P N ds [] E w K := fun _ _ _ ha => wpList_nil ⟨E, ha, h⟩

def wants (ds : List (Option Nat)) (E : Env) (g : Option (Nat × Bool)) : Option Bool :=
 match g with
 | none => some true
 | some (j, b) => match ds[j]? with
  | some (some t) => match lookE E t with
   | some (.bool c) => some (c == b)
   | _ => none
  | _ => none

theorem wants_spec {ops : Array Oper} {ds : List (Option Nat)} (hds : Dsts ops ds) {o : Oper} {b : Bool} {a : Act} (ha : Has N E a) (h : wants ds E o.guard = some b) : Region.wanted o (yielded ops a.tmps) = b := by
 unfold wants at h
 unfold Region.wanted
 split at h
 ·
  rename_i hg; rw [hg]; simpa using h
 ·
  rename_i j b' hg
  rw [hg]
  dsimp only
  have hd := hds j
  cases hj : ds[j]? with
  | none => rw [hj] at h; cases h
  | some d =>
   cases d with
   | none => rw [hj] at h; cases h
   | some t =>
    rw [hj] at h hd
    dsimp only at h
    cases hv : lookE E t with
    | none => rw [hv] at h; cases h
    | some v =>
     have := ha.slot t v hv
     rw [hv] at h
     unfold yielded
     rw [hd]
     simp only [Option.bind_some, id, this]
     cases v <;> simp at h ⊢
     exact h

section
variable {ds : List (Option Nat)} {rest : List Oper} {t : Nat} {op : Op} {ty : TypeId} {pos : String} {after : Array Edge} {guard : Option (Nat × Bool)}
theorem Ops_step {v : Value} (hr : Runs P w E ⟨some t, op, ty, pos, after, guard⟩ v) (hd : Nat.blt t N = true) (hg : wants ds E guard = some true)
  (h : Ops P N ds rest ((t, v) :: E) w K) : Ops P N ds (⟨some t, op, ty, pos, after, guard⟩ :: rest) E w K := fun ops hds a ha => by
 unfold wpList
 rw [wants_spec hds (o := ⟨some t, op, ty, pos, after, guard⟩) ha hg]
 refine .inl ?_
 unfold Oper.wp
 rw [hr a N ha]
 exact h ops hds _ (ha.put (some t) _ hd)
theorem Ops_to {Φ : Value → World → Prop} (hr : RunsTo P w E ⟨some t, op, ty, pos, after, guard⟩ Φ) (hd : Nat.blt t N = true) (hg : wants ds E guard = some true)
  (h : ∀ v w', Φ v w' → Ops P N ds rest ((t, v) :: E) w' K) : Ops P N ds (⟨some t, op, ty, pos, after, guard⟩ :: rest) E w K := fun ops hds a ha => by
 unfold wpList
 rw [wants_spec hds (o := ⟨some t, op, ty, pos, after, guard⟩) ha hg]
 refine .inl ?_
 unfold Oper.wp
 obtain ⟨v, w', hΦ, h1 | ⟨h1, rfl⟩⟩ := hr a N ha
 ·
  rw [h1]; exact h _ _ hΦ ops hds _ (ha.put (some t) _ hd)
 ·
  rw [h1]; exact h _ _ hΦ ops hds _ (ha.put (some t) _ hd)
theorem Ops_to0 {Φ : Value → World → Prop} (hr : RunsTo P w E ⟨none, op, ty, pos, after, guard⟩ Φ) (hg : wants ds E guard = some true)
  (h : ∀ v w', Φ v w' → Ops P N ds rest E w' K) : Ops P N ds (⟨none, op, ty, pos, after, guard⟩ :: rest) E w K := fun ops hds a ha => by
 unfold wpList
 rw [wants_spec hds (o := ⟨none, op, ty, pos, after, guard⟩) ha hg]
 refine .inl ?_
 unfold Oper.wp
 obtain ⟨v, w', hΦ, h1 | ⟨h1, rfl⟩⟩ := hr a N ha
 ·
  rw [h1]; exact h _ _ hΦ ops hds _ ha
 ·
  rw [h1]; exact h _ _ hΦ ops hds _ ha
theorem Ops_pass (hg : wants ds E guard = some false) (hd : Nat.blt t N = true)
  (h : Ops P N ds rest ((t, undef) :: E) w K) : Ops P N ds (⟨some t, op, ty, pos, after, guard⟩ :: rest) E w K := fun ops hds a ha => by
 unfold wpList
 rw [wants_spec hds (o := ⟨some t, op, ty, pos, after, guard⟩) ha hg]
 simp only [Bool.false_eq_true, if_false]
 exact h ops hds _ (ha.put (some t) _ hd)
def Enters (P : Program) (w : World) (E : Env) (o : Oper) (f : FuncId) (args : Array Value) : Prop :=
 ∀ a N, Has N E a → (execOp a.eval o).run P w = .ok (.enter f args) w

theorem Ops_call {f : FuncId} {args : Array Value} (hr : Enters P w E ⟨some t, op, ty, pos, after, guard⟩ f args) (hd : Nat.blt t N = true) (hg : wants ds E guard = some true)
  (h : Calls P f args w fun e w' => ∃ v, e = .returned v ∧ Ops P N ds rest ((t, v) :: E) w' K) : Ops P N ds (⟨some t, op, ty, pos, after, guard⟩ :: rest) E w K := fun ops hds a ha => by
 unfold wpList
 rw [wants_spec hds (o := ⟨some t, op, ty, pos, after, guard⟩) ha hg]
 refine .inl ?_
 unfold Oper.wp
 rw [hr a N ha]
 exact h.mono fun e w' ⟨v, he, hk⟩ => by subst he; exact hk ops hds _ (ha.put (some t) _ hd)
end

def args0 : List Value → Nat → Env
 | [], _ => []
 | v :: vs, i => (i, v) :: args0 vs (i + 1)

def RetIs (P : Program) (w : World) (E : Env) : List ResultVar → List Value → Prop
 | [], vs => vs = []
 | .tmp t :: rs, vs => ∃ v vs', vs = v :: vs' ∧ lookE E t = some v ∧ RetIs P w E rs vs'
 | .cell t ty :: rs, vs => ∃ v vs' p, vs = v :: vs' ∧ lookE E t = some (.pointer (some p)) ∧ (loadVar ty p).run P w = .ok v w ∧ RetIs P w E rs vs'

def tupled : List Value → Value
 | [v] => v
 | vs => .tuple vs.toArray

theorem mapM_ret {w : World} {E : Env} {N : Nat} {a : Act} (ha : Has N E a) : ∀ (rs : List ResultVar) (vs : List Value), RetIs P w E rs vs →
  (rs.mapM (m := Sem) fun | .tmp t => pure (a.tmps.getD t undef) | .cell p t => do loadVar t (← asAddr (a.tmps.getD p undef))).run P w = .ok vs w := by
 intro rs
 induction rs with
 | nil => intro vs h; simp only [RetIs] at h; subst h; rfl
 | cons r rs ih =>
  intro vs h
  cases r with
  | tmp t =>
   obtain ⟨v, vs', rfl, hl, hr⟩ := h
   have e : a.tmps.getD t undef = v := by simp [Array.getD_eq_getD_getElem?, ha.slot t v hl]
   have := ih vs' hr
   simp only [List.mapM_cons, Sem.run_bind, e, Sem.run_pure, Result.andThen_ok]
   rw [this]
   rfl
  | cell t ty =>
   obtain ⟨v, vs', p, rfl, hl, hr1, hr⟩ := h
   have e : asAddr (a.tmps.getD t undef) = pure p := by simp [Array.getD_eq_getD_getElem?, ha.slot t _ hl, asAddr]
   have := ih vs' hr
   simp only [List.mapM_cons, Sem.run_bind, e, Sem.run_pure, Result.andThen_ok, hr1]
   rw [this]
   rfl

def endK (P : Program) (rs : List ResultVar) (R : Ending → World → Prop) : Post
 | .normal, E, w | .ret, E, w => ∃ vs, RetIs P w E rs vs ∧ R (.returned (tupled vs)) w
 | _, _, _ => False

theorem calls_W {f : FuncId} {fn : Func} {c : Code} {args : List Value} {w : World} {R : Ending → World → Prop} (N : Nat) (hf : P.funcs[f]? = some fn) (hb : fn.body = some c) (hN : fn.ntmps = N) (hl0 : Nat.ble args.length N = true)
  (rs : List ResultVar) (hrs : fn.results = rs.toArray) (h : W P N c (args0 args 0) w (endK P rs R)) : Calls P f args.toArray w R := by
 have hl : args.length ≤ N := Nat.le_of_ble_eq_true hl0
 refine calls_of_wp hf hb (wp_mono (h _ ⟨rfl, by simp; omega, ?_⟩) ?_)
 ·
  intro t v hv
  have key : ∀ (l : List Value) (i : Nat), lookE (args0 l i) t = some v → i ≤ t ∧ l[t - i]? = some v := by
   intro l
   induction l with
   | nil => intro i h; cases h
   | cons x l ih =>
    intro i h
    simp only [args0, lookE] at h
    by_cases e : i = t
    ·
     subst e; simp at h; subst h; simp
    ·
     have e' : (i == t) = false := by simpa using e
     simp only [e', cond_false] at h
     obtain ⟨h1, h2⟩ := ih _ h
     refine ⟨by omega, ?_⟩
     have : t - i = (t - (i + 1)) + 1 := by omega
     rw [this, List.getElem?_cons_succ]; exact h2
  obtain ⟨_, h2⟩ := key args 0 hv
  have hlt : t < args.length := by
   rcases Nat.lt_or_ge t args.length with h | h
   ·
    exact h
   ·
    rw [Nat.sub_zero, List.getElem?_eq_none h] at h2; cases h2
  rw [Array.getElem?_append_left (by simpa using hlt)]
  simpa using h2
 ·
  intro e a w hq
  have fin : ∀ E, Has N E a → ∀ vs, RetIs P w E rs vs → (results fn a.tmps).run P w = .ok (tupled vs) w := by
   intro E hE vs hv
   have h1 := mapM_ret hE rs vs hv
   unfold results
   rw [hrs]
   rw [List.mapM_toArray, Sem.run_bind]
   have h2 : ∀ (m : Sem (List Value)), m.run P w = .ok vs w → (List.toArray <$> m : Sem (Array Value)).run P w = .ok vs.toArray w := by
    intro m hm
    show Sem.run P (m >>= fun l => pure l.toArray) w = _
    rw [Sem.run_bind, hm, Result.andThen_ok, Sem.run_pure]
   refine (congrArg (fun r => Result.andThen r _) (h2 _ h1)).trans ?_
   rw [Result.andThen_ok]
   cases vs with
   | nil => simp [tupled]
   | cons x vs => cases vs <;> simp [tupled]
  cases e with
  | normal => obtain ⟨E, hE, vs, hv, hR⟩ := hq; exact ⟨hE.defers, _, fin E hE vs hv, hR⟩
  | ret => obtain ⟨E, hE, vs, hv, hR⟩ := hq; exact ⟨hE.defers, _, fin E hE vs hv, hR⟩
  | exit i => obtain ⟨E, hE, hK⟩ := hq; exact hK.elim
  | goto l => obtain ⟨E, hE, hK⟩ := hq; exact hK.elim
  | panic c => exact hq.elim
  | outgrown => exact hq.elim
end
end Go.Sx

namespace Go.Sx
open Go

section
variable {P : Program} {ops : Array Oper} {Q : Exit → Act → World → Prop}

inductive Reach (ops : Array Oper) : Nat → Nat → Prop
 | one {j i : Nat} {o : Oper} {e : Edge} : ops[j]? = some o → e ∈ o.after → Region.binds .any e = true → e.on = i → Reach ops j i
 | more {j i : Nat} {o : Oper} {e : Edge} : ops[j]? = some o → e ∈ o.after → Region.binds .any e = true → Reach ops e.on i → Reach ops j i

def Down (ops : Array Oper) (listed : Array Bool) : Prop :=
 ∀ k o e, ops[k]? = some o → listed.getD k false = true → e ∈ o.after → Region.binds .any e = true → listed.getD e.on false = true

theorem Reach.listed {listed : Array Bool} (hd : Down ops listed) {j i : Nat} (h : Reach ops j i) :
  (∀ o e, ops[j]? = some o → e ∈ o.after → Region.binds .any e = true → listed.getD e.on false = true) → listed.getD i false = true := by
 induction h with
 | one ho he hb hi => intro hj; subst hi; exact hj _ _ ho he hb
 | more ho he hb _ ih => intro hj; exact ih fun o' e' ho' he' hb' => hd _ _ _ ho' (hj _ _ ho he hb) he' hb'

theorem Down.set {listed : Array Bool} (hd : Down ops listed) {j : Nat} (hj : j ∈ Region.ready .any ops listed) : Down ops (listed.setIfInBounds j true) := by
 intro k o e ho hk he hb
 by_cases hjk : j = k
 ·
  subst hjk
  obtain ⟨_, o', ho', hall⟩ := mem_ready.1 hj
  rw [ho] at ho'
  cases ho'
  exact getD_set_true (hall e he hb)
 ·
  rw [getD_set_ne false hjk] at hk
  exact getD_set_true (hd k o e ho hk he hb)

theorem Down.start (n : Nat) : Down ops (Array.replicate n false) := by
 intro k o e _ hk
 exfalso
 rcases Nat.lt_or_ge k n with h | h
 ·
  simp [h] at hk
 ·
  simp [Nat.not_lt.2 h] at hk

theorem foldl_bits (acc : Array Nat) : ∀ (l : List Edge) (s i : Nat), (l.foldl (fun s e => if Region.binds .any e then s ||| 2 ^ e.on ||| acc.getD e.on 0 else s) s).testBit i = true →
  s.testBit i = true ∨ ∃ e ∈ l, Region.binds .any e = true ∧ (e.on = i ∨ (acc.getD e.on 0).testBit i = true) := by
 intro l
 induction l with
 | nil => intro s i h; exact .inl h
 | cons e l ih =>
  intro s i h
  rw [List.foldl_cons] at h
  rcases ih _ i h with h1 | ⟨e', he', hb, hh⟩
  ·
   by_cases hb : Region.binds .any e = true
   ·
    rw [if_pos hb, Nat.testBit_or, Nat.testBit_or, Bool.or_eq_true, Bool.or_eq_true] at h1
    rcases h1 with (h1 | h1) | h1
    ·
     exact .inl h1
    ·
     rw [Nat.testBit_two_pow] at h1
     exact .inr ⟨e, List.mem_cons_self .., hb, .inl (by simpa using h1)⟩
    ·
     exact .inr ⟨e, List.mem_cons_self .., hb, .inr h1⟩
   ·
    rw [if_neg hb] at h1; exact .inl h1
  ·
   exact .inr ⟨e', List.mem_cons_of_mem _ he', hb, hh⟩

theorem before_list : ∀ (l : List Oper) (acc : Array Nat) , (∀ j, j < l.length → ops[acc.size + j]? = l[j]?) →
  (∀ j i, (acc.getD j 0).testBit i = true → Reach ops j i) →
  ∀ j i, ((l.foldl (fun acc o => acc.push (o.after.foldl (fun s e => if Region.binds .any e then s ||| 2 ^ e.on ||| acc.getD e.on 0 else s) 0)) acc).getD j 0).testBit i = true → Reach ops j i := by
 intro l
 induction l with
 | nil => intro acc _ hacc; exact hacc
 | cons o l ih =>
  intro acc hl hacc
  rw [List.foldl_cons]
  refine ih _ ?_ ?_
  ·
   intro j hj
   have := hl (j + 1) (by simpa using hj)
   rw [List.getElem?_cons_succ] at this
   rw [← this]
   congr 1
   simp; omega
  ·
   intro j i h
   have ho : ops[acc.size]? = some o := by simpa using hl 0 (by simp)
   simp only [Array.getD_eq_getD_getElem?, Array.getElem?_push] at h
   split at h
   ·
    rename_i hj
    subst hj
    rw [Option.getD_some, ← Array.foldl_toList] at h
    rcases foldl_bits acc o.after.toList 0 i (by simpa [Array.getD_eq_getD_getElem?] using h) with h0 | ⟨e, he, hb, h1 | h1⟩
    ·
     simp at h0
    ·
     exact .one ho (Array.mem_toList_iff.1 he) hb h1
    ·
     exact .more ho (Array.mem_toList_iff.1 he) hb (hacc _ _ h1)
   ·
    exact hacc j i (by simpa [Array.getD_eq_getD_getElem?] using h)

def waits (ops : Array Oper) (j i : Nat) : Bool := ((Region.before ops).getD j 0).testBit i

theorem waits_reach {j i : Nat} (h : waits ops j i = true) : Reach ops j i := by
 unfold waits Region.before at h
 rw [← Array.foldl_toList] at h
 exact before_list ops.toList #[] (fun j _ => by simp) (fun j i h => by simp at h) j i h

abbrev Facts := List (Nat × (World → Prop))

def drop (ops : Array Oper) (j : Nat) (T : Facts) : Facts := T.filter fun p => !waits ops j p.1
def All (T : Facts) (w : World) : Prop := ∀ p ∈ T, p.2 w

def wpT (P : Program) (ops : Array Oper) (Q : Exit → Act → World → Prop) : Facts → Nat → Array Bool → Act → World → Prop
 | _, 0, listed, a, w => Region.ready .any ops listed = [] ∧ Q .normal a w
 | T, fuel + 1, listed, a, w =>
  (Region.ready .any ops listed = [] → Q .normal a w) ∧
  ∀ j ∈ Region.ready .any ops listed, wpOp P ops Q j (fun a' w' => All (drop ops j T) w' ∧ wpT P ops Q (drop ops j T) fuel (listed.setIfInBounds j true) a' w') a w

theorem wpAny_of_T : ∀ (fuel : Nat) (T : Facts) (listed : Array Bool) (a : Act) (w : World), wpT P ops Q T fuel listed a w → wpAny P .any ops Q fuel listed a w
 | 0, _, _, _, _, h => h
 | fuel + 1, _, _, _, _, h => ⟨h.1, fun i hi => wpOp_mono (fun _ _ h' => wpAny_of_T fuel _ _ _ _ h'.2) (h.2 i hi)⟩

theorem wpT_sub : ∀ (fuel : Nat) (T T' : Facts) (listed : Array Bool) (a : Act) (w : World), (∀ p ∈ T', p ∈ T) → wpT P ops Q T fuel listed a w → wpT P ops Q T' fuel listed a w
 | 0, _, _, _, _, _, _, h => h
 | fuel + 1, T, T', _, _, _, hs, h => ⟨h.1, fun j hj => by
   have hs' : ∀ p ∈ drop ops j T', p ∈ drop ops j T := fun p hp => by
    unfold drop at *
    rw [List.mem_filter] at *
    exact ⟨hs p hp.1, hp.2⟩
   exact wpOp_mono (fun a' w' h' => ⟨fun p hp => h'.1 p (hs' p hp), wpT_sub fuel _ _ _ _ _ hs' h'.2⟩) (h.2 j hj)⟩

theorem wpT_first {F : World → Prop} {i : Nat} {oi : Oper} {v : Value} (hi : ops[i]? = some oi) (hsel : ∀ (j : Nat) (o : Oper) cs b, ops[j]? = some o → o.op ≠ .select cs b)
  (hQ : ∀ c a w, ¬ Q (.panic c) a w) :
  ∀ (fuel : Nat) (T : Facts) (listed : Array Bool) (a : Act) (w : World), Down ops listed →
   (∀ j oj, ops[j]? = some oj → j ≠ i → listed.getD j true = false → (∀ e ∈ oj.after, Region.binds .any e = true → e.on ≠ i) → oi.apart ops oj = true) →
   i ∈ Region.ready .any ops listed → YieldsIf P ops F oi v a → F w → All T w →
   wpT P ops Q ((i, F) :: T) fuel (listed.setIfInBounds i true) (a.put oi.dst v) w → wpT P ops Q T (fuel + 1) listed a w := by
 intro fuel
 induction fuel with
 | zero =>
  intro T listed a w hd _ hr hy hF hT H
  refine ⟨fun h => (by rw [h] at hr; cases hr), fun j hj => ?_⟩
  by_cases hji : j = i
  ·
   subst hji
   exact hy.wpOp hi hF ⟨fun p hp => hT p (List.mem_filter.1 hp).1, H.1, H.2⟩
  ·
   have := ready_mono hj hji
   rw [H.1] at this
   cases this
 | succ fuel ih =>
  intro T listed a w hd hfree hr hy hF hT H
  refine ⟨fun h => (by rw [h] at hr; cases hr), fun j hj => ?_⟩
  by_cases hji : j = i
  ·
   subst hji
   exact hy.wpOp hi hF ⟨fun p hp => hT p (List.mem_filter.1 hp).1, wpT_sub _ _ _ _ _ _ (fun p hp => List.mem_cons_of_mem _ (List.mem_filter.1 hp).1) H⟩
  ·
   have h1 := H.2 j (ready_mono hj hji)
   obtain ⟨hjun, oj, hoj, hall⟩ := mem_ready.1 hj
   have hin : listed.getD i false = false := by
    have h0 := (mem_ready.1 hr).1
    rcases Nat.lt_or_ge i listed.size with h' | h'
    ·
     simpa [h'] using h0
    ·
     simp [h']
   have hnot : ∀ e ∈ oj.after, Region.binds .any e = true → e.on ≠ i := fun e he hb heq => by
    have h2 := hall e he hb
    rw [heq, hin] at h2
    cases h2
   have hnw : waits ops j i = false := by
    cases hw : waits ops j i with
    | false => rfl
    | true =>
     have := (waits_reach hw).listed hd (fun o e ho he hb => by rw [hoj] at ho; cases ho; exact hall e he hb)
     rw [hin] at this
     cases this
   have hdrop : drop ops j ((i, F) :: T) = (i, F) :: drop ops j T := by simp [drop, hnw]
   rw [hdrop] at h1
   have h2 := wpOp_putIf hoj (hfree j oj hoj hji hjun hnot) (fun cs b => hsel i oi cs b hi) (fun cs b => hsel j oj cs b hoj) (fun c a w h => absurd h (hQ c _ w)) hy h1
   have hfree' : ∀ k ok, ops[k]? = some ok → k ≠ i → (listed.setIfInBounds j true).getD k true = false →
     (∀ e ∈ ok.after, Region.binds .any e = true → e.on ≠ i) → oi.apart ops ok = true := fun k ok hk hki hun hno => by
    refine hfree k ok hk hki ?_ hno
    by_cases hjk : j = k
    ·
     subst hjk; exact hjun
    ·
     rw [getD_set_ne true hjk] at hun; exact hun
   refine wpOp_mono (fun a' w' h3 => ?_) h2
   have hA : All (drop ops j T) w' := fun p hp => h3.2.1 p (List.mem_cons_of_mem _ hp)
   refine ⟨hA, ih _ (listed.setIfInBounds j true) a' w' (hd.set hj) hfree' (ready_mono hr (Ne.symm hji)) h3.1 (h3.2.1 _ (List.mem_cons_self ..)) hA ?_⟩
   rw [Array.setIfInBounds_comm _ _ hji]
   exact h3.2.2
end

theorem wpT_true {P : Program} {ops : Array Oper} {Q : Exit → Act → World → Prop} {i : Nat} : ∀ (fuel : Nat) (T : Facts) (listed : Array Bool) (a : Act) (w : World), wpT P ops Q T fuel listed a w → wpT P ops Q ((i, fun _ => True) :: T) fuel listed a w
 | 0, _, _, _, _, h => h
 | fuel + 1, T, _, _, _, h => ⟨h.1, fun j hj => by
   refine wpOp_mono (fun a' w' h' => ?_) (h.2 j hj)
   by_cases hw : waits ops j i = true
   ·
    have e : drop ops j ((i, fun _ => True) :: T) = drop ops j T := by simp [drop, hw]
    rw [e]; exact h'
   ·
    have e : drop ops j ((i, fun _ => True) :: T) = (i, fun _ => True) :: drop ops j T := by simp [drop, hw]
    rw [e]
    refine ⟨fun p hp => ?_, wpT_true fuel _ _ _ _ h'.2⟩
    cases List.mem_cons.1 hp with
    | inl h => subst h; trivial
    | inr h => exact h'.1 p h⟩

inductive Sch where
 | done : Sch
 | q : Nat → Sch → Sch
 | l : Nat → Sch → Sch
 | two : Nat → Sch → Nat → Sch → Sch
 | three : Nat → Sch → Nat → Sch → Nat → Sch → Sch
inductive Todo where
 | done : Todo
 | quiet : Nat → Oper → Todo → Todo
 | loud : Nat → Oper → Todo → Todo
 | two : Nat → Oper → Todo → Nat → Oper → Todo → Todo
 | three : Nat → Oper → Todo → Nat → Oper → Todo → Nat → Oper → Todo → Todo
def Sch.len : Sch → Nat
 | .done => 0
 | .q _ s => s.len + 1
 | .l _ s => s.len + 1
 | .two _ s _ _ => s.len + 1
 | .three _ s _ _ _ _ => s.len + 1
def Todo.len : Todo → Nat
 | .done => 0
 | .quiet _ _ s => s.len + 1
 | .loud _ _ s => s.len + 1
 | .two _ _ s _ _ _ => s.len + 1
 | .three _ _ s _ _ _ _ _ _ => s.len + 1
def Sch.ofList : List (Nat × Bool) → Sch
 | [] => .done
 | (i, true) :: s => .q i (Sch.ofList s)
 | (i, false) :: s => .l i (Sch.ofList s)
def nth : List Oper → Nat → Oper
 | o :: _, 0 => o
 | _ :: l, n + 1 => nth l n
 | [], _ => default
def todoOf (l : List Oper) : Sch → Todo
 | .done => .done
 | .q i s => .quiet i (nth l i) (todoOf l s)
 | .l i s => .loud i (nth l i) (todoOf l s)
 | .two i s j s' => .two i (nth l i) (todoOf l s) j (nth l j) (todoOf l s')
 | .three i s j s' k s2 => .three i (nth l i) (todoOf l s) j (nth l j) (todoOf l s') k (nth l k) (todoOf l s2)

def schedB (ops : Array Oper) : Sch → Array Bool → Bool
 | .done, listed => (Region.ready .any ops listed).isEmpty
 | .q i s, listed => Nat.blt i ops.size && (Region.free .any ops listed i && (Region.ready .any ops listed).contains i) && schedB ops s (listed.setIfInBounds i true)
 | .l i s, listed => Nat.blt i ops.size && (Region.ready .any ops listed == [i]) && schedB ops s (listed.setIfInBounds i true)
 | .two i s j s', listed => Nat.blt i ops.size && Nat.blt j ops.size && (Region.ready .any ops listed == [i, j]) && (s'.len == s.len) && schedB ops s (listed.setIfInBounds i true) && schedB ops s' (listed.setIfInBounds j true)
 | .three i s j s' k s2, listed => Nat.blt i ops.size && Nat.blt j ops.size && Nat.blt k ops.size && (Region.ready .any ops listed == [i, j, k]) && (s'.len == s.len) && (s2.len == s.len) && schedB ops s (listed.setIfInBounds i true) && schedB ops s' (listed.setIfInBounds j true) && schedB ops s2 (listed.setIfInBounds k true)

def Fits (ops : Array Oper) : Todo → Array Bool → Prop
 | .done, listed => Region.ready .any ops listed = []
 | .quiet i o s, listed => ops[i]? = some o ∧ (Region.free .any ops listed i = true ∧ i ∈ Region.ready .any ops listed) ∧ Fits ops s (listed.setIfInBounds i true)
 | .loud i o s, listed => ops[i]? = some o ∧ Region.ready .any ops listed = [i] ∧ Fits ops s (listed.setIfInBounds i true)
 | .two i o s j o' s', listed => ops[i]? = some o ∧ ops[j]? = some o' ∧ Region.ready .any ops listed = [i, j] ∧ s'.len = s.len ∧ Fits ops s (listed.setIfInBounds i true) ∧ Fits ops s' (listed.setIfInBounds j true)
 | .three i o s j o' s' k o2 s2, listed => ops[i]? = some o ∧ ops[j]? = some o' ∧ ops[k]? = some o2 ∧ Region.ready .any ops listed = [i, j, k] ∧ s'.len = s.len ∧ s2.len = s.len ∧ Fits ops s (listed.setIfInBounds i true) ∧ Fits ops s' (listed.setIfInBounds j true) ∧ Fits ops s2 (listed.setIfInBounds k true)

theorem nth_spec : ∀ (l : List Oper) (i : Nat), i < l.length → l[i]? = some (nth l i)
 | [], i, h => by simp at h
 | o :: l, 0, _ => rfl
 | o :: l, n + 1, h => by rw [List.getElem?_cons_succ]; exact nth_spec l n (by simpa using h)
theorem todo_length (l : List Oper) : ∀ s, (todoOf l s).len = s.len
 | .done => rfl
 | .q i s => by simp [todoOf, Todo.len, Sch.len, todo_length l s]
 | .l i s => by simp [todoOf, Todo.len, Sch.len, todo_length l s]
 | .two i s j s' => by simp [todoOf, Todo.len, Sch.len, todo_length l s]
 | .three i s j s' k s2 => by simp [todoOf, Todo.len, Sch.len, todo_length l s]
theorem nth_arr (l : List Oper) {i : Nat} (h : Nat.blt i l.toArray.size = true) : l.toArray[i]? = some (nth l i) := by
 simpa using nth_spec l i (by simpa [Nat.blt_eq] using h)
theorem fits_of (l : List Oper) : ∀ (s : Sch) (listed : Array Bool), schedB l.toArray s listed = true → Fits l.toArray (todoOf l s) listed
 | .done, listed, h => by simpa [schedB, Fits, todoOf] using h
 | .q i s, listed, h => by
  simp only [schedB, Bool.and_eq_true] at h
  obtain ⟨⟨h0, h1⟩, h2⟩ := h
  exact ⟨nth_arr l h0, by simpa using h1, fits_of l s _ h2⟩
 | .l i s, listed, h => by
  simp only [schedB, Bool.and_eq_true] at h
  obtain ⟨⟨h0, h1⟩, h2⟩ := h
  exact ⟨nth_arr l h0, by simpa using h1, fits_of l s _ h2⟩
 | .two i s j s', listed, h => by
  simp only [schedB, Bool.and_eq_true] at h
  obtain ⟨⟨⟨⟨⟨h0, h1⟩, h2⟩, h3⟩, h4⟩, h5⟩ := h
  exact ⟨nth_arr l h0, nth_arr l h1, by simpa using h2, by simpa [todo_length] using h3, fits_of l s _ h4, fits_of l s' _ h5⟩
 | .three i s j s' k s2, listed, h => by
  simp only [schedB, Bool.and_eq_true] at h
  obtain ⟨⟨⟨⟨⟨⟨⟨⟨h0, h1⟩, h2⟩, h3⟩, h4⟩, h5⟩, h6⟩, h7⟩, h8⟩ := h
  exact ⟨nth_arr l h0, nth_arr l h1, nth_arr l h2, by simpa using h3, by simpa [todo_length] using h4, by simpa [todo_length] using h5, fits_of l s _ h6, fits_of l s' _ h7, fits_of l s2 _ h8⟩

def HS (P : Program) (N : Nat) (ops : Array Oper) (ds : List (Option Nat)) (T : Facts) (s : Todo) (E : Env) (w : World) (K : Post) : Prop :=
 ∀ a listed, Has N E a → Dsts ops ds → Down ops listed → All T w → Fits ops s listed → Region.noSelect ops = true → wpT P ops (toQ N K) T s.len listed a w
def Stp (P : Program) (N : Nat) (ops : Array Oper) (ds : List (Option Nat)) (T : Facts) (i : Nat) (o : Oper) (s : Todo) (E : Env) (w : World) (K : Post) : Prop :=
 ∀ a listed, Has N E a → Dsts ops ds → Down ops listed → All T w → ops[i]? = some o → i ∈ Region.ready .any ops listed → Fits ops s (listed.setIfInBounds i true) → Region.noSelect ops = true →
  wpOp P ops (toQ N K) i (fun a' w' => All (drop ops i T) w' ∧ wpT P ops (toQ N K) (drop ops i T) s.len (listed.setIfInBounds i true) a' w') a w

section
variable {P : Program} {N : Nat} {ops : Array Oper} {ds : List (Option Nat)} {T : Facts} {s s' s2 : Todo} {E : Env} {w : World} {K : Post}

theorem W_draw {id : Nat} {l : List Oper} (ds : List (Option Nat)) (s : Sch) (hm : P.follows .mixedOrders = true) (hds : l.map (·.dst) = ds) (hs : (schedB l.toArray s (Array.replicate l.toArray.size false) && Region.noSelect l.toArray && (s.len == l.toArray.size)) = true)
  (h : ∀ ops, ops = l.toArray → HS P N ops ds [] (todoOf l s) E w.drew K) : W P N (.region id l.toArray true) E w K := fun a ha => by
 simp only [Bool.and_eq_true, beq_iff_eq] at hs
 have h1 := h _ rfl a (Array.replicate l.toArray.size false) ha (hds ▸ dsts_of l) (Down.start _) (fun p hp => by cases hp) (fits_of l s _ hs.1.1) hs.1.2
 rw [todo_length, hs.2] at h1
 exact wp_region_any hm (wpAny_of_T _ _ _ _ _ h1)

theorem HS_nil (h : K .normal E w) : HS P N ops ds T .done E w K := fun a _ ha _ _ _ hs _ => ⟨hs, E, ha, h⟩

variable {t : Nat} {op : Op} {ty : TypeId} {pos : String} {after : Array Edge} {guard : Option (Nat × Bool)} {i j k : Nat} {o o' o2 : Oper}

theorem HS_loud (h : Stp P N ops ds T i o s E w K) : HS P N ops ds T (.loud i o s) E w K := fun a listed ha hds hdn hT hs hsel => by
 obtain ⟨ho, hr1, hs⟩ := hs
 refine ⟨fun h0 => absurd (hr1 ▸ h0) (by simp), fun j hj => ?_⟩
 rw [hr1] at hj
 obtain rfl : j = i := by simpa using hj
 exact h a listed ha hds hdn hT ho (by rw [hr1]; exact List.mem_singleton.2 rfl) hs hsel
theorem HS_two (h : Stp P N ops ds T i o s E w K) (h' : Stp P N ops ds T j o' s' E w K) : HS P N ops ds T (.two i o s j o' s') E w K := fun a listed ha hds hdn hT hs hsel => by
 obtain ⟨ho, ho', hr1, hl, hs, hs'⟩ := hs
 refine ⟨fun h0 => absurd (hr1 ▸ h0) (by simp), fun m hm => ?_⟩
 rw [hr1] at hm
 rcases List.mem_cons.1 hm with rfl | hm
 ·
  exact h a listed ha hds hdn hT ho (by rw [hr1]; simp) hs hsel
 ·
  obtain rfl : m = j := by simpa using hm
  have := h' a listed ha hds hdn hT ho' (by rw [hr1]; simp) hs' hsel
  rw [hl] at this
  exact this
theorem HS_held {v : Value} (F : World → Prop) (hy : ∀ w', F w' → Runs P w' E ⟨some t, op, ty, pos, after, guard⟩ v) (hF : F w) (hd : Nat.blt t N = true) (hg : wants ds E guard = some true)
  (h : HS P N ops ds ((i, F) :: T) s ((t, v) :: E) w K) : HS P N ops ds T (.quiet i ⟨some t, op, ty, pos, after, guard⟩ s) E w K := fun a listed ha hds hdn hT hs hsel => by
 obtain ⟨ho, hs1, hs⟩ := hs
 obtain ⟨hf, hr'⟩ := hs1
 refine wpT_first (Q := toQ N K) ho (Region.noSelect_spec hsel) (fun _ _ _ h => h) s.len T listed a w hdn (Region.free_spec ho hf) hr' (.inl ⟨wants_spec hds (o := ⟨some t, op, ty, pos, after, guard⟩) ha hg, fun w' hw' => hy w' hw' a N ha⟩) hF hT ?_
 refine h _ _ (ha.put (some t) _ hd) hds (hdn.set hr') (fun p hp => ?_) hs hsel
 cases List.mem_cons.1 hp with
 | inl e => subst e; exact hF
 | inr e => exact hT p e

theorem HS_pure {v : Value} (hy : ∀ w', Runs P w' E ⟨some t, op, ty, pos, after, guard⟩ v) (hd : Nat.blt t N = true) (hg : wants ds E guard = some true)
  (h : HS P N ops ds T s ((t, v) :: E) w K) : HS P N ops ds T (.quiet i ⟨some t, op, ty, pos, after, guard⟩ s) E w K := fun a listed ha hds hdn hT hs hsel => by
 obtain ⟨ho, hs1, hs⟩ := hs
 obtain ⟨hf, hr'⟩ := hs1
 have h1 := h _ _ (ha.put (some t) _ hd) hds (hdn.set hr') hT hs hsel
 have h2 := wpT_first (P := P) (F := fun _ => True) (Q := toQ N K) ho (Region.noSelect_spec hsel) (fun _ _ _ h => h) s.len T listed a w hdn (Region.free_spec ho hf) hr' (.inl ⟨wants_spec hds (o := ⟨some t, op, ty, pos, after, guard⟩) ha hg, fun w' _ => hy w' a N ha⟩) trivial hT
 exact h2 (wpT_true _ _ _ _ _ h1)

theorem HS_pass (hg : wants ds E guard = some false) (hd : Nat.blt t N = true)
  (h : HS P N ops ds T s ((t, undef) :: E) w K) : HS P N ops ds T (.quiet i ⟨some t, op, ty, pos, after, guard⟩ s) E w K := fun a listed ha hds hdn hT hs hsel => by
 obtain ⟨ho, hs1, hs⟩ := hs
 obtain ⟨hf, hr'⟩ := hs1
 have h1 := h _ _ (ha.put (some t) _ hd) hds (hdn.set hr') hT hs hsel
 have h2 := wpT_first (P := P) (F := fun _ => True) (Q := toQ N K) ho (Region.noSelect_spec hsel) (fun _ _ _ h => h) s.len T listed a w hdn (Region.free_spec ho hf) hr' (.inr ⟨wants_spec hds (o := ⟨some t, op, ty, pos, after, guard⟩) ha hg, rfl⟩) trivial hT
 exact h2 (wpT_true _ _ _ _ _ h1)
theorem Stp_passL (hg : wants ds E guard = some false) (hd : Nat.blt t N = true)
  (h : HS P N ops ds (drop ops i T) s ((t, undef) :: E) w K) : Stp P N ops ds T i ⟨some t, op, ty, pos, after, guard⟩ s E w K := fun a listed ha hds hdn hT ho hr hs hsel => by
 have hdn' : Down ops (listed.setIfInBounds i true) := hdn.set hr
 have hA : All (drop ops i T) w := fun p hp => hT p (List.mem_filter.1 hp).1
 unfold wpOp
 simp only [ho, wants_spec hds (o := ⟨some t, op, ty, pos, after, guard⟩) ha hg]
 rw [if_neg (by simp)]
 exact ⟨hA, h _ _ (ha.put (some t) _ hd) hds hdn' hA hs hsel⟩
theorem HS_passL (hg : wants ds E guard = some false) (hd : Nat.blt t N = true)
  (h : HS P N ops ds (drop ops i T) s ((t, undef) :: E) w K) : HS P N ops ds T (.loud i ⟨some t, op, ty, pos, after, guard⟩ s) E w K := HS_loud (Stp_passL hg hd h)

theorem Stp_to' {dst : Option Nat} {Φ : Value → World → Prop} (hr : RunsTo P w E ⟨dst, op, ty, pos, after, guard⟩ Φ) (hd : fits N dst = true) (hg : wants ds E guard = some true)
  (h : ∀ v w', Φ v w' → All (drop ops i T) w' ∧ HS P N ops ds (drop ops i T) s (putE E dst v) w' K) : Stp P N ops ds T i ⟨dst, op, ty, pos, after, guard⟩ s E w K := fun a listed ha hds hdn hT ho hrd hs hsel => by
 have hdn' : Down ops (listed.setIfInBounds i true) := hdn.set hrd
 unfold wpOp
 simp only [ho, wants_spec hds (o := ⟨dst, op, ty, pos, after, guard⟩) ha hg, if_true]
 refine .inl ?_
 unfold Oper.wp
 obtain ⟨v, w', hΦ, h1 | ⟨h1, rfl⟩⟩ := hr a N ha
 ·
  rw [h1]; exact ⟨(h _ _ hΦ).1, (h _ _ hΦ).2 _ _ (ha.put dst _ hd) hds hdn' (h _ _ hΦ).1 hs hsel⟩
 ·
  rw [h1]; exact ⟨(h _ _ hΦ).1, (h _ _ hΦ).2 _ _ (ha.put dst _ hd) hds hdn' (h _ _ hΦ).1 hs hsel⟩

theorem Stp_call' {dst : Option Nat} {f : FuncId} {args : Array Value} (hr : Enters P w E ⟨dst, op, ty, pos, after, guard⟩ f args) (hd : fits N dst = true) (hg : wants ds E guard = some true)
  (h : Calls P f args w fun e w' => ∃ v, e = .returned v ∧ All (drop ops i T) w' ∧ HS P N ops ds (drop ops i T) s (putE E dst v) w' K) : Stp P N ops ds T i ⟨dst, op, ty, pos, after, guard⟩ s E w K := fun a listed ha hds hdn hT ho hrd hs hsel => by
 have hdn' : Down ops (listed.setIfInBounds i true) := hdn.set hrd
 unfold wpOp
 simp only [ho, wants_spec hds (o := ⟨dst, op, ty, pos, after, guard⟩) ha hg, if_true]
 refine .inl ?_
 unfold Oper.wp
 rw [hr a N ha]
 exact h.mono fun e w' ⟨v, he, hA, hk⟩ => by subst he; exact ⟨hA, hk _ _ (ha.put dst _ hd) hds hdn' hA hs hsel⟩
end
end Go.Sx

namespace Go.Sx
open Go
def undefd (ds : List (Option Nat)) (E : Env) (g : Option (Nat × Bool)) : Bool :=
 match g with
 | none => false
 | some (j, _) => match ds[j]? with
  | some (some t) => match lookE E t with
   | some (.tuple _) => true
   | _ => false
  | _ => false
theorem undefd_spec {N : Nat} {E : Env} {ops : Array Oper} {ds : List (Option Nat)} (hds : Dsts ops ds) {o : Oper} {a : Act} (ha : Has N E a) (h : undefd ds E o.guard = true) : Region.wanted o (yielded ops a.tmps) = false := by
 unfold undefd at h
 unfold Region.wanted
 split at h
 ·
  cases h
 ·
  rename_i j b' hg
  rw [hg]
  dsimp only
  have hd := hds j
  cases hj : ds[j]? with
  | none => rw [hj] at h; cases h
  | some d =>
   cases d with
   | none => rw [hj] at h; cases h
   | some t =>
    rw [hj] at h hd
    dsimp only at h
    cases hv : lookE E t with
    | none => rw [hv] at h; cases h
    | some v =>
     have := ha.slot t v hv
     rw [hv] at h
     unfold yielded
     rw [hd]
     simp only [Option.bind_some, id, this]
     cases v <;> simp at h ⊢
section
variable {P : Program} {N : Nat} {E : Env} {w : World} {K : Post}
variable {ds : List (Option Nat)} {rest : List Oper} {t : Nat} {op : Op} {ty : TypeId} {pos : String} {after : Array Edge} {guard : Option (Nat × Bool)}
theorem Ops_passU (hg : undefd ds E guard = true) (hd : Nat.blt t N = true)
  (h : Ops P N ds rest ((t, undef) :: E) w K) : Ops P N ds (⟨some t, op, ty, pos, after, guard⟩ :: rest) E w K := fun ops hds a ha => by
 unfold wpList
 rw [undefd_spec hds (o := ⟨some t, op, ty, pos, after, guard⟩) ha hg]
 simp only [Bool.false_eq_true, if_false]
 exact h ops hds _ (ha.put (some t) _ hd)
end
end Go.Sx

namespace Go.Sx
open Go

abbrev vi (n : Int) : Value := .int .i64 n
abbrev vb (x : UInt8) : Value := .int .u8 (x.toNat : Int)
abbrev w32 (x : BitVec 32) : Value := .int .u32 (x.toNat : Int)
abbrev w64 (x : BitVec 64) : Value := .int .u64 (x.toNat : Int)

theorem named {α : Type} (x : α) {G : Prop} (h : ∀ u, u = x → G) : G := h x rfl

theorem add_flat (b o n : Nat) : (⟨b, o, none⟩ : Addr).add n = ⟨b, o + n, none⟩ := by
 unfold Addr.add
 split
 ·
  rename_i h; subst h; rfl
 ·
  rfl

def Blk (w : World) (b : Nat) (t : TypeId) (cs : List Value) : Prop := w.heap[b]? = some (.cells cs.toArray t (0, 0))

structure Fr (M : List Nat) (w w' : World) : Prop where
 os : w'.os = w.os
 tape : w'.tape = w.tape
 output : w'.output = w.output
 size : w.heap.size ≤ w'.heap.size
 block : ∀ k, k < w.heap.size → k ∉ M → w'.heap[k]? = w.heap[k]?

section
variable {w w' w2 : World} {M M' : List Nat} {b : Nat} {t : TypeId} {cs : List Value}

theorem Fr.refl (M : List Nat) (w : World) : Fr M w w := ⟨rfl, rfl, rfl, Nat.le_refl _, fun _ _ _ => rfl⟩
theorem Fr.trans (h : Fr M w w') (k : Fr M w' w2) : Fr M w w2 :=
 ⟨k.os.trans h.os, k.tape.trans h.tape, k.output.trans h.output, Nat.le_trans h.size k.size, fun i hi hn => (k.block i (Nat.lt_of_lt_of_le hi h.size) hn).trans (h.block i hi hn)⟩
theorem Fr.then (h : Fr M w w') (k : Fr M' w' w2) (hm : ∀ i ∈ M', i < w.heap.size → i ∈ M) : Fr M w w2 :=
 ⟨k.os.trans h.os, k.tape.trans h.tape, k.output.trans h.output, Nat.le_trans h.size k.size, fun i hi hn => (k.block i (Nat.lt_of_lt_of_le hi h.size) (fun hi' => hn (hm i hi' hi))).trans (h.block i hi hn)⟩
theorem Fr.mono (h : Fr M w w') (hm : ∀ i ∈ M, i < w.heap.size → i ∈ M') : Fr M' w w' := (Fr.refl M' w).then h hm
theorem Fr.then0 (h : Fr M w w') (k : Fr [] w' w2) : Fr M w w2 := h.then k (by simp)
theorem Fr.fr0 (h : Fr M w w') (k : Fr [] w' w2) : Fr M w w2 := h.then0 k
theorem Fr.drew (w : World) : Fr [] w w.drew := ⟨rfl, rfl, rfl, Nat.le_refl _, fun _ _ _ => rfl⟩
theorem Fr.alloc (w : World) (o : Obj) : Fr [] w (w.alloc o) := ⟨rfl, rfl, rfl, by simp, fun k hk _ => Go.RowKit.Below.heap_alloc w o k hk⟩
theorem Fr.setCell (w : World) (a : Addr) (v : Value) : Fr [a.block] w (w.setCell a v) :=
 ⟨rfl, rfl, rfl, by simp [World.setCell], fun k _ hn => Go.RowKit.Below.heap_setCell w a v k (by simpa using hn)⟩
theorem Fr.grown {row : Option Nat} (h : w.grownBy w' row) : Fr row.toList w w' := ⟨h.os, h.tape, h.output, h.size, fun k hk hn => h.block k hk (fun e => hn (by rw [← e]; simp))⟩
theorem Fr.below (h : Fr [] w w') : Go.RowKit.Below w.heap.size w w' := ⟨h.os, h.tape, h.output, h.size, fun k hk => h.block k hk (by simp)⟩
theorem Fr.cell (h : Fr M w w') {a : Addr} {v : Value} (hc : w.cell? a = some v) (hn : a.block ∉ M) : w'.cell? a = some v :=
 (World.cell?_of_block (h.block a.block (World.block_lt_of_cell? w a hc) hn)).trans hc

theorem Blk.lt (h : Blk w b t cs) : b < w.heap.size := by
 rcases Nat.lt_or_ge b w.heap.size with hlt | hge
 ·
  exact hlt
 ·
  unfold Blk at h; rw [Array.getElem?_eq_none hge] at h; cases h
theorem Blk.cell (h : Blk w b t cs) (i : Nat) : w.cell? ⟨b, i, none⟩ = cs[i]? := by
 unfold Blk at h
 simp [World.cell?, h]
theorem Blk.at_ (h : Blk w b t cs) {i : Nat} {v : Value} (hi : cs[i]? = some v) : w.cell? ⟨b, i, none⟩ = some v := (h.cell i).trans hi
theorem Blk.free (h : Blk w b t cs) (i : Nat) : w.frozen? ⟨b, i, none⟩ = false := by
 unfold Blk at h
 simp [World.frozen?, h]
theorem Blk.new (w : World) (t : TypeId) (cs : List Value) : Blk (w.alloc (.cells cs.toArray t)) w.heap.size t cs := heap_alloc_new w _
theorem Blk.to {cs' : List Value} (h : Blk w b t cs) (e : cs = cs') : Blk w b t cs' := e ▸ h
theorem Blk.fr (h : Blk w b t cs) (hf : Fr M w w') (hn : b ∉ M) : Blk w' b t cs := (hf.block b h.lt hn).trans h
theorem Blk.fr0 (h : Blk w b t cs) (hf : Fr [] w w') : Blk w' b t cs := h.fr hf (by simp)
theorem Blk.set (h : Blk w b t cs) (i : Nat) (v : Value) : Blk (w.setCell ⟨b, i, none⟩ v) b t (cs.set i v) := by
 unfold Blk at h ⊢
 simp [World.setCell, Array.getElem?_modify, h]
theorem Blk.ne {b' : Nat} {t' : TypeId} {cs' : List Value} (h : Blk w b t cs) (h' : Blk w b' t' cs') (hne : t ≠ t') : b ≠ b' := by
 rintro rfl
 unfold Blk at h h'
 rw [h] at h'
 injection h' with h'
 injection h' with _ ht
 exact hne ht

def adr (A : Option Addr) : Addr := A.getD ⟨0, 0, none⟩

def Rd (w : World) (A : Option Addr) (xs : List Value) : Prop := ∀ j v, xs[j]? = some v → A.isSome = true ∧ w.cell? ((adr A).add j) = some v
def Off (A : Option Addr) (M : List Nat) : Prop := ∀ a, A = some a → a.block ∉ M

theorem Off.nil (A : Option Addr) : Off A [] := fun _ _ => by simp
theorem block_add (a : Addr) (n : Nat) : (a.add n).block = a.block := by unfold Addr.add; split <;> rfl
theorem add_add (a : Addr) (i j : Nat) : (a.add i).add j = a.add (i + j) := by
 unfold Addr.add
 by_cases hi : i = 0 <;> by_cases hj : j = 0 <;> simp [hi, hj, Nat.add_assoc]

variable {A : Option Addr} {xs ys : List Value}
theorem Rd.nil (w : World) (A : Option Addr) : Rd w A [] := fun j v h => by simp at h
theorem Rd.fr (h : Rd w A xs) (hf : Fr M w w') (ho : Off A M) : Rd w' A xs := fun j v hj => by
 obtain ⟨h1, h2⟩ := h j v hj
 refine ⟨h1, hf.cell h2 ?_⟩
 rw [block_add]
 cases A with
 | none => cases h1
 | some a => exact ho a rfl
theorem Rd.fr0 (h : Rd w A xs) (hf : Fr [] w w') : Rd w' A xs := h.fr hf (Off.nil A)
theorem Rd.ofBlk (h : Blk w b t cs) (o n : Nat) : Rd w (some ⟨b, o, none⟩) ((cs.drop o).take n) := fun j v hj => by
 refine ⟨rfl, ?_⟩
 rw [List.getElem?_take] at hj
 split at hj
 ·
  rw [List.getElem?_drop] at hj
  simp only [adr, Option.getD_some, add_flat]
  exact h.at_ hj
 ·
  cases hj
theorem Rd.ofBlk0 (h : Blk w b t cs) : Rd w (some ⟨b, 0, none⟩) cs := fun j v hj => ⟨rfl, by simp only [adr, Option.getD_some, add_flat, Nat.zero_add]; exact h.at_ hj⟩
theorem Rd.take (h : Rd w A xs) (n : Nat) : Rd w A (xs.take n) := fun j v hj => by
 rw [List.getElem?_take] at hj
 split at hj
 ·
  exact h j v hj
 ·
  cases hj
theorem Rd.cells {a : Addr} (h : Rd w (some a) xs) : ∀ j u, xs[j]? = some u → w.cell? (a.add j) = some u := fun j u hj => (h j u hj).2
end
end Go.Sx

namespace Go.Sx
open Go

section
variable {P : Program} {w : World} {E : Env} {dst : Option Nat} {ty : TypeId} {pos : String} {after : Array Edge} {guard : Option (Nat × Bool)}

theorem R_move {x : Operand} {v : Value} (hx : ev E x = some v) : Runs P w E ⟨dst, .move x, ty, pos, after, guard⟩ v := fun a N ha => by
 simp [execOp, ha.eval hx]
theorem R_assign {x : Operand} {v : Value} (hx : ev E x = some v) : Runs P w E ⟨dst, .assign x, ty, pos, after, guard⟩ v := fun a N ha => by
 simp [execOp, ha.eval hx]
theorem R_pick_true {c x y : Operand} {v : Value} (hc : ev E c = some (.bool true)) (hx : ev E x = some v) : Runs P w E ⟨dst, .pick c x y, ty, pos, after, guard⟩ v := fun a N ha => by
 simp [execOp, ha.eval hc, ha.eval hx, asBool]
theorem R_pick_false {c x y : Operand} {v : Value} (hc : ev E c = some (.bool false)) (hy : ev E y = some v) : Runs P w E ⟨dst, .pick c x y, ty, pos, after, guard⟩ v := fun a N ha => by
 simp [execOp, ha.eval hc, ha.eval hy, asBool]
theorem R_nilCheck {x : Operand} {p : Addr} (hx : ev E x = some (.pointer (some p))) : Runs P w E ⟨dst, .nilCheck x, ty, pos, after, guard⟩ (.pointer (some p)) := fun a N ha => by
 simp [execOp, ha.eval hx]
theorem R_extract {x : Operand} {vs : Array Value} {i : Nat} {v : Value} (hx : ev E x = some (.tuple vs)) (hv : vs[i]? = some v) : Runs P w E ⟨dst, .extract x i, ty, pos, after, guard⟩ v := fun a N ha => by
 simp [execOp, ha.eval hx, Instr.extract, hv]

section
variable {k : IntKind} {x y : Operand} {m n c : Int} {tx tu : TypeId}
theorem R_add (hx : ev E x = some (.int k m)) (hy : ev E y = some (.int k n)) (h : k.wrap (m + n) = c) : Runs P w E ⟨dst, .binOp .add tx x y tu, ty, pos, after, guard⟩ (.int k c) := fun a N ha => by
 subst h; simp [execOp, ha.eval hx, ha.eval hy, binOp, eqGuard, Op.intArith]
theorem R_sub (hx : ev E x = some (.int k m)) (hy : ev E y = some (.int k n)) (h : k.wrap (m - n) = c) : Runs P w E ⟨dst, .binOp .sub tx x y tu, ty, pos, after, guard⟩ (.int k c) := fun a N ha => by
 subst h; simp [execOp, ha.eval hx, ha.eval hy, binOp, eqGuard, Op.intArith]
theorem R_mul (hx : ev E x = some (.int k m)) (hy : ev E y = some (.int k n)) (h : k.wrap (m * n) = c) : Runs P w E ⟨dst, .binOp .mul tx x y tu, ty, pos, after, guard⟩ (.int k c) := fun a N ha => by
 subst h; simp [execOp, ha.eval hx, ha.eval hy, binOp, eqGuard, Op.intArith]
theorem R_quo (hx : ev E x = some (.int k m)) (hy : ev E y = some (.int k n)) (h0 : n ≠ 0) (h : k.wrap (m.tdiv n) = c) : Runs P w E ⟨dst, .binOp .quo tx x y tu, ty, pos, after, guard⟩ (.int k c) := fun a N ha => by
 subst h; simp [execOp, ha.eval hx, ha.eval hy, binOp, eqGuard, Op.intDiv, h0]
theorem R_rem (hx : ev E x = some (.int k m)) (hy : ev E y = some (.int k n)) (h0 : n ≠ 0) (h : m.tmod n = c) : Runs P w E ⟨dst, .binOp .rem tx x y tu, ty, pos, after, guard⟩ (.int k c) := fun a N ha => by
 subst h; simp [execOp, ha.eval hx, ha.eval hy, binOp, eqGuard, Op.intDiv, h0]
theorem R_and (hx : ev E x = some (.int k m)) (hy : ev E y = some (.int k n)) (h : k.wrap ((BitVec.ofInt k.bits m &&& BitVec.ofInt k.bits n).toNat : Int) = c) : Runs P w E ⟨dst, .binOp .and tx x y tu, ty, pos, after, guard⟩ (.int k c) := fun a N ha => by
 subst h; simp [execOp, ha.eval hx, ha.eval hy, binOp, eqGuard, Op.intBits]
theorem R_or (hx : ev E x = some (.int k m)) (hy : ev E y = some (.int k n)) (h : k.wrap ((BitVec.ofInt k.bits m ||| BitVec.ofInt k.bits n).toNat : Int) = c) : Runs P w E ⟨dst, .binOp .or tx x y tu, ty, pos, after, guard⟩ (.int k c) := fun a N ha => by
 subst h; simp [execOp, ha.eval hx, ha.eval hy, binOp, eqGuard, Op.intBits]
theorem R_xor (hx : ev E x = some (.int k m)) (hy : ev E y = some (.int k n)) (h : k.wrap ((BitVec.ofInt k.bits m ^^^ BitVec.ofInt k.bits n).toNat : Int) = c) : Runs P w E ⟨dst, .binOp .xor tx x y tu, ty, pos, after, guard⟩ (.int k c) := fun a N ha => by
 subst h; simp [execOp, ha.eval hx, ha.eval hy, binOp, eqGuard, Op.intBits]
theorem R_shl {k' : IntKind} (hx : ev E x = some (.int k m)) (hy : ev E y = some (.int k' n)) (h0 : ¬ n < 0) (h : k.wrap (m * 2 ^ (min n.toNat k.bits)) = c) : Runs P w E ⟨dst, .binOp .shl tx x y tu, ty, pos, after, guard⟩ (.int k c) := fun a N ha => by
 subst h; simp [execOp, ha.eval hx, ha.eval hy, binOp, eqGuard, Op.shift, h0]
theorem R_shr {k' : IntKind} (hx : ev E x = some (.int k m)) (hy : ev E y = some (.int k' n)) (h0 : ¬ n < 0) (h : m.fdiv (2 ^ (min n.toNat k.bits)) = c) : Runs P w E ⟨dst, .binOp .shr tx x y tu, ty, pos, after, guard⟩ (.int k c) := fun a N ha => by
 subst h; simp [execOp, ha.eval hx, ha.eval hy, binOp, eqGuard, Op.shift, h0]
theorem R_eql (hx : ev E x = some (.int k m)) (hy : ev E y = some (.int k n)) : Runs P w E ⟨dst, .binOp .eql tx x y tu, ty, pos, after, guard⟩ (.bool (decide (m = n))) := fun a N ha => by
 simp [execOp, ha.eval hx, ha.eval hy, binOp, eqGuard, Op.intCmp, BEq.beq]
theorem R_neq (hx : ev E x = some (.int k m)) (hy : ev E y = some (.int k n)) : Runs P w E ⟨dst, .binOp .neq tx x y tu, ty, pos, after, guard⟩ (.bool (decide (m ≠ n))) := fun a N ha => by
 simp [execOp, ha.eval hx, ha.eval hy, binOp, eqGuard, Op.intCmp, bne, BEq.beq]
theorem R_lss (hx : ev E x = some (.int k m)) (hy : ev E y = some (.int k n)) : Runs P w E ⟨dst, .binOp .lss tx x y tu, ty, pos, after, guard⟩ (.bool (decide (m < n))) := fun a N ha => by
 simp [execOp, ha.eval hx, ha.eval hy, binOp, eqGuard, Op.intCmp]
theorem R_leq (hx : ev E x = some (.int k m)) (hy : ev E y = some (.int k n)) : Runs P w E ⟨dst, .binOp .leq tx x y tu, ty, pos, after, guard⟩ (.bool (decide (m ≤ n))) := fun a N ha => by
 simp [execOp, ha.eval hx, ha.eval hy, binOp, eqGuard, Op.intCmp]
theorem R_gtr (hx : ev E x = some (.int k m)) (hy : ev E y = some (.int k n)) : Runs P w E ⟨dst, .binOp .gtr tx x y tu, ty, pos, after, guard⟩ (.bool (decide (m > n))) := fun a N ha => by
 simp [execOp, ha.eval hx, ha.eval hy, binOp, eqGuard, Op.intCmp]
theorem R_geq (hx : ev E x = some (.int k m)) (hy : ev E y = some (.int k n)) : Runs P w E ⟨dst, .binOp .geq tx x y tu, ty, pos, after, guard⟩ (.bool (decide (m ≥ n))) := fun a N ha => by
 simp [execOp, ha.eval hx, ha.eval hy, binOp, eqGuard, Op.intCmp]
theorem R_not {b : Bool} (hx : ev E x = some (.bool b)) : Runs P w E ⟨dst, .unOp .not tx x, ty, pos, after, guard⟩ (.bool !b) := fun a N ha => by
 simp [execOp, ha.eval hx, Op.unary]
theorem R_conv {s t : TypeId} {kd : IntKind} {ds : TypeDesc} (hs : P.underlying s = some ds) (ht : P.underlying t = some (.int kd)) (hx : ev E x = some (.int k m)) (h : kd.wrap m = c) :
  Runs P w E ⟨dst, .convert s t x, ty, pos, after, guard⟩ (.int kd c) := fun a N ha => by
 subst h
 simp [execOp, ha.eval hx, convert, underlying, program, Sem.run, hs, ht, Conv.intToInt]
end
end
end Go.Sx

namespace Go.Sx
open Go

def sz (P : Program) (t : TypeId) : Option Nat := (P.info? t).map (·.size)
def zr (P : Program) (t : TypeId) : Option (List Value) := ((P.info? t).bind (·.zero)).map (·.cells.toList)
def zv (P : Program) (t : TypeId) : Option Value := (P.info? t).bind (·.zero)
def aggB (P : Program) (t : TypeId) : Option Bool := match P.underlying t with
 | some (.struct _) | some (.array _ _) => some true
 | some _ => some false
 | none => none
def offB (P : Program) (s f : Nat) : Option Nat := match P.underlying s with
 | some (.struct fs) => match fs[f]? with
  | some x => match P.info? x.type with
   | some i => if i.size = 0 then none else some x.offset
   | none => none
  | none => none
 | _ => none
section
variable {P : Program} {w : World}

theorem run_isAgg {t : TypeId} {b : Bool} (h : aggB P t = some b) : (isAgg t).run P w = .ok b w := by
 unfold aggB at h
 split at h <;> rename_i hu
 ·
  simp at h; subst h; simp [isAgg, run_underlying hu]
 ·
  simp at h; subst h; simp [isAgg, run_underlying hu]
 ·
  rename_i d h1 h2
  simp at h; subst h
  cases d <;> simp [isAgg, run_underlying hu] <;> first | exact h1 _ rfl | exact h2 _ _ rfl
 ·
  cases h

theorem run_sizeOf {t : TypeId} {n : Nat} (h : sz P t = some n) : (sizeOf t).run P w = .ok n w := by
 unfold sz at h
 cases hi : P.info? t with
 | none => rw [hi] at h; cases h
 | some i => rw [hi] at h; simp at h; subst h; simp [sizeOf, typeInfo, hi]

theorem run_zeroValue' {t : TypeId} {v : Value} (h : zv P t = some v) : (zeroValue t).run P w = .ok v w := by
 unfold zv at h
 cases hi : P.info? t with
 | none => rw [hi] at h; cases h
 | some i =>
  rw [hi] at h
  simp at h
  simp [zeroValue, typeInfo, hi, h]

theorem run_loadVar1 {t : TypeId} {a : Addr} {v : Value} (ht : aggB P t = some false) (hc : w.cell? a = some v) : (loadVar t a).run P w = .ok v w := by
 simp [loadVar, run_isAgg ht, hc]
theorem run_loadVarN {t t' : TypeId} {b o n : Nat} {cs : List Value} (ht : aggB P t = some true) (hs : sz P t = some n) (hB : Blk w b t' cs) (hle : o + n ≤ cs.length) :
  (loadVar t ⟨b, o, none⟩).run P w = .ok (.agg ((cs.drop o).take n).toArray) w := by
 have hl : ((cs.drop o).take n).length = n := by simp; omega
 have hc := run_loadCells_list (P := P) w ⟨b, o, none⟩ ((cs.drop o).take n) (fun j v hv => by
  have := (Rd.ofBlk hB o n) j v hv
  simpa [adr] using this.2)
 rw [hl] at hc
 simp [loadVar, run_isAgg ht, run_sizeOf hs, hc]

theorem blk_setRow {b : Nat} {t : TypeId} {cs cs' : List Value} (hB : Blk w b t cs) : Blk (w.setRow b cs'.toArray) b t cs' := by
 unfold Blk at hB ⊢
 simp [World.setRow, Array.getElem?_modify, hB]
theorem fr_setRow (w : World) (b : Nat) (cs : Array Value) : Fr [b] w (w.setRow b cs) := by
 refine ⟨rfl, rfl, rfl, by simp [World.setRow], fun k _ hn => ?_⟩
 have : b ≠ k := fun e => hn (by simp [e])
 simp [World.setRow, Array.getElem?_modify, this]

def over (cs : List Value) (o : Nat) (vs : List Value) : List Value := cs.take o ++ vs ++ cs.drop (o + vs.length)

theorem run_storeVarN {t t' : TypeId} {b o n : Nat} {cs : List Value} {vs : Array Value} (hs : sz P t = some n) (hn : vs.size = n) (hB : Blk w b t' cs) (hle : o + n ≤ cs.length) (h1 : vs.toList.all (·.oneCell') = true) :
  (storeVar t ⟨b, o, none⟩ (.agg vs)).run P w = .ok () (w.setRow b (over cs o vs.toList).toArray) := by
 subst hn
 have := run_storeCells_at (P := P) b o t' vs.toList 0 cs.toArray w hB (by simpa using hle) (fun v hv => by simpa using (List.all_eq_true.1 h1) v hv)
 simp only [Nat.add_zero] at this
 simp [storeVar, run_sizeOf hs, Value.cells, over, this]

theorem run_storeVar1 {t t' : TypeId} {b o : Nat} {cs : List Value} {v : Value} (hs : sz P t = some 1) (hB : Blk w b t' cs) (hlt : o < cs.length) (h1 : v.oneCell' = true) :
  (storeVar t ⟨b, o, none⟩ v).run P w = .ok () (w.setCell ⟨b, o, none⟩ v) := by
 have hc : v.cells = #[v] := by cases v <;> first | rfl | cases h1
 have hcell : w.cell? ⟨b, o, none⟩ = some cs[o] := hB.at_ (List.getElem?_eq_getElem hlt)
 have hst := run_store P w ⟨b, o, none⟩ v .plain h1
 rw [hcell] at hst
 simp only [hB.free, Bool.false_eq_true, if_false] at hst
 simp only [storeVar, hc, run_sizeOf hs, Sem.run_bind, Result.andThen_ok]
 simp [storeCells, Addr.add, hst]
end

section
variable {P : Program} {w : World} {E : Env} {dst : Option Nat} {ty : TypeId} {pos : String} {after : Array Edge} {guard : Option (Nat × Bool)} {x y : Operand} {t t' : TypeId}

theorem R_load {a : Addr} {v : Value} (ht : aggB P t = some false) (hx : ev E x = some (.pointer (some a))) (hc : w.cell? a = some v) : Runs P w E ⟨dst, .load t x, ty, pos, after, guard⟩ v := fun A N ha => by
 simp [execOp, ha.eval hx, Instr.loadAt, Instr.sureAddr, run_loadVar1 ht hc]
theorem R_loadB {b o : Nat} {cs : List Value} {v : Value} (ht : aggB P t = some false) (hx : ev E x = some (.pointer (some ⟨b, o, none⟩))) (hB : Blk w b t' cs) (hv : cs[o]? = some v) : Runs P w E ⟨dst, .load t x, ty, pos, after, guard⟩ v :=
 R_load ht hx (hB.at_ hv)
theorem R_loadN {b o n : Nat} {cs : List Value} (ht : aggB P t = some true) (hs : sz P t = some n) (hx : ev E x = some (.pointer (some ⟨b, o, none⟩))) (hB : Blk w b t' cs) (hle : o + n ≤ cs.length) :
  Runs P w E ⟨dst, .load t x, ty, pos, after, guard⟩ (.agg ((cs.drop o).take n).toArray) := fun A N ha => by
 simp [execOp, ha.eval hx, Instr.loadAt, Instr.sureAddr, run_loadVarN ht hs hB hle]
theorem R_loadCs {a : Addr} {cs : List Value} (ht : aggB P t = some true) (hs : sz P t = some cs.length) (hx : ev E x = some (.pointer (some a))) (hc : ∀ j v, cs[j]? = some v → w.cell? (a.add j) = some v) :
  Runs P w E ⟨dst, .load t x, ty, pos, after, guard⟩ (.agg cs.toArray) := fun A N ha => by
 have h := run_loadCells_list (P := P) w a cs hc
 simp [execOp, ha.eval hx, Instr.loadAt, Instr.sureAddr, loadVar, run_isAgg ht, run_sizeOf hs, h]
theorem R_store {b o : Nat} {cs : List Value} {v : Value} (hs : sz P t = some 1) (hx : ev E x = some (.pointer (some ⟨b, o, none⟩))) (hy : ev E y = some v) (hB : Blk w b t' cs) (hlt : o < cs.length) (h1 : v.oneCell' = true) :
  RunsTo P w E ⟨none, .store t x y, ty, pos, after, guard⟩ (fun _ w' => Blk w' b t' (cs.set o v) ∧ Fr [b] w w') := fun A N ha => by
 refine ⟨undef, w.setCell ⟨b, o, none⟩ v, ⟨hB.set o v, Fr.setCell w ⟨b, o, none⟩ v⟩, .inr ⟨?_, rfl⟩⟩
 simp [execOp, ha.eval hx, ha.eval hy, Instr.storeAt, Instr.sureAddr, run_storeVar1 hs hB hlt h1]
theorem R_storeN {b o n : Nat} {cs : List Value} {vs : Array Value} (hs : sz P t = some n) (hn : vs.size = n) (hx : ev E x = some (.pointer (some ⟨b, o, none⟩))) (hy : ev E y = some (.agg vs)) (hB : Blk w b t' cs) (hle : o + n ≤ cs.length) (h1 : vs.toList.all (·.oneCell') = true) :
  RunsTo P w E ⟨none, .store t x y, ty, pos, after, guard⟩ (fun _ w' => Blk w' b t' (over cs o vs.toList) ∧ Fr [b] w w') := fun A N ha => by
 refine ⟨undef, _, ⟨blk_setRow hB, fr_setRow w b _⟩, .inr ⟨?_, rfl⟩⟩
 simp [execOp, ha.eval hx, ha.eval hy, Instr.storeAt, Instr.sureAddr, run_storeVarN hs hn hB hle h1]
theorem R_alloc {zs : List Value} (hz : zr P t = some zs) : RunsTo P w E ⟨dst, .alloc t, ty, pos, after, guard⟩ (fun v w' => ∃ b, v = .pointer (some ⟨b, 0, none⟩) ∧ b = w.heap.size ∧ Blk w' b t zs ∧ Fr [] w w') := fun A N ha => by
 unfold zr at hz
 cases hv : (P.info? t).bind (·.zero) with
 | none => rw [hv] at hz; cases hz
 | some z =>
  rw [hv] at hz
  simp at hz
  subst hz
  refine ⟨_, w.alloc (.cells z.cells.toList.toArray t), ⟨_, rfl, rfl, Blk.new w t _, Fr.alloc w _⟩, .inl ?_⟩
  simp [execOp, Instr.alloc, run_zeroValue' (P := P) (t := t) hv, newVar, newRow]
theorem R_box {v : Value} (hx : ev E x = some v) : RunsTo P w E ⟨dst, .box t x, ty, pos, after, guard⟩ (fun u w' => ∃ b, u = .pointer (some ⟨b, 0, none⟩) ∧ b = w.heap.size ∧ Blk w' b t v.cells.toList ∧ Fr [] w w') := fun A N ha => by
 refine ⟨_, w.alloc (.cells v.cells.toList.toArray t), ⟨_, rfl, rfl, Blk.new w t _, Fr.alloc w _⟩, .inl ?_⟩
 simp [execOp, ha.eval hx, Instr.box, newVar, newRow]
theorem R_fieldAddr {s f o : Nat} {b o0 : Nat} (hf : offB P s f = some o) (hx : ev E x = some (.pointer (some ⟨b, o0, none⟩))) : Runs P w E ⟨dst, .fieldAddr s x f, ty, pos, after, guard⟩ (.pointer (some ⟨b, o0 + o, none⟩)) := fun A N ha => by
 unfold offB at hf
 split at hf
 ·
  rename_i fs hu
  split at hf
  ·
   rename_i fl hfl
   split at hf
   ·
    rename_i i hi
    split at hf
    ·
     cases hf
    ·
     rename_i hne
     simp at hf
     subst hf
     simp [execOp, ha.eval hx, Instr.fieldAt, run_underlying hu, hfl, Instr.sureAddr, fieldPlace, sizeOf, typeInfo, hi, hne, add_flat]
   ·
    cases hf
  ·
   cases hf
 ·
  cases hf
theorem R_fieldAddr' {s f o : Nat} {a : Addr} (hf : offB P s f = some o) (hx : ev E x = some (.pointer (some a))) : Runs P w E ⟨dst, .fieldAddr s x f, ty, pos, after, guard⟩ (.pointer (some (a.add o))) := fun A N ha => by
 unfold offB at hf
 split at hf
 ·
  rename_i fs hu
  split at hf
  ·
   rename_i fl hfl
   split at hf
   ·
    rename_i i hi
    split at hf
    ·
     cases hf
    ·
     rename_i hne
     simp at hf
     subst hf
     simp [execOp, ha.eval hx, Instr.fieldAt, run_underlying hu, hfl, Instr.sureAddr, fieldPlace, sizeOf, typeInfo, hi, hne]
   ·
    cases hf
  ·
   cases hf
 ·
  cases hf
theorem R_indexArr {len e n : Nat} {b o : Nat} {k : IntKind} {i : Int} (hu : P.underlying t = some (.array len e)) (hs : sz P e = some n) (hx : ev E x = some (.pointer (some ⟨b, o, none⟩))) (hy : ev E y = some (.int k i)) (h0 : 0 ≤ i) (h1 : i < (len : Int)) :
  Runs P w E ⟨dst, .indexAddr t x y, ty, pos, after, guard⟩ (.pointer (some ⟨b, o + i.toNat * n, none⟩)) := fun A N ha => by
 simp [execOp, ha.eval hx, ha.eval hy, Instr.indexAt, asIntOf, run_underlying hu, Instr.sureAddr, h0, h1, run_sizeOf hs, add_flat]
theorem R_indexSl {e n len cap : Nat} {A : Option Addr} {k : IntKind} {i : Int} (hu : P.underlying t = some (.slice e)) (hs : sz P e = some n) (hx : ev E x = some (.slice A len cap)) (hy : ev E y = some (.int k i)) (h0 : 0 ≤ i) (h1 : i < (len : Int)) (hA : A.isSome = true) :
  Runs P w E ⟨dst, .indexAddr t x y, ty, pos, after, guard⟩ (.pointer (some ((adr A).add (i.toNat * n)))) := fun a N ha => by
 cases A with
 | none => cases hA
 | some p => simp [execOp, ha.eval hx, ha.eval hy, Instr.indexAt, asIntOf, run_underlying hu, h0, h1, run_sizeOf hs, adr]
theorem R_index {len e : Nat} {cs : Array Value} {k : IntKind} {i : Int} {v : Value} (hu : P.underlying t = some (.array len e)) (hs : sz P e = some 1) (he : aggB P e = some false) (hx : ev E x = some (.agg cs)) (hy : ev E y = some (.int k i)) (h0 : 0 ≤ i) (h1 : i < (len : Int)) (hv : cs[i.toNat]? = some v) :
  Runs P w E ⟨dst, .index t x y, ty, pos, after, guard⟩ v := fun a N ha => by
 simp [execOp, ha.eval hx, ha.eval hy, Instr.index, asIntOf, run_underlying hu, h0, h1, run_sizeOf hs, part, run_isAgg he, hv]
end
end Go.Sx

namespace Go.Sx
open Go

def evL (E : Env) : List Operand → Option (List Value)
 | [] => some []
 | x :: xs => match ev E x, evL E xs with
  | some v, some vs => some (v :: vs)
  | _, _ => none

theorem evL_map {N : Nat} {E : Env} {a : Act} (ha : Has N E a) : ∀ (xs : List Operand) (vs : List Value), evL E xs = some vs → xs.map a.eval = vs
 | [], vs, h => by simp [evL] at h; subst h; rfl
 | x :: xs, vs, h => by
  simp only [evL] at h
  split at h
  ·
   rename_i v vs' hv hvs
   cases h
   rw [List.map_cons, ha.eval hv, evL_map ha xs vs' hvs]
  ·
   cases h

def bodied (P : Program) (f : FuncId) : Bool := match P.funcs[f]? with
 | some fn => fn.body.isSome && !(fn.name == "runtime.NumGoroutine")
 | none => false

section
variable {P : Program} {w : World} {E : Env} {dst : Option Nat} {ty : TypeId} {pos : String} {after : Array Edge} {guard : Option (Nat × Bool)} {x y s : Operand} {t t' : TypeId}

theorem run_callFunc {f : FuncId} (hf : bodied P f = true) (args : Array Value) : (callFunc f args).run P w = .ok (.enter f args) w := by
 unfold bodied at hf
 cases hq : P.funcs[f]? with
 | none => rw [hq] at hf; cases hf
 | some fn =>
  rw [hq] at hf
  simp only [Bool.and_eq_true, Bool.not_eq_true'] at hf
  have hb : fn.body ≠ none := by intro h; rw [h] at hf; cases hf.1
  have hn : fn.name ≠ "runtime.NumGoroutine" := by simpa using hf.2
  simp [callFunc, hq, hn, hb]

theorem C_func {f : FuncId} {xs : List Operand} {ats : Array TypeId} {vs : List Value} (hf : bodied P f = true) (hx : evL E xs = some vs) :
  Enters P w E ⟨dst, .call { callee := .value (.func f), args := xs.toArray, argTypes := ats }, ty, pos, after, guard⟩ f vs.toArray := fun a N ha => by
 have := evL_map ha xs vs hx
 simp [execOp, resolve, Act.eval, Deferred.ofValue, invoke, run_callFunc hf, this]
theorem C_val {c : Operand} {f : FuncId} {xs : List Operand} {ats : Array TypeId} {vs : List Value} {fs cs : Array Value} (hf : bodied P f = true) (hc : ev E c = some (.func (.func f) fs cs)) (hx : evL E xs = some vs) :
  Enters P w E ⟨dst, .call { callee := .value c, args := xs.toArray, argTypes := ats }, ty, pos, after, guard⟩ f (fs ++ vs.toArray ++ cs) := fun a N ha => by
 have := evL_map ha xs vs hx
 simp [execOp, resolve, ha.eval hc, Deferred.ofValue, invoke, run_callFunc hf, this]

theorem R_len {e : TypeId} {A : Option Addr} {n c : Nat} {ats : Array TypeId} (hu : P.underlying t = some (.slice e)) (ha : ats[0]? = some t) (hx : ev E x = some (.slice A n c)) :
  Runs P w E ⟨dst, .call { callee := .builtin .len, args := #[x], argTypes := ats }, ty, pos, after, guard⟩ (vi n) := fun a N hA => by
 simp [execOp, resolve, invoke, builtin, Builtin.len_, hA.eval hx, ha, run_underlying hu, goInt]
theorem R_lenStr {b : ByteArray} {ats : Array TypeId} (hu : P.underlying t = some .string) (ha : ats[0]? = some t) (hx : ev E x = some (.string b)) :
  Runs P w E ⟨dst, .call { callee := .builtin .len, args := #[x], argTypes := ats }, ty, pos, after, guard⟩ (vi b.size) := fun a N hA => by
 simp [execOp, resolve, invoke, builtin, Builtin.len_, hA.eval hx, ha, run_underlying hu, goInt]
theorem R_min {k : IntKind} {m n c : Int} {ats : Array TypeId} (hx : ev E x = some (.int k m)) (hy : ev E y = some (.int k n)) (h : min m n = c) :
  Runs P w E ⟨dst, .call { callee := .builtin .min, args := #[x, y], argTypes := ats }, ty, pos, after, guard⟩ (.int k c) := fun a N hA => by
 subst h
 have : (if n < m then n else m) = min m n := by split <;> omega
 simp [execOp, resolve, invoke, builtin, Builtin.min_, Builtin.min2, hA.eval hx, hA.eval hy, this]
theorem R_max {k : IntKind} {m n c : Int} {ats : Array TypeId} (hx : ev E x = some (.int k m)) (hy : ev E y = some (.int k n)) (h : max m n = c) :
  Runs P w E ⟨dst, .call { callee := .builtin .max, args := #[x, y], argTypes := ats }, ty, pos, after, guard⟩ (.int k c) := fun a N hA => by
 subst h
 have : (if m < n then n else m) = max m n := by split <;> omega
 simp [execOp, resolve, invoke, builtin, Builtin.max_, Builtin.max2, hA.eval hx, hA.eval hy, this]

def Bnd (E : Env) (o : Option Operand) (n d : Nat) : Prop := match o with
 | none => n = d
 | some x => ∃ k i, ev E x = some (.int k i) ∧ i = (n : Int)
theorem Bnd.eval {N : Nat} {a : Act} (hA : Has N E a) {x : Operand} {n d : Nat} (h : Bnd E (some x) n d) : ∃ k, a.eval x = .int k (n : Int) := by
 obtain ⟨k, i, h1, rfl⟩ := h
 exact ⟨k, hA.eval h1⟩

theorem R_slice {e sz0 len cap l h m : Nat} {A : Option Addr} {lo hi mx : Option Operand} (hu : P.underlying t = some (.slice e)) (hs : sz P e = some sz0) (hx : ev E x = some (.slice A len cap))
  (hl : Bnd E lo l 0) (hh : Bnd E hi h len) (hm : Bnd E mx m cap) (hmh : mx.isSome = true → hi.isSome = true) (h1 : l ≤ h) (h2 : h ≤ m) (h3 : m ≤ cap) :
  Runs P w E ⟨dst, .slice t x lo hi mx, ty, pos, after, guard⟩ (.slice (if m = l then A else A.map (·.add (l * sz0))) (h - l) (m - l)) := fun a N hA => by
 have bound : ∀ (k : IntKind) (i y : Nat) (c : BoundsCode), i ≤ y → (Instr.sliceBound (.int k (i : Int)) y c).run P w = .ok i w := fun k i y c hiy => by
  simp [Instr.sliceBound, asIntOf, hiy]
 have all : (Instr.sliceBounds true len cap (lo.map a.eval) (hi.map a.eval) (mx.map a.eval)).run P w = .ok (l, h, m) w := by
  cases lo with
  | none =>
   obtain rfl : l = 0 := hl
   cases hi with
   | none =>
    obtain rfl : h = len := hh
    cases mx with
    | none =>
     obtain rfl : m = cap := hm
     simp [Instr.sliceBounds]
    | some z => exact absurd (hmh rfl) (by simp)
   | some yy =>
    obtain ⟨k2, e2⟩ := hh.eval hA
    cases mx with
    | none =>
     obtain rfl : m = cap := hm
     simp [Instr.sliceBounds, e2, bound _ _ _ _ h2]
    | some z =>
     obtain ⟨k3, e3⟩ := hm.eval hA
     simp [Instr.sliceBounds, e2, e3, bound _ _ _ _ h2, bound _ _ _ _ h3]
  | some xx =>
   obtain ⟨k1, e1⟩ := hl.eval hA
   cases hi with
   | none =>
    obtain rfl : h = len := hh
    cases mx with
    | none =>
     obtain rfl : m = cap := hm
     simp [Instr.sliceBounds, e1, bound _ _ _ _ h1]
    | some z => exact absurd (hmh rfl) (by simp)
   | some yy =>
    obtain ⟨k2, e2⟩ := hh.eval hA
    cases mx with
    | none =>
     obtain rfl : m = cap := hm
     simp [Instr.sliceBounds, e1, e2, bound _ _ _ _ h2, bound _ _ _ _ h1]
    | some z =>
     obtain ⟨k3, e3⟩ := hm.eval hA
     simp [Instr.sliceBounds, e1, e2, e3, bound _ _ _ _ h2, bound _ _ _ _ h3, bound _ _ _ _ h1]
 simp [execOp, hA.eval hx, Instr.sliceAt, run_underlying hu, Instr.slice, all, run_sizeOf hs]

theorem Src.ofRd {size m c : Nat} {tx e' : TypeId} {A : Option Addr} {ys : List Value} (hk : P.underlying tx = some (.slice e')) (hsz : 0 < size) (hR : Rd w A ys) (hl : ys.length = m * size) (h1 : ys.all (·.oneCell') = true) :
  Src P size tx (.slice A m c) m ys w := by
 have h1' : ∀ u ∈ ys, u.oneCell' = true := fun u hu => (List.all_eq_true.1 h1) u hu
 cases A with
 | some a => exact Src.ofSlice w hk a m c ys hl hR.cells h1'
 | none =>
  have hy : ys = [] := by
   cases ys with
   | nil => rfl
   | cons v ys => have := (hR 0 v rfl).1; cases this
  subst hy
  have hm : m = 0 := by
   rcases Nat.eq_zero_or_pos m with h | h
   ·
    exact h
   ·
    have := Nat.mul_pos h hsz; rw [← hl] at this; cases this
  subst hm
  exact Src.ofNil w hk c

def Own (w : World) (B : Nat) (e : TypeId) (size : Nat) (A : Option Addr) (n c : Nat) (xs : List Value) : Prop := w.ownsRow B e size (.slice A n c) n xs
def blkOf : Option Addr → List Nat
 | none => []
 | some a => [a.block]

variable {B n m c c' size e : Nat} {A : Option Addr} {xs ys : List Value}

theorem Own.nil (w : World) (B e size : Nat) : Own w B e size none 0 0 [] := World.ownsRow_nil w B e size
theorem Own.len (h : Own w B e size A n c xs) : xs.length = n * size := h.1
theorem Own.form (h : Own w B e size A n c xs) : (A = none ∧ n = 0 ∧ c = 0 ∧ xs = []) ∨ ∃ g cur, A = some ⟨g, 0, none⟩ ∧ B ≤ g ∧ Blk w g e cur ∧ n ≤ c ∧ c ≤ maxLen ∧ cur.length = c * size ∧ cur.take (n * size) = xs := by
 rcases h.2 with ⟨h2, rfl⟩ | ⟨g, cap, cur, hv, hb, hg, h1, h3, h4, h5⟩
 ·
  left
  injection h2 with a b c
  subst a; subst c
  exact ⟨rfl, rfl, rfl, List.eq_nil_of_length_eq_zero (by simpa using h.1)⟩
 ·
  right
  injection hv with a b c
  subst a; subst c
  exact ⟨g, cur.toList, rfl, hb, by simpa [Blk] using hg, h1, h3, by simpa using h4, h5⟩
theorem Own.mk {g : Nat} {cur : List Value} (hb : B ≤ g) (hB : Blk w g e cur) (h1 : n ≤ c) (h3 : c ≤ maxLen) (h4 : cur.length = c * size) (h5 : cur.take (n * size) = xs) : Own w B e size (some ⟨g, 0, none⟩) n c xs := by
 refine ⟨?_, .inr ⟨g, c, cur.toArray, rfl, hb, hB, h1, h3, by simpa using h4, by simpa using h5⟩⟩
 rw [← h5, List.length_take, h4]
 exact Nat.min_eq_left (Nat.mul_le_mul_right _ h1)
theorem Own.rd (h : Own w B e size A n c xs) : Rd w A xs := by
 rcases h.form with ⟨rfl, _, _, rfl⟩ | ⟨g, cur, rfl, _, hB, _, _, _, rfl⟩
 ·
  exact Rd.nil _ _
 ·
  exact (Rd.ofBlk0 hB).take _
theorem Own.off (h : Own w B e size A n c xs) : ∀ i ∈ blkOf A, B ≤ i := by
 rcases h.form with ⟨rfl, _, _, rfl⟩ | ⟨g, cur, rfl, hb, _, _, _, _, _⟩
 ·
  simp [blkOf]
 ·
  simpa [blkOf] using hb
theorem Own.fr {M : List Nat} {w' : World} (h : Own w B e size A n c xs) (hf : Fr M w w') (hn : ∀ i ∈ blkOf A, i ∉ M) : Own w' B e size A n c xs := by
 rcases h.form with ⟨rfl, rfl, rfl, rfl⟩ | ⟨g, cur, rfl, hb, hB, h1, h3, h4, h5⟩
 ·
  exact Own.nil ..
 ·
  exact Own.mk hb (hB.fr hf (hn g (by simp [blkOf]))) h1 h3 h4 h5
theorem Own.fr0 {w' : World} (h : Own w B e size A n c xs) (hf : Fr [] w w') : Own w' B e size A n c xs := h.fr hf (by simp)

structure Elem (P : Program) (t e size bytes : Nat) : Prop where
 under : P.underlying t = some (.slice e)
 row : ∃ (i : TypeInfo) (z : Value), P.info? e = some i ∧ i.zero = some z ∧ i.size = size ∧ i.bytes = bytes ∧ z.cells.size = size
 pos : 0 < size

def elemB (P : Program) (t e size bytes : Nat) : Bool := (match P.underlying t with | some (.slice e') => e' == e | _ => false) && (match P.info? e with
 | some i => (match i.zero with | some z => z.cells.size == size | none => false) && i.size == size && i.bytes == bytes
 | none => false) && Nat.blt 0 size
theorem Elem.of {bytes : Nat} (h : elemB P t e size bytes = true) : Elem P t e size bytes := by
 unfold elemB at h
 simp only [Bool.and_eq_true] at h
 obtain ⟨⟨h1, h2⟩, h3⟩ := h
 refine ⟨?_, ?_, by simpa [Nat.blt_eq] using h3⟩
 ·
  split at h1
  ·
   rename_i e' hu; rw [hu]; simp at h1; rw [h1]
  ·
   cases h1
 ·
  split at h2
  ·
   rename_i i hi
   simp only [Bool.and_eq_true] at h2
   obtain ⟨⟨h4, h5⟩, h6⟩ := h2
   split at h4
   ·
    rename_i z hz
    exact ⟨i, z, hi, hz, by simpa using h5, by simpa using h6, by simpa using h4⟩
   ·
    cases h4
  ·
   cases h2

theorem grown_own {bytes : Nat} (el : Elem P t e size bytes) (w : World) (B : Nat) (hbase : B ≤ w.heap.size) (old : Nat) (xs ys : List Value) (k : Nat) (hk : old < k) (hkm : k ≤ maxLen) (hl : (xs ++ ys).length = k * size) (z : Value) (hzs : z.cells.size = size) :
  Own (w.drew.alloc (.cells ((xs ++ ys).toArray ++ Builtin.zeroCells z.cells (grownCap w k old e - k)) e)) B e size (some ⟨w.heap.size, 0, none⟩) k (grownCap w k old e) (xs ++ ys) := by
 have hge := grownCap_ge w k old e
 have hcm : grownCap w k old e ≤ maxLen := grownCap_le_maxLen w k old e hkm
 have hB : Blk (w.drew.alloc (.cells ((xs ++ ys).toArray ++ Builtin.zeroCells z.cells (grownCap w k old e - k)) e)) w.heap.size e ((xs ++ ys) ++ (Builtin.zeroCells z.cells (grownCap w k old e - k)).toList) := by
  have h0 : (xs ++ ys).toArray ++ Builtin.zeroCells z.cells (grownCap w k old e - k) = ((xs ++ ys) ++ (Builtin.zeroCells z.cells (grownCap w k old e - k)).toList).toArray := by
   apply Array.ext'
   simp
  rw [h0]
  exact Blk.new w.drew e _
 refine Own.mk hbase hB hge hcm ?_ ?_
 ·
  rw [List.length_append, hl, Array.length_toList, size_zeroCells, hzs, ← Nat.add_mul]
  congr 1
  omega
 ·
  rw [← hl]; exact List.take_left

theorem R_appendTight {bytes : Nat} {tx : TypeId} {m : Nat} {v : Value} (el : Elem P t e size bytes) (hs : ev E s = some (.slice A n n)) (hx : ev E x = some v) (hR : Rd w A xs) (hl : xs.length = n * size) (hsrc : Src P size tx v m ys w)
  (hbytes : (n + m) * bytes ≤ 140737488355328) (h63 : n + m ≤ maxLen) (hbase : B ≤ w.heap.size) :
  RunsTo P w E ⟨dst, .call { callee := .builtin .append, args := #[s, x], argTypes := #[t, tx] }, ty, pos, after, guard⟩ (fun u w' => ∃ A' c', u = .slice A' (n + m) c' ∧ Rd w' A' (xs ++ ys) ∧ Fr [] w w' ∧ ((m = 0 ∧ A' = A ∧ c' = n ∧ w' = w) ∨ (0 < m ∧ Own w' B e size A' (n + m) c' (xs ++ ys)))) := fun a N hA => by
 obtain ⟨i, z, hi, hz, rfl, rfl, hzs⟩ := el.row
 have hlen : (xs ++ ys).length = (n + m) * i.size := by rw [List.length_append, hl, hsrc.newsLen, Nat.add_mul]
 have hsm : n + m ≤ 9223372036854775807 := by simp only [maxLen] at h63; omega
 suffices h : ∃ u w', (∃ A' c', u = .slice A' (n + m) c' ∧ Rd w' A' (xs ++ ys) ∧ Fr [] w w' ∧ ((m = 0 ∧ A' = A ∧ c' = n ∧ w' = w) ∨ (0 < m ∧ Own w' B e i.size A' (n + m) c' (xs ++ ys)))) ∧ (Builtin.append_ #[t, tx] ty #[.slice A n n, v]).run P w = .ok u w' by
  obtain ⟨u, w', h1, h2⟩ := h
  exact ⟨u, w', h1, .inl (by simp [execOp, resolve, invoke, builtin, hA.eval hs, hA.eval hx, h2])⟩
 by_cases hm : m = 0
 ·
  subst hm
  have hy : ys = [] := List.eq_nil_of_length_eq_zero (by simpa using hsrc.newsLen)
  subst hy
  exact ⟨_, w, ⟨A, n, rfl, by simpa using hR, Fr.refl _ _, .inl ⟨rfl, rfl, rfl, rfl⟩⟩, run_append_nothing w t tx ty e i el.under hi A n n (Nat.le_refl _) v hsrc⟩
 ·
  have hold : (Builtin.firstCells i.size n (.slice A n n)).run P w.drew = .ok xs.toArray w.drew := by
   cases A with
   | none =>
    have hx0 : xs = [] := by
     cases xs with
     | nil => rfl
     | cons u us => have := (hR 0 u rfl).1; cases this
    subst hx0
    exact run_firstCells_none w.drew i.size n n n
   | some a0 => exact run_firstCells_some w.drew i.size n a0 n n xs hl (by have := hR.cells; simpa using this)
  have hr := run_append_grow_src (P := P) w t tx ty e i z el.under hi hz A n n xs hold v m ys hsrc (by omega) (by omega) (growslice_fits (by omega) hbytes)
  have ho := grown_own (t := t) el w B hbase n xs ys (n + m) (by omega) h63 hlen z hzs
  exact ⟨_, _, ⟨_, _, rfl, ho.rd, (Fr.drew w).then0 (Fr.alloc _ _), .inr ⟨by omega, ho⟩⟩, hr⟩
end
end Go.Sx

namespace Go.Sx
open Go

section
variable {P : Program} {N : Nat} {E : Env} {w : World} {K : Post} {K1 : Env → World → Prop}
theorem then_n (h : K1 E w) : thenP K1 K .normal E w := h
theorem then_ret (h : K .ret E w) : thenP K1 K .ret E w := h
theorem then_exit {i : Nat} (h : K (.exit i) E w) : thenP K1 K (.exit i) E w := h
theorem block_n {id : Nat} (h : K .normal E w) : blockP id K .normal E w := h
theorem block_ret {id : Nat} (h : K .ret E w) : blockP id K .ret E w := h
theorem block_exit {id : Nat} (h : K .normal E w) : blockP id K (.exit id) E w := by simp only [blockP, if_true]; exact h
theorem block_other {id i : Nat} (hne : Nat.beq i id = false) (h : K (.exit i) E w) : blockP id K (.exit i) E w := by
 have : i ≠ id := fun e => by subst e; simp at hne
 simp only [blockP, if_neg this]; exact h
theorem W_keepB (keep : List Nat) {c : Code} (h : ∀ B, B = pickE E keep → W P N c B w K) : W P N c E w K := W_keep keep (h _ rfl)

def lookL (E : Env) : List Nat → Option (List Value)
 | [] => some []
 | t :: ts => match lookE E t, lookL E ts with
  | some v, some vs => some (v :: vs)
  | _, _ => none
def zipE : List Nat → List Value → Env
 | t :: ts, v :: vs => (t, v) :: zipE ts vs
 | _, _ => []

theorem sub_zip : ∀ (ts : List Nat) (vs : List Value) (B E : Env), lookL E ts = some vs → Sub B E → Sub (zipE ts vs ++ B) E
 | [], vs, B, E, h, hB => by simp [lookL] at h; subst h; exact hB
 | t :: ts, vs, B, E, h, hB => by
  simp only [lookL] at h
  split at h
  ·
   rename_i v vs' hv hvs
   cases h
   exact ⟨hv, sub_zip ts vs' B E hvs hB⟩
  ·
   cases h

theorem W_loopB (keep ts : List Nat) (I : Nat → List Value → World → Prop) {c : Code} (n : Nat) (vs : List Value) (hv : lookL E ts = some vs) (h0 : I n vs w)
  (h : ∀ B, B = pickE E keep → ∀ n vs w', I n vs w' → W P N c (zipE ts vs ++ B) w' (thenP (fun E2 w2 => ∃ m vs2, m < n ∧ lookL E2 ts = some vs2 ∧ I m vs2 w2 ∧ Sub B E2) K)) : W P N (.loop c) E w K := by
 refine W_sub (sub_zip ts vs _ _ hv (pickE_sub E keep)) ?_
 refine W_loop (fun n E' w' => ∃ vs, I n vs w' ∧ E' = zipE ts vs ++ pickE E keep) n ⟨vs, h0, rfl⟩ ?_
 rintro n E' w' ⟨vs, hI, rfl⟩
 refine (h _ rfl n vs w' hI).mono fun e E2 w2 hK => ?_
 cases e with
 | normal =>
  obtain ⟨m, vs2, hlt, hl, hI2, hs⟩ := hK
  exact ⟨m, _, hlt, sub_zip ts vs2 _ _ hl hs, vs2, hI2, rfl⟩
 | _ => exact hK

theorem W_drawS {id : Nat} {l : List Oper} (ds : List (Option Nat)) (s : Sch) (hm : P.follows .mixedOrders = true) (hds : l.map (·.dst) = ds) (hs : (schedB l.toArray s (Array.replicate l.toArray.size false) && Region.noSelect l.toArray && (s.len == l.toArray.size)) = true)
  (h : ∀ ops w1, ops = l.toArray → Fr [] w w1 → HS P N ops ds [] (todoOf l s) E w1 K) : W P N (.region id l.toArray true) E w K := W_draw ds s hm hds hs fun ops ho => h ops _ ho (Fr.drew w)
theorem W_drawF {id : Nat} {l : List Oper} (ds : List (Option Nat)) (s : List (Nat × Bool)) (hm : P.follows .mixedOrders = true) (hds : l.map (·.dst) = ds) (hs : (schedB l.toArray (Sch.ofList s) (Array.replicate l.toArray.size false) && Region.noSelect l.toArray && ((Sch.ofList s).len == l.toArray.size)) = true)
  (h : ∀ ops w1, ops = l.toArray → Fr [] w w1 → HS P N ops ds [] (todoOf l (Sch.ofList s)) E w1 K) : W P N (.region id l.toArray true) E w K := W_drawS ds _ hm hds hs h

theorem Ops_known {ds : List (Option Nat)} {rest : List Oper} {b : Bool} (t : Nat) {v : Bool} (hv : lookE E t = some (.bool v)) (hb : v = b) (h : Ops P N ds rest ((t, .bool b) :: E) w K) : Ops P N ds rest E w K := fun ops hds a ha => by
 subst hb
 exact h ops hds a (ha.sub' hv)
theorem Ops_split {ds : List (Option Nat)} {rest : List Oper} {p : Prop} [Decidable p] (t : Nat) (hv : lookE E t = some (.bool (decide p))) (ht : p → Ops P N ds rest ((t, .bool true) :: E) w K) (hf : ¬ p → Ops P N ds rest ((t, .bool false) :: E) w K) : Ops P N ds rest E w K := by
 by_cases hp : p
 ·
  exact Ops_known t hv (decide_eq_true hp) (ht hp)
 ·
  exact Ops_known t hv (decide_eq_false hp) (hf hp)
theorem Ops_splitB {ds : List (Option Nat)} {rest : List Oper} {b : Bool} (t : Nat) (hv : lookE E t = some (.bool b)) (ht : b = true → Ops P N ds rest ((t, .bool true) :: E) w K) (hf : b = false → Ops P N ds rest ((t, .bool false) :: E) w K) : Ops P N ds rest E w K := by
 cases b with
 | true => exact Ops_known t hv rfl (ht rfl)
 | false => exact Ops_known t hv rfl (hf rfl)
end

section
variable {P : Program} {N : Nat} {ops : Array Oper} {ds : List (Option Nat)} {T : Facts} {s : Todo} {E : Env} {w : World} {K : Post}

theorem HS_known {b : Bool} (t : Nat) {v : Bool} (hv : lookE E t = some (.bool v)) (hb : v = b) (h : HS P N ops ds T s ((t, .bool b) :: E) w K) : HS P N ops ds T s E w K := fun a listed ha => by
 subst hb
 exact h a listed (ha.sub' hv)
theorem HS_split {p : Prop} [Decidable p] (t : Nat) (hv : lookE E t = some (.bool (decide p))) (ht : p → HS P N ops ds T s ((t, .bool true) :: E) w K) (hf : ¬ p → HS P N ops ds T s ((t, .bool false) :: E) w K) : HS P N ops ds T s E w K := by
 by_cases hp : p
 ·
  exact HS_known t hv (decide_eq_true hp) (ht hp)
 ·
  exact HS_known t hv (decide_eq_false hp) (hf hp)
theorem HS_splitB {b : Bool} (t : Nat) (hv : lookE E t = some (.bool b)) (ht : b = true → HS P N ops ds T s ((t, .bool true) :: E) w K) (hf : b = false → HS P N ops ds T s ((t, .bool false) :: E) w K) : HS P N ops ds T s E w K := by
 cases b with
 | true => exact HS_known t hv rfl (ht rfl)
 | false => exact HS_known t hv rfl (hf rfl)

variable {i d : Nat} {x : Operand} {t t' ty : TypeId} {pos : String} {after : Array Edge} {guard : Option (Nat × Bool)}
theorem HS_load {a : Addr} {v : Value} (ht : aggB P t = some false) (hx : ev E x = some (.pointer (some a))) (hc : w.cell? a = some v) (hd : Nat.blt d N = true) (hg : wants ds E guard = some true)
  (h : HS P N ops ds ((i, fun w' => w'.cell? a = some v) :: T) s ((d, v) :: E) w K) : HS P N ops ds T (.quiet i ⟨some d, .load t x, ty, pos, after, guard⟩ s) E w K :=
 HS_held (fun w' => w'.cell? a = some v) (fun _ h => R_load ht hx h) hc hd hg h
theorem HS_loadB {b o : Nat} {cs : List Value} {v : Value} (ht : aggB P t = some false)
  (hx : ev E x = some (.pointer (some ⟨b, o, none⟩))) (hB : Blk w b t' cs) (hv : cs[o]? = some v) (hd : Nat.blt d N = true) (hg : wants ds E guard = some true)
  (h : HS P N ops ds ((i, fun w' => w'.cell? ⟨b, o, none⟩ = some v) :: T) s ((d, v) :: E) w K) : HS P N ops ds T (.quiet i ⟨some d, .load t x, ty, pos, after, guard⟩ s) E w K :=
 HS_load ht hx (hB.at_ hv) hd hg h
theorem HS_loadN {b o n : Nat} {cs : List Value} (ht : aggB P t = some true) (hs : sz P t = some n)
  (hx : ev E x = some (.pointer (some ⟨b, o, none⟩))) (hB : Blk w b t' cs) (hle : o + n ≤ cs.length) (hd : Nat.blt d N = true) (hg : wants ds E guard = some true)
  (h : HS P N ops ds ((i, fun w' => Blk w' b t' cs) :: T) s ((d, .agg ((cs.drop o).take n).toArray) :: E) w K) : HS P N ops ds T (.quiet i ⟨some d, .load t x, ty, pos, after, guard⟩ s) E w K :=
 HS_held (fun w' => Blk w' b t' cs) (fun _ h => R_loadN ht hs hx h hle) hB hd hg h

def AllL : Facts → World → Prop
 | [], _ => True
 | p :: T, w => p.2 w ∧ AllL T w
theorem AllL.all : ∀ {T : Facts} {w : World}, AllL T w → All T w
 | [], _, _ => fun p hp => by cases hp
 | q :: T, w, h => fun p hp => by
  cases List.mem_cons.1 hp with
  | inl e => subst e; exact h.1
  | inr e => exact h.2.all p e
theorem HS_sub {T' : Facts} (hs : ∀ p ∈ T, p ∈ T') (hA : All T' w) (h : HS P N ops ds T' s E w K) : HS P N ops ds T s E w K := fun a listed ha hds hd _ hs1 hsel => wpT_sub _ _ _ _ _ _ hs (h a listed ha hds hd hA hs1 hsel)

def pickF (ks : List Nat) (T : Facts) : Facts := T.filter fun p => ks.contains p.1
def pickB (ops : Array Oper) (i : Nat) (ks idx : List Nat) : Bool := idx.all fun k => ks.contains k || waits ops i k
theorem drop_pick {ks : List Nat} (h : pickB ops i ks (T.map (·.1)) = true) : ∀ p ∈ drop ops i T, p ∈ pickF ks T := fun p hp => by
 obtain ⟨hp1, hp2⟩ := List.mem_filter.1 hp
 refine List.mem_filter.2 ⟨hp1, ?_⟩
 have := (List.all_eq_true.1 h) p.1 (List.mem_map_of_mem hp1)
 simp only [Bool.or_eq_true] at this
 rcases this with h1 | h1
 ·
  exact h1
 ·
  rw [h1] at hp2; cases hp2

theorem Stp_to {op : Op} {Φ : Value → World → Prop} (ks : List Nat) (T' : Facts) (hT : pickF ks T = T') (hm : pickB ops i ks (T.map (·.1)) = true) (hr : RunsTo P w E ⟨some d, op, ty, pos, after, guard⟩ Φ) (hd : Nat.blt d N = true) (hg : wants ds E guard = some true)
  (h : ∀ v w', Φ v w' → AllL T' w' ∧ HS P N ops ds T' s ((d, v) :: E) w' K) : Stp P N ops ds T i ⟨some d, op, ty, pos, after, guard⟩ s E w K := by
 subst hT
 refine Stp_to' hr hd hg fun v w' hΦ => ?_
 obtain ⟨h1, h2⟩ := h v w' hΦ
 have hA := h1.all
 have hs := drop_pick hm
 exact ⟨fun p hp => hA p (hs p hp), HS_sub hs hA h2⟩
theorem HS_to {op : Op} {Φ : Value → World → Prop} (ks : List Nat) (T' : Facts) (hT : pickF ks T = T') (hm : pickB ops i ks (T.map (·.1)) = true) (hr : RunsTo P w E ⟨some d, op, ty, pos, after, guard⟩ Φ) (hd : Nat.blt d N = true) (hg : wants ds E guard = some true)
  (h : ∀ v w', Φ v w' → AllL T' w' ∧ HS P N ops ds T' s ((d, v) :: E) w' K) : HS P N ops ds T (.loud i ⟨some d, op, ty, pos, after, guard⟩ s) E w K := HS_loud (Stp_to ks T' hT hm hr hd hg h)
theorem Stp_to0 {op : Op} {Φ : Value → World → Prop} (ks : List Nat) (T' : Facts) (hT : pickF ks T = T') (hm : pickB ops i ks (T.map (·.1)) = true) (hr : RunsTo P w E ⟨none, op, ty, pos, after, guard⟩ Φ) (hg : wants ds E guard = some true)
  (h : ∀ v w', Φ v w' → AllL T' w' ∧ HS P N ops ds T' s E w' K) : Stp P N ops ds T i ⟨none, op, ty, pos, after, guard⟩ s E w K := by
 subst hT
 refine Stp_to' hr rfl hg fun v w' hΦ => ?_
 obtain ⟨h1, h2⟩ := h v w' hΦ
 have hA := h1.all
 have hs := drop_pick hm
 exact ⟨fun p hp => hA p (hs p hp), HS_sub hs hA h2⟩
theorem HS_to0 {op : Op} {Φ : Value → World → Prop} (ks : List Nat) (T' : Facts) (hT : pickF ks T = T') (hm : pickB ops i ks (T.map (·.1)) = true) (hr : RunsTo P w E ⟨none, op, ty, pos, after, guard⟩ Φ) (hg : wants ds E guard = some true)
  (h : ∀ v w', Φ v w' → AllL T' w' ∧ HS P N ops ds T' s E w' K) : HS P N ops ds T (.loud i ⟨none, op, ty, pos, after, guard⟩ s) E w K := HS_loud (Stp_to0 ks T' hT hm hr hg h)
theorem Stp_call {op : Op} {f : FuncId} {args : Array Value} (ks : List Nat) (T' : Facts) (hT : pickF ks T = T') (hm : pickB ops i ks (T.map (·.1)) = true) (hr : Enters P w E ⟨some d, op, ty, pos, after, guard⟩ f args) (hd : Nat.blt d N = true) (hg : wants ds E guard = some true)
  (h : Calls P f args w fun e w' => ∃ v, e = .returned v ∧ AllL T' w' ∧ HS P N ops ds T' s ((d, v) :: E) w' K) : Stp P N ops ds T i ⟨some d, op, ty, pos, after, guard⟩ s E w K := by
 subst hT
 refine Stp_call' hr hd hg (h.mono fun e w' ⟨v, he, h1, h2⟩ => ?_)
 have hA := h1.all
 have hs := drop_pick hm
 exact ⟨v, he, fun p hp => hA p (hs p hp), HS_sub hs hA h2⟩
theorem HS_call {op : Op} {f : FuncId} {args : Array Value} (ks : List Nat) (T' : Facts) (hT : pickF ks T = T') (hm : pickB ops i ks (T.map (·.1)) = true) (hr : Enters P w E ⟨some d, op, ty, pos, after, guard⟩ f args) (hd : Nat.blt d N = true) (hg : wants ds E guard = some true)
  (h : Calls P f args w fun e w' => ∃ v, e = .returned v ∧ AllL T' w' ∧ HS P N ops ds T' s ((d, v) :: E) w' K) : HS P N ops ds T (.loud i ⟨some d, op, ty, pos, after, guard⟩ s) E w K := HS_loud (Stp_call ks T' hT hm hr hd hg h)
end

section
variable {P : Program} {w : World} {E : Env} {dst : Option Nat} {ty : TypeId} {pos : String} {after : Array Edge} {guard : Option (Nat × Bool)} {x y s : Operand} {t t' : TypeId}

theorem run_equal_of {a b : Value} {r : Bool} (h : ∀ d, (Op.equalIn (d + 1) t a b).run P w = .ok r w) : (Op.equal t a b).run P w = .ok r w := h 9999
theorem R_eqlOf {tu : TypeId} {a b : Value} {r : Bool} (hx : ev E x = some a) (hy : ev E y = some b) (hg : (eqGuard .eql t x y a b).run P w = .ok () w) (hb : binOp .eql t a b = (do pure (.bool (← Op.equal t a b)))) (h : ∀ d, (Op.equalIn (d + 1) t a b).run P w = .ok r w) :
  ∀ A N, Has N E A → (execOp A.eval ⟨dst, .binOp .eql t x y tu, ty, pos, after, guard⟩).run P w = .ok (.value (.bool r)) w := fun A N ha => by
 have h1 := run_equal_of h
 show ((do pure (.value (← (do eqGuard .eql t x y (A.eval x) (A.eval y); binOp .eql t (A.eval x) (A.eval y)))) : Sem Next)).run P w = _
 rw [ha.eval hx, ha.eval hy, hb]
 simp [hg, h1]
theorem R_neqOf {tu : TypeId} {a b : Value} {r : Bool} (hx : ev E x = some a) (hy : ev E y = some b) (hg : (eqGuard .neq t x y a b).run P w = .ok () w) (hb : binOp .neq t a b = (do pure (.bool (!(← Op.equal t a b))))) (h : ∀ d, (Op.equalIn (d + 1) t a b).run P w = .ok r w) :
  ∀ A N, Has N E A → (execOp A.eval ⟨dst, .binOp .neq t x y tu, ty, pos, after, guard⟩).run P w = .ok (.value (.bool (!r))) w := fun A N ha => by
 have h1 := run_equal_of h
 show ((do pure (.value (← (do eqGuard .neq t x y (A.eval x) (A.eval y); binOp .neq t (A.eval x) (A.eval y)))) : Sem Next)).run P w = _
 rw [ha.eval hx, ha.eval hy, hb]
 simp [hg, h1]
theorem R_ptrNil {tu : TypeId} {a : Option Addr} {e : TypeId} (hu : P.underlying t = some (.pointer e)) (hx : ev E x = some (.pointer a)) (hy : ev E y = some (.pointer none)) : Runs P w E ⟨dst, .binOp .eql t x y tu, ty, pos, after, guard⟩ (.bool a.isNone) := by
 refine R_eqlOf hx hy (by simp [eqGuard]) rfl fun d => ?_
 cases a <;> simp [Op.equalIn, run_underlying hu]
theorem R_ptrNotNil {tu : TypeId} {a : Option Addr} {e : TypeId} (hu : P.underlying t = some (.pointer e)) (hx : ev E x = some (.pointer a)) (hy : ev E y = some (.pointer none)) : Runs P w E ⟨dst, .binOp .neq t x y tu, ty, pos, after, guard⟩ (.bool (!a.isNone)) := by
 refine R_neqOf hx hy (by simp [eqGuard]) rfl fun d => ?_
 cases a <;> simp [Op.equalIn, run_underlying hu]
theorem R_boolNe {tu : TypeId} {a b : Bool} (hu : P.underlying t = some .bool) (hx : ev E x = some (.bool a)) (hy : ev E y = some (.bool b)) : Runs P w E ⟨dst, .binOp .neq t x y tu, ty, pos, after, guard⟩ (.bool (!(a == b))) := by
 refine R_neqOf hx hy (by simp [eqGuard]) rfl fun d => ?_
 simp [Op.equalIn, run_underlying hu]
theorem R_strEq {tu : TypeId} {a b : ByteArray} (hx : ev E x = some (.string a)) (hy : ev E y = some (.string b)) : Runs P w E ⟨dst, .binOp .eql t x y tu, ty, pos, after, guard⟩ (.bool (a.toList == b.toList)) := fun A N ha => by
 simp [execOp, ha.eval hx, ha.eval hy, binOp, eqGuard, Op.stringOp]
theorem R_strNe {tu : TypeId} {a b : ByteArray} (hx : ev E x = some (.string a)) (hy : ev E y = some (.string b)) : Runs P w E ⟨dst, .binOp .neq t x y tu, ty, pos, after, guard⟩ (.bool !(a.toList == b.toList)) := fun A N ha => by
 simp [execOp, ha.eval hx, ha.eval hy, binOp, eqGuard, Op.stringOp]
end
end Go.Sx

namespace Go.Sx
theorem e_ : (∀ E : Env, pickE E [] = []) ∧ (∀ (E : Env) (t : Nat) (ts : List Nat), pickE E (t :: ts) = match lookE E t with | some v => (t, v) :: pickE E ts | none => pickE E ts) ∧ (∀ t : Nat, lookE [] t = none) ∧
    (∀ (k : Nat) (v : Value) (E : Env) (t : Nat), lookE ((k, v) :: E) t = bif k == t then some v else lookE E t) ∧ (∀ (E : Env) (t : Nat) (v : Value), putE E (some t) v = (t, v) :: E) ∧ (∀ (E : Env) (v : Value), putE E none v = E) ∧
    (∀ (t : Nat) (ts : List Nat) (v : Value) (vs : List Value), zipE (t :: ts) (v :: vs) = (t, v) :: zipE ts vs) ∧ (∀ vs : List Value, zipE [] vs = []) ∧ (∀ (t : Nat) (ts : List Nat), zipE (t :: ts) [] = []) ∧ (∀ i : Nat, args0 [] i = []) ∧ (∀ (v : Value) (vs : List Value) (i : Nat), args0 (v :: vs) i = (i, v) :: args0 vs (i + 1)) ∧
    (∀ {α : Type} (a : α) (l m : List α), (a :: l) ++ m = a :: (l ++ m)) ∧ (∀ {α : Type} (m : List α), [] ++ m = m) ∧ (∀ {α : Type} (a b : α), cond true a b = a) ∧ (∀ {α : Type} (a b : α), cond false a b = b) ∧ (∀ n : Nat, 0 + n = n) :=
  ⟨fun _ => rfl, fun _ _ _ => rfl, fun _ => rfl, fun _ _ _ _ => rfl, fun _ _ _ => rfl, fun _ _ => rfl, fun _ _ _ _ => rfl, fun _ => rfl, fun _ _ => rfl, fun _ => rfl, fun _ _ _ => rfl, fun {_} _ _ _ => rfl, fun {_} _ => rfl, fun {_} _ _ => rfl, fun {_} _ _ => rfl, Nat.zero_add⟩
theorem ex_ {α : Type} {p q : α → Prop} {r : Prop} (h : ∃ x, p x ∧ q x) (k : ∀ x, p x → q x → r) : r := h.elim fun x h => k x h.1 h.2
instance (n : Nat) : OfNat (Option Nat) n := ⟨some n⟩
theorem mc_ : (∀ {α : Type} {a b : α} {l : List α}, (a ∈ b :: l) = (a = b ∨ a ∈ l)) ∧ (∀ {α : Type} {a : α}, (a ∈ ([] : List α)) = False) ∧ ∀ p : Prop, (p ∨ False) = p :=
  ⟨fun {_ _ _ _} => propext List.mem_cons, fun {_ _} => eq_false List.not_mem_nil, or_false⟩
section
variable {P : Program} {N : Nat} {ops : Array Oper} {ds : List (Option Nat)} {T : Facts} {s : Todo} {E : Env} {w : World} {K : Post} {i t : Nat} {op : Op} {ty : TypeId} {pos : String} {after : Array Edge} {guard : Option (Nat × Bool)} {v : Value}
theorem HSp (hy : ∀ {u : World}, Runs P u E ⟨some t, op, ty, pos, after, guard⟩ v) (hd : Nat.blt t N = true) (hg : wants ds E guard = some true)
    (h : HS P N ops ds T s ((t, v) :: E) w K) : HS P N ops ds T (.quiet i ⟨some t, op, ty, pos, after, guard⟩ s) E w K := HS_pure (fun _ => hy) hd hg h
end
end Go.Sx
namespace Go.Sx
open Go

theorem wI {n : Int} (h0 : -9223372036854775808 ≤ n) (h1 : n ≤ 9223372036854775807) : IntKind.i64.wrap n = n := by rw [IntKind.wrap_i64]; omega
theorem wU32 (n : Int) : IntKind.u32.wrap n = n % 4294967296 := by simp [IntKind.wrap, IntKind.bits, IntKind.signed]
theorem wU64 (n : Int) : IntKind.u64.wrap n = n % 18446744073709551616 := by simp [IntKind.wrap, IntKind.bits, IntKind.signed]
theorem wU8 (n : Int) : IntKind.u8.wrap n = n % 256 := by simp [IntKind.wrap, IntKind.bits, IntKind.signed]

theorem mul32 (a b : BitVec 32) : IntKind.u32.wrap ((a.toNat : Int) * (b.toNat : Int)) = ((a * b).toNat : Int) := by
 rw [wU32, BitVec.toNat_mul]; simp
theorem ofInt_nat (n : Nat) (w : Nat) : BitVec.ofInt w (n : Int) = BitVec.ofNat w n := by simp
theorem lt32 (n : Nat) (h : n < 4294967296) : IntKind.u32.wrap (n : Int) = n := by rw [wU32]; omega
theorem lt64 (n : Nat) (h : n < 18446744073709551616) : IntKind.u64.wrap (n : Int) = n := by rw [wU64]; omega
theorem lt8 (n : Nat) (h : n < 256) : IntKind.u8.wrap (n : Int) = n := by rw [wU8]; omega

theorem xor32 (a b : BitVec 32) : IntKind.u32.wrap ((BitVec.ofInt IntKind.u32.bits (a.toNat : Int) ^^^ BitVec.ofInt IntKind.u32.bits (b.toNat : Int)).toNat : Int) = ((a ^^^ b).toNat : Int) := by
 show IntKind.u32.wrap ((BitVec.ofInt 32 (a.toNat : Int) ^^^ BitVec.ofInt 32 (b.toNat : Int)).toNat : Int) = _
 simp only [ofInt_nat, BitVec.ofNat_toNat, BitVec.setWidth_eq]
 exact lt32 _ (a ^^^ b).isLt
theorem or64 (a b : BitVec 64) : IntKind.u64.wrap ((BitVec.ofInt IntKind.u64.bits (a.toNat : Int) ||| BitVec.ofInt IntKind.u64.bits (b.toNat : Int)).toNat : Int) = ((a ||| b).toNat : Int) := by
 show IntKind.u64.wrap ((BitVec.ofInt 64 (a.toNat : Int) ||| BitVec.ofInt 64 (b.toNat : Int)).toNat : Int) = _
 simp only [ofInt_nat, BitVec.ofNat_toNat, BitVec.setWidth_eq]
 exact lt64 _ (a ||| b).isLt
theorem bv8 (a : UInt8) : BitVec.ofInt 8 (a.toNat : Int) = a.toBitVec := by
 rw [ofInt_nat]
 show BitVec.ofNat 8 a.toBitVec.toNat = _
 simp
theorem xor8 (a b : UInt8) : IntKind.u8.wrap ((BitVec.ofInt IntKind.u8.bits (a.toNat : Int) ^^^ BitVec.ofInt IntKind.u8.bits (b.toNat : Int)).toNat : Int) = ((a ^^^ b).toNat : Int) := by
 show IntKind.u8.wrap ((BitVec.ofInt 8 (a.toNat : Int) ^^^ BitVec.ofInt 8 (b.toNat : Int)).toNat : Int) = _
 rw [bv8, bv8]
 exact lt8 _ (a ^^^ b).toBitVec.isLt
theorem shl32 (a : BitVec 32) (n : Nat) (hn : n ≤ 32) : IntKind.u32.wrap ((a.toNat : Int) * 2 ^ (min (n : Int).toNat IntKind.u32.bits)) = ((a <<< n).toNat : Int) := by
 have e : min (n : Int).toNat IntKind.u32.bits = n := by show min _ 32 = n; omega
 rw [e, wU32, BitVec.toNat_shiftLeft, Nat.shiftLeft_eq]
 simp
theorem shr32 (a : BitVec 32) (n : Nat) (hn : n ≤ 32) : (a.toNat : Int).fdiv (2 ^ (min (n : Int).toNat IntKind.u32.bits)) = ((a >>> n).toNat : Int) := by
 have e : min (n : Int).toNat IntKind.u32.bits = n := by show min _ 32 = n; omega
 rw [e, BitVec.toNat_ushiftRight, Nat.shiftRight_eq_div_pow]
 rw [Int.fdiv_eq_ediv_of_nonneg _ (by exact Int.le_of_lt (Int.pow_pos (by decide)))]
 simp
theorem shl64 (a : BitVec 64) (n : Nat) (hn : n ≤ 64) : IntKind.u64.wrap ((a.toNat : Int) * 2 ^ (min (n : Int).toNat IntKind.u64.bits)) = ((a <<< n).toNat : Int) := by
 have e : min (n : Int).toNat IntKind.u64.bits = n := by show min _ 64 = n; omega
 rw [e, wU64, BitVec.toNat_shiftLeft, Nat.shiftLeft_eq]
 simp
theorem c8_32 (a : UInt8) : IntKind.u32.wrap (a.toNat : Int) = ((a.toBitVec.setWidth 32).toNat : Int) := by
 have := a.toBitVec.isLt
 rw [wU32, BitVec.toNat_setWidth]; show ((a.toBitVec.toNat : Int)) % _ = _; omega
theorem c8_64 (a : UInt8) : IntKind.u64.wrap (a.toNat : Int) = ((a.toBitVec.setWidth 64).toNat : Int) := by
 have := a.toBitVec.isLt
 rw [wU64, BitVec.toNat_setWidth]; show ((a.toBitVec.toNat : Int)) % _ = _; omega
theorem c8_I (a : UInt8) : IntKind.i64.wrap (a.toNat : Int) = (a.toNat : Int) := by
 have : a.toNat < 256 := a.toBitVec.isLt
 exact wI (by omega) (by omega)
theorem c32_8 (a : BitVec 32) : IntKind.u8.wrap (a.toNat : Int) = ((UInt8.ofBitVec (a.setWidth 8)).toNat : Int) := by
 rw [wU8]; show _ = (((a.setWidth 8).toNat : Nat) : Int); rw [BitVec.toNat_setWidth]; omega
theorem cI_64 (n : Int) : IntKind.u64.wrap n = ((BitVec.ofInt 64 n).toNat : Int) := by
 rw [wU64, BitVec.toNat_ofInt]; omega
theorem cI_8 (n : Int) : IntKind.u8.wrap n = ((UInt8.ofBitVec (BitVec.ofInt 8 n)).toNat : Int) := by
 rw [wU8]; show _ = (((BitVec.ofInt 8 n).toNat : Nat) : Int); rw [BitVec.toNat_ofInt]; omega
theorem c64_I (a : BitVec 64) (h : (a.toNat : Int) ≤ 9223372036854775807) : IntKind.i64.wrap (a.toNat : Int) = (a.toNat : Int) := wI (by omega) h
end Go.Sx

namespace Go.Sx
open Go

def partPl (P : Program) (t : TypeId) : Option (List (Nat × Nat)) := match P.underlying t with
 | some (.struct fs) => fs.toList.mapM fun f => (sz P f.type).map fun n => (f.offset, n)
 | some (.array n e) => (sz P e).map fun s => (List.range n).map fun i => (i * s, s)
 | _ => none

def fillV : List Value → List (Nat × Nat) → List Value → Option (List Value)
 | cs, [], [] => some cs
 | cs, (o, n) :: pl, v :: vs => if v.cells.size = n ∧ o + n ≤ cs.length then fillV (over cs o v.cells.toList) pl vs else none
 | _, _, _ => none

theorem over_nil (cs : List Value) (o : Nat) : over cs o [] = cs := by simp [over]
theorem over_cons (cs : List Value) (o : Nat) (v : Value) (vs : List Value) (h : o + (vs.length + 1) ≤ cs.length) : over (cs.set o v) (o + 1) vs = over cs o (v :: vs) := by
 have := list_seg_step cs o v vs h
 simp only [over, List.length_cons]
 rw [← this]

theorem foldl_set : ∀ (vs : List Value) (k off : Nat) (cs : List Value), off + k + vs.length ≤ cs.length →
  ((vs.zipIdx k).foldl (fun (c : Array Value) (p : Value × Nat) => c.setIfInBounds (off + p.2) p.1) cs.toArray) = (over cs (off + k) vs).toArray
 | [], k, off, cs, _ => by simp [over_nil]
 | v :: vs, k, off, cs, h => by
  rw [List.zipIdx_cons, List.foldl_cons]
  have h' : off + k + (vs.length + 1) ≤ cs.length := by simpa using h
  have e : cs.toArray.setIfInBounds (off + k) v = (cs.set (off + k) v).toArray := by simp
  rw [e, foldl_set vs (k + 1) off (cs.set (off + k) v) (by simp; omega), ← Nat.add_assoc, over_cons cs (off + k) v vs h']

theorem fill_spec (place : Nat → Option (Nat × Nat)) : ∀ (parts : List (Nat × Value)) (pl : List (Nat × Nat)) (cs cs' : List Value),
  parts.map (fun p => place p.1) = pl.map some → fillV cs pl (parts.map (·.2)) = some cs' → Instr.fill place cs.toArray parts = some cs'.toArray
 | [], [], cs, cs', _, h => by simp [fillV] at h; subst h; rfl
 | [], _ :: _, _, _, hp, _ => by simp at hp
 | _ :: _, [], _, _, hp, _ => by simp at hp
 | (i, v) :: parts, (o, n) :: pl, cs, cs', hp, h => by
  simp only [List.map_cons, List.cons.injEq] at hp
  simp only [List.map_cons, fillV] at h
  split at h
  ·
   rename_i hc
   unfold Instr.fill
   rw [hp.1]
   have h1 : (v.cells.size ≠ n || o + v.cells.size > cs.toArray.size) = false := by
    simp [hc.1]; omega
   simp only [h1, Bool.false_eq_true, if_false]
   have h2 := foldl_set v.cells.toList 0 o cs (by simp [hc.1]; omega)
   rw [Nat.add_zero] at h2
   have h3 : v.cells.zipIdx.foldl (fun (c : Array Value) (p : Value × Nat) => c.setIfInBounds (o + p.2) p.1) cs.toArray = (over cs o v.cells.toList).toArray := by
    rw [← h2, ← Array.foldl_toList]
    simp
   rw [h3]
   exact fill_spec place parts pl _ _ hp.2 h
  ·
   cases h

section
variable {P : Program} {w : World} {E : Env} {dst : Option Nat} {ty : TypeId} {pos : String} {after : Array Edge} {guard : Option (Nat × Bool)} {x y s : Operand} {t t' : TypeId}

theorem run_mapM_pl {w : World} : ∀ (fs : List Field) (pl : List (Nat × Nat)), (fs.mapM fun f => (sz P f.type).map fun n => (f.offset, n)) = some pl →
  (fs.mapM (m := Sem) fun f => do pure (f.offset, ← sizeOf f.type)).run P w = .ok pl w
 | [], pl, h => by simp at h; subst h; rfl
 | f :: fs, pl, h => by
  simp only [List.mapM_cons, Option.bind_eq_bind, Option.bind_eq_some_iff] at h
  obtain ⟨a, ha, l, hl, h⟩ := h
  simp only [Option.pure_def, Option.some.injEq] at h
  subst h
  cases hs : sz P f.type with
  | none => rw [hs] at ha; cases ha
  | some n =>
   rw [hs] at ha
   simp at ha
   subst ha
   have ih := run_mapM_pl (w := w) fs l hl
   rw [List.mapM_cons, Sem.run_bind]
   have h1 : (do pure (f.offset, ← sizeOf f.type) : Sem (Nat × Nat)).run P w = .ok (f.offset, n) w := by simp [run_sizeOf hs]
   rw [h1, Result.andThen_ok, Sem.run_bind, ih, Result.andThen_ok]
   rfl

theorem evL_length {E : Env} : ∀ (xs : List Operand) (vs : List Value), evL E xs = some vs → vs.length = xs.length
 | [], vs, h => by simp [evL] at h; subst h; rfl
 | x :: xs, vs, h => by
  simp only [evL] at h
  split at h
  ·
   rename_i v vs' hv hvs
   cases h
   simp [evL_length xs vs' hvs]
  ·
   cases h

theorem parts_eval {N : Nat} {a : Act} (ha : Has N E a) : ∀ (parts : List (Nat × Operand)) (vs : List Value), evL E (parts.map (·.2)) = some vs → parts.map (fun p => (p.1, a.eval p.2)) = (parts.map (·.1)).zip vs
 | [], vs, h => by simp
 | (i, x) :: parts, vs, h => by
  simp only [List.map_cons, evL] at h
  split at h
  ·
   rename_i v vs' hv hvs
   cases h
   simp only [List.map_cons, List.zip_cons_cons, ha.eval hv, parts_eval ha parts vs' hvs]
  ·
   cases h

theorem R_build {parts : List (Nat × Operand)} {zs : List Value} {pls pl : List (Nat × Nat)} {vs cs : List Value} (hz : zr P t = some zs) (hp : partPl P t = some pls) (hpl : (parts.map (·.1)).map (fun i => pls[i]?) = pl.map some) (hv : evL E (parts.map (·.2)) = some vs)
  (hc : fillV zs pl vs = some cs) : Runs P w E ⟨dst, .build t parts.toArray, ty, pos, after, guard⟩ (.agg cs.toArray) := fun a N ha => by
 unfold zr at hz
 cases hzv : (P.info? t).bind (·.zero) with
 | none => rw [hzv] at hz; cases hz
 | some z =>
  rw [hzv] at hz
  simp at hz
  subst hz
  have hzero := run_zeroValue' (P := P) (w := w) (t := t) hzv
  have hpe := parts_eval ha parts vs hv
  have hl : (parts.map (·.1)).length = vs.length := by rw [evL_length _ _ hv]; simp
  have hz2 : ((parts.map (·.1)).zip vs).map (·.2) = vs := List.map_snd_zip (by omega)
  have hz1 : ((parts.map (·.1)).zip vs).map (·.1) = parts.map (·.1) := List.map_fst_zip (by omega)
  suffices h : (Instr.build t (parts.toArray.map fun (i, x) => (i, a.eval x))).run P w = .ok (.agg cs.toArray) w by
   simp only [execOp, Sem.run_bind]
   rw [h]
   rfl
  have hparts : (parts.toArray.map fun (i, x) => (i, a.eval x)).toList = (parts.map (·.1)).zip vs := by rw [← hpe]; simp
  unfold Instr.build
  simp only [Sem.run_bind, hzero, Result.andThen_ok, hparts]
  unfold partPl at hp
  split at hp
  ·
   rename_i fs hu
   have hm := run_mapM_pl (w := w) fs.toList pls hp
   have hm' : (fs.mapM (m := Sem) fun f => do pure (f.offset, ← sizeOf f.type)).run P w = .ok pls.toArray w := by
    rw [← Array.toArray_toList (xs := fs), List.mapM_toArray]
    show Sem.run P (_ >>= fun (l : List (Nat × Nat)) => pure l.toArray) w = _
    rw [Sem.run_bind, hm]
    rfl
   have hf := fill_spec (fun i => pls.toArray[i]?) ((parts.map (·.1)).zip vs) pl z.cells.toList cs (by
    rw [← hpl]
    conv => rhs; rw [← hz1, List.map_map]
    apply List.map_congr_left
    intro i hi
    simp) (by rw [hz2]; exact hc)
   rw [run_underlying hu]
   simp only [Result.andThen_ok, Sem.run_bind, hm']
   rw [show z.cells = z.cells.toList.toArray by simp, hf]
   rfl
  ·
   rename_i n e hu
   cases hs : sz P e with
   | none => rw [hs] at hp; cases hp
   | some sz0 =>
    rw [hs] at hp
    simp at hp
    subst hp
    have hf := fill_spec (fun i => some (i * sz0, sz0)) ((parts.map (·.1)).zip vs) pl z.cells.toList cs (by
     rw [← hpl]
     conv => rhs; rw [← hz1, List.map_map]
     apply List.map_congr_left
     intro i hi0
     have hi : i.1 ∈ parts.map (·.1) := by rw [← hz1]; exact List.mem_map_of_mem hi0
     show some (i.1 * sz0, sz0) = (List.map (fun i => (i * sz0, sz0)) (List.range n))[i.1]?
     generalize i.1 = i at hi
     have hh : (fun i => ((List.range n).map fun i => (i * sz0, sz0))[i]?) i ∈ pl.map some := by rw [← hpl]; exact List.mem_map_of_mem hi
     obtain ⟨q, _, hq⟩ := List.mem_map.1 hh
     by_cases hin : i < n
     ·
      simp [hin]
     ·
      exfalso
      have hq' : (List.map (fun i => (i * sz0, sz0)) (List.range n))[i]? = some q := hq.symm
      rw [List.getElem?_eq_none (by simpa using hin)] at hq'
      cases hq') (by rw [hz2]; exact hc)
    rw [run_underlying hu]
    simp only [Result.andThen_ok, Sem.run_bind, run_sizeOf hs]
    rw [show z.cells = z.cells.toList.toArray by simp, hf]
    rfl
  ·
   cases hp

end
end Go.Sx

namespace Go.Sx
open Go
section
variable {P : Program} {w : World} {E : Env} {dst : Option Nat} {ty : TypeId} {pos : String} {after : Array Edge} {guard : Option (Nat × Bool)} {x y s : Operand} {t t' : TypeId}

theorem rep_flat {l : List Value} {n : Nat} (hn : l.length = n) (hp : 0 < n) : ∀ len, (List.range (len * n)).map (fun k => l[k % n]!) = (List.replicate len l).flatten
 | 0 => by simp
 | len + 1 => by
  rw [List.replicate_succ, List.flatten_cons, ← rep_flat hn hp len, Nat.add_mul, Nat.one_mul, Nat.add_comm (len * n) n, List.range_add, List.map_append]
  congr 1
  ·
   apply List.ext_getElem
   ·
    simp [hn]
   ·
    intro i h1 h2
    have hi : i < n := by simpa using h1
    simp [Nat.mod_eq_of_lt hi, List.getElem?_eq_getElem (show i < l.length by omega)]
  ·
   rw [List.map_map]
   apply List.map_congr_left
   intro k _
   simp

theorem R_buildSlice {e n len bytes : Nat} {parts : List (Nat × Operand)} {zs : List Value} {vs cs : List Value} (el : Elem P t e n bytes) (hz : zr P e = some zs)
  (hlen : Nat.ble (len * n) 16777216 = true) (hpos : 0 < len * n) (hv : evL E (parts.map (·.2)) = some vs)
  (hc : fillV (List.replicate len zs).flatten (parts.map fun p => (p.1 * n, n)) vs = some cs) :
  RunsTo P w E ⟨dst, .buildSlice t len parts.toArray, ty, pos, after, guard⟩ (fun v w' => ∃ b, v = .slice (some ⟨b, 0, none⟩) len len ∧ b = w.heap.size ∧ Blk w' b e cs ∧ Fr [] w w') := fun a N ha => by
 obtain ⟨i, z, hi, hz0, rfl, rfl, hzs⟩ := el.row
 have hzz : zs = z.cells.toList := by
  unfold zr at hz
  rw [hi] at hz
  simp [hz0] at hz
  exact hz.symm
 subst hzz
 have hpe := parts_eval ha parts vs hv
 have hl : (parts.map (·.1)).length = vs.length := by rw [evL_length _ _ hv]; simp
 have hz2 : ((parts.map (·.1)).zip vs).map (·.2) = vs := List.map_snd_zip (by omega)
 have hz1 : ((parts.map (·.1)).zip vs).map (·.1) = parts.map (·.1) := List.map_fst_zip (by omega)
 have hparts : (parts.toArray.map fun (i, x) => (i, a.eval x)).toList = (parts.map (·.1)).zip vs := by rw [← hpe]; simp
 have hzero : (Array.range (len * i.size)).map (z.cells[· % z.cells.size]!) = (List.replicate len z.cells.toList).flatten.toArray := by
  apply Array.ext'
  rw [Array.toList_map, Array.toList_range, hzs]
  have := rep_flat (l := z.cells.toList) (n := i.size) (by simpa using hzs) el.pos len
  rw [← this]
  apply List.map_congr_left
  intro k _
  have hk : k % i.size < z.cells.size := by rw [hzs]; exact Nat.mod_lt _ el.pos
  rw [getElem!_pos z.cells _ hk, getElem!_pos z.cells.toList _ (by simpa using hk)]
  simp
 have hf := fill_spec (fun k => some (k * i.size, i.size)) ((parts.map (·.1)).zip vs) (parts.map fun p => (p.1 * i.size, i.size)) (List.replicate len z.cells.toList).flatten cs (by
  have : ((parts.map (·.1)).zip vs).map (fun p => some (p.1 * i.size, i.size)) = (((parts.map (·.1)).zip vs).map (·.1)).map (fun k => some (k * i.size, i.size)) := by rw [List.map_map]; rfl
  rw [this, hz1]
  simp) (by rw [hz2]; exact hc)
 have hr := run_buildSlice (P := P) w t e len (parts.toArray.map fun (i, x) => (i, a.eval x)) cs.toArray i z el.under hi hz0 (by have := Nat.le_of_ble_eq_true hlen; omega) (by omega) (by rw [hparts, hzero]; exact hf)
 refine ⟨_, _, ⟨w.heap.size, rfl, rfl, Blk.new w e cs, Fr.alloc _ _⟩, .inl ?_⟩
 simp only [execOp, Sem.run_bind]
 rw [hr]
 rfl

theorem R_convB {e b n c : Nat} {cs : List Value} (hu : P.underlying t = some (.slice e)) (he : P.underlying e = some (.int .u8)) (hx : ev E x = some (.slice (some ⟨b, 0, none⟩) n c)) (hB : Blk w b t' cs) :
  RunsTo P w E ⟨dst, .convert t t x, ty, pos, after, guard⟩ (fun v w' => v = .slice (some ⟨b, 0, none⟩) n c ∧ Rd w' (some ⟨b, 0, none⟩) cs ∧ Fr [b] w w') := fun a N ha => by
 have hsh : w.shape? b = some (t', cs.length) := by
  unfold Blk at hB
  simp [World.shape?, hB]
 have hr : (convert t t (.slice (some ⟨b, 0, none⟩) n c)).run P w = .ok (.slice (some ⟨b, 0, none⟩) n c) (w.freeze ⟨b, cs.length, none⟩ 1) := by
  simp [convert, run_underlying hu, run_underlying he, markStringish, hsh]
 refine ⟨_, _, ⟨rfl, ?_, ?_⟩, .inl (by simp only [execOp, ha.eval hx, Sem.run_bind]; rw [hr]; rfl)⟩
 ·
  have hb : (w.freeze ⟨b, cs.length, none⟩ 1).heap[b]? = some (.cells cs.toArray t' (cs.length, cs.length + 1)) := by
   unfold Blk at hB
   simp [World.freeze, Array.getElem?_modify, hB]
  intro j v hj
  refine ⟨rfl, ?_⟩
  simp only [adr, Option.getD_some, add_flat, Nat.zero_add]
  simp [World.cell?, hb, hj]
 ·
  refine ⟨rfl, rfl, rfl, by simp [World.freeze], fun k _ hn => ?_⟩
  have hk : b ≠ k := fun h => hn (by simp [h])
  simp [World.freeze, Array.getElem?_modify, hk]

theorem R_buildSlice0 {e n bytes : Nat} (el : Elem P t e n bytes) : RunsTo P w E ⟨dst, .buildSlice t 0 #[], ty, pos, after, guard⟩ (fun v w' => ∃ b, v = .slice (some ⟨b, 0, none⟩) 0 0 ∧ b = w.heap.size ∧ Blk w' b e [] ∧ Fr [] w w') := fun a N ha => by
 obtain ⟨i, z, hi, hz0, rfl, rfl, hzs⟩ := el.row
 have hr : (Instr.buildSlice t 0 #[]).run P w = .ok (.slice (some ⟨w.heap.size, 0, none⟩) 0 0) (w.alloc (.cells #[] e)) := by
  simp [Instr.buildSlice, run_underlying el.under, sizeOf, typeInfo, hi, Instr.fill, newRow]
  rw [show Array.map (fun (_ : Nat) => (default : Value)) (Array.range 0) = #[] from Array.ext' (by rw [Array.toList_map, Array.toList_range]; rfl)]
 refine ⟨_, _, ⟨w.heap.size, rfl, rfl, Blk.new w e [], Fr.alloc _ _⟩, .inl ?_⟩
 simp only [execOp, Sem.run_bind]
 rw [show (Array.map (fun (x : Nat × Operand) => (x.fst, a.eval x.snd)) (#[] : Array (Nat × Operand))) = #[] from by simp, hr]
 rfl
theorem Own.empty {B b e size : Nat} (hb : B ≤ b) (hB : Blk w b e []) : Own w B e size (some ⟨b, 0, none⟩) 0 0 [] := Own.mk hb hB (Nat.le_refl _) (by decide) (by simp) (by simp)
end
end Go.Sx

namespace Bl
abbrev W := BitVec 32
abbrev B := UInt8

def ror (x : W) (n : Nat) : W := (x <<< (32 - n)) ||| (x >>> n)

def addS (v : List W) (a b : Nat) (x : W) : List W := v.set a (v.getD a 0 + (v.getD b 0 + x))
def addT (v : List W) (a b : Nat) : List W := v.set a (v.getD a 0 + v.getD b 0)
def xorS (v : List W) (a b n : Nat) : List W := v.set a (ror (v.getD a 0 ^^^ v.getD b 0) n)
def stir (v : List W) (a b c d : Nat) (x y : W) : List W :=
 xorS (addT (xorS (addS (xorS (addT (xorS (addS v a b x) d a 16) c d) b c 12) a b y) d a 8) c d) b c 7
def orders : List (List Nat) :=
 [[0, 1, 2, 3, 4, 5, 6, 7, 8, 9, 10, 11, 12, 13, 14, 15],
   [14, 10, 4, 8, 9, 15, 13, 6, 1, 12, 0, 2, 11, 7, 5, 3],
   [11, 8, 12, 0, 5, 2, 15, 13, 10, 14, 3, 6, 7, 1, 9, 4],
   [7, 9, 3, 1, 13, 12, 11, 14, 2, 6, 5, 10, 4, 0, 15, 8],
   [9, 0, 5, 7, 2, 4, 10, 15, 14, 1, 11, 12, 6, 8, 3, 13],
   [2, 12, 6, 10, 0, 11, 8, 3, 4, 13, 7, 5, 15, 14, 1, 9],
   [12, 5, 1, 15, 14, 13, 4, 10, 0, 7, 6, 3, 9, 2, 8, 11],
   [13, 11, 7, 14, 12, 1, 3, 9, 5, 0, 15, 4, 8, 6, 2, 10],
   [6, 15, 14, 9, 11, 3, 0, 8, 12, 2, 13, 7, 1, 4, 10, 5],
   [10, 2, 8, 4, 7, 6, 1, 5, 15, 11, 9, 14, 3, 12, 13, 0]]

def first : List W := [0x6a09e667, 0xbb67ae85, 0x3c6ef372, 0xa54ff53a, 0x510e527f, 0x9b05688c, 0x1f83d9ab, 0x5be0cd19]

def word (b : List B) (i : Nat) : W :=
 (b.getD (4 * i) 0).toBitVec.setWidth 32 ||| (b.getD (4 * i + 1) 0).toBitVec.setWidth 32 <<< 8 ||| (b.getD (4 * i + 2) 0).toBitVec.setWidth 32 <<< 16 ||| (b.getD (4 * i + 3) 0).toBitVec.setWidth 32 <<< 24
def words (b : List B) : List W := (List.range 16).map (word b)

def step (m : List W) (o : List Nat) (v : List W) (i : Nat) : List W :=
 if i < 4 then stir v i (4 + i) (8 + i) (12 + i) (m.getD (o.getD (2 * i) 0) 0) (m.getD (o.getD (2 * i + 1) 0) 0)
 else let j := i - 4
  stir v j (4 + (j + 1) % 4) (8 + (j + 2) % 4) (12 + (j + 3) % 4) (m.getD (o.getD (8 + 2 * j) 0) 0) (m.getD (o.getD (9 + 2 * j) 0) 0)
def round (m : List W) (v : List W) (o : List Nat) : List W := (List.range 8).foldl (step m o) v

def start (h : List W) (n : Nat) (last : Bool) : List W :=
 let v := h ++ first
 let v := v.set 12 (v.getD 12 0 ^^^ BitVec.ofNat 32 n)
 let v := v.set 13 (v.getD 13 0 ^^^ BitVec.ofNat 32 (n / 4294967296))
 if last then v.set 14 (~~~ (v.getD 14 0)) else v
def mix (h : List W) (b : List B) (n : Nat) (last : Bool) : List W :=
 let v := orders.foldl (round (words b)) (start h n last)
 (List.range 8).map fun i => h.getD i 0 ^^^ v.getD i 0 ^^^ v.getD (8 + i) 0

def bytesOf (h : List W) : List B := h.flatMap fun (x : W) => [UInt8.ofBitVec (x.setWidth 8), UInt8.ofBitVec ((x >>> 8).setWidth 8), UInt8.ofBitVec ((x >>> 16).setWidth 8), UInt8.ofBitVec ((x >>> 24).setWidth 8)]

structure D where
 h : List W
 rest : List B
 n : Nat

def eat (fuel : Nat) (d : D) : D :=
 match fuel with
 | 0 => d
 | f + 1 => if 64 < d.rest.length then eat f ⟨mix d.h (d.rest.take 64) (d.n + 64) false, d.rest.drop 64, d.n + 64⟩ else d
def add (d : D) (b : List B) : D := let d := { d with rest := d.rest ++ b }; eat d.rest.length d
end Bl

namespace Go.Sx
open Go
theorem Rd.off {w : World} {A : Addr} {x : Value} {xs : List Value} {b : Nat} (h : Rd w (some A) (x :: xs)) (hb : b = w.heap.size) : Off (some A) [b] := by
 rintro a ⟨⟩ hm
 have := World.block_lt_of_cell? w _ (h 0 x rfl).2
 rw [block_add] at this
 simp only [adr, Option.getD_some, List.mem_singleton] at this hm
 omega
end Go.Sx
namespace Go.Sx
open Go
theorem Rd.lt {w : World} {A : Addr} {x : Value} {xs : List Value} (h : Rd w (some A) (x :: xs)) : A.block < w.heap.size := by
 have := World.block_lt_of_cell? w _ (h 0 x rfl).2
 rwa [block_add] at this
end Go.Sx
namespace Go.Sx
open Go
end Go.Sx
namespace Go.Sx
end Go.Sx
namespace Go.Sx
end Go.Sx

namespace Go.Sx
open Go
section
variable {P : Program} {w : World} {E : Env} {dst : Option Nat} {ty : TypeId} {pos : String} {after : Array Edge} {guard : Option (Nat × Bool)} {x y s : Operand} {t t' : TypeId}
def OwnB (w : World) (B e : Nat) (A : Option Addr) (c : Nat) (xs : List UInt8) : Prop := Own w B e 1 A xs.length c (xs.map vb)
theorem OwnB.rd {B e c : Nat} {A : Option Addr} {xs : List UInt8} (h : OwnB w B e A c xs) : Rd w A (xs.map vb) := Own.rd h
theorem OwnB.nil (w : World) (B e : Nat) : OwnB w B e none 0 [] := Own.nil ..
theorem OwnB.empty {B b e : Nat} (hb : B ≤ b) (hB : Blk w b e []) : OwnB w B e (some ⟨b, 0, none⟩) 0 [] := Own.empty hb hB
theorem OwnB.fr {B e c : Nat} {A : Option Addr} {xs : List UInt8} {M : List Nat} {w' : World} (h : OwnB w B e A c xs) (hf : Fr M w w') (hn : ∀ i ∈ blkOf A, i ∉ M) : OwnB w' B e A c xs := Own.fr h hf hn
theorem OwnB.fr0 {B e c : Nat} {A : Option Addr} {xs : List UInt8} {w' : World} (h : OwnB w B e A c xs) (hf : Fr [] w w') : OwnB w' B e A c xs := Own.fr0 h hf
end

section
variable {P : Program} {w : World} {E : Env} {dst : Option Nat} {ty : TypeId} {pos : String} {after : Array Edge} {guard : Option (Nat × Bool)} {x y s : Operand} {t t' : TypeId}
theorem R_bytesStr {td e n c : Nat} {A : Option Addr} {bs : List UInt8} (hs : P.underlying t = some (.slice e)) (he : P.underlying e = some (.int .u8)) (hd : P.underlying td = some .string) (hx : ev E x = some (.slice A n c)) (hn : n = bs.length) (hR : Rd w A (bs.map vb)) :
  Runs P w E ⟨dst, .convert t td x, ty, pos, after, guard⟩ (.string ⟨bs.toArray⟩) := fun a N ha => by
 subst hn
 have hr : (convert t td (.slice A bs.length c)).run P w = .ok (.string ⟨bs.toArray⟩) w := by
  cases A with
  | none =>
   have : bs = [] := by
    cases bs with
    | nil => rfl
    | cons b l => have := (hR 0 (vb b) rfl).1; cases this
   subst this
   exact run_convert_bytes_nil w t e hs he _ _ td hd
  | some a0 =>
   refine run_convert_bytes_back w t td e a0 c bs hs he hd fun j hj => ?_
   exact (hR j _ (by simp [List.getElem?_map, List.getElem?_eq_getElem hj])).2
 simp only [execOp, ha.eval hx, Sem.run_bind]
 rw [hr]
 rfl

end

section
variable {P : Program} {w : World} {E : Env} {dst : Option Nat} {ty : TypeId} {pos : String} {after : Array Edge} {guard : Option (Nat × Bool)} {x y s : Operand} {t t' : TypeId}
theorem R_slNil {tu e : TypeId} {A : Option Addr} {n c n' c' : Nat} (hu : P.underlying t = some (.slice e)) (hx : ev E x = some (.slice A n c)) (hy : ev E y = some (.slice none n' c')) : Runs P w E ⟨dst, .binOp .eql t x y tu, ty, pos, after, guard⟩ (.bool A.isNone) := by
 refine R_eqlOf hx hy (by simp [eqGuard]) rfl fun d => ?_
 cases A <;> simp [Op.equalIn, run_underlying hu]
theorem strEq_dec (xs ys : List UInt8) : ((⟨xs.toArray⟩ : ByteArray).toList == (⟨ys.toArray⟩ : ByteArray).toList) = decide (xs = ys) := by
 have h : ∀ l : List UInt8, (⟨l.toArray⟩ : ByteArray).toList = l := fun l => by rw [ByteArray.toList_eq]
 rw [h, h]
 by_cases e : xs = ys <;> simp [e]
theorem R_strEqB {tu : TypeId} {xs ys : List UInt8} (hx : ev E x = some (.string ⟨xs.toArray⟩)) (hy : ev E y = some (.string ⟨ys.toArray⟩)) : Runs P w E ⟨dst, .binOp .eql t x y tu, ty, pos, after, guard⟩ (.bool (decide (xs = ys))) := by
 rw [← strEq_dec]; exact R_strEq hx hy
theorem R_strNeB {tu : TypeId} {xs ys : List UInt8} (hx : ev E x = some (.string ⟨xs.toArray⟩)) (hy : ev E y = some (.string ⟨ys.toArray⟩)) : Runs P w E ⟨dst, .binOp .neq t x y tu, ty, pos, after, guard⟩ (.bool (decide (xs ≠ ys))) := by
 have := R_strNe (P := P) (w := w) (E := E) (dst := dst) (ty := ty) (pos := pos) (after := after) (guard := guard) (t := t) (tu := tu) hx hy
 rw [strEq_dec] at this
 simpa using this
end
theorem Rd.at {w : World} {A : Option Addr} {xs : List Value} {i : Nat} {v : Value} (h : Rd w A xs) (hi : xs[i]? = some v) : w.cell? ((adr A).add ((i : Int).toNat * 1)) = some v := by
 have := (h i v hi).2
 simpa using this
theorem Rd.some {w : World} {A : Option Addr} {bs : List UInt8} (h : Rd w A (bs.map vb)) (hi : 0 < bs.length) : A.isSome = true := (h 0 (vb bs[0]) (by simp [List.getElem?_eq_getElem hi])).1
theorem Own.ltA {w : World} {B e size n c : Nat} {A : Option Addr} {xs : List Value} (h : Own w B e size A n c xs) : ∀ i ∈ blkOf A, i < w.heap.size := by
 rcases h.form with ⟨rfl, _, _, _⟩ | ⟨g, cur, rfl, _, hg, _⟩
 ·
  simp [blkOf]
 ·
  simpa [blkOf] using hg.lt
end Go.Sx

namespace Go.Sx
open Go
section
variable {P : Program} {w : World} {E : Env} {dst : Option Nat} {ty : TypeId} {pos : String} {after : Array Edge} {guard : Option (Nat × Bool)} {x y : Operand} {t t' : TypeId}
theorem R_storeOwn {B e c i n : Nat} {A : Option Addr} {xs : List Value} {v : Value} (hs : sz P t = some 1) (hx : ev E x = some (.pointer (some ((adr A).add ((i : Int).toNat * 1))))) (hy : ev E y = some v) (hQ : Own w B e 1 A n c xs) (hi : i < n) (h1 : v.oneCell' = true) :
  RunsTo P w E ⟨none, .store t x y, ty, pos, after, guard⟩ (fun _ w' => Own w' B e 1 A n c (xs.set i v) ∧ Fr (blkOf A) w w') := by
 rcases hQ.form with ⟨_, rfl, _, _⟩ | ⟨g, cur, rfl, hb, hB, h2, h3, h4, h5⟩
 ·
  omega
 ·
  have hx' : ev E x = some (.pointer (some ⟨g, i, none⟩)) := by
   rw [hx]; simp [adr, add_flat]
  intro a N ha
  obtain ⟨u, w', ⟨hB', hF⟩, hr⟩ := R_store (ty := ty) (pos := pos) (after := after) (guard := guard) hs hx' hy hB (by omega) h1 a N ha
  refine ⟨u, w', ⟨Own.mk hb hB' h2 h3 (by simpa using h4) ?_, by simpa [blkOf] using hF⟩, hr⟩
  rw [Nat.mul_one] at h5 ⊢
  rw [← h5, List.take_set]
end
theorem OwnB.lt {w : World} {B e c : Nat} {A : Option Addr} {xs : List UInt8} (h : OwnB w B e A c xs) : ∀ i ∈ blkOf A, i < w.heap.size := Own.ltA h
theorem OwnB.off {w : World} {B e c : Nat} {A : Option Addr} {xs : List UInt8} (h : OwnB w B e A c xs) : ∀ i ∈ blkOf A, B ≤ i := Own.off h
theorem OwnB.le {w : World} {B B' e c : Nat} {A : Option Addr} {xs : List UInt8} (h : OwnB w B e A c xs) (hb : B' ≤ B) : OwnB w B' e A c xs := by
 rcases Own.form h with ⟨rfl, h1, rfl, h2⟩ | ⟨g, cur, rfl, hg, hB, h1, h3, h4, h5⟩
 ·
  have : xs = [] := List.eq_nil_of_length_eq_zero h1
  subst this
  exact OwnB.nil ..
 ·
  exact Own.mk (Nat.le_trans hb hg) hB h1 h3 h4 h5
end Go.Sx

namespace Go.Lx
open Go Go.Sx

abbrev Gh := Addr → Value → Prop
def Gh.or (G L : Gh) : Gh := fun a v => G a v ∨ L a v
def Gh.no : Gh := fun _ _ => False
def Le (G G' : Gh) : Prop := ∀ a v, G a v → G' a v
theorem Le.refl (G : Gh) : Le G G := fun _ _ h => h
theorem Le.trans {A B C : Gh} (h : Le A B) (k : Le B C) : Le A C := fun a v x => k a v (h a v x)
theorem Le.no (G : Gh) : Le Gh.no G := fun _ _ h => h.elim
theorem Le.l (G L : Gh) : Le G (G.or L) := fun _ _ h => .inl h
theorem Le.r (G L : Gh) : Le L (G.or L) := fun _ _ h => .inr h
def St (H : Gh) (w : World) : Prop := ∀ a v, H a v → w.cell? a = some v
def Out (H : Gh) (b : Nat) : Prop := ∀ a v, H a v → a.block ≠ b

theorem St.lt {H : Gh} {w : World} (h : St H w) {a : Addr} {v : Value} (k : H a v) : a.block < w.heap.size := World.block_lt_of_cell? w a (h a v k)
theorem St.fr {H : Gh} {w w' : World} {M : List Nat} (h : St H w) (hf : Fr M w w') (ho : ∀ b ∈ M, Out H b) : St H w' := fun a v k => hf.cell (h a v k) fun hm => ho _ hm a v k rfl
theorem St.fr0 {H : Gh} {w w' : World} (h : St H w) (hf : Fr [] w w') : St H w' := h.fr hf (by simp)
theorem Out.ge {H : Gh} {w : World} {b : Nat} (h : St H w) (hb : w.heap.size ≤ b) : Out H b := fun a v k e => by have := h.lt k; omega
theorem Out.le {G H : Gh} {b : Nat} (h : Out H b) (hl : Le G H) : Out G b := fun a v k => h a v (hl a v k)
theorem Out.or {G H : Gh} {b : Nat} (h : Out H b) (h2 : Out G b) : Out (H.or G) b := fun a v k => k.elim (h a v) (h2 a v)

structure Inv (M : List Nat) (G : Gh) (w0 : World) (L H : Gh) (w : World) : Prop where
 fr : Fr M w0 w
 st : St H w
 le : Le G H
 sub : Le L H
 new : ∀ a v, H a v → a.block < w0.heap.size → G a v
 lnew : ∀ a v, L a v → w0.heap.size ≤ a.block
structure Up (M : List Nat) (L H : Gh) (w : World) (L' H' : Gh) (w' : World) : Prop where
 fr : Fr M w w'
 ll : Le L L'
 hh : Le H H'
 new : ∀ a v, H' a v → a.block < w.heap.size → H a v ∨ a.block ∈ M

section
variable {M M' : List Nat} {G : Gh} {w0 : World} {L H L' H' Hb Hb' : Gh} {w w' : World}
theorem Inv.start {M : List Nat} {G : Gh} {w : World} (h : St G w) : Inv M G w Gh.no G w := ⟨Fr.refl M w, h, Le.refl G, Le.no G, fun _ _ k _ => k, fun _ _ k => k.elim⟩
theorem Inv.size (h : Inv M G w0 L H w) : w0.heap.size ≤ w.heap.size := h.fr.size
theorem Inv.fr0 (h : Inv M G w0 L H w) (hf : Fr [] w w') : Inv M G w0 L H w' := ⟨h.fr.then0 hf, h.st.fr0 hf, h.le, h.sub, h.new, h.lnew⟩
theorem Inv.tok (h : Inv M G w0 L H w) (hf : Fr M' w w') (ho : ∀ b ∈ M', Out H b) (hM : ∀ i ∈ M', i < w0.heap.size → i ∈ M) : Inv M G w0 L H w' := ⟨h.fr.then hf hM, h.st.fr hf ho, h.le, h.sub, h.new, h.lnew⟩
theorem Up.fr0 (hf : Fr [] w w') : Up [] L H w L H w' := ⟨hf, Le.refl _, Le.refl _, fun _ _ k _ => .inl k⟩
theorem Up.tok (hf : Fr M w w') : Up M L H w L H w' := ⟨hf, Le.refl _, Le.refl _, fun _ _ k _ => .inl k⟩
theorem Inv.call (h : Inv M G w0 L H w) (k : Inv M' H w L' H' w') (hM : ∀ i ∈ M', i < w0.heap.size → i ∈ M) : ∃ L2, Inv M G w0 L2 H' w' ∧ Up M' L H w L2 H' w' ∧ Le L' L2 :=
 ⟨L.or L', ⟨h.fr.then k.fr hM, k.st, h.le.trans k.le, fun a v x => x.elim (fun x => k.le a v (h.sub a v x)) (k.sub a v), fun a v x hlt => h.new a v (k.new a v x (Nat.lt_of_lt_of_le hlt h.fr.size)) hlt,
   fun a v x => x.elim (h.lnew a v) (fun x => Nat.le_trans h.fr.size (k.lnew a v x))⟩, ⟨k.fr, Le.l _ _, k.le, fun a v x hlt => .inl (k.new a v x hlt)⟩, Le.r _ _⟩
theorem Inv.callB (h : Inv M G w0 L H w) (hb : Le H Hb) (k : Inv M' Hb w L' Hb' w') (hM : ∀ i ∈ M', i < w0.heap.size → i ∈ M) : ∃ L2 H2, Inv M G w0 L2 H2 w' ∧ Up M' L H w L2 H2 w' ∧ Le L' L2 ∧ Le H2 Hb' :=
 ⟨L.or L', H.or L', ⟨h.fr.then k.fr hM, fun a v x => x.elim (fun x => k.st a v (k.le a v (hb a v x))) (fun x => k.st a v (k.sub a v x)), h.le.trans (Le.l _ _), fun a v x => x.elim (fun x => .inl (h.sub a v x)) .inr,
   fun a v x hlt => x.elim (fun x => h.new a v x hlt) (fun x => absurd (k.lnew a v x) (by have := h.fr.size; omega)), fun a v x => x.elim (h.lnew a v) (fun x => Nat.le_trans h.fr.size (k.lnew a v x))⟩,
   ⟨k.fr, Le.l _ _, Le.l _ _, fun a v x hlt => x.elim .inl fun x => absurd (k.lnew a v x) (by omega)⟩, Le.r _ _, fun a v x => x.elim (fun x => k.le a v (hb a v x)) (k.sub a v)⟩
theorem mem1 {d n : Nat} (h : d ∈ M) : ∀ i ∈ [d], i < n → i ∈ M := fun i hi _ => by rw [List.mem_singleton] at hi; exact hi ▸ h
theorem new1 {d n : Nat} (h : n ≤ d) : ∀ i ∈ [d], i < n → i ∈ M := fun i hi hlt => by rw [List.mem_singleton] at hi; omega
theorem out1 {d : Nat} (h : Out H d) : ∀ b ∈ [d], Out H b := fun i hi => by rw [List.mem_singleton] at hi; exact hi ▸ h
end

structure Tok (H : Gh) (w : World) (d t : Nat) (cs : List Value) : Prop where
 blk : Blk w d t cs
 out : Out H d
theorem Tok.up {M : List Nat} {L H L' H' : Gh} {w w' : World} {d t : Nat} {cs : List Value} (h : Tok H w d t cs) (u : Up M L H w L' H' w') (hM : d ∉ M) : Tok H' w' d t cs := ⟨h.blk.fr u.fr hM, fun a v k e => (u.new a v k (e ▸ h.blk.lt)).elim (fun k => h.out a v k e) fun k => hM (e ▸ k)⟩
theorem Tok.fr0 {H : Gh} {w w' : World} {d t : Nat} {cs : List Value} (h : Tok H w d t cs) (hf : Fr [] w w') : Tok H w' d t cs := ⟨h.blk.fr0 hf, h.out⟩
theorem Tok.fr {M : List Nat} {H : Gh} {w w' : World} {d t : Nat} {cs : List Value} (h : Tok H w d t cs) (hf : Fr M w w') (hM : d ∉ M) : Tok H w' d t cs := ⟨h.blk.fr hf hM, h.out⟩

class Rp (α : Type) where
 n : Nat
 cs : Gh → α → List Value → Prop
 mono : ∀ {G G' : Gh} {x : α} {l : List Value}, Le G G' → cs G x l → cs G' x l
 len : ∀ {G : Gh} {x : α} {l : List Value}, cs G x l → l.length = n
 one : ∀ {G : Gh} {x : α} {l : List Value}, cs G x l → l.all (·.oneCell') = true
class Sc (α : Type) extends Rp α where
 enc : α → Value
 sc : ∀ {G : Gh} {x : α} {l : List Value}, cs G x l ↔ l = [enc x]
 n1 : n = 1

abbrev vs (s : Str) : Value := .string ⟨s.b.toArray⟩

@[reducible] def Sc.mk' {α : Type} (enc : α → Value) (h1 : ∀ x, (enc x).oneCell' = true) : Sc α where
 n := 1
 cs := fun _ x l => l = [enc x]
 mono := fun _ h => h
 len := fun h => by rw [h]; rfl
 one := fun h => by rw [h]; simp [h1]
 enc := enc
 sc := Iff.rfl
 n1 := rfl
instance : Sc Int := Sc.mk' vi fun _ => rfl
instance : Sc UInt8 := Sc.mk' vb fun _ => rfl
instance : Sc (BitVec 32) := Sc.mk' w32 fun _ => rfl
instance : Sc (BitVec 64) := Sc.mk' w64 fun _ => rfl
instance : Sc Bool := Sc.mk' (fun b => .bool b) fun _ => rfl
instance : Sc Str := Sc.mk' vs fun _ => rfl

inductive All2 {α β : Type} (R : α → β → Prop) : List α → List β → Prop
 | nil : All2 R [] []
 | cons {a b l m} : R a b → All2 R l m → All2 R (a :: l) (b :: m)
theorem All2.mono {α β : Type} {R S : α → β → Prop} (h : ∀ a b, R a b → S a b) : ∀ {l m}, All2 R l m → All2 S l m
 | _, _, .nil => .nil
 | _, _, .cons x y => .cons (h _ _ x) (y.mono h)
theorem All2.app {α β : Type} {R : α → β → Prop} : ∀ {l m l' m'}, All2 R l m → All2 R l' m' → All2 R (l ++ l') (m ++ m')
 | _, _, _, _, .nil, h => h
 | _, _, _, _, .cons x y, h => .cons x (y.app h)
theorem All2.len {α β : Type} {R : α → β → Prop} : ∀ {l m}, All2 R l m → l.length = m.length
 | _, _, .nil => rfl
 | _, _, .cons _ y => by simp [y.len]
theorem All2.drop {α β : Type} {R : α → β → Prop} : ∀ (n : Nat) {l m}, All2 R l m → All2 R (l.drop n) (m.drop n)
 | 0, _, _, h => h
 | n + 1, _, _, .nil => .nil
 | n + 1, _, _, .cons _ y => y.drop n
theorem All2.take {α β : Type} {R : α → β → Prop} : ∀ (n : Nat) {l m}, All2 R l m → All2 R (l.take n) (m.take n)
 | 0, _, _, _ => .nil
 | n + 1, _, _, .nil => .nil
 | n + 1, _, _, .cons x y => .cons x (y.take n)

section
variable {α : Type} [Rp α] {G G' : Gh} {xs ys : List α} {css dss : List (List Value)} {A : Option Addr}
theorem flat_len (h : All2 (Rp.cs G) xs css) : css.flatten.length = xs.length * Rp.n α := by
 induction h with
 | nil => simp
 | cons x _ ih => rw [List.flatten_cons, List.length_append, ih, Rp.len x, List.length_cons, Nat.add_mul]; omega
theorem flat_one (h : All2 (Rp.cs G) xs css) : css.flatten.all (·.oneCell') = true := by
 induction h with
 | nil => rfl
 | cons x _ ih => rw [List.flatten_cons, List.all_append, Rp.one x, ih]; rfl
theorem flat_drop (n : Nat) (h : All2 (Rp.cs G) xs css) : css.flatten.drop (n * Rp.n α) = (css.drop n).flatten := by
 induction n generalizing xs css with
 | zero => simp
 | succ n ih =>
  cases h with
  | nil => simp
  | cons x y =>
   rw [List.flatten_cons, List.drop_succ_cons, ← ih y, Nat.add_mul, Nat.one_mul, Nat.add_comm (n * _), ← List.drop_drop]
   congr 1
   rw [← Rp.len x, List.drop_left]
theorem flat_take (n : Nat) (h : All2 (Rp.cs G) xs css) : css.flatten.take (n * Rp.n α) = (css.take n).flatten := by
 induction n generalizing xs css with
 | zero => simp
 | succ n ih =>
  cases h with
  | nil => simp
  | cons x y =>
   rw [List.flatten_cons, List.take_succ_cons, List.flatten_cons, ← ih y, Nat.add_mul, Nat.one_mul, Nat.add_comm (n * _), List.take_add, ← Rp.len x, List.take_left, List.drop_left]
theorem flat_at {i : Nat} {x : α} (h : All2 (Rp.cs G) xs css) (hx : xs[i]? = some x) : ∃ l, Rp.cs G x l ∧ ∀ (k : Nat) v, l[k]? = some v → css.flatten[i * Rp.n α + k]? = some v := by
 induction h generalizing i with
 | nil => simp at hx
 | cons x0 hy ih =>
  cases i with
  | zero =>
   simp only [List.getElem?_cons_zero, Option.some.injEq] at hx
   subst hx
   refine ⟨_, x0, fun k v hv => ?_⟩
   rw [Nat.zero_mul, Nat.zero_add, List.flatten_cons, List.getElem?_append_left (List.getElem?_eq_some_iff.1 hv).1]; exact hv
  | succ i =>
   obtain ⟨l, hl, hk⟩ := ih (by simpa using hx)
   refine ⟨l, hl, fun k v hv => ?_⟩
   rw [List.flatten_cons, List.getElem?_append_right (by rw [Rp.len x0, Nat.add_mul]; omega), Rp.len x0, show (i + 1) * Rp.n α + k - Rp.n α = i * Rp.n α + k by rw [Nat.add_mul]; omega]
   exact hk k v hv

def Fz (G : Gh) (A : Option Addr) (l : List Value) : Prop := ∀ (j : Nat) v, l[j]? = some v → A.isSome = true ∧ G ((adr A).add j) v
def Sl (G : Gh) (A : Option Addr) (xs : List α) : Prop := ∃ css, All2 (Rp.cs G) xs css ∧ Fz G A css.flatten
theorem Fz.up {l : List Value} (h : Fz G A l) (hl : Le G G') : Fz G' A l := fun j v k => ⟨(h j v k).1, hl _ _ (h j v k).2⟩
theorem Fz.rd {w : World} {l : List Value} (h : Fz G A l) (hs : St G w) : Rd w A l := fun j v k => ⟨(h j v k).1, hs _ _ (h j v k).2⟩
theorem Sl.up (h : Sl G A xs) (hl : Le G G') : Sl G' A xs := ⟨_, h.choose_spec.1.mono fun _ _ => Rp.mono hl, h.choose_spec.2.up hl⟩
theorem Sl.nil : Sl G A ([] : List α) := ⟨[], .nil, fun j v h => by simp at h⟩
instance : Rp (List α) where
 n := 1
 cs := fun G xs l => ∃ A c, l = [.slice A xs.length c] ∧ xs.length ≤ c ∧ Sl G A xs
 mono := fun hl ⟨A, c, h1, h2, h3⟩ => ⟨A, c, h1, h2, h3.up hl⟩
 len := fun ⟨A, c, h1, _⟩ => by rw [h1]; rfl
 one := fun ⟨A, c, h1, _⟩ => by rw [h1]; rfl
theorem Sl.at_ {i : Nat} {x : α} (h : Sl G A xs) (hx : xs[i]? = some x) (h0 : 0 < Rp.n α) : A.isSome = true ∧ ∃ l, Rp.cs G x l ∧ ∀ (k : Nat) v, l[k]? = some v → G (((adr A).add (i * Rp.n α)).add k) v := by
 obtain ⟨css, h1, h2⟩ := h
 obtain ⟨l, hl, hk⟩ := flat_at h1 hx
 refine ⟨?_, l, hl, fun k v hv => ?_⟩
 ·
  cases l with
  | nil => have := Rp.len hl; simp at this; omega
  | cons v l => exact (h2 _ _ (hk 0 v rfl)).1
 ·
  rw [Sx.add_add]; exact (h2 _ _ (hk k v hv)).2
theorem Sl.drop (h : Sl G A xs) (c : Prop) [Decidable c] (n : Nat) (hc : c → xs.length ≤ n) (h0 : 0 < Rp.n α) : Sl G (if c then A else A.map (·.add (n * Rp.n α))) (xs.drop n) := by
 obtain ⟨css, h1, h2⟩ := h
 refine ⟨css.drop n, h1.drop n, fun j v hv => ?_⟩
 rw [← flat_drop n h1, List.getElem?_drop] at hv
 have hlt : n * Rp.n α + j < css.flatten.length := (List.getElem?_eq_some_iff.1 hv).1
 rw [flat_len h1] at hlt
 rw [if_neg (fun h => by have := Nat.mul_le_mul_right (Rp.n α) (hc h); omega)]
 obtain ⟨h3, h4⟩ := h2 _ _ hv
 cases A with
 | none => cases h3
 | some a => exact ⟨rfl, by simp only [adr, Option.map_some, Option.getD_some, Sx.add_add] at h4 ⊢; exact h4⟩
theorem Sl.take (h : Sl G A xs) (n : Nat) : Sl G A (xs.take n) := by
 obtain ⟨css, h1, h2⟩ := h
 refine ⟨css.take n, h1.take n, fun j v hv => h2 j v ?_⟩
 rw [← flat_take n h1, List.getElem?_take] at hv
 split at hv
 ·
  exact hv
 ·
  cases hv
end

section
variable {α : Type} [Sc α] {G : Gh} {xs : List α} {A : Option Addr}
theorem all2_sc {css : List (List Value)} (h : All2 (Rp.cs G) xs css) : css = xs.map fun x => [Sc.enc x] := by
 induction h with
 | nil => rfl
 | cons x _ ih => rw [ih, List.map_cons, Sc.sc.1 x]
theorem all2_sc' : ∀ (xs : List α), All2 (Rp.cs G) xs (xs.map fun x => [Sc.enc x])
 | [] => .nil
 | x :: xs => .cons (Sc.sc.2 rfl) (all2_sc' xs)
theorem flat_sc : ∀ (xs : List α), (xs.map fun x => [Sc.enc x]).flatten = xs.map Sc.enc
 | [] => rfl
 | x :: xs => by simp [flat_sc xs]
theorem Sl.fz (h : Sl G A xs) : Fz G A (xs.map Sc.enc) := by
 obtain ⟨css, h1, h2⟩ := h
 rw [all2_sc h1, flat_sc] at h2
 exact h2
theorem Sl.ofFz (h : Fz G A (xs.map Sc.enc)) : Sl G A xs := ⟨_, all2_sc' xs, by rw [flat_sc]; exact h⟩
end

theorem Sl.atS {α : Type} [Sc α] {G : Gh} {xs : List α} {A : Option Addr} {i : Int} {x : α} (h : Sl G A xs) (hx : At xs i x) : A.isSome = true ∧ G ((adr A).add (i.toNat * 1)) (Sc.enc x) := by
 have := h.fz i.toNat (Sc.enc x) (by rw [List.getElem?_map, hx.2]; rfl)
 rw [Nat.mul_one]; exact this
theorem Sl.atL {α : Type} [Rp α] {G : Gh} {xs : List (List α)} {A : Option Addr} {i : Int} {x : List α} (h : Sl G A xs) (hx : At xs i x) : A.isSome = true ∧ ∃ A2 c2, x.length ≤ c2 ∧ Sl G A2 x ∧ G ((adr A).add (i.toNat * 1)) (.slice A2 x.length c2) := by
 obtain ⟨h1, l, ⟨A2, c2, rfl, h2, h3⟩, h4⟩ := h.at_ hx.2 (by show 0 < 1; decide)
 exact ⟨h1, A2, c2, h2, h3, by have := h4 0 _ rfl; rwa [Sx.add_add] at this⟩
theorem Sl.atN {α : Type} [Rp α] {G : Gh} {xs : List α} {A : Option Addr} {i : Int} {x : α} {n : Nat} (hn : Rp.n α = n) (h0 : 0 < n) (h : Sl G A xs) (hx : At xs i x) : A.isSome = true ∧ ∃ l, Rp.cs G x l ∧ ∀ (k : Nat) v, l[k]? = some v → G (((adr A).add (i.toNat * n)).add k) v := by
 subst hn; exact h.at_ hx.2 h0

def bk (A : Option Addr) : Nat → List Nat
 | 0 => []
 | _ + 1 => blkOf A
theorem bk_of {A : Option Addr} {c i : Nat} (h : i ∈ bk A c) : i ∈ blkOf A ∧ 0 < c := by
 cases c with
 | zero => simp [bk] at h
 | succ c => exact ⟨h, by omega⟩
theorem bk_to {A : Option Addr} {c i : Nat} (h : i ∈ blkOf A) (hc : 0 < c) : i ∈ bk A c := by
 cases c with
 | zero => omega
 | succ c => exact h
def OwnX (w : World) (B e size : Nat) (A : Option Addr) (n c : Nat) (xs : List Value) : Prop := (c = 0 ∧ n = 0 ∧ xs = []) ∨ (0 < c ∧ Own w B e size A n c xs)
section
variable {B e size n c : Nat} {A : Option Addr} {xs : List Value} {w w' : World} {M : List Nat}
theorem OwnX.of (h : Own w B e size A n c xs) : OwnX w B e size A n c xs := by
 rcases h.form with ⟨_, hn, hc, hx⟩ | ⟨g, cur, rfl, hg, hB, hn, hm, hl, ht⟩
 ·
  exact .inl ⟨hc, hn, hx⟩
 ·
  by_cases h0 : c = 0
  ·
   subst h0
   have : n = 0 := by omega
   subst this
   rw [Nat.zero_mul, List.take_zero] at ht
   exact .inl ⟨rfl, rfl, ht.symm⟩
  ·
   exact .inr ⟨by omega, h⟩
theorem OwnX.form (h : OwnX w B e size A n c xs) : (c = 0 ∧ n = 0 ∧ xs = []) ∨ ∃ g cur, A = some ⟨g, 0, none⟩ ∧ B ≤ g ∧ Blk w g e cur ∧ n ≤ c ∧ c ≤ maxLen ∧ cur.length = c * size ∧ cur.take (n * size) = xs ∧ 0 < c := by
 rcases h with h | ⟨h0, h⟩
 ·
  exact .inl h
 ·
  rcases h.form with ⟨_, hn, hc, hx⟩ | ⟨g, cur, h1, hg, hB, hn, hm, hl, ht⟩
  ·
   omega
  ·
   exact .inr ⟨g, cur, h1, hg, hB, hn, hm, hl, ht, h0⟩
theorem OwnX.rd (h : OwnX w B e size A n c xs) : Rd w A xs := by
 rcases h with ⟨_, _, rfl⟩ | ⟨_, h⟩
 ·
  exact Rd.nil _ _
 ·
  exact h.rd
theorem OwnX.ltA (h : OwnX w B e size A n c xs) : ∀ i ∈ bk A c, i < w.heap.size := by
 rcases h with ⟨rfl, _, _⟩ | ⟨_, h⟩
 ·
  simp [bk]
 ·
  exact fun i hi => h.ltA i (bk_of hi).1
theorem OwnX.off (h : OwnX w B e size A n c xs) : ∀ i ∈ bk A c, B ≤ i := by
 rcases h with ⟨rfl, _, _⟩ | ⟨_, h⟩
 ·
  simp [bk]
 ·
  exact fun i hi => h.off i (bk_of hi).1
theorem OwnX.fr (h : OwnX w B e size A n c xs) (hf : Fr M w w') (hM : ∀ i ∈ bk A c, i ∉ M) : OwnX w' B e size A n c xs := by
 rcases h with h | ⟨h0, h⟩
 ·
  exact .inl h
 ·
  exact .inr ⟨h0, h.fr hf fun i hi => hM i (bk_to hi h0)⟩
end
def OwnS {α : Type} [Rp α] (B e : Nat) (E H : Gh) (w : World) (A : Option Addr) (c : Nat) (xs : List α) : Prop :=
 ∃ css, All2 (Rp.cs E) xs css ∧ OwnX w B e (Rp.n α) A xs.length c css.flatten ∧ ∀ b ∈ bk A c, Out H b
section
variable {α : Type} [Rp α] {B e : Nat} {E E' L H L' H' : Gh} {w w' : World} {A : Option Addr} {c : Nat} {xs : List α} {M : List Nat}
theorem OwnS.zero : OwnS B e E H w A 0 ([] : List α) := ⟨[], .nil, .inl ⟨rfl, rfl, rfl⟩, by simp [bk]⟩
theorem OwnS.nil : OwnS B e E H w none 0 ([] : List α) := OwnS.zero
theorem OwnS.fr (h : OwnS B e E H w A c xs) (hf : Fr M w w') (hM : ∀ i ∈ bk A c, i ∉ M) : OwnS B e E H w' A c xs := ⟨_, h.choose_spec.1, h.choose_spec.2.1.fr hf hM, h.choose_spec.2.2⟩
theorem OwnS.fr0 (h : OwnS B e E H w A c xs) (hf : Fr [] w w') : OwnS B e E H w' A c xs := h.fr hf (by simp)
theorem OwnS.lt (h : OwnS B e E H w A c xs) : ∀ i ∈ bk A c, i < w.heap.size := h.choose_spec.2.1.ltA
theorem OwnS.up (h : OwnS B e E H w A c xs) (hE : Le E E') (u : Up M L H w L' H' w') (hM : ∀ i ∈ bk A c, i ∉ M) : OwnS B e E' H' w' A c xs :=
 ⟨_, h.choose_spec.1.mono fun _ _ => Rp.mono hE, h.choose_spec.2.1.fr u.fr hM, fun b hb a v k e => (u.new a v k (e ▸ h.lt b hb)).elim (fun k => h.choose_spec.2.2 b hb a v k e) fun k => hM b hb (e ▸ k)⟩
theorem OwnS.off (h : OwnS B e E H w A c xs) : ∀ i ∈ bk A c, B ≤ i := h.choose_spec.2.1.off
theorem OwnS.out (h : OwnS B e E H w A c xs) : ∀ i ∈ bk A c, Out H i := h.choose_spec.2.2
theorem OwnS.hl (h : OwnS B e L H w A c xs) (hl : Le L L') : OwnS B e L' H w A c xs := ⟨_, h.choose_spec.1.mono fun _ _ => Rp.mono hl, h.choose_spec.2⟩
theorem OwnS.cap (h : OwnS B e E H w A c xs) : xs.length ≤ c := by
 obtain ⟨css, h1, h2, h3⟩ := h
 rcases h2.form with ⟨hc, h, _⟩ | ⟨g, cur, _, _, _, h, _⟩ <;> omega
theorem OwnS.ne {d t : Nat} {cs : List Value} (h : OwnS B e E H w A c xs) (k : Blk w d t cs) (hne : t ≠ e) : ∀ i ∈ bk A c, i ∉ [d] := by
 obtain ⟨css, h1, h2, h3⟩ := h
 intro i hi hd
 rw [List.mem_singleton] at hd
 subst hd
 rcases h2.form with ⟨rfl, _⟩ | ⟨g, cur, rfl, _, hB, _⟩
 ·
  simp [bk] at hi
 ·
  have := (bk_of hi).1
  simp only [blkOf, List.mem_singleton] at this
  subst this
  exact k.ne hB hne rfl
theorem OwnS.sep {β : Type} [Rp β] {B2 e2 c2 : Nat} {A2 : Option Addr} {ys : List β} {E2 H2 : Gh} (h : OwnS B e E H w A c xs) (k : OwnS B2 e2 E2 H2 w A2 c2 ys) (hne : e ≠ e2) : ∀ i ∈ bk A c, i ∉ bk A2 c2 := by
 obtain ⟨css, h1, h2, h3⟩ := k
 intro i hi hd
 rcases h2.form with ⟨rfl, _⟩ | ⟨g, cur, rfl, _, hB, _⟩
 ·
  simp [bk] at hd
 ·
  have := (bk_of hd).1
  simp only [blkOf, List.mem_singleton] at this
  subst this
  exact h.ne hB (fun e => hne e.symm) _ hi (by simp)
theorem Tok.sep {d t : Nat} {cs : List Value} (k : Tok H w d t cs) (h : OwnS B e E H w A c xs) (hne : t ≠ e) : d ∉ bk A c := fun hd => h.ne k.blk hne d hd (by simp)
theorem OwnS.le {B' : Nat} (h : OwnS B e E H w A c xs) (hb : B' ≤ B) : OwnS B' e E H w A c xs := by
 obtain ⟨css, h1, h2, h3⟩ := h
 refine ⟨css, h1, ?_, h3⟩
 rcases h2.form with ⟨hc, hn, hx⟩ | ⟨g, cur, rfl, hg, hB, hn, hm, hl, ht, h0⟩
 ·
  exact .inl ⟨hc, hn, hx⟩
 ·
  exact .inr ⟨h0, Own.mk (Nat.le_trans hb hg) hB hn hm hl ht⟩

def cellsG (A : Option Addr) (l : List Value) : Gh := fun a v => A.isSome = true ∧ ∃ j : Nat, l[j]? = some v ∧ a = (adr A).add j
theorem cellsG_blk {A : Option Addr} {l : List Value} {a : Addr} {v : Value} (h : cellsG A l a v) : a.block ∈ blkOf A := by
 obtain ⟨h1, j, _, rfl⟩ := h
 cases A with
 | none => cases h1
 | some x => rw [block_add]; simp [adr, blkOf]
theorem cellsG_st {A : Option Addr} {l : List Value} (h : Rd w A l) : St (cellsG A l) w := fun a v ⟨_, j, hj, e⟩ => e ▸ (h j v hj).2
theorem cellsG_fz {A : Option Addr} {l : List Value} (h : Rd w A l) : Fz (cellsG A l) A l := fun j v hj => ⟨(h j v hj).1, (h j v hj).1, j, hj, rfl⟩
theorem OwnS.lend {Hb : Gh} (h : OwnS B e E H w A c xs) (hs : St Hb w) (hl : Le E Hb) : ∃ H2, St H2 w ∧ Le Hb H2 ∧ Sl H2 A xs := by
 obtain ⟨css, h1, h2, h3⟩ := h
 exact ⟨Hb.or (cellsG A css.flatten), fun a v k => k.elim (hs a v) (cellsG_st h2.rd a v), Le.l _ _, css, h1.mono fun _ _ => Rp.mono (hl.trans (Le.l _ _)), (cellsG_fz h2.rd).up (Le.r _ _)⟩
theorem cellsG_bk {l : List Value} {a : Addr} {v : Value} {size n : Nat} (hx : OwnX w B e size A n c l) (h : cellsG A l a v) : a.block ∈ bk A c := by
 have h1 := cellsG_blk h
 rcases hx with ⟨_, _, rfl⟩ | ⟨h0, _⟩
 ·
  obtain ⟨_, j, hj, _⟩ := h; simp at hj
 ·
  exact bk_to h1 h0
theorem OwnS.freeze {G : Gh} {w0 : World} (h : OwnS w0.heap.size e E H w A c xs) (hI : Inv M G w0 L H w) : ∃ L2 H2, Inv M G w0 L2 H2 w ∧ Up (bk A c) L H w L2 H2 w ∧ (Le E L → Sl L2 A xs) ∧ (Le E H → Sl H2 A xs) := by
 have ho := h.off
 obtain ⟨css, h1, h2, h3⟩ := h
 refine ⟨L.or (cellsG A css.flatten), H.or (cellsG A css.flatten), ⟨hI.fr, fun a v k => k.elim (hI.st a v) (cellsG_st h2.rd a v), hI.le.trans (Le.l _ _), fun a v k => k.elim (fun k => .inl (hI.sub a v k)) .inr, fun a v k hlt => k.elim (fun k => hI.new a v k hlt) fun k => absurd (ho _ (cellsG_bk h2 k)) (by omega), fun a v k => k.elim (hI.lnew a v) fun k => ho _ (cellsG_bk h2 k)⟩,
  ⟨Fr.refl _ _, Le.l _ _, Le.l _ _, fun a v k _ => k.elim .inl fun k => .inr (cellsG_bk h2 k)⟩, fun hl => ⟨css, h1.mono fun _ _ => Rp.mono (hl.trans (Le.l _ _)), (cellsG_fz h2.rd).up (Le.r _ _)⟩, fun hl => ⟨css, h1.mono fun _ _ => Rp.mono (hl.trans (Le.l _ _)), (cellsG_fz h2.rd).up (Le.r _ _)⟩⟩
end

section
variable {α : Type} [Rp α] {B e : Nat} {E H H' : Gh} {w : World} {A : Option Addr} {c d d' t t' : Nat} {xs : List α} {cs cs' : List Value} {M : List Nat}
theorem OwnS.old (h : OwnS B e E H w A c xs) (hd : d < B) : d ∉ bk A c := fun hm => by have := h.off d hm; omega
theorem OwnS.oldt (h : OwnS B e E H w A c xs) (hd : d < B) : ∀ i ∈ bk A c, i ∉ [d] := fun i hi hm => by rw [List.mem_singleton] at hm; subst hm; exact h.old hd hi
theorem OwnS.new {n : Nat} (h : OwnS B e E H w A c xs) (hn : n ≤ B) : ∀ i ∈ bk A c, i < n → i ∈ M := fun i hi hlt => by have := h.off i hi; omega
theorem Tok.apart (h : Tok H w d t cs) (k : Tok H' w d' t' cs') (hne : t ≠ t') : d ∉ [d'] := fun hm => by rw [List.mem_singleton] at hm; exact h.blk.ne k.blk hne hm
theorem ne1 (h : d ≠ d') : d ∉ [d'] := fun hm => h (by rwa [List.mem_singleton] at hm)
end

theorem OwnS.back {α : Type} [Rp α] {B B0 e c : Nat} {E E' H H2 : Gh} {w : World} {A : Option Addr} {xs : List α} (h : OwnS B e E H w A c xs) (hb : B0 ≤ B) (hE : Le E E') (hH : Le H2 H) : OwnS B0 e E' H2 w A c xs := by
 obtain ⟨css, h1, h2, h3⟩ := (h.le hb).hl hE
 exact ⟨css, h1, h2, fun b hb => (h3 b hb).le hH⟩
theorem OwnS.backS {α : Type} [Sc α] {B B0 e c : Nat} {E H H2 : Gh} {w : World} {A : Option Addr} {xs : List α} (h : OwnS B e E H w A c xs) (hb : B0 ≤ B) (hH : Le H2 H) : OwnS B0 e Gh.no H2 w A c xs := by
 obtain ⟨css, h1, h2, h3⟩ := h.le hb
 exact ⟨css, by rw [all2_sc h1]; exact all2_sc' xs, h2, fun b hb => (h3 b hb).le hH⟩
instance {n : Nat} {α : Type} [Sc α] : Rp (Arr n α) where
 n := n
 cs := fun _ x l => x.l.length = n ∧ l = x.l.map Sc.enc
 mono := fun _ h => h
 len := fun h => by rw [h.2, List.length_map, h.1]
 one := fun {G x l} h => by
  rw [h.2, List.all_map]
  rw [List.all_eq_true]
  intro y _
  have := (Rp.one (α := α) (G := G) (x := y) (l := [Sc.enc y]) (Sc.sc.2 rfl))
  simpa using this
theorem arr_at {α : Type} [Sc α] {xs : List α} {i : Int} {x : α} (h : At xs i x) : (xs.map Sc.enc)[0 + i.toNat * 1]? = some (Sc.enc x) := by
 rw [Nat.zero_add, Nat.mul_one, List.getElem?_map, h.2]; rfl
theorem arr_lt {α : Type} [Sc α] {xs : List α} {i : Int} {x : α} (h : At xs i x) : 0 + i.toNat * 1 < (xs.map Sc.enc).length := by
 rw [List.length_map]; have := h.lt; have := h.1; omega
theorem arr_put {α : Type} [Sc α] {xs : List α} {i : Int} {y : α} : (xs.map Sc.enc).set (0 + i.toNat * 1) (Sc.enc y) = (put xs i y).map Sc.enc := by
 rw [Nat.zero_add, Nat.mul_one, put, List.map_set]
section
variable {α : Type} [Sc α] {B e c : Nat} {E L H G : Gh} {w w' w0 : World} {A : Option Addr} {xs : List α} {i : Int} {x : α} {M : List Nat}
theorem enc_one (x : α) : (Sc.enc x).oneCell' = true := by
 have := (Rp.one (α := α) (G := Gh.no) (x := x) (l := [Sc.enc x]) (Sc.sc.2 rfl))
 simpa using this
theorem OwnS.rdS (h : OwnS B e E H w A c xs) : Rd w A (xs.map Sc.enc) := by
 obtain ⟨css, h1, h2, _⟩ := h
 have := h2.rd
 rw [all2_sc h1, flat_sc] at this
 exact this
theorem OwnS.atS (h : OwnS B e E H w A c xs) (hx : At xs i x) : A.isSome = true ∧ w.cell? ((adr A).add (i.toNat * 1)) = some (Sc.enc x) := by
 have := h.rdS i.toNat (Sc.enc x) (by rw [List.getElem?_map, hx.2]; rfl)
 rwa [Nat.mul_one]
theorem Inv.newRd (hI : Inv M G w0 L H w) (hf : Fr [] w w') (hR : Rd w' A (xs.map Sc.enc)) (hn : ∀ b ∈ blkOf A, w.heap.size ≤ b) : ∃ L2 H2, Inv M G w0 L2 H2 w' ∧ Up [] L H w L2 H2 w' ∧ Sl L2 A xs := by
 have h0 := hI.size
 refine ⟨L.or (cellsG A (xs.map Sc.enc)), H.or (cellsG A (xs.map Sc.enc)), ⟨hI.fr.then0 hf, fun a v k => k.elim (hI.st.fr0 hf a v) (cellsG_st hR a v), hI.le.trans (Le.l _ _), fun a v k => k.elim (fun k => .inl (hI.sub a v k)) .inr, fun a v k hlt => k.elim (fun k => hI.new a v k hlt) fun k => absurd (hn _ (cellsG_blk k)) (by omega), fun a v k => k.elim (hI.lnew a v) fun k => Nat.le_trans h0 (hn _ (cellsG_blk k))⟩,
  ⟨hf, Le.l _ _, Le.l _ _, fun a v k hlt => k.elim .inl fun k => absurd (hn _ (cellsG_blk k)) (by omega)⟩, Sl.ofFz ((cellsG_fz hR).up (Le.r _ _))⟩
theorem Inv.ownRd (h : OwnS w0.heap.size e E H w A c xs) (hI : Inv M G w0 L H w) (hf : Fr (bk A c) w w') (hR : Rd w' A (xs.map Sc.enc)) : ∃ L2 H2, Inv M G w0 L2 H2 w' ∧ Up (bk A c) L H w L2 H2 w' ∧ Sl L2 A xs := by
 have ho := h.off
 have hI2 : Inv M G w0 L H w' := hI.tok hf h.out (h.new (Nat.le_refl _))
 have hx : ∀ {a v}, cellsG A (xs.map Sc.enc) a v → a.block ∈ bk A c := by
  obtain ⟨css, h1, h2, _⟩ := h
  rw [all2_sc h1, flat_sc] at h2
  exact fun k => cellsG_bk h2 k
 refine ⟨L.or (cellsG A (xs.map Sc.enc)), H.or (cellsG A (xs.map Sc.enc)), ⟨hI2.fr, fun a v k => k.elim (hI2.st a v) (cellsG_st hR a v), hI.le.trans (Le.l _ _), fun a v k => k.elim (fun k => .inl (hI.sub a v k)) .inr, fun a v k hlt => k.elim (fun k => hI.new a v k hlt) fun k => absurd (ho _ (hx k)) (by omega), fun a v k => k.elim (hI.lnew a v) fun k => ho _ (hx k)⟩,
  ⟨hf, Le.l _ _, Le.l _ _, fun a v k _ => k.elim .inl fun k => .inr (hx k)⟩, Sl.ofFz ((cellsG_fz hR).up (Le.r _ _))⟩
end
theorem sl_nil {α : Type} [Rp α] {G : Gh} {A : Option Addr} {xs : List α} (h : Sl G A xs) (h0 : 0 < Rp.n α) (hA : A.isNone = true) : xs = [] := by
 cases xs with
 | nil => rfl
 | cons x xs =>
  have := (h.at_ (i := 0) rfl h0).1
  cases A <;> simp_all
end Go.Lx

namespace Go.Lx
open Go Go.Sx

section
variable {P : Program} {N : Nat} {E : Env} {w : World} {K : Post}
theorem W_seq_join {x y : Code} (keep ts : List Nat) (I : List Value → World → Prop)
  (hx : ∀ B, B = pickE E keep → W P N x E w (thenP (fun E2 w2 => ∃ vs, lookL E2 ts = some vs ∧ I vs w2 ∧ Sub B E2) K))
  (hy : ∀ B, B = pickE E keep → ∀ vs w', I vs w' → W P N y (zipE ts vs ++ B) w' K) : W P N (.seq x y) E w K :=
 W_seq ((hx _ rfl).mono fun e E2 w2 h => by
  cases e with
  | normal => obtain ⟨vs, hl, hI, hs⟩ := h; exact W_sub (sub_zip ts vs _ _ hl hs) (hy _ rfl vs w2 hI)
  | _ => exact h)
end

section
variable {P : Program} {N : Nat} {E : Env} {w : World} {K : Post} {ds : List (Option Nat)} {rest : List Oper} {ops : Array Oper} {T : Facts} {s : Todo}
theorem Ops_re (t : Nat) {v v' : Value} (hv : lookE E t = some v) (e : v = v') (h : Ops P N ds rest ((t, v') :: E) w K) : Ops P N ds rest E w K := fun ops hds a ha => h ops hds a (ha.sub' (e ▸ hv))
end

section
variable {P : Program} {w : World} {E : Env} {dst : Option Nat} {ty : TypeId} {pos : String} {after : Array Edge} {guard : Option (Nat × Bool)} {x y s : Operand} {t t' : TypeId}
variable {B n m c size e : Nat} {A : Option Addr} {xs ys : List Value}

theorem R_append2 {bytes : Nat} {tx : TypeId} {m : Nat} {v : Value} (el : Elem P t e size bytes) (hs : ev E s = some (.slice A n c)) (hx : ev E x = some v) (hown : Own w B e size A n c xs) (hsrc : Src P size tx v m ys w)
  (hbytes : (n + m) * bytes ≤ 140737488355328) (h63 : n + m ≤ maxLen) (hbase : B ≤ w.heap.size) :
  RunsTo P w E ⟨dst, .call { callee := .builtin .append, args := #[s, x], argTypes := #[t, tx] }, ty, pos, after, guard⟩ (fun u w' => ∃ A' c', u = .slice A' (n + m) c' ∧ Own w' B e size A' (n + m) c' (xs ++ ys) ∧ Fr (blkOf A) w w' ∧ (A' = A ∨ ∀ b ∈ blkOf A', w.heap.size ≤ b)) := fun a N hA => by
 obtain ⟨i, z, hi, hz, rfl, rfl, hzs⟩ := el.row
 have hlen : (xs ++ ys).length = (n + m) * i.size := by rw [List.length_append, hown.len, hsrc.newsLen, Nat.add_mul]
 have hsm : n + m ≤ 9223372036854775807 := by simp only [maxLen] at h63; omega
 suffices h : ∃ u w', (∃ A' c', u = .slice A' (n + m) c' ∧ Own w' B e i.size A' (n + m) c' (xs ++ ys) ∧ Fr (blkOf A) w w' ∧ (A' = A ∨ ∀ b ∈ blkOf A', w.heap.size ≤ b)) ∧ (Builtin.append_ #[t, tx] ty #[.slice A n c, v]).run P w = .ok u w' by
  obtain ⟨u, w', h1, h2⟩ := h
  exact ⟨u, w', h1, .inl (by simp [execOp, resolve, invoke, builtin, hA.eval hs, hA.eval hx, h2])⟩
 rcases hown.form with ⟨rfl, rfl, rfl, rfl⟩ | ⟨g, cur, rfl, hb, hB, h1, h3, h4, h5⟩
 ·
  by_cases hm : m = 0
  ·
   subst hm
   have hy : ys = [] := List.eq_nil_of_length_eq_zero (by simpa using hsrc.newsLen)
   subst hy
   exact ⟨_, w, ⟨none, 0, rfl, Own.nil .., Fr.refl _ _, .inl rfl⟩, run_append_nothing w t tx ty e i el.under hi none 0 0 (Nat.le_refl _) v hsrc⟩
  ·
   have hr := run_append_grow_src (P := P) w t tx ty e i z el.under hi hz none 0 0 [] (run_firstCells_none w.drew i.size 0 0 0) v m ys hsrc (by omega) (by omega) (growslice_fits (by omega) hbytes)
   exact ⟨_, _, ⟨_, _, rfl, grown_own (t := t) el w B hbase 0 [] ys (0 + m) (by omega) h63 hlen z hzs, ((Fr.drew w).then0 (Fr.alloc _ _)).mono (by simp), .inr (by simp [blkOf])⟩, hr⟩
 ·
  by_cases hroom : n + m ≤ c
  ·
   have hfit : n * i.size + ys.length ≤ cur.length := by rw [hsrc.newsLen, h4, ← Nat.add_mul]; exact Nat.mul_le_mul_right _ hroom
   have hst := run_storeCells_at (P := P) g (n * i.size) e ys 0 cur.toArray w hB (by simpa using hfit) hsrc.one
   simp only [Nat.add_zero] at hst
   have hr : (Builtin.append_ #[t, tx] ty #[.slice (some ⟨g, 0, none⟩) n c, v]).run P w = .ok (.slice (some ⟨g, 0, none⟩) (n + m) c) (w.setRow g (over cur (n * i.size) ys).toArray) := by
    rcases hsrc.kind with ⟨e', hk⟩ | hk <;>
     simp [Builtin.append_, run_underlying el.under, run_underlying hk, sizeOf, typeInfo, hi, hsrc.len, hroom, hsrc.cells, add_flat, hst, over]
   refine ⟨_, _, ⟨_, _, rfl, Own.mk hb (blk_setRow hB) hroom h3 ?_ ?_, by simpa [blkOf] using fr_setRow w g _, .inl rfl⟩, hr⟩
   ·
    simp only [over, List.length_append, List.length_take, List.length_drop]
    omega
   ·
    rw [over, h5, ← hlen]
    exact List.take_left
  ·
   have hold : (Builtin.firstCells i.size n (.slice (some ⟨g, 0, none⟩) n c)).run P w.drew = .ok xs.toArray w.drew :=
    run_firstCells_some w.drew i.size n ⟨g, 0, none⟩ n c xs hown.len (by have := hown.rd.cells; simpa using this)
   have hr := run_append_grow_src (P := P) w t tx ty e i z el.under hi hz (some ⟨g, 0, none⟩) n c xs hold v m ys hsrc (by omega) (by omega) (growslice_fits (by omega) hbytes)
   exact ⟨_, _, ⟨_, _, rfl, grown_own (t := t) el w B hbase c xs ys (n + m) (by omega) h63 hlen z hzs, ((Fr.drew w).then0 (Fr.alloc _ _)).mono (by simp), .inr (by simp [blkOf])⟩, hr⟩
end

section
variable {P : Program} {w w' : World} {E : Env} {dst : Option Nat} {ty : TypeId} {pos : String} {after : Array Edge} {guard : Option (Nat × Bool)} {x y s : Operand} {t t' : TypeId}
variable {α : Type} [Rp α] {B e c bytes : Nat} {Eg L H G : Gh} {A : Option Addr} {xs ys : List α}

structure Srcs (P : Program) (tx : TypeId) (G : Gh) (w : World) (v : Value) (ys : List α) : Prop where
 src : ∃ dss, All2 (Rp.cs G) ys dss ∧ Src P (Rp.n α) tx v ys.length dss.flatten w
theorem Srcs.ofSl {tx e' : TypeId} {m : Nat} (hk : P.underlying tx = some (.slice e')) (h : Sl G A ys) (hs : St G w) (h0 : 0 < Rp.n α) : Srcs P tx G w (.slice A ys.length m) ys := by
 obtain ⟨css, h1, h2⟩ := h
 exact ⟨css, h1, Src.ofRd hk h0 (h2.rd hs) (flat_len h1) (flat_one h1)⟩
theorem Srcs.ofOwn {tx e' : TypeId} {m B e : Nat} (hk : P.underlying tx = some (.slice e')) (h : OwnS B e G H w A m ys) (h0 : 0 < Rp.n α) : Srcs P tx G w (.slice A ys.length m) ys := by
 obtain ⟨css, h1, h2, _⟩ := h
 exact ⟨css, h1, Src.ofRd hk h0 h2.rd (flat_len h1) (flat_one h1)⟩
theorem Srcs.nil {tx e' : TypeId} {m : Nat} (hk : P.underlying tx = some (.slice e')) : Srcs P tx G w (.slice none 0 m) ([] : List α) := ⟨[], .nil, by simpa using Src.ofNil _ hk m⟩
theorem Srcs.up {tx : TypeId} {v : Value} {G' : Gh} (h : Srcs P tx G w v ys) (hl : Le G G') : Srcs P tx G' w v ys := ⟨_, h.src.choose_spec.1.mono fun _ _ => Rp.mono hl, h.src.choose_spec.2⟩
theorem Srcs.sc {α : Type} [Sc α] {tx : TypeId} {v : Value} {G G' : Gh} {ys : List α} (h : Srcs P tx G w v ys) : Srcs P tx G' w v ys := by
 obtain ⟨dss, h1, h2⟩ := h.src
 exact ⟨dss, by rw [all2_sc h1]; exact all2_sc' ys, h2⟩

theorem X_append {tx : TypeId} {v : Value} (el : Elem P t e (Rp.n α) bytes) (hs : ev E s = some (.slice A xs.length c)) (hx : ev E x = some v) (hown : OwnS B e Eg H w A c xs) (hsrc : Srcs P tx Eg w v ys)
  (hst : St H w) (hbytes : Rm bytes (xs.length + ys.length)) (hb1 : 1 ≤ bytes) (hbase : B ≤ w.heap.size) :
  RunsTo P w E ⟨dst, .call { callee := .builtin .append, args := #[s, x], argTypes := #[t, tx] }, ty, pos, after, guard⟩ (fun u w' => ∃ A' c', u = .slice A' (xs ++ ys).length c' ∧ OwnS B e Eg H w' A' c' (xs ++ ys) ∧ Fr (bk A c) w w' ∧ ∀ i ∈ bk A' c', i ∈ bk A c ∨ w.heap.size ≤ i) := fun a N ha => by
 obtain ⟨css, h1, h2, h3⟩ := hown
 obtain ⟨dss, h4, h5⟩ := hsrc.src
 have h63 : xs.length + ys.length ≤ maxLen := by
  have := Nat.mul_le_mul_left (xs.length + ys.length) hb1
  unfold Rm at hbytes
  simp only [maxLen]; omega
 rcases h2 with ⟨rfl, hx0, hc0⟩ | ⟨hpos, h2⟩
 ·
  obtain rfl : xs = [] := List.eq_nil_of_length_eq_zero hx0
  rw [hc0] at *
  obtain ⟨v', w2, ⟨A', c', hv, hrd, hf, hor⟩, hr⟩ := R_appendTight (dst := dst) (ty := ty) (pos := pos) (after := after) (guard := guard) (B := w.heap.size) (n := 0) (xs := []) el hs hx (Rd.nil _ _) (by simp) h5 (by simpa [Rm] using hbytes) (by simpa using h63) (Nat.le_refl _) a N ha
  rcases hor with ⟨h0, rfl, rfl, rfl⟩ | ⟨_, ho⟩
  ·
   obtain rfl : ys = [] := List.eq_nil_of_length_eq_zero h0
   exact ⟨v', w2, ⟨A', 0, by simpa using hv, by simpa using OwnS.zero, by simpa [bk] using hf, by simp [bk]⟩, hr⟩
  ·
   refine ⟨v', w2, ⟨A', c', by simpa using hv, ⟨dss, by simpa using h4, OwnX.of ?_, fun b hb => Out.ge hst (ho.off b (bk_of hb).1)⟩, by simpa [bk] using hf, fun i hi => .inr (ho.off i (bk_of hi).1)⟩, hr⟩
   have h6 : Own w2 w.heap.size e (Rp.n α) A' ys.length c' dss.flatten := by simpa using ho
   have h7 := (show OwnS w.heap.size e Eg H w2 A' c' ys from ⟨dss, h4, OwnX.of h6, fun b hb => Out.ge hst (h6.off b (bk_of hb).1)⟩)
   rcases h6.form with ⟨rfl, hn, hc, hx⟩ | ⟨g, cur, rfl, hg, hB, hn, hm, hl, ht⟩
   ·
    rw [hc, hx]; simp only [List.nil_append, hn]; exact Own.nil _ _ _ _
   ·
    simp only [List.nil_append]; exact Own.mk (Nat.le_trans hbase hg) hB hn hm hl ht
 ·
  obtain ⟨v', w2, ⟨A', c', hv, ho, hf, hn⟩, hr⟩ := R_append2 (dst := dst) (ty := ty) (pos := pos) (after := after) (guard := guard) el hs hx h2 h5 hbytes h63 hbase a N ha
  refine ⟨v', w2, ⟨A', c', by rw [hv, List.length_append], ⟨css ++ dss, h1.app h4, OwnX.of (by rw [List.flatten_append, List.length_append]; exact ho), fun b hb => ?_⟩, hf.mono fun i hi _ => bk_to hi hpos, fun i hi => hn.elim (fun e => .inl (bk_to (e ▸ (bk_of hi).1) hpos)) fun hn => .inr (hn i (bk_of hi).1)⟩, hr⟩
  rcases hn with rfl | hn
  ·
   exact h3 b (bk_to (bk_of hb).1 hpos)
  ·
   exact Out.ge hst (hn b (bk_of hb).1)

theorem X_appendTight {tx : TypeId} {v : Value} {n : Nat} (el : Elem P t e (Rp.n α) bytes) (hn : n = xs.length) (hs : ev E s = some (.slice A n n)) (hx : ev E x = some v) (hR : Sl Eg A xs) (hsrc : Srcs P tx Eg w v ys) (hpos : 0 < ys.length)
  (hst : St H w) (hstE : St Eg w) (hbytes : Rm bytes (xs.length + ys.length)) (hb1 : 1 ≤ bytes) (hbase : B ≤ w.heap.size) :
  RunsTo P w E ⟨dst, .call { callee := .builtin .append, args := #[s, x], argTypes := #[t, tx] }, ty, pos, after, guard⟩ (fun u w' => ∃ A' c', u = .slice A' (xs ++ ys).length c' ∧ OwnS B e Eg H w' A' c' (xs ++ ys) ∧ Fr [] w w') := fun a N ha => by
 subst hn
 obtain ⟨css, h1, h2⟩ := hR
 obtain ⟨dss, h4, h5⟩ := hsrc.src
 have h63 : xs.length + ys.length ≤ maxLen := by
  have := Nat.mul_le_mul_left (xs.length + ys.length) hb1
  unfold Rm at hbytes
  simp only [maxLen]; omega
 obtain ⟨v', w2, ⟨A', c', hv, _, hf, hor⟩, hr⟩ := R_appendTight (dst := dst) (ty := ty) (pos := pos) (after := after) (guard := guard) (B := w.heap.size) el hs hx (h2.rd hstE) (flat_len h1) h5 hbytes h63 (Nat.le_refl _) a N ha
 rcases hor with ⟨h0, _⟩ | ⟨_, ho⟩
 ·
  omega
 ·
  have hO : OwnS w.heap.size e Eg H w2 A' c' (xs ++ ys) := ⟨css ++ dss, h1.app h4, OwnX.of (by rw [List.flatten_append, List.length_append]; exact ho), fun b hb => Out.ge hst (ho.off b (bk_of hb).1)⟩
  exact ⟨v', w2, ⟨A', c', by rw [hv, List.length_append], hO.le hbase, hf⟩, hr⟩

theorem X_make0 {n : Int} (el : Elem P t e (Rp.n α) bytes) (hl : ev E x = some (vi 0)) (hc : ev E y = some (vi n)) (h0 : 0 ≤ n) (hst : St H w) (hbytes : Rm bytes n.toNat) (hb1 : 1 ≤ bytes) (hbase : B ≤ w.heap.size) :
  RunsTo P w E ⟨dst, .makeSlice t x y, ty, pos, after, guard⟩ (fun u w' => ∃ A' c', u = .slice A' ([] : List α).length c' ∧ OwnS B e Eg H w' A' c' ([] : List α) ∧ Fr [] w w') := fun a N ha => by
 obtain ⟨i, z, hi, hz, hsz, rfl, hzs⟩ := el.row
 unfold Rm at hbytes
 have h63 : n.toNat ≤ maxLen := by
  have := Nat.mul_le_mul_left n.toNat hb1
  simp only [maxLen]; omega
 obtain ⟨w2, hr, ho, hg⟩ := run_make_own (P := P) w w.heap.size t e i z (Rp.n α) el.under hi hz hsz .i64 .i64 n.toNat (by rw [Nat.mul_comm]; omega) h63 (Nat.le_refl _)
 have ho' : Own w2 w.heap.size e (Rp.n α) (some ⟨w.heap.size, 0, none⟩) 0 n.toNat [] := ho
 have hO : OwnS w.heap.size e Eg H w2 (some ⟨w.heap.size, 0, none⟩) n.toNat ([] : List α) := ⟨[], .nil, OwnX.of (by simpa using ho'), fun b hb => Out.ge hst (ho'.off b (bk_of hb).1)⟩
 refine ⟨_, w2, ⟨_, _, rfl, hO.le hbase, by simpa using Fr.grown hg⟩, .inl ?_⟩
 rw [Int.toNat_of_nonneg h0] at hr
 simp [execOp, ha.eval hl, ha.eval hc, hr]

theorem OwnS.ofBlk {b : Nat} {cs : List Value} {css : List (List Value)} (hst : St H w) (hb : b = w.heap.size) (hB : Blk w' b e cs) (hc : All2 (Rp.cs Eg) xs css) (he : css.flatten = cs) (hbase : B ≤ b) (hm : xs.length ≤ maxLen) : OwnS B e Eg H w' (some ⟨b, 0, none⟩) xs.length xs := by
 refine ⟨css, hc, OwnX.of (Own.mk hbase hB (Nat.le_refl _) hm ?_ ?_), ?_⟩
 ·
  rw [← he, flat_len hc]
 ·
  rw [← he, ← flat_len hc, List.take_length]
 ·
  intro i hi; have := (bk_of hi).1; simp only [blkOf, List.mem_singleton] at this; subst this; exact Out.ge hst (by omega)

def SlOf (A : Option Addr) (c : Nat) (l : Int) (n : Nat) (A' : Option Addr) (c' : Nat) : Prop := A' = (if c = l.toNat then A else A.map (fun a => a.add (l.toNat * n))) ∧ c' = c - l.toNat
def SlOf3 (A : Option Addr) (l h : Int) (n : Nat) (A' : Option Addr) : Prop := A' = (if h.toNat = l.toNat then A else A.map (fun a => a.add (l.toNat * n)))
theorem cut_len {β : Type} {zs : List β} {l h : Int} (h0 : 0 ≤ l) (h1 : l ≤ h) (h2 : h ≤ (zs.length : Int)) : (cut zs l h).length = h.toNat - l.toNat := by simp only [cut, List.length_take, List.length_drop]; omega
theorem cut_ex {n c : Nat} {l h : Int} (hS : Sl G A xs) (hn : Rp.n α = n) (hn0 : 0 < n) (hcap : xs.length ≤ c) (h0 : 0 ≤ l) (h1 : l ≤ h) (h2 : h ≤ (xs.length : Int)) :
  ∃ A' c', SlOf A c l n A' c' ∧ (cut xs l h).length ≤ c' ∧ Sl G A' (cut xs l h) := by
 subst hn
 refine ⟨_, _, ⟨rfl, rfl⟩, by rw [cut_len h0 h1 h2]; omega, (hS.drop (c = l.toNat) l.toNat (by omega) hn0).take _⟩
theorem cut_ex3 {n : Nat} {l h : Int} (hS : Sl G A xs) (hn : Rp.n α = n) (hn0 : 0 < n) (h0 : 0 ≤ l) (h1 : l ≤ h) (h2 : h ≤ (xs.length : Int)) :
  ∃ A', SlOf3 A l h n A' ∧ Sl G A' (cut xs l h) := by
 subst hn
 refine ⟨_, rfl, ?_⟩
 by_cases hz : h.toNat = l.toNat
 ·
  have : cut xs l h = [] := by simp [cut, hz]
  rw [this]; exact Sl.nil
 ·
  exact (hS.drop (h.toNat = l.toNat) l.toNat (fun e => absurd e hz) hn0).take _
theorem X_slice {β : Type} {A : Option Addr} {xs : List β} {e sz0 c c' : Nat} {A' : Option Addr} {lo hi : Option Operand} {l h : Int} (hu : P.underlying t = some (.slice e)) (hs : sz P e = some sz0) (hx : ev E x = some (.slice A xs.length c)) (hso : SlOf A c l sz0 A' c') (hcap : xs.length ≤ c)
  (hl : match lo with | none => l = 0 | some o => ev E o = some (vi l)) (hh : match hi with | none => h = (xs.length : Int) | some o => ev E o = some (vi h)) (h0 : 0 ≤ l) (h1 : l ≤ h) (h2 : h ≤ (xs.length : Int)) :
  Runs P w E ⟨dst, .slice t x lo hi none, ty, pos, after, guard⟩ (.slice A' (cut xs l h).length c') := by
 obtain ⟨rfl, rfl⟩ := hso
 rw [cut_len h0 h1 h2]
 refine R_slice (w := w) hu hs hx (l := l.toNat) (h := h.toNat) (m := c) ?_ ?_ rfl (by simp) (by omega) (by omega) (Nat.le_refl _)
 ·
  cases lo with
  | none => subst hl; rfl
  | some o => exact ⟨_, _, hl, by omega⟩
 ·
  cases hi with
  | none => have hh' : h = (xs.length : Int) := hh; show h.toNat = xs.length; omega
  | some o => exact ⟨_, _, hh, by omega⟩
theorem X_slice3 {β : Type} {A : Option Addr} {xs : List β} {e sz0 c : Nat} {A' : Option Addr} {lo hi mx : Option Operand} {l h : Int} (hu : P.underlying t = some (.slice e)) (hs : sz P e = some sz0) (hx : ev E x = some (.slice A xs.length c)) (hso : SlOf3 A l h sz0 A') (hcap : xs.length ≤ c)
  (hl : match lo with | none => l = 0 | some o => ev E o = some (vi l)) (hh : match hi with | none => False | some o => ev E o = some (vi h)) (hm : match mx with | none => False | some o => ev E o = some (vi h)) (h0 : 0 ≤ l) (h1 : l ≤ h) (h2 : h ≤ (xs.length : Int)) :
  Runs P w E ⟨dst, .slice t x lo hi mx, ty, pos, after, guard⟩ (.slice A' (cut xs l h).length (cut xs l h).length) := by
 have hso' : A' = (if h.toNat = l.toNat then A else A.map (fun a => a.add (l.toNat * sz0))) := hso
 subst hso'
 rw [cut_len h0 h1 h2]
 refine R_slice (w := w) hu hs hx (l := l.toNat) (h := h.toNat) (m := h.toNat) ?_ ?_ ?_ (by cases hi with | none => exact hh.elim | some o => simp) (by omega) (by omega) (by omega)
 ·
  cases lo with
  | none => subst hl; rfl
  | some o => exact ⟨_, _, hl, by omega⟩
 ·
  cases hi with
  | none => exact hh.elim
  | some o => exact ⟨_, _, hh, by omega⟩
 ·
  cases mx with
  | none => exact hm.elim
  | some o => exact ⟨_, _, hm, by omega⟩
end

section
variable {P : Program} {w w' : World} {E : Env} {dst : Option Nat} {ty : TypeId} {pos : String} {after : Array Edge} {guard : Option (Nat × Bool)} {x y s : Operand} {t t' : TypeId}
theorem X_lenStr {b : Str} {ats : Array TypeId} (hu : P.underlying t = some .string) (ha : ats[0]? = some t) (hx : ev E x = some (vs b)) :
  Runs P w E ⟨dst, .call { callee := .builtin .len, args := #[x], argTypes := ats }, ty, pos, after, guard⟩ (vi (b.b.length : Int)) := by
 have h := R_lenStr (P := P) (w := w) (dst := dst) (ty := ty) (pos := pos) (after := after) (guard := guard) hu ha hx
 have e : (⟨b.b.toArray⟩ : ByteArray).size = b.b.length := by simp [ByteArray.size]
 rw [e] at h
 exact h
theorem X_strBytes {s : Str} {td e : TypeId} (hs : P.underlying t = some .string) (hd : P.underlying td = some (.slice e)) (he : P.underlying e = some (.int .u8)) (hx : ev E x = some (vs s)) :
  RunsTo P w E ⟨dst, .convert t td x, ty, pos, after, guard⟩ (fun u w' => ∃ A' c', u = .slice A' s.b.length c' ∧ s.b.length ≤ c' ∧ Rd w' A' (s.b.map vb) ∧ (∀ b ∈ blkOf A', w.heap.size ≤ b) ∧ Fr [] w w') := fun a N ha => by
 have hr := run_bytes_of_string (P := P) w t td e ⟨s.b.toArray⟩ hs hd he
 have es : (⟨s.b.toArray⟩ : ByteArray).size = s.b.length := by simp [ByteArray.size]
 rw [es] at hr
 refine ⟨_, _, ⟨some ⟨w.heap.size, 0, none⟩, _, rfl, ?_, ?_, by simp [blkOf], (Fr.drew w).then0 (Fr.alloc _ _)⟩, .inl (by simp only [execOp, ha.eval hx, Sem.run_bind]; rw [hr]; rfl)⟩
 ·
  exact grownCap_ge _ _ _ _
 ·
  intro j v hj
  rw [List.getElem?_map] at hj
  have hlt : j < s.b.length := by
   rcases Nat.lt_or_ge j s.b.length with h | h
   ·
    exact h
   ·
    rw [List.getElem?_eq_none h] at hj; cases hj
  rw [List.getElem?_eq_getElem hlt] at hj
  cases hj
  refine ⟨rfl, ?_⟩
  have hB := bytesRow_at ⟨s.b.toArray⟩ (grownCap w s.b.length 0 e) j (by simpa using hlt)
  simp only [adr, Option.getD_some, add_flat, Nat.zero_add]
  have hn : (w.drew.alloc (.cells (bytesRow ⟨s.b.toArray⟩ (grownCap w s.b.length 0 e)) e ((bytesRow ⟨s.b.toArray⟩ (grownCap w s.b.length 0 e)).size, (bytesRow ⟨s.b.toArray⟩ (grownCap w s.b.length 0 e)).size + 1))).heap[w.heap.size]? = some (.cells (bytesRow ⟨s.b.toArray⟩ (grownCap w s.b.length 0 e)) e ((bytesRow ⟨s.b.toArray⟩ (grownCap w s.b.length 0 e)).size, (bytesRow ⟨s.b.toArray⟩ (grownCap w s.b.length 0 e)).size + 1)) := heap_alloc_new w.drew _
  rw [World.cell?, hn]
  simpa using hB
theorem Runs.to {o : Oper} {v : Value} (h : Runs P w E o v) : RunsTo P w E o (fun u w' => u = v ∧ w' = w) := fun a N ha => ⟨v, w, ⟨rfl, rfl⟩, .inl (h a N ha)⟩
theorem X_convB {B e c : Nat} {Eg H : Gh} {A : Option Addr} {xs : List UInt8} (hu : P.underlying t = some (.slice e)) (he : P.underlying e = some (.int .u8)) (hx : ev E x = some (.slice A xs.length c)) (hc : xs.length = c) (h00 : 0 < c) (hO : OwnS B e Eg H w A c xs) :
  RunsTo P w E ⟨dst, .convert t t x, ty, pos, after, guard⟩ (fun v w' => v = .slice A xs.length c ∧ Rd w' A (xs.map Sc.enc) ∧ Fr (bk A c) w w') := by
 obtain ⟨css, h1, h2, h3⟩ := hO
 rcases h2.form with ⟨hc0, hn0, hx0⟩ | ⟨g, cur, rfl, hg, hB, hn, hm, hl, ht, h0⟩
 ·
  omega
 ·
  have ef : cur = xs.map Sc.enc := by
   rw [all2_sc h1, flat_sc] at ht
   rw [← ht, hc, ← hl, List.take_length]
  subst ef
  have hbk : bk (some ⟨g, 0, none⟩) c = [g] := by cases c with | zero => omega | succ c => rfl
  rw [hbk]
  exact R_convB hu he hx hB
theorem X_storeOwn {α : Type} [Sc α] {B e c : Nat} {Eg H : Gh} {A : Option Addr} {xs : List α} {i : Int} {x0 v : α} (hs : sz P t = some 1) (hx : ev E x = some (.pointer (some ((adr A).add (i.toNat * 1))))) (hy : ev E y = some (Sc.enc v)) (hQ : OwnS B e Eg H w A c xs) (hi : At xs i x0) :
  RunsTo P w E ⟨none, .store t x y, ty, pos, after, guard⟩ (fun _ w' => OwnS B e Eg H w' A c (put xs i v) ∧ Fr (bk A c) w w') := by
 obtain ⟨css, h1, h2, h3⟩ := hQ
 have hn : Rp.n α = 1 := Sc.n1
 rw [hn] at h2
 have e1 := all2_sc h1
 subst e1
 rw [flat_sc] at h2
 have hlt := hi.lt
 have h0 := hi.1
 have hx' : ev E x = some (.pointer (some ((adr A).add (((i.toNat : Nat) : Int).toNat * 1)))) := hx
 rcases h2 with ⟨_, hz, _⟩ | ⟨hpos, h2⟩
 ·
  omega
 intro a N ha
 obtain ⟨u, w', ⟨h4, h5⟩, hr⟩ := R_storeOwn (ty := ty) (pos := pos) (after := after) (guard := guard) hs hx' hy h2 (by omega) (enc_one v) a N ha
 refine ⟨u, w', ⟨⟨_, all2_sc' (put xs i v), OwnX.of ?_, h3⟩, h5.mono fun i hi _ => bk_to hi hpos⟩, hr⟩
 rw [flat_sc, hn, put, List.map_set, List.length_set]
 exact h4
theorem X_bytesStr {td e n c : Nat} {A : Option Addr} {bs : List UInt8} (hs : P.underlying t = some (.slice e)) (he : P.underlying e = some (.int .u8)) (hd : P.underlying td = some .string) (hx : ev E x = some (.slice A n c)) (hn : n = bs.length) (hR : Rd w A (bs.map Sc.enc)) :
  Runs P w E ⟨dst, .convert t td x, ty, pos, after, guard⟩ (vs ⟨bs⟩) := R_bytesStr hs he hd hx hn hR
theorem andI_wrap (m n : Int) : IntKind.i64.wrap ((BitVec.ofInt IntKind.i64.bits m &&& BitVec.ofInt IntKind.i64.bits n).toNat : Int) = andI m n := by
 have e : IntKind.i64.bits = 64 := rfl
 rw [e, andI, BitVec.toInt_eq_toNat_bmod, IntKind.wrap_i64]
 have := (BitVec.ofInt 64 m &&& BitVec.ofInt 64 n).isLt
 rw [Int.bmod]
 omega
theorem rem64 (a b : BitVec 64) : ((a.toNat : Int)).tmod (b.toNat : Int) = ((a % b).toNat : Int) := by rw [BitVec.toNat_umod]; rfl
theorem quo32 (a b : BitVec 32) : IntKind.u32.wrap (((a.toNat : Int)).tdiv (b.toNat : Int)) = ((a / b).toNat : Int) := by
 rw [BitVec.toNat_udiv, ← Int.ofNat_tdiv]
 exact lt32 _ (Nat.lt_of_le_of_lt (Nat.div_le_self _ _) a.isLt)
theorem X_slNil {tu e : TypeId} {A : Option Addr} {n c n' c' : Nat} {b : Bool} (hb : b = A.isNone) (hu : P.underlying t = some (.slice e)) (hx : ev E x = some (.slice A n c)) (hy : ev E y = some (.slice none n' c')) : Runs P w E ⟨dst, .binOp .eql t x y tu, ty, pos, after, guard⟩ (.bool b) := hb ▸ R_slNil hu hx hy
theorem sep_app {A A' An : Option Addr} {c c' cn n : Nat} (h : ∀ i ∈ bk A' c', i ∈ bk A c ∨ n ≤ i) (hs : ∀ i ∈ bk A c, i ∉ bk An cn) (hlt : ∀ i ∈ bk An cn, i < n) : ∀ i ∈ bk A' c', i ∉ bk An cn :=
 fun i hi hn => (h i hi).elim (fun k => hs i k hn) fun k => by have := hlt i hn; omega
theorem sep_new {A' An : Option Addr} {c' cn n : Nat} (h : ∀ i ∈ bk A' c', n ≤ i) (hlt : ∀ i ∈ bk An cn, i < n) : ∀ i ∈ bk A' c', i ∉ bk An cn :=
 fun i hi hn => by have := hlt i hn; have := h i hi; omega
theorem sep_sym {A B : Option Addr} {c d : Nat} (h : ∀ i ∈ bk A c, i ∉ bk B d) : ∀ i ∈ bk B d, i ∉ bk A c := fun i hi hn => h i hn hi
theorem sep_zero {A B : Option Addr} {d : Nat} : ∀ i ∈ bk A 0, i ∉ bk B d := by simp [bk]
theorem sep_zero' {A B : Option Addr} {c : Nat} : ∀ i ∈ bk A c, i ∉ bk B 0 := by simp [bk]
end
end Go.Lx

namespace Go.Lx
open Go Go.Sx
theorem blk_rd {w : World} {d t : Nat} {cs : List Value} (h : Blk w d t cs) : Rd w (some ⟨d, 0, none⟩) cs := fun j v hv => ⟨rfl, by
 simp only [adr, Option.getD_some, add_flat, Nat.zero_add]
 exact h.at_ hv⟩
theorem Tok.freeze {α : Type} [Sc α] {G : Gh} {w0 w : World} {M : List Nat} {L H : Gh} {d t : Nat} {xs : List α} (h : Tok H w d t (xs.map Sc.enc)) (hd : w0.heap.size ≤ d) (hI : Inv M G w0 L H w) :
  ∃ L2 H2, Inv M G w0 L2 H2 w ∧ Up [d] L H w L2 H2 w ∧ Sl L2 (some ⟨d, 0, none⟩) xs := by
 have hr := blk_rd h.blk
 have hb : ∀ a v, cellsG (some ⟨d, 0, none⟩) (xs.map Sc.enc) a v → a.block = d := fun a v k => by have := cellsG_blk k; simpa [blkOf] using this
 refine ⟨L.or (cellsG (some ⟨d, 0, none⟩) (xs.map Sc.enc)), H.or (cellsG (some ⟨d, 0, none⟩) (xs.map Sc.enc)),
  ⟨hI.fr, fun a v k => k.elim (hI.st a v) (cellsG_st hr a v), hI.le.trans (Le.l _ _), fun a v k => k.elim (fun k => .inl (hI.sub a v k)) .inr, fun a v k hlt => k.elim (fun k => hI.new a v k hlt) fun k => absurd (hb a v k) (by omega), fun a v k => k.elim (hI.lnew a v) fun k => by rw [hb a v k]; exact hd⟩,
  ⟨Fr.refl _ _, Le.l _ _, Le.l _ _, fun a v k _ => k.elim .inl fun k => .inr (by rw [hb a v k]; simp)⟩, Sl.ofFz ((cellsG_fz hr).up (Le.r _ _))⟩
end Go.Lx

namespace Go.Lx
open Go Go.Sx
def fldsB (P : Program) (t : TypeId) : Option (List (Bool × Nat × TypeId)) :=
 match P.underlying t with
 | some (.struct fs) => if P.stoodInHeld t then none else if P.eqGuardType P.depth t then none else some (fs.toList.map fun f => (f.name != "_", f.offset, f.type))
 | _ => none
def EqF (P : Program) (xs ys : Array Value) (L : List (Bool × Nat × TypeId)) (p : Prop) : Prop :=
 ∀ (w : World) (d : Nat) (fs : List Field), fs.map (fun f => (f.name != "_", f.offset, f.type)) = L → ∃ r : Bool, (Op.eqFields (d + 1) xs ys fs).run P w = .ok r w ∧ (r = true ↔ p)
section
variable {P : Program} {xs ys : Array Value} {L : List (Bool × Nat × TypeId)} {p : Prop} {o : Nat} {t : TypeId}
theorem eqF_nil : EqF P xs ys [] True := fun w d fs h => by
 rw [List.map_eq_nil_iff] at h
 subst h
 exact ⟨true, by simp [Op.eqFields], by simp⟩
theorem eqF_step {a b : Value} {q : Prop} (ha : aggB P t = some false) (hx : xs[o]? = some a) (hy : ys[o]? = some b) (hq : ∀ (w : World) (d : Nat), ∃ r : Bool, (Op.equalIn (d + 1) t a b).run P w = .ok r w ∧ (r = true ↔ q)) (h : EqF P xs ys L p) : EqF P xs ys ((true, o, t) :: L) (q ∧ p) := fun w d fs hf => by
 cases fs with
 | nil => cases hf
 | cons f fs =>
  simp only [List.map_cons, List.cons.injEq, Prod.mk.injEq, bne_iff_ne] at hf
  obtain ⟨⟨h1, rfl, rfl⟩, hf⟩ := hf
  obtain ⟨r, h2, h3⟩ := hq w d
  obtain ⟨r', h4, h5⟩ := h w d fs hf
  refine ⟨r && r', ?_, by rw [Bool.and_eq_true, h3, h5]⟩
  have hb : f.name ≠ "_" := h1
  have px : (part f.type xs f.offset).run P w = .ok a w := by simp [part, run_isAgg ha, hx]
  have py : (part f.type ys f.offset).run P w = .ok b w := by simp [part, run_isAgg ha, hy]
  rw [Op.eqFields, if_pos hb]
  simp only [Sem.run_bind, px, py, Result.andThen_ok, h2]
  cases r with
  | true => simp only [Bool.not_true, Bool.false_eq_true, if_false, Bool.true_and]; exact h4
  | false => simp
theorem eqF_int {k k' : IntKind} {a b : Int} (hu : P.underlying t = some (.int k')) (ha : aggB P t = some false) (hx : xs[o]? = some (.int k a)) (hy : ys[o]? = some (.int k b)) (h : EqF P xs ys L p) : EqF P xs ys ((true, o, t) :: L) (a = b ∧ p) :=
 eqF_step ha hx hy (fun w d => ⟨a == b, by simp [Op.equalIn, run_underlying hu], by simp⟩) h
theorem eqF_str {a b : Str} (hu : P.underlying t = some .string) (ha : aggB P t = some false) (hx : xs[o]? = some (vs a)) (hy : ys[o]? = some (vs b)) (h : EqF P xs ys L p) : EqF P xs ys ((true, o, t) :: L) (a.b = b.b ∧ p) :=
 eqF_step ha hx hy (fun w d => ⟨decide (a.b = b.b), by rw [← strEq_dec]; simp [Op.equalIn, run_underlying hu, beq_toListBytes], by simp⟩) h
section
variable {w : World} {E : Env} {dst : Option Nat} {ty : TypeId} {pos : String} {after : Array Edge} {guard : Option (Nat × Bool)} {x y : Operand} {tu : TypeId} [Decidable p]
theorem fldsB_of (hf : fldsB P t = some L) : ∃ fs : Array Field, P.underlying t = some (.struct fs) ∧ P.stoodInHeld t = false ∧ P.eqGuardType P.depth t = false ∧ fs.toList.map (fun f => (f.name != "_", f.offset, f.type)) = L := by
 unfold fldsB at hf
 split at hf
 ·
  rename_i fs hu
  split at hf
  ·
   cases hf
  ·
   split at hf
   ·
    cases hf
   ·
    simp only [Option.some.injEq] at hf
    exact ⟨fs, hu, by simpa using ‹¬ P.stoodInHeld t = true›, by simpa using ‹¬ P.eqGuardType P.depth t = true›, hf⟩
 ·
  cases hf
theorem eqF_run (hf : fldsB P t = some L) (h : EqF P xs ys L p) : (Op.equalIn 10000 t (.agg xs) (.agg ys)).run P w = .ok (decide p) w := by
 obtain ⟨fs, hu, hs, _, hL⟩ := fldsB_of hf
 have e : P.fieldsOf t = fs := by simp [Program.fieldsOf, hu]
 obtain ⟨r, h1, h2⟩ := h w 9998 fs.toList hL
 rw [run_equalIn_struct w 9999 t xs ys (by rw [e]; exact hu) hs, e, h1]
 congr 1
 by_cases hp : p <;> simp [hp] at h2 ⊢ <;> exact h2
theorem R_structNe (hf : fldsB P t = some L) (hx : ev E x = some (.agg xs)) (hy : ev E y = some (.agg ys)) (h : EqF P xs ys L p) : Runs P w E ⟨dst, .binOp .neq t x y tu, ty, pos, after, guard⟩ (.bool (decide (¬ p))) := fun A N ha => by
 obtain ⟨fs, hu, hs, hg, hL⟩ := fldsB_of hf
 show ((do pure (.value (← (do eqGuard .neq t x y (A.eval x) (A.eval y); binOp .neq t (A.eval x) (A.eval y)))) : Sem Next)).run P w = _
 rw [ha.eval hx, ha.eval hy]
 simp [run_eqGuard_agg w .neq t x y xs ys hg, run_neq_struct, eqF_run hf h]
end
end
section
variable {P : Program} {N : Nat} {ops : Array Oper} {ds : List (Option Nat)} {T : Facts} {s : Todo} {E : Env} {w : World} {K : Post} {i d : Nat} {x : Operand} {t ty : TypeId} {pos : String} {after : Array Edge} {guard : Option (Nat × Bool)}
theorem HS_loadCs {a : Addr} {cs : List Value} (ht : aggB P t = some true) (hs : sz P t = some cs.length) (hx : ev E x = some (.pointer (some a))) (hc : ∀ j v, cs[j]? = some v → w.cell? (a.add j) = some v) (hd : Nat.blt d N = true) (hg : wants ds E guard = some true)
  (h : HS P N ops ds ((i, fun w' => ∀ j v, cs[j]? = some v → w'.cell? (a.add j) = some v) :: T) s ((d, .agg cs.toArray) :: E) w K) : HS P N ops ds T (.quiet i ⟨some d, .load t x, ty, pos, after, guard⟩ s) E w K :=
 HS_held (fun w' => ∀ j v, cs[j]? = some v → w'.cell? (a.add j) = some v) (fun _ h => R_loadCs ht hs hx h) hc hd hg h
end
theorem sep_tok {A : Option Addr} {c d : Nat} (h : ∀ i ∈ bk A c, i ∉ [d]) : d ∉ bk A c := fun hm => h d hm (List.mem_singleton.2 rfl)
end Go.Lx

namespace Go.Lx
open Go Go.Sx Go.MapKept
def Ent {α : Type} [Rp α] (E : Gh) (p : Int × α) (e : MapEntry) : Prop := e.key = vi p.1 ∧ Rp.cs E p.2 [e.val]
structure MTok {α : Type} [Rp α] (E H : Gh) (w : World) (d : Nat) (m : List (Int × α)) : Prop where
 obj : ∃ es clock, w.heap[d]? = some (.map es clock) ∧ All2 (Ent E) m es.toList
 out : Out H d
section
variable {α : Type} [Rp α] {E E' L H L' H' : Gh} {w w' : World} {d d' t : Nat} {m : List (Int × α)} {M : List Nat} {cs : List Value}
theorem heap_lt {o : Obj} (h : w.heap[d]? = some o) : d < w.heap.size := by
 rcases Nat.lt_or_ge d w.heap.size with hlt | hge
 ·
  exact hlt
 ·
  rw [Array.getElem?_eq_none hge] at h; cases h
theorem MTok.lt (h : MTok E H w d m) : d < w.heap.size := by
 obtain ⟨⟨es, c, h1, _⟩, _⟩ := h
 exact heap_lt h1
theorem MTok.fr (h : MTok E H w d m) (hf : Fr M w w') (hM : d ∉ M) : MTok E H w' d m := by
 have hl := h.lt
 obtain ⟨⟨es, c, h1, h2⟩, h3⟩ := h
 exact ⟨⟨es, c, (hf.block d hl hM).trans h1, h2⟩, h3⟩
theorem MTok.fr0 (h : MTok E H w d m) (hf : Fr [] w w') : MTok E H w' d m := h.fr hf (by simp)
theorem Ent.mono (hl : Le E E') {p : Int × α} {e : MapEntry} (h : Ent E p e) : Ent E' p e := ⟨h.1, Rp.mono hl h.2⟩
theorem MTok.up (h : MTok E H w d m) (hE : Le E E') (u : Up M L H w L' H' w') (hM : d ∉ M) : MTok E' H' w' d m := by
 have hl := h.lt
 obtain ⟨es, c, h1, h2⟩ := (h.fr u.fr hM).obj
 exact ⟨⟨es, c, h1, h2.mono fun _ _ => Ent.mono hE⟩, fun a v k e => (u.new a v k (e ▸ hl)).elim (fun k => h.out a v k e) fun k => hM (e ▸ k)⟩
theorem MTok.neB (h : MTok E H w d m) (k : Blk w d' t cs) : d ≠ d' := fun e => by
 obtain ⟨⟨es, c, h1, _⟩, _⟩ := h
 unfold Blk at k
 rw [e, k] at h1; cases h1
theorem MTok.neT (h : MTok E H w d m) (k : Tok H w d' t cs) : d ∉ [d'] := fun hm => h.neB k.blk (by simpa using hm)
theorem Tok.neM (k : Tok H w d' t cs) (h : MTok E H w d m) : d' ∉ [d] := fun hm => h.neB k.blk (by simpa using Eq.symm (by simpa using hm))
theorem MTok.neO {β : Type} [Rp β] {B e c : Nat} {E2 H2 : Gh} {A : Option Addr} {xs : List β} (h : MTok E H w d m) (k : OwnS B e E2 H2 w A c xs) : d ∉ bk A c := fun hm => by
 obtain ⟨css, h1, h2, h3⟩ := k
 rcases h2.form with ⟨rfl, _⟩ | ⟨g, cur, rfl, _, hB, _⟩
 ·
  simp [bk] at hm
 ·
  have := (bk_of hm).1
  simp only [blkOf, List.mem_singleton] at this
  exact h.neB hB this
theorem OwnS.neM {β : Type} [Rp β] {B e c : Nat} {E2 H2 : Gh} {A : Option Addr} {xs : List β} (k : OwnS B e E2 H2 w A c xs) (h : MTok E H w d m) : ∀ i ∈ bk A c, i ∉ [d] := fun i hi hm => by
 rw [List.mem_singleton] at hm
 subst hm
 exact h.neO k hi
theorem find_ent (k : Int) : ∀ (m : List (Int × α)) (es : List MapEntry) (i : Nat), All2 (Ent E) m es →
  (mget m k = none → Instr.findNow (.int .i64) (vi k) es i = some none ∧ ∀ v : α, mput m k v = m ++ [(k, v)]) ∧
  (∀ v, mget m k = some v → ∃ j val, Instr.findNow (.int .i64) (vi k) es i = some (some (i + j, val)) ∧ Rp.cs E v [val] ∧ j < es.length ∧ (∃ e, es[j]? = some e ∧ e.key = vi k ∧ e.val = val) ∧
   ∀ (v' : α) (val' : Value), Rp.cs E v' [val'] → All2 (Ent E) (mput m k v') (es.modify j fun e => { e with key := vi k, val := val' }))
 | [], [], i, _ => ⟨fun _ => ⟨rfl, fun _ => rfl⟩, fun v h => by cases h⟩
 | (a, b) :: m, e :: es, i, .cons ⟨h1, h2⟩ ht => by
  have ih := find_ent k m es (i + 1) ht
  have hs : Instr.sameNow (.int .i64) (vi k) e.key = some (k == a) := by rw [h1]; simp [Instr.sameNow]
  by_cases hk : k = a
  ·
   refine ⟨fun h => ?_, fun v h => ?_⟩
   ·
    rw [mget, if_pos hk] at h; cases h
   ·
    rw [mget, if_pos hk] at h
    obtain rfl := Option.some.inj h
    have hb : (k == a) = true := by simp [hk]
    refine ⟨0, e.val, ?_, h2, by simp, ⟨e, rfl, by rw [h1, hk], rfl⟩, fun v' val' hv' => ?_⟩
    ·
     rw [Instr.findNow, hs, hb]; rfl
    ·
     rw [mput, if_pos hk]
     exact .cons ⟨by rw [hk], hv'⟩ ht
  ·
   have hb : (k == a) = false := by simp [hk]
   refine ⟨fun h => ?_, fun v h => ?_⟩
   ·
    rw [mget, if_neg hk] at h
    obtain ⟨h3, h4⟩ := ih.1 h
    refine ⟨?_, fun v => by rw [mput, if_neg hk, h4]; rfl⟩
    rw [Instr.findNow, hs, hb]; exact h3
   ·
    rw [mget, if_neg hk] at h
    obtain ⟨j, val, h3, h4, h5, ⟨e', h6, h7, h8⟩, h9⟩ := ih.2 v h
    refine ⟨j + 1, val, ?_, h4, by simp; omega, ⟨e', by simpa using h6, h7, h8⟩, fun v' val' hv' => ?_⟩
    ·
     rw [Instr.findNow, hs, hb]
     show Instr.findNow _ _ es (i + 1) = _
     rw [h3]; congr 3; omega
    ·
     rw [mput, if_neg hk]
     exact .cons ⟨h1, h2⟩ (h9 v' val' hv')
end
section
variable {P : Program} {w : World} {E : Env} {dst : Option Nat} {ty : TypeId} {pos : String} {after : Array Edge} {guard : Option (Nat × Bool)} {x y z : Operand} {t tk te : TypeId} {G H : Gh} {d : Nat} {k : Int}
theorem isKey_int : IsKey (.int .i64) (vi k) := by simp [IsKey]
theorem R_lookup {α : Type} [Sc α] {m : List (Int × α)} {z0 : α} (ht : P.underlying t = some (.map tk te)) (hk : P.underlying tk = some (.int .i64)) (hz : zv P te = some (Sc.enc z0)) (hx : ev E x = some (.map (some d))) (hi : ev E y = some (vi k)) (hm : MTok G H w d m) :
  Runs P w E ⟨dst, .lookup t x y false, ty, pos, after, guard⟩ (Sc.enc ((mget m k).getD z0)) := fun A N hA => by
 obtain ⟨⟨es, c, h1, h2⟩, _⟩ := hm
 have hf := find_ent k m es.toList 0 h2
 have hc : ∀ em, (Instr.checkKey em 10000 tk (vi k)).run P w = .ok () w := fun em => Go.MapKept.run_checkKey hk isKey_int em 9999
 show ((do pure (.value (← Instr.lookup t (A.eval x) (A.eval y) false)) : Sem Next)).run P w = _
 rw [hA.eval hx, hA.eval hi]
 cases hg : mget m k with
 | none =>
  have h3 := (hf.1 hg).1
  simp [Instr.lookup, run_underlying ht, Go.MapKept.run_getObj_map h1, hc, Go.MapKept.run_findKey hk h3, run_zeroValue' (P := P) hz]
 | some v =>
  obtain ⟨j, val, h3, h4, _⟩ := hf.2 v hg
  have h5 : val = Sc.enc v := by
   have := Sc.sc.1 h4
   simpa using this
  simp [Instr.lookup, run_underlying ht, Go.MapKept.run_getObj_map h1, hc, Go.MapKept.run_findKey hk h3, h5]
theorem R_makeMap : RunsTo P w E ⟨dst, .makeMap t none, ty, pos, after, guard⟩ (fun v w' => ∃ b, v = .map (some b) ∧ b = w.heap.size ∧ w'.heap[b]? = some (.map #[] 0) ∧ Fr [] w w') := fun A N ha => by
 refine ⟨_, w.alloc (.map #[] 0), ⟨_, rfl, rfl, ?_, Fr.alloc w _⟩, .inl ?_⟩
 ·
  exact heap_alloc_new w _
 ·
  simp [execOp, Instr.makeMap]
theorem MTok.made {α : Type} [Rp α] {w' : World} {b : Nat} (h : w'.heap[b]? = some (.map #[] 0)) (ho : Out H b) : MTok G H w' b ([] : List (Int × α)) := ⟨⟨_, _, h, .nil⟩, ho⟩
theorem Fr.setIfIn {r : Nat} {o : Obj} : Fr [r] w { w with heap := w.heap.setIfInBounds r o } := ⟨rfl, rfl, rfl, by simp, fun k _ hn => by simp [Ne.symm (show k ≠ r by simpa using hn)]⟩
theorem R_mapUpdate {α : Type} [Rp α] {m : List (Int × α)} {v : α} {val : Value} (ht : P.underlying t = some (.map tk te)) (hk : P.underlying tk = some (.int .i64)) (hx : ev E x = some (.map (some d))) (hi : ev E y = some (vi k)) (hv : ev E z = some val) (hr : Rp.cs G v [val]) (hm : MTok G H w d m) :
  RunsTo P w E ⟨none, .mapUpdate t x y z, ty, pos, after, guard⟩ (fun _ w' => MTok G H w' d (mput m k v) ∧ Fr [d] w w') := fun A N hA => by
 obtain ⟨⟨es, c, h1, h2⟩, ho⟩ := hm
 have hf := find_ent k m es.toList 0 h2
 have hc : ∀ em, (Instr.checkKey em 10000 tk (vi k)).run P w = .ok () w := fun em => Go.MapKept.run_checkKey hk isKey_int em 9999
 have hlt : d < w.heap.size := heap_lt h1
 cases hg : mget m k with
 | none =>
  obtain ⟨h3, h4⟩ := hf.1 hg
  refine ⟨undef, { w with heap := w.heap.setIfInBounds d (.map (es.push { key := vi k, val := val, born := c }) (c + 1)) }, ⟨⟨⟨_, _, (heap_set h1).1, ?_⟩, ho⟩, Fr.setIfIn⟩, .inr ⟨?_, rfl⟩⟩
  ·
   rw [h4, Array.toList_push]
   exact h2.app (.cons ⟨rfl, hr⟩ .nil)
  ·
   show (do Instr.mapUpdate t (A.eval x) (A.eval y) (A.eval z); pure Next.skip : Sem Next).run P w = _
   rw [hA.eval hx, hA.eval hi, hA.eval hv]
   simp [Instr.mapUpdate, run_underlying ht, Go.MapKept.run_getObj_map h1, hc, Go.MapKept.run_findKey hk h3, Go.MapKept.run_setObj_map _ h1]
 | some u =>
  obtain ⟨j, val', h3, h4, h5, ⟨e, h6, h7, h8⟩, h9⟩ := hf.2 u hg
  have hs : Instr.sameBits 10000 (vi k) (vi k) = true := by unfold Instr.sameBits; simp
  have he : es[j]? = some e := by simpa using h6
  refine ⟨undef, { w with heap := w.heap.setIfInBounds d (.map (es.modify j fun e => { e with key := vi k, val := val }) c) }, ⟨⟨⟨_, _, (heap_set h1).1, ?_⟩, ho⟩, Fr.setIfIn⟩, .inr ⟨?_, rfl⟩⟩
  ·
   rw [Array.toList_modify]
   exact h9 v val hr
  ·
   show (do Instr.mapUpdate t (A.eval x) (A.eval y) (A.eval z); pure Next.skip : Sem Next).run P w = _
   rw [hA.eval hx, hA.eval hi, hA.eval hv]
   simp [Instr.mapUpdate, run_underlying ht, Go.MapKept.run_getObj_map h1, hc, Go.MapKept.run_findKey hk h3, Go.MapKept.run_setObj_map _ h1, he, h7, Instr.keyThatStays, hs]
end
end Go.Lx

namespace Go.Lx
open Go Go.Sx
section
variable {P : Program} {w : World} {E : Env} {dst : Option Nat} {ty : TypeId} {pos : String} {after : Array Edge} {guard : Option (Nat × Bool)} {x y z : Operand} {t : TypeId} {f : Fn} {a b c : Value}
theorem R_makeFunc2 (hx : ev E x = some a) (hy : ev E y = some b) : Runs P w E ⟨dst, .makeFunc f #[] #[x, y], ty, pos, after, guard⟩ (.func f #[] #[a, b]) := fun A N hA => by
 simp [execOp, Instr.makeFunc, hA.eval hx, hA.eval hy]
theorem R_indexArrK {len e n k bb o : Nat} {kd : IntKind} {i : Int} (hu : P.underlying t = some (.array len e)) (hs : sz P e = some n) (hx : ev E x = some (.pointer (some ⟨bb, o, none⟩))) (hy : ev E y = some (.int kd i)) (hi : i = (k : Int)) (hk : k < len) :
  Runs P w E ⟨dst, .indexAddr t x y, ty, pos, after, guard⟩ (.pointer (some ⟨bb, o + k * n, none⟩)) := by
 subst hi
 exact R_indexArr hu hs hx hy (Int.natCast_nonneg _) (by omega)
theorem R_indexK {len e k : Nat} {cs : Array Value} {kd : IntKind} {i : Int} {v : Value} (hu : P.underlying t = some (.array len e)) (hs : sz P e = some 1) (he : aggB P e = some false) (hx : ev E x = some (.agg cs)) (hy : ev E y = some (.int kd i)) (hi : i = (k : Int)) (hk : k < len) (hv : cs[k]? = some v) :
  Runs P w E ⟨dst, .index t x y, ty, pos, after, guard⟩ v := by
 subst hi
 exact R_index hu hs he hx hy (Int.natCast_nonneg _) (by omega) (by simpa using hv)
end
theorem split3 {i : Int} {p : Prop} (h : 0 ≤ i ∧ i < 3) (h0 : i = 0 → p) (h1 : i = 1 → p) (h2 : i = 2 → p) : p := by
 rcases (show i = 0 ∨ i = 1 ∨ i = 2 by omega) with h | h | h
 ·
  exact h0 h
 ·
  exact h1 h
 ·
  exact h2 h
section
variable {d d' n : Nat} {M l : List Nat} {A : Option Addr} {c : Nat}
theorem niA (h : d ∉ [d']) (k : d ∉ l) : d ∉ d' :: l := fun hm => by
 rcases List.mem_cons.1 hm with e | hm
 ·
  exact h (by simp [e])
 ·
  exact k hm
theorem niB (h : ∀ i ∈ bk A c, i ∉ [d']) (k : ∀ i ∈ bk A c, i ∉ l) : ∀ i ∈ bk A c, i ∉ d' :: l := fun i hi => niA (h i hi) (k i hi)
theorem memN : ∀ i ∈ ([] : List Nat), i < n → i ∈ M := fun i hi => absurd hi (by simp)
theorem memO (h : d ∈ M) (k : ∀ i ∈ l, i < n → i ∈ M) : ∀ i ∈ d :: l, i < n → i ∈ M := fun i hi hlt => by
 rcases List.mem_cons.1 hi with e | hi
 ·
  exact e ▸ h
 ·
  exact k i hi hlt
theorem memG (h : n ≤ d) (k : ∀ i ∈ l, i < n → i ∈ M) : ∀ i ∈ d :: l, i < n → i ∈ M := fun i hi hlt => by
 rcases List.mem_cons.1 hi with e | hi
 ·
  omega
 ·
  exact k i hi hlt
end
section
variable {P : Program} {w w0 : World} {E : Env} {dst : Option Nat} {ty : TypeId} {pos : String} {after : Array Edge} {guard : Option (Nat × Bool)} {s x : Operand} {t e : TypeId} {bytes : Nat} {α : Type} [Rp α] {xs ys : List α} {A : Option Addr} {M : List Nat} {G L H : Gh}
theorem X_appendTightF {tx : TypeId} {v : Value} {n : Nat} (el : Elem P t e (Rp.n α) bytes) (hn : n = xs.length) (hs : ev E s = some (.slice A n n)) (hx : ev E x = some v) (hR : Sl H A xs) (hsrc : Srcs P tx H w v ys) (hI : Inv M G w0 L H w)
  (hbytes : Rm bytes (xs.length + ys.length)) (hb1 : 1 ≤ bytes) :
  RunsTo P w E ⟨dst, .call { callee := .builtin .append, args := #[s, x], argTypes := #[t, tx] }, ty, pos, after, guard⟩ (fun u w' => ∃ A' c' L2 H2, u = .slice A' (xs ++ ys).length c' ∧ Inv M G w0 L2 H2 w' ∧ Up [] L H w L2 H2 w' ∧ (xs ++ ys).length ≤ c' ∧ Sl H2 A' (xs ++ ys)) := fun a N ha => by
 subst hn
 have hR0 := hR
 obtain ⟨css, h1, h2⟩ := hR
 obtain ⟨dss, h4, h5⟩ := hsrc.src
 have h63 : xs.length + ys.length ≤ maxLen := by
  have := Nat.mul_le_mul_left (xs.length + ys.length) hb1
  unfold Rm at hbytes
  simp only [maxLen]; omega
 obtain ⟨v', w2, ⟨A', c', hv, _, hf, hor⟩, hr⟩ := R_appendTight (dst := dst) (ty := ty) (pos := pos) (after := after) (guard := guard) (B := w.heap.size) el hs hx (h2.rd hI.st) (flat_len h1) h5 hbytes h63 (Nat.le_refl _) a N ha
 rcases hor with ⟨h0, rfl, rfl, rfl⟩ | ⟨hp, ho⟩
 ·
  have hy : ys = [] := List.eq_nil_of_length_eq_zero h0
  subst hy
  exact ⟨v', w2, ⟨A', xs.length, L, H, by rw [hv, List.append_nil]; rfl, hI, Up.fr0 (Fr.refl _ _), by simp, by rw [List.append_nil]; exact hR0⟩, hr⟩
 ·
  have hO : OwnS w.heap.size e H H w2 A' c' (xs ++ ys) := ⟨css ++ dss, h1.app h4, OwnX.of (by rw [List.flatten_append, List.length_append]; exact ho), fun b hb => Out.ge hI.st (ho.off b (bk_of hb).1)⟩
  obtain ⟨L2, H2, k1, k2, _, k4⟩ := (hO.le hI.size).freeze (hI.fr0 hf)
  refine ⟨v', w2, ⟨A', c', L2, H2, by rw [hv, List.length_append], k1, ⟨hf, k2.ll, k2.hh, fun a v k hlt => ?_⟩, hO.cap, k4 (Le.refl _)⟩, hr⟩
  rcases k2.new a v k (Nat.lt_of_lt_of_le hlt hf.size) with h | h
  ·
   exact .inl h
  ·
   have := hO.off _ h; omega
end
end Go.Lx

namespace Go.Sx
open Go
section
variable {P : Program} {N : Nat} {E : Env} {w : World} {K : Post}
variable {ds : List (Option Nat)} {ops : Array Oper} {T : Facts} {s : Todo} {i t : Nat} {op : Op} {ty : TypeId} {pos : String} {after : Array Edge} {guard : Option (Nat × Bool)}
theorem HS_passU (hg : undefd ds E guard = true) (hd : Nat.blt t N = true)
  (h : HS P N ops ds T s ((t, undef) :: E) w K) : HS P N ops ds T (.quiet i ⟨some t, op, ty, pos, after, guard⟩ s) E w K := fun a listed ha hds hdn hT hs hsel => by
 obtain ⟨ho, hs1, hs⟩ := hs
 obtain ⟨hf, hr'⟩ := hs1
 have h1 := h _ _ (ha.put (some t) _ hd) hds (hdn.set hr') hT hs hsel
 have h2 := wpT_first (P := P) (F := fun _ => True) (Q := toQ N K) ho (Region.noSelect_spec hsel) (fun _ _ _ h => h) s.len T listed a w hdn (Region.free_spec ho hf) hr' (.inr ⟨undefd_spec hds (o := ⟨some t, op, ty, pos, after, guard⟩) ha hg, rfl⟩) trivial hT
 exact h2 (wpT_true _ _ _ _ _ h1)
theorem Stp_passLU (hg : undefd ds E guard = true) (hd : Nat.blt t N = true)
  (h : HS P N ops ds (drop ops i T) s ((t, undef) :: E) w K) : Stp P N ops ds T i ⟨some t, op, ty, pos, after, guard⟩ s E w K := fun a listed ha hds hdn hT ho hr hs hsel => by
 have hdn' : Down ops (listed.setIfInBounds i true) := hdn.set hr
 have hA : All (drop ops i T) w := fun p hp => hT p (List.mem_filter.1 hp).1
 unfold wpOp
 simp only [ho, undefd_spec hds (o := ⟨some t, op, ty, pos, after, guard⟩) ha hg]
 rw [if_neg (by simp)]
 exact ⟨hA, h _ _ (ha.put (some t) _ hd) hds hdn' hA hs hsel⟩
theorem HS_passLU (hg : undefd ds E guard = true) (hd : Nat.blt t N = true)
  (h : HS P N ops ds (drop ops i T) s ((t, undef) :: E) w K) : HS P N ops ds T (.loud i ⟨some t, op, ty, pos, after, guard⟩ s) E w K := HS_loud (Stp_passLU hg hd h)
end
end Go.Sx

namespace Go.Proofs.Ytkmljjhjojolcaa
open Go Go.Sx Go.Lx
def GL (_G : Gh) : Prop := True
theorem GL.up {G G' : Gh} (h : GL G) (_hl : Le G G') : GL G' := h
end Go.Proofs.Ytkmljjhjojolcaa

namespace Go.Sx
open Go Go.ChangeShapes Go.WideShapes
theorem vb_nat {n : Int} (h : (Lit.int .u8 n).wf = true) : (.int .u8 n : Value) = vb (UInt8.ofNat n.toNat) := by
 have h0 : 0 ≤ n ∧ n < 256 := by
  simp only [Lit.wf, IntKind.min, IntKind.max, IntKind.bits, IntKind.signed, Bool.and_eq_true, decide_eq_true_eq, Bool.false_eq_true, if_false] at h
  omega
 show (.int .u8 n : Value) = .int .u8 ((UInt8.ofNat n.toNat).toNat : Int)
 rw [UInt8.toNat_ofNat']
 congr 1
 omega
end Go.Sx

namespace Go.Lx
open Go Go.Sx Go.ChangeShapes Go.WideShapes Go.Deep

def GW (W : World) : Gh := fun a v => W.cell? a = some v
theorem GW.st (W : World) : St (GW W) W := fun _ _ h => h
class Wf (α : Type) where
 wf : α → Prop
instance : Wf Int := ⟨fun n => -9223372036854775808 ≤ n ∧ n ≤ 9223372036854775807⟩
instance : Wf UInt8 := ⟨fun _ => True⟩
instance : Wf (BitVec 32) := ⟨fun _ => True⟩
instance : Wf (BitVec 64) := ⟨fun _ => True⟩
instance : Wf Bool := ⟨fun _ => True⟩
instance : Wf Str := ⟨fun s => s.b.length ≤ 9223372036854775807⟩
instance {α : Type} [Wf α] : Wf (List α) := ⟨fun l => l.length ≤ 9223372036854775807 ∧ ∀ x ∈ l, Wf.wf x⟩
def Opn (P : Program) (t : TypeId) (α : Type) [Rp α] [Wf α] : Prop :=
 ∀ {W : World} {H : Type} {enc : TypeId × Value → H} {fuel : Nat} {cs : List Value} {x : DataW H × List MemPlace}, DataW.trod enc P W 0 (fun _ => true) true fuel t cs = some x → ∃ v : α, Rp.cs (GW W) v cs ∧ Wf.wf v
section
variable {P : Program} {t e : TypeId}
theorem opn_i64 (hu : P.underlying t = some (.int .i64)) : Opn P t Int := fun h => by
 obtain ⟨n, rfl, _, hw⟩ := DataW.trod_int hu h
 refine ⟨n, rfl, ?_⟩
 simp only [Lit.wf, IntKind.min, IntKind.max, IntKind.bits, IntKind.signed, Bool.and_eq_true, decide_eq_true_eq, if_true] at hw
 show _ ∧ _
 omega
theorem opn_u8 (hu : P.underlying t = some (.int .u8)) : Opn P t UInt8 := fun h => by
 obtain ⟨n, rfl, _, hw⟩ := DataW.trod_int hu h
 exact ⟨_, by rw [vb_nat hw]; rfl, trivial⟩
theorem piece {α : Type} {cs : List α} (o n m : Nat) (h : o + n = m) : (cs.drop o).take n ++ cs.drop m = cs.drop o := by
 rw [← h, ← List.drop_drop, List.take_append_drop]
theorem Opn.at_ {α : Type} [Rp α] [Wf α] (ho : Opn P t α) {W : World} {H : Type} {enc : TypeId × Value → H} {v : Value} {d : DataW H} {ps : List MemPlace} (h : DataW.Trod enc P W 0 (fun _ => true) true t v d ps) : ∃ x : α, Rp.cs (GW W) x v.cells.toList ∧ Wf.wf x := by
 obtain ⟨fuel, hf⟩ := h
 exact ho hf
end
end Go.Lx

namespace Go.Lx
open Go Go.Sx Go.ChangeShapes Go.WideShapes Go.Deep
class Wz (α : Type) where
 wz : α → Prop
instance : Wz Int := ⟨fun _ => True⟩
instance : Wz UInt8 := ⟨fun _ => True⟩
instance : Wz (BitVec 32) := ⟨fun _ => True⟩
instance : Wz (BitVec 64) := ⟨fun _ => True⟩
instance : Wz Bool := ⟨fun _ => True⟩
instance : Wz Str := ⟨fun _ => True⟩
instance {α : Type} [Wz α] : Wz (List α) := ⟨fun l => l.length ≤ 140737488351232 ∧ ∀ x ∈ l, Wz.wz x⟩
def Light {H : Type} (P : Program) (t : TypeId) (d : DataW H) : Prop := ∀ n ∈ d.weights P t, n ≤ reachBytes
theorem light_all {H : Type} {P : Program} {e : TypeId} {l : List (DataW H)} (h : ∀ n ∈ DataW.weightsAll P e l, n ≤ reachBytes) : ∀ d ∈ l, Light P e d := by
 induction l with
 | nil => intro d hd; cases hd
 | cons x l ih =>
  intro d hd
  rcases List.mem_cons.1 hd with rfl | hd
  ·
   exact fun n hn => h n (by rw [DataW.weightsAll]; exact List.mem_append_left _ hn)
  ·
   exact ih (fun n hn => h n (by rw [DataW.weightsAll]; exact List.mem_append_right _ hn)) d hd
theorem light_each {H : Type} {P : Program} : ∀ {ts : List TypeId} {l : List (DataW H)}, (∀ n ∈ DataW.weightsEach P ts l, n ≤ reachBytes) → ∀ (i : Nat) t d, ts[i]? = some t → l[i]? = some d → Light P t d
 | [], _, _, i, t, d, ht, _ => by simp at ht
 | _ :: _, [], _, i, t, d, _, hd => by simp at hd
 | u :: ts, x :: l, h, 0, t, d, ht, hd => by
  simp only [List.getElem?_cons_zero, Option.some.injEq] at ht hd
  subst ht; subst hd
  exact fun n hn => h n (by rw [DataW.weightsEach]; exact List.mem_append_left _ hn)
 | u :: ts, x :: l, h, i + 1, t, d, ht, hd => by
  simp only [List.getElem?_cons_succ] at ht hd
  exact light_each (fun n hn => h n (by rw [DataW.weightsEach]; exact List.mem_append_right _ hn)) i t d ht hd
def Opz (P : Program) (t : TypeId) (α : Type) [Rp α] [Wf α] [Wz α] : Prop :=
 ∀ {W : World} {H : Type} {enc : TypeId × Value → H} {fuel : Nat} {cs : List Value} {x : DataW H × List MemPlace}, DataW.trod enc P W 0 (fun _ => true) true fuel t cs = some x → Light P t x.1 → ∃ v : α, Rp.cs (GW W) v cs ∧ Wf.wf v ∧ Wz.wz v
section
variable {P : Program} {t e : TypeId}
theorem Opn.z {α : Type} [Rp α] [Wf α] [Wz α] (h : Opn P t α) (hz : ∀ v : α, Wz.wz v) : Opz P t α := fun h1 _ => by
 obtain ⟨v, a, b⟩ := h h1
 exact ⟨v, a, b, hz v⟩
theorem opz_sl {α : Type} [Rp α] [Wf α] [Wz α] (hu : P.underlying t = some (.slice e)) (he : Opz P e α) (hc : P.cellsOf e = Rp.n α) (hb : 1 ≤ P.bytesOf e) : Opz P t (List α) := fun {W H enc fuel cs x} h hsz => by
 rcases open_slice hu h with ⟨hcs, _⟩ | ⟨a, l, c, m, n, D, Pl, hcs, _, hl, hm, hmm, hx, hel⟩
 ·
  exact ⟨[], ⟨none, 0, hcs, Nat.le_refl _, Sl.nil⟩, by show _ ∧ _; simp, by show _ ∧ _; simp⟩
 ·
  simp only [if_true] at hmm
  subst hmm
  rw [hx] at hsz
  unfold Light at hsz
  rw [DataW.weights] at hsz
  simp only [hu] at hsz
  have hlight : ∀ k, k < l → Light P e (D k) := fun k hk => light_all (fun n hn => hsz n (List.mem_cons_of_mem _ (List.mem_append_left _ hn))) _ (List.mem_map.2 ⟨k, List.mem_range.2 hk, rfl⟩)
  have hlen : l ≤ reachBytes := by
   have h1 := hsz _ (List.mem_cons_self ..)
   rw [List.length_map, List.length_range] at h1
   have h2 : l ≤ l * P.bytesOf e := Nat.le_mul_of_pos_right _ hb
   exact Nat.le_trans (Nat.le_trans h2 (Nat.mul_le_mul_right _ (Nat.le_add_right _ _))) h1
  have key : ∀ k, k ≤ l → ∃ (L : List α) (css : List (List Value)), L.length = k ∧ All2 (Rp.cs (GW W)) L css ∧ Fz (GW W) (some a) css.flatten ∧ (∀ y ∈ L, Wf.wf y) ∧ ∀ y ∈ L, Wz.wz y := by
   intro k
   induction k with
   | zero => intro _; exact ⟨[], [], rfl, .nil, fun j v hj => by simp at hj, by simp, by simp⟩
   | succ k ih =>
    intro hk
    obtain ⟨L, css, h1, h2, h3, h4, h7⟩ := ih (by omega)
    obtain ⟨cs', h5, h6⟩ := hel k (by omega)
    obtain ⟨y, hy, hw, hz⟩ := he h6 (hlight k (by omega))
    obtain ⟨_, hlen, hcell⟩ := World.cells?_some h5
    refine ⟨L ++ [y], css ++ [cs'], by simp [h1], h2.app (.cons hy .nil), fun j v hj => ?_, ?_, ?_⟩
    ·
     rw [List.flatten_append, List.flatten_singleton] at hj
     have hfl := flat_len h2
     rw [h1] at hfl
     rcases Nat.lt_or_ge j css.flatten.length with hlt | hge
     ·
      rw [List.getElem?_append_left hlt] at hj
      exact h3 j v hj
     ·
      rw [List.getElem?_append_right hge] at hj
      have hjl := (List.getElem?_eq_some_iff.1 hj).1
      refine ⟨rfl, ?_⟩
      have hc' := hcell (j - css.flatten.length) (by omega)
      rw [Sx.add_add, hc] at hc'
      have : k * Rp.n α + (j - css.flatten.length) = j := by omega
      rw [this] at hc'
      show W.cell? ((adr (some a)).add j) = some v
      rw [adr, Option.getD_some, hc', hj]
    ·
     intro z hz'
     rcases List.mem_append.1 hz' with hz' | hz'
     ·
      exact h4 z hz'
     ·
      rw [List.mem_singleton] at hz'; exact hz' ▸ hw
    ·
     intro z hz'
     rcases List.mem_append.1 hz' with hz' | hz'
     ·
      exact h7 z hz'
     ·
      rw [List.mem_singleton] at hz'; exact hz' ▸ hz
  obtain ⟨L, css, h1, h2, h3, h4, h7⟩ := key l (Nat.le_refl _)
  refine ⟨L, ⟨some a, _, by rw [h1]; exact hcs, by omega, css, h2, h3⟩, ⟨by unfold maxLen at hm; omega, h4⟩, ?_, h7⟩
  rw [h1]; exact hlen
theorem trod_fieldsZ {fs : Array Field} {n : Nat} (hst : P.underlying t = some (.struct fs)) (hn : P.cellsOf t = n) {W : World} {H : Type} {enc : TypeId × Value → H} {fuel : Nat} {cs : List Value} {x : DataW H × List MemPlace}
  (h : DataW.trod enc P W 0 (fun _ => true) true fuel t cs = some x) (hsz : Light P t x.1) : cs.length = n ∧ ∃ fuel', ∀ (i : Nat) f, fs.toList[i]? = some f → ∃ y, DataW.trod enc P W 0 (fun _ => true) true fuel' f.type ((cs.drop f.offset).take (P.cellsOf f.type)) = some y ∧ Light P f.type y.1 := by
 cases fuel with
 | zero => simp [DataW.trod] at h
 | succ fuel =>
  rw [DataW.trod_step] at h
  unfold DataW.trodStep at h
  rw [hst] at h
  simp only [hn] at h
  split at h
  ·
   rename_i hl
   obtain ⟨xs, hm, hx⟩ := Option.map_eq_some_iff.1 h
   subst hx
   unfold Light at hsz
   rw [DataW.weights] at hsz
   simp only [hst] at hsz
   refine ⟨hl, fuel, fun i f hf0 => ?_⟩
   have : ∀ (l : List Field) (ys : List (DataW H × List MemPlace)), l.mapM (fun f => DataW.trod enc P W 0 (fun _ => true) true fuel f.type ((cs.drop f.offset).take (P.cellsOf f.type))) = some ys → ∀ i : Nat, l[i]? = some f → ∃ y, DataW.trod enc P W 0 (fun _ => true) true fuel f.type ((cs.drop f.offset).take (P.cellsOf f.type)) = some y ∧ ys[i]? = some y := by
    intro l
    induction l with
    | nil => intro ys _ i hf; simp at hf
    | cons g l ih =>
     intro ys hy i hf
     simp only [List.mapM_cons, bind, Option.bind_eq_some_iff, pure] at hy
     obtain ⟨y, h1, ys', h2, h3⟩ := hy
     simp only [Option.some.injEq] at h3
     subst h3
     cases i with
     | zero =>
      simp only [List.getElem?_cons_zero, Option.some.injEq] at hf
      subst hf
      exact ⟨y, h1, by simp⟩
     | succ i =>
      simp only [List.getElem?_cons_succ] at hf
      obtain ⟨y', q1, q2⟩ := ih ys' h2 i hf
      exact ⟨y', q1, by simpa using q2⟩
   obtain ⟨y, h1, h2⟩ := this _ xs hm i hf0
   exact ⟨y, h1, light_each hsz i f.type y.1 (by rw [List.getElem?_map, hf0]; rfl) (by rw [List.getElem?_map, h2]; rfl)⟩
  ·
   cases h
theorem Opz.at_ {α : Type} [Rp α] [Wf α] [Wz α] (ho : Opz P t α) {W : World} {H : Type} {enc : TypeId × Value → H} {v : Value} {d : DataW H} {ps : List MemPlace} (h : DataW.Trod enc P W 0 (fun _ => true) true t v d ps) (hsz : Light P t d) : ∃ x : α, Rp.cs (GW W) x v.cells.toList ∧ Wf.wf x ∧ Wz.wz x := by
 obtain ⟨fuel, hf⟩ := h
 exact ho hf hsz
end
theorem light_arg {H : Type} {P : Program} {ts us : List TypeId} {ds gs : List (DataW H)} (h : (DataW.weightsEach P (ts ++ us) (ds ++ gs)).all (· ≤ reachBytes) = true) (i : Nat) {t : TypeId} {d : DataW H} (ht : ts[i]? = some t) (hd : ds[i]? = some d) : Light P t d := by
 refine light_each (ts := ts ++ us) (l := ds ++ gs) (fun n hn => by simpa using List.all_eq_true.1 h n hn) i t d ?_ ?_
 ·
  rw [List.getElem?_append_left (List.getElem?_eq_some_iff.1 ht).1]; exact ht
 ·
  rw [List.getElem?_append_left (List.getElem?_eq_some_iff.1 hd).1]; exact hd
end Go.Lx

