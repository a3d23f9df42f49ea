/- LX, first part: what is frozen (a ghost), what a function keeps of the world, how pure values lie in cells. -/
import Derived.Test.YtohneemghiehdaaDoorLx2
import Derived.Test.YtohneemghiehdaaDoorSx18
import Derived.Test.YtohneemghiehdaaDoorSx10
import Derived.Test.YtohneemghiehdaaDoorSx11
import Derived.Test.YtohneemghiehdaaDoorSx14
set_option linter.unusedVariables false
set_option linter.unusedSimpArgs false
namespace Go.Lx
open Go Go.Sx

/-- a cell that is never written again, and what it has -/
abbrev Gh := Addr → Value → Prop
def Gh.or (G L : Gh) : Gh := fun a v => G a v ∨ L a v
def Gh.no : Gh := fun _ _ => False
def Le (G G' : Gh) : Prop := ∀ a v, G a v → G' a v
theorem Le.refl (G : Gh) : Le G G := fun _ _ h => h
theorem Le.trans {A B C : Gh} (h : Le A B) (k : Le B C) : Le A C := fun a v x => k a v (h a v x)
theorem Le.no (G : Gh) : Le Gh.no G := fun _ _ h => h.elim
theorem Le.l (G L : Gh) : Le G (G.or L) := fun _ _ h => .inl h
theorem Le.r (G L : Gh) : Le L (G.or L) := fun _ _ h => .inr h
def St (H : Gh) (w : World) : Prop := ∀ a v, H a v → w.cell? a = some v
def Out (H : Gh) (b : Nat) : Prop := ∀ a v, H a v → a.block ≠ b

theorem St.lt {H : Gh} {w : World} (h : St H w) {a : Addr} {v : Value} (k : H a v) : a.block < w.heap.size := World.block_lt_of_cell? w a (h a v k)
theorem St.fr {H : Gh} {w w' : World} {M : List Nat} (h : St H w) (hf : Fr M w w') (ho : ∀ b ∈ M, Out H b) : St H w' := fun a v k => hf.cell (h a v k) fun hm => ho _ hm a v k rfl
theorem St.fr0 {H : Gh} {w w' : World} (h : St H w) (hf : Fr [] w w') : St H w' := h.fr hf (by simp)
theorem Out.ge {H : Gh} {w : World} {b : Nat} (h : St H w) (hb : w.heap.size ≤ b) : Out H b := fun a v k e => by have := h.lt k; omega
theorem Out.le {G H : Gh} {b : Nat} (h : Out H b) (hl : Le G H) : Out G b := fun a v k => h a v (hl a v k)
theorem Out.or {G H : Gh} {b : Nat} (h : Out H b) (h2 : Out G b) : Out (H.or G) b := fun a v k => k.elim (h a v) (h2 a v)

/-- what holds since the beginning of a function: M: what it may have changed; L: the new that is frozen; H: all that is -/
structure Inv (M : List Nat) (G : Gh) (w0 : World) (L H : Gh) (w : World) : Prop where
  fr : Fr M w0 w
  st : St H w
  le : Le G H
  sub : Le L H
  new : ∀ a v, H a v → a.block < w0.heap.size → G a v
  lnew : ∀ a v, L a v → w0.heap.size ≤ a.block
/-- a step -/
structure Up (M : List Nat) (L H : Gh) (w : World) (L' H' : Gh) (w' : World) : Prop where
  fr : Fr M w w'
  ll : Le L L'
  hh : Le H H'
  new : ∀ a v, H' a v → a.block < w.heap.size → H a v ∨ a.block ∈ M

section
variable {M M' : List Nat} {G : Gh} {w0 : World} {L H L' H' Hb Hb' : Gh} {w w' : World}
theorem Inv.start {M : List Nat} {G : Gh} {w : World} (h : St G w) : Inv M G w Gh.no G w := ⟨Fr.refl M w, h, Le.refl G, Le.no G, fun _ _ k _ => k, fun _ _ k => k.elim⟩
theorem Inv.size (h : Inv M G w0 L H w) : w0.heap.size ≤ w.heap.size := h.fr.size
theorem Inv.fr0 (h : Inv M G w0 L H w) (hf : Fr [] w w') : Inv M G w0 L H w' := ⟨h.fr.then0 hf, h.st.fr0 hf, h.le, h.sub, h.new, h.lnew⟩
theorem Inv.tok (h : Inv M G w0 L H w) (hf : Fr M' w w') (ho : ∀ b ∈ M', Out H b) (hM : ∀ i ∈ M', i < w0.heap.size → i ∈ M) : Inv M G w0 L H w' := ⟨h.fr.then hf hM, h.st.fr hf ho, h.le, h.sub, h.new, h.lnew⟩
theorem Up.fr0 (hf : Fr [] w w') : Up [] L H w L H w' := ⟨hf, Le.refl _, Le.refl _, fun _ _ k _ => .inl k⟩
theorem Up.tok (hf : Fr M w w') : Up M L H w L H w' := ⟨hf, Le.refl _, Le.refl _, fun _ _ k _ => .inl k⟩
theorem Inv.M0 (h : Inv [] G w0 L H w) : Inv M G w0 L H w := ⟨h.fr.mono (by simp), h.st, h.le, h.sub, h.new, h.lnew⟩
/-- behind a call -/
theorem Inv.call (h : Inv M G w0 L H w) (k : Inv M' H w L' H' w') (hM : ∀ i ∈ M', i < w0.heap.size → i ∈ M) : ∃ L2, Inv M G w0 L2 H' w' ∧ Up M' L H w L2 H' w' ∧ Le L' L2 :=
  ⟨L.or L', ⟨h.fr.then k.fr hM, k.st, h.le.trans k.le, fun a v x => x.elim (fun x => k.le a v (h.sub a v x)) (k.sub a v), fun a v x hlt => h.new a v (k.new a v x (Nat.lt_of_lt_of_le hlt h.fr.size)) hlt,
   fun a v x => x.elim (h.lnew a v) (fun x => Nat.le_trans h.fr.size (k.lnew a v x))⟩, ⟨k.fr, Le.l _ _, k.le, fun a v x hlt => .inl (k.new a v x hlt)⟩, Le.r _ _⟩
/-- the same; some of what it was given was lent to it (Hb) -/
theorem Inv.callB (h : Inv M G w0 L H w) (hb : Le H Hb) (k : Inv M' Hb w L' Hb' w') (hM : ∀ i ∈ M', i < w0.heap.size → i ∈ M) : ∃ L2 H2, Inv M G w0 L2 H2 w' ∧ Up M' L H w L2 H2 w' ∧ Le L' L2 ∧ Le H2 Hb' :=
  ⟨L.or L', H.or L', ⟨h.fr.then k.fr hM, fun a v x => x.elim (fun x => k.st a v (k.le a v (hb a v x))) (fun x => k.st a v (k.sub a v x)), h.le.trans (Le.l _ _), fun a v x => x.elim (fun x => .inl (h.sub a v x)) .inr,
   fun a v x hlt => x.elim (fun x => h.new a v x hlt) (fun x => absurd (k.lnew a v x) (by have := h.fr.size; omega)), fun a v x => x.elim (h.lnew a v) (fun x => Nat.le_trans h.fr.size (k.lnew a v x))⟩,
   ⟨k.fr, Le.l _ _, Le.l _ _, fun a v x hlt => x.elim .inl fun x => absurd (k.lnew a v x) (by omega)⟩, Le.r _ _, fun a v x => x.elim (fun x => k.le a v (hb a v x)) (k.sub a v)⟩
theorem mem1 {d n : Nat} (h : d ∈ M) : ∀ i ∈ [d], i < n → i ∈ M := fun i hi _ => by rw [List.mem_singleton] at hi; exact hi ▸ h
theorem new1 {d n : Nat} (h : n ≤ d) : ∀ i ∈ [d], i < n → i ∈ M := fun i hi hlt => by rw [List.mem_singleton] at hi; omega
theorem out1 {d : Nat} (h : Out H d) : ∀ b ∈ [d], Out H b := fun i hi => by rw [List.mem_singleton] at hi; exact hi ▸ h
end

/-- a block that is mine alone, and what it has -/
structure Tok (H : Gh) (w : World) (d t : Nat) (cs : List Value) : Prop where
  blk : Blk w d t cs
  out : Out H d
theorem Tok.up {M : List Nat} {L H L' H' : Gh} {w w' : World} {d t : Nat} {cs : List Value} (h : Tok H w d t cs) (u : Up M L H w L' H' w') (hM : d ∉ M) : Tok H' w' d t cs := ⟨h.blk.fr u.fr hM, fun a v k e => (u.new a v k (e ▸ h.blk.lt)).elim (fun k => h.out a v k e) fun k => hM (e ▸ k)⟩
theorem Tok.fr0 {H : Gh} {w w' : World} {d t : Nat} {cs : List Value} (h : Tok H w d t cs) (hf : Fr [] w w') : Tok H w' d t cs := ⟨h.blk.fr0 hf, h.out⟩
theorem Tok.fr {M : List Nat} {H : Gh} {w w' : World} {d t : Nat} {cs : List Value} (h : Tok H w d t cs) (hf : Fr M w w') (hM : d ∉ M) : Tok H w' d t cs := ⟨h.blk.fr hf hM, h.out⟩

/-- how a pure value lies in cells -/
class Rp (α : Type) where
  n : Nat
  cs : Gh → α → List Value → Prop
  mono : ∀ {G G' : Gh} {x : α} {l : List Value}, Le G G' → cs G x l → cs G' x l
  len : ∀ {G : Gh} {x : α} {l : List Value}, cs G x l → l.length = n
  one : ∀ {G : Gh} {x : α} {l : List Value}, cs G x l → l.all (·.oneCell') = true
/-- one cell that hangs on no other -/
class Sc (α : Type) extends Rp α where
  enc : α → Value
  sc : ∀ {G : Gh} {x : α} {l : List Value}, cs G x l ↔ l = [enc x]
  n1 : n = 1

abbrev vs (s : Str) : Value := .string ⟨s.b.toArray⟩

@[reducible] def Sc.mk' {α : Type} (enc : α → Value) (h1 : ∀ x, (enc x).oneCell' = true) : Sc α where
  n := 1
  cs := fun _ x l => l = [enc x]
  mono := fun _ h => h
  len := fun h => by rw [h]; rfl
  one := fun h => by rw [h]; simp [h1]
  enc := enc
  sc := Iff.rfl
  n1 := rfl
instance : Sc Int := Sc.mk' vi fun _ => rfl
instance : Sc UInt8 := Sc.mk' vb fun _ => rfl
instance : Sc (BitVec 32) := Sc.mk' w32 fun _ => rfl
instance : Sc (BitVec 64) := Sc.mk' w64 fun _ => rfl
instance : Sc Bool := Sc.mk' (fun b => .bool b) fun _ => rfl
instance : Sc Str := Sc.mk' vs fun _ => rfl

/-- one by one -/
inductive All2 {α β : Type} (R : α → β → Prop) : List α → List β → Prop
  | nil : All2 R [] []
  | cons {a b l m} : R a b → All2 R l m → All2 R (a :: l) (b :: m)
theorem All2.mono {α β : Type} {R S : α → β → Prop} (h : ∀ a b, R a b → S a b) : ∀ {l m}, All2 R l m → All2 S l m
  | _, _, .nil => .nil
  | _, _, .cons x y => .cons (h _ _ x) (y.mono h)
theorem All2.app {α β : Type} {R : α → β → Prop} : ∀ {l m l' m'}, All2 R l m → All2 R l' m' → All2 R (l ++ l') (m ++ m')
  | _, _, _, _, .nil, h => h
  | _, _, _, _, .cons x y, h => .cons x (y.app h)
theorem All2.len {α β : Type} {R : α → β → Prop} : ∀ {l m}, All2 R l m → l.length = m.length
  | _, _, .nil => rfl
  | _, _, .cons _ y => by simp [y.len]
theorem All2.drop {α β : Type} {R : α → β → Prop} : ∀ (n : Nat) {l m}, All2 R l m → All2 R (l.drop n) (m.drop n)
  | 0, _, _, h => h
  | n + 1, _, _, .nil => .nil
  | n + 1, _, _, .cons _ y => y.drop n
theorem All2.take {α β : Type} {R : α → β → Prop} : ∀ (n : Nat) {l m}, All2 R l m → All2 R (l.take n) (m.take n)
  | 0, _, _, _ => .nil
  | n + 1, _, _, .nil => .nil
  | n + 1, _, _, .cons x y => .cons x (y.take n)

section
variable {α : Type} [Rp α] {G G' : Gh} {xs ys : List α} {css dss : List (List Value)} {A : Option Addr}
theorem flat_len (h : All2 (Rp.cs G) xs css) : css.flatten.length = xs.length * Rp.n α := by
  induction h with
  | nil => simp
  | cons x _ ih => rw [List.flatten_cons, List.length_append, ih, Rp.len x, List.length_cons, Nat.add_mul]; omega
theorem flat_one (h : All2 (Rp.cs G) xs css) : css.flatten.all (·.oneCell') = true := by
  induction h with
  | nil => rfl
  | cons x _ ih => rw [List.flatten_cons, List.all_append, Rp.one x, ih]; rfl
theorem flat_drop (n : Nat) (h : All2 (Rp.cs G) xs css) : css.flatten.drop (n * Rp.n α) = (css.drop n).flatten := by
  induction n generalizing xs css with
  | zero => simp
  | succ n ih =>
    cases h with
    | nil => simp
    | cons x y =>
      rw [List.flatten_cons, List.drop_succ_cons, ← ih y, Nat.add_mul, Nat.one_mul, Nat.add_comm (n * _), ← List.drop_drop]
      congr 1
      rw [← Rp.len x, List.drop_left]
theorem flat_take (n : Nat) (h : All2 (Rp.cs G) xs css) : css.flatten.take (n * Rp.n α) = (css.take n).flatten := by
  induction n generalizing xs css with
  | zero => simp
  | succ n ih =>
    cases h with
    | nil => simp
    | cons x y =>
      rw [List.flatten_cons, List.take_succ_cons, List.flatten_cons, ← ih y, Nat.add_mul, Nat.one_mul, Nat.add_comm (n * _), List.take_add, ← Rp.len x, List.take_left, List.drop_left]
theorem flat_at {i : Nat} {x : α} (h : All2 (Rp.cs G) xs css) (hx : xs[i]? = some x) : ∃ l, Rp.cs G x l ∧ ∀ (k : Nat) v, l[k]? = some v → css.flatten[i * Rp.n α + k]? = some v := by
  induction h generalizing i with
  | nil => simp at hx
  | cons x0 hy ih =>
    cases i with
    | zero =>
      simp only [List.getElem?_cons_zero, Option.some.injEq] at hx
      subst hx
      refine ⟨_, x0, fun k v hv => ?_⟩
      rw [Nat.zero_mul, Nat.zero_add, List.flatten_cons, List.getElem?_append_left (List.getElem?_eq_some_iff.1 hv).1]; exact hv
    | succ i =>
      obtain ⟨l, hl, hk⟩ := ih (by simpa using hx)
      refine ⟨l, hl, fun k v hv => ?_⟩
      rw [List.flatten_cons, List.getElem?_append_right (by rw [Rp.len x0, Nat.add_mul]; omega), Rp.len x0, show (i + 1) * Rp.n α + k - Rp.n α = i * Rp.n α + k by rw [Nat.add_mul]; omega]
      exact hk k v hv

/-- the cells from A on are frozen -/
def Fz (G : Gh) (A : Option Addr) (l : List Value) : Prop := ∀ (j : Nat) v, l[j]? = some v → A.isSome = true ∧ G ((adr A).add j) v
/-- A slice from A on has the values xs. -/
def Sl (G : Gh) (A : Option Addr) (xs : List α) : Prop := ∃ css, All2 (Rp.cs G) xs css ∧ Fz G A css.flatten
theorem Fz.up {l : List Value} (h : Fz G A l) (hl : Le G G') : Fz G' A l := fun j v k => ⟨(h j v k).1, hl _ _ (h j v k).2⟩
theorem Fz.rd {w : World} {l : List Value} (h : Fz G A l) (hs : St G w) : Rd w A l := fun j v k => ⟨(h j v k).1, hs _ _ (h j v k).2⟩
theorem Sl.up (h : Sl G A xs) (hl : Le G G') : Sl G' A xs := ⟨_, h.choose_spec.1.mono fun _ _ => Rp.mono hl, h.choose_spec.2.up hl⟩
theorem Sl.nil : Sl G A ([] : List α) := ⟨[], .nil, fun j v h => by simp at h⟩
instance : Rp (List α) where
  n := 1
  cs := fun G xs l => ∃ A c, l = [.slice A xs.length c] ∧ xs.length ≤ c ∧ Sl G A xs
  mono := fun hl ⟨A, c, h1, h2, h3⟩ => ⟨A, c, h1, h2, h3.up hl⟩
  len := fun ⟨A, c, h1, _⟩ => by rw [h1]; rfl
  one := fun ⟨A, c, h1, _⟩ => by rw [h1]; rfl
theorem Sl.at_ {i : Nat} {x : α} (h : Sl G A xs) (hx : xs[i]? = some x) (h0 : 0 < Rp.n α) : A.isSome = true ∧ ∃ l, Rp.cs G x l ∧ ∀ (k : Nat) v, l[k]? = some v → G (((adr A).add (i * Rp.n α)).add k) v := by
  obtain ⟨css, h1, h2⟩ := h
  obtain ⟨l, hl, hk⟩ := flat_at h1 hx
  refine ⟨?_, l, hl, fun k v hv => ?_⟩
  · cases l with
    | nil => have := Rp.len hl; simp at this; omega
    | cons v l => exact (h2 _ _ (hk 0 v rfl)).1
  · rw [Sx.add_add]; exact (h2 _ _ (hk k v hv)).2
theorem Sl.drop (h : Sl G A xs) (c : Prop) [Decidable c] (n : Nat) (hc : c → xs.length ≤ n) (h0 : 0 < Rp.n α) : Sl G (if c then A else A.map (·.add (n * Rp.n α))) (xs.drop n) := by
  obtain ⟨css, h1, h2⟩ := h
  refine ⟨css.drop n, h1.drop n, fun j v hv => ?_⟩
  rw [← flat_drop n h1, List.getElem?_drop] at hv
  have hlt : n * Rp.n α + j < css.flatten.length := (List.getElem?_eq_some_iff.1 hv).1
  rw [flat_len h1] at hlt
  rw [if_neg (fun h => by have := Nat.mul_le_mul_right (Rp.n α) (hc h); omega)]
  obtain ⟨h3, h4⟩ := h2 _ _ hv
  cases A with
  | none => cases h3
  | some a => exact ⟨rfl, by simp only [adr, Option.map_some, Option.getD_some, Sx.add_add] at h4 ⊢; exact h4⟩
theorem Sl.take (h : Sl G A xs) (n : Nat) : Sl G A (xs.take n) := by
  obtain ⟨css, h1, h2⟩ := h
  refine ⟨css.take n, h1.take n, fun j v hv => h2 j v ?_⟩
  rw [← flat_take n h1, List.getElem?_take] at hv
  split at hv
  · exact hv
  · cases hv
end

section
variable {α : Type} [Sc α] {G : Gh} {xs : List α} {A : Option Addr}
theorem all2_sc {css : List (List Value)} (h : All2 (Rp.cs G) xs css) : css = xs.map fun x => [Sc.enc x] := by
  induction h with
  | nil => rfl
  | cons x _ ih => rw [ih, List.map_cons, Sc.sc.1 x]
theorem all2_sc' : ∀ (xs : List α), All2 (Rp.cs G) xs (xs.map fun x => [Sc.enc x])
  | [] => .nil
  | x :: xs => .cons (Sc.sc.2 rfl) (all2_sc' xs)
theorem flat_sc : ∀ (xs : List α), (xs.map fun x => [Sc.enc x]).flatten = xs.map Sc.enc
  | [] => rfl
  | x :: xs => by simp [flat_sc xs]
theorem Sl.fz (h : Sl G A xs) : Fz G A (xs.map Sc.enc) := by
  obtain ⟨css, h1, h2⟩ := h
  rw [all2_sc h1, flat_sc] at h2
  exact h2
theorem Sl.ofFz (h : Fz G A (xs.map Sc.enc)) : Sl G A xs := ⟨_, all2_sc' xs, by rw [flat_sc]; exact h⟩
end

theorem Sl.atS {α : Type} [Sc α] {G : Gh} {xs : List α} {A : Option Addr} {i : Int} {x : α} (h : Sl G A xs) (hx : At xs i x) : A.isSome = true ∧ G ((adr A).add (i.toNat * 1)) (Sc.enc x) := by
  have := h.fz i.toNat (Sc.enc x) (by rw [List.getElem?_map, hx.2]; rfl)
  rw [Nat.mul_one]; exact this
theorem Sl.atL {α : Type} [Rp α] {G : Gh} {xs : List (List α)} {A : Option Addr} {i : Int} {x : List α} (h : Sl G A xs) (hx : At xs i x) : A.isSome = true ∧ ∃ A2 c2, x.length ≤ c2 ∧ Sl G A2 x ∧ G ((adr A).add (i.toNat * 1)) (.slice A2 x.length c2) := by
  obtain ⟨h1, l, ⟨A2, c2, rfl, h2, h3⟩, h4⟩ := h.at_ hx.2 (by show 0 < 1; decide)
  exact ⟨h1, A2, c2, h2, h3, by have := h4 0 _ rfl; rwa [Sx.add_add] at this⟩
theorem Sl.atN {α : Type} [Rp α] {G : Gh} {xs : List α} {A : Option Addr} {i : Int} {x : α} {n : Nat} (hn : Rp.n α = n) (h0 : 0 < n) (h : Sl G A xs) (hx : At xs i x) : A.isSome = true ∧ ∃ l, Rp.cs G x l ∧ ∀ (k : Nat) v, l[k]? = some v → G (((adr A).add (i.toNat * n)).add k) v := by
  subst hn; exact h.at_ hx.2 h0

/-- the block of a slice that has room -/
def bk (A : Option Addr) : Nat → List Nat
  | 0 => []
  | _ + 1 => blkOf A
theorem bk_of {A : Option Addr} {c i : Nat} (h : i ∈ bk A c) : i ∈ blkOf A ∧ 0 < c := by
  cases c with
  | zero => simp [bk] at h
  | succ c => exact ⟨h, by omega⟩
theorem bk_to {A : Option Addr} {c i : Nat} (h : i ∈ blkOf A) (hc : 0 < c) : i ∈ bk A c := by
  cases c with
  | zero => omega
  | succ c => exact h
/-- mine, or without room -/
def OwnX (w : World) (B e size : Nat) (A : Option Addr) (n c : Nat) (xs : List Value) : Prop := (c = 0 ∧ n = 0 ∧ xs = []) ∨ (0 < c ∧ Own w B e size A n c xs)
section
variable {B e size n c : Nat} {A : Option Addr} {xs : List Value} {w w' : World} {M : List Nat}
theorem OwnX.of (h : Own w B e size A n c xs) : OwnX w B e size A n c xs := by
  rcases h.form with ⟨_, hn, hc, hx⟩ | ⟨g, cur, rfl, hg, hB, hn, hm, hl, ht⟩
  · exact .inl ⟨hc, hn, hx⟩
  · by_cases h0 : c = 0
    · subst h0
      have : n = 0 := by omega
      subst this
      rw [Nat.zero_mul, List.take_zero] at ht
      exact .inl ⟨rfl, rfl, ht.symm⟩
    · exact .inr ⟨by omega, h⟩
theorem OwnX.form (h : OwnX w B e size A n c xs) : (c = 0 ∧ n = 0 ∧ xs = []) ∨ ∃ g cur, A = some ⟨g, 0, none⟩ ∧ B ≤ g ∧ Blk w g e cur ∧ n ≤ c ∧ c ≤ maxLen ∧ cur.length = c * size ∧ cur.take (n * size) = xs ∧ 0 < c := by
  rcases h with h | ⟨h0, h⟩
  · exact .inl h
  · rcases h.form with ⟨_, hn, hc, hx⟩ | ⟨g, cur, h1, hg, hB, hn, hm, hl, ht⟩
    · omega
    · exact .inr ⟨g, cur, h1, hg, hB, hn, hm, hl, ht, h0⟩
theorem OwnX.rd (h : OwnX w B e size A n c xs) : Rd w A xs := by
  rcases h with ⟨_, _, rfl⟩ | ⟨_, h⟩
  · exact Rd.nil _ _
  · exact h.rd
theorem OwnX.ltA (h : OwnX w B e size A n c xs) : ∀ i ∈ bk A c, i < w.heap.size := by
  rcases h with ⟨rfl, _, _⟩ | ⟨_, h⟩
  · simp [bk]
  · exact fun i hi => h.ltA i (bk_of hi).1
theorem OwnX.off (h : OwnX w B e size A n c xs) : ∀ i ∈ bk A c, B ≤ i := by
  rcases h with ⟨rfl, _, _⟩ | ⟨_, h⟩
  · simp [bk]
  · exact fun i hi => h.off i (bk_of hi).1
theorem OwnX.fr (h : OwnX w B e size A n c xs) (hf : Fr M w w') (hM : ∀ i ∈ bk A c, i ∉ M) : OwnX w' B e size A n c xs := by
  rcases h with h | ⟨h0, h⟩
  · exact .inl h
  · exact .inr ⟨h0, h.fr hf fun i hi => hM i (bk_to hi h0)⟩
end
/-- a slice that is mine alone; what its elements hang on is of E -/
def OwnS {α : Type} [Rp α] (B e : Nat) (E H : Gh) (w : World) (A : Option Addr) (c : Nat) (xs : List α) : Prop :=
  ∃ css, All2 (Rp.cs E) xs css ∧ OwnX w B e (Rp.n α) A xs.length c css.flatten ∧ ∀ b ∈ bk A c, Out H b
section
variable {α : Type} [Rp α] {B e : Nat} {E E' L H L' H' : Gh} {w w' : World} {A : Option Addr} {c : Nat} {xs : List α} {M : List Nat}
theorem OwnS.zero : OwnS B e E H w A 0 ([] : List α) := ⟨[], .nil, .inl ⟨rfl, rfl, rfl⟩, by simp [bk]⟩
theorem OwnS.nil : OwnS B e E H w none 0 ([] : List α) := OwnS.zero
theorem OwnS.fr (h : OwnS B e E H w A c xs) (hf : Fr M w w') (hM : ∀ i ∈ bk A c, i ∉ M) : OwnS B e E H w' A c xs := ⟨_, h.choose_spec.1, h.choose_spec.2.1.fr hf hM, h.choose_spec.2.2⟩
theorem OwnS.fr0 (h : OwnS B e E H w A c xs) (hf : Fr [] w w') : OwnS B e E H w' A c xs := h.fr hf (by simp)
theorem OwnS.lt (h : OwnS B e E H w A c xs) : ∀ i ∈ bk A c, i < w.heap.size := h.choose_spec.2.1.ltA
theorem OwnS.up (h : OwnS B e E H w A c xs) (hE : Le E E') (u : Up M L H w L' H' w') (hM : ∀ i ∈ bk A c, i ∉ M) : OwnS B e E' H' w' A c xs :=
  ⟨_, h.choose_spec.1.mono fun _ _ => Rp.mono hE, h.choose_spec.2.1.fr u.fr hM, fun b hb a v k e => (u.new a v k (e ▸ h.lt b hb)).elim (fun k => h.choose_spec.2.2 b hb a v k e) fun k => hM b hb (e ▸ k)⟩
theorem OwnS.off (h : OwnS B e E H w A c xs) : ∀ i ∈ bk A c, B ≤ i := h.choose_spec.2.1.off
theorem OwnS.out (h : OwnS B e E H w A c xs) : ∀ i ∈ bk A c, Out H i := h.choose_spec.2.2
theorem OwnS.hl (h : OwnS B e L H w A c xs) (hl : Le L L') : OwnS B e L' H w A c xs := ⟨_, h.choose_spec.1.mono fun _ _ => Rp.mono hl, h.choose_spec.2⟩
theorem OwnS.cap (h : OwnS B e E H w A c xs) : xs.length ≤ c := by
  obtain ⟨css, h1, h2, h3⟩ := h
  rcases h2.form with ⟨hc, h, _⟩ | ⟨g, cur, _, _, _, h, _⟩ <;> omega
theorem OwnS.ne {d t : Nat} {cs : List Value} (h : OwnS B e E H w A c xs) (k : Blk w d t cs) (hne : t ≠ e) : ∀ i ∈ bk A c, i ∉ [d] := by
  obtain ⟨css, h1, h2, h3⟩ := h
  intro i hi hd
  rw [List.mem_singleton] at hd
  subst hd
  rcases h2.form with ⟨rfl, _⟩ | ⟨g, cur, rfl, _, hB, _⟩
  · simp [bk] at hi
  · have := (bk_of hi).1
    simp only [blkOf, List.mem_singleton] at this
    subst this
    exact k.ne hB hne rfl
theorem OwnS.sep {β : Type} [Rp β] {B2 e2 c2 : Nat} {A2 : Option Addr} {ys : List β} {E2 H2 : Gh} (h : OwnS B e E H w A c xs) (k : OwnS B2 e2 E2 H2 w A2 c2 ys) (hne : e ≠ e2) : ∀ i ∈ bk A c, i ∉ bk A2 c2 := by
  obtain ⟨css, h1, h2, h3⟩ := k
  intro i hi hd
  rcases h2.form with ⟨rfl, _⟩ | ⟨g, cur, rfl, _, hB, _⟩
  · simp [bk] at hd
  · have := (bk_of hd).1
    simp only [blkOf, List.mem_singleton] at this
    subst this
    exact h.ne hB (fun e => hne e.symm) _ hi (by simp)
theorem Tok.sep {d t : Nat} {cs : List Value} (k : Tok H w d t cs) (h : OwnS B e E H w A c xs) (hne : t ≠ e) : d ∉ bk A c := fun hd => h.ne k.blk hne d hd (by simp)
theorem OwnS.le {B' : Nat} (h : OwnS B e E H w A c xs) (hb : B' ≤ B) : OwnS B' e E H w A c xs := by
  obtain ⟨css, h1, h2, h3⟩ := h
  refine ⟨css, h1, ?_, h3⟩
  rcases h2.form with ⟨hc, hn, hx⟩ | ⟨g, cur, rfl, hg, hB, hn, hm, hl, ht, h0⟩
  · exact .inl ⟨hc, hn, hx⟩
  · exact .inr ⟨h0, Own.mk (Nat.le_trans hb hg) hB hn hm hl ht⟩

/-- the cells of a slice, as a ghost -/
def cellsG (A : Option Addr) (l : List Value) : Gh := fun a v => A.isSome = true ∧ ∃ j : Nat, l[j]? = some v ∧ a = (adr A).add j
theorem cellsG_blk {A : Option Addr} {l : List Value} {a : Addr} {v : Value} (h : cellsG A l a v) : a.block ∈ blkOf A := by
  obtain ⟨h1, j, _, rfl⟩ := h
  cases A with
  | none => cases h1
  | some x => rw [block_add]; simp [adr, blkOf]
theorem cellsG_st {A : Option Addr} {l : List Value} (h : Rd w A l) : St (cellsG A l) w := fun a v ⟨_, j, hj, e⟩ => e ▸ (h j v hj).2
theorem cellsG_fz {A : Option Addr} {l : List Value} (h : Rd w A l) : Fz (cellsG A l) A l := fun j v hj => ⟨(h j v hj).1, (h j v hj).1, j, hj, rfl⟩
/-- lent: what reads it may do so -/
theorem OwnS.lend {Hb : Gh} (h : OwnS B e E H w A c xs) (hs : St Hb w) (hl : Le E Hb) : ∃ H2, St H2 w ∧ Le Hb H2 ∧ Sl H2 A xs := by
  obtain ⟨css, h1, h2, h3⟩ := h
  exact ⟨Hb.or (cellsG A css.flatten), fun a v k => k.elim (hs a v) (cellsG_st h2.rd a v), Le.l _ _, css, h1.mono fun _ _ => Rp.mono (hl.trans (Le.l _ _)), (cellsG_fz h2.rd).up (Le.r _ _)⟩
theorem cellsG_bk {l : List Value} {a : Addr} {v : Value} {size n : Nat} (hx : OwnX w B e size A n c l) (h : cellsG A l a v) : a.block ∈ bk A c := by
  have h1 := cellsG_blk h
  rcases hx with ⟨_, _, rfl⟩ | ⟨h0, _⟩
  · obtain ⟨_, j, hj, _⟩ := h; simp at hj
  · exact bk_to h1 h0
/-- never written again from here on -/
theorem OwnS.freeze {G : Gh} {w0 : World} (h : OwnS w0.heap.size e E H w A c xs) (hI : Inv M G w0 L H w) : ∃ L2 H2, Inv M G w0 L2 H2 w ∧ Up (bk A c) L H w L2 H2 w ∧ (Le E L → Sl L2 A xs) ∧ (Le E H → Sl H2 A xs) := by
  have ho := h.off
  obtain ⟨css, h1, h2, h3⟩ := h
  refine ⟨L.or (cellsG A css.flatten), H.or (cellsG A css.flatten), ⟨hI.fr, fun a v k => k.elim (hI.st a v) (cellsG_st h2.rd a v), hI.le.trans (Le.l _ _), fun a v k => k.elim (fun k => .inl (hI.sub a v k)) .inr, fun a v k hlt => k.elim (fun k => hI.new a v k hlt) fun k => absurd (ho _ (cellsG_bk h2 k)) (by omega), fun a v k => k.elim (hI.lnew a v) fun k => ho _ (cellsG_bk h2 k)⟩,
    ⟨Fr.refl _ _, Le.l _ _, Le.l _ _, fun a v k _ => k.elim .inl fun k => .inr (cellsG_bk h2 k)⟩, fun hl => ⟨css, h1.mono fun _ _ => Rp.mono (hl.trans (Le.l _ _)), (cellsG_fz h2.rd).up (Le.r _ _)⟩, fun hl => ⟨css, h1.mono fun _ _ => Rp.mono (hl.trans (Le.l _ _)), (cellsG_fz h2.rd).up (Le.r _ _)⟩⟩
end

section
variable {α : Type} [Rp α] {B e : Nat} {E H H' : Gh} {w : World} {A : Option Addr} {c d d' t t' : Nat} {xs : List α} {cs cs' : List Value} {M : List Nat}
theorem OwnS.old (h : OwnS B e E H w A c xs) (hd : d < B) : d ∉ bk A c := fun hm => by have := h.off d hm; omega
theorem OwnS.oldt (h : OwnS B e E H w A c xs) (hd : d < B) : ∀ i ∈ bk A c, i ∉ [d] := fun i hi hm => by rw [List.mem_singleton] at hm; subst hm; exact h.old hd hi
theorem OwnS.new {n : Nat} (h : OwnS B e E H w A c xs) (hn : n ≤ B) : ∀ i ∈ bk A c, i < n → i ∈ M := fun i hi hlt => by have := h.off i hi; omega
theorem Tok.apart (h : Tok H w d t cs) (k : Tok H' w d' t' cs') (hne : t ≠ t') : d ∉ [d'] := fun hm => by rw [List.mem_singleton] at hm; exact h.blk.ne k.blk hne hm
theorem ne1 (h : d ≠ d') : d ∉ [d'] := fun hm => h (by rwa [List.mem_singleton] at hm)
end

theorem OwnS.back {α : Type} [Rp α] {B B0 e c : Nat} {E E' H H2 : Gh} {w : World} {A : Option Addr} {xs : List α} (h : OwnS B e E H w A c xs) (hb : B0 ≤ B) (hE : Le E E') (hH : Le H2 H) : OwnS B0 e E' H2 w A c xs := by
  obtain ⟨css, h1, h2, h3⟩ := (h.le hb).hl hE
  exact ⟨css, h1, h2, fun b hb => (h3 b hb).le hH⟩
theorem OwnS.backS {α : Type} [Sc α] {B B0 e c : Nat} {E H H2 : Gh} {w : World} {A : Option Addr} {xs : List α} (h : OwnS B e E H w A c xs) (hb : B0 ≤ B) (hH : Le H2 H) : OwnS B0 e Gh.no H2 w A c xs := by
  obtain ⟨css, h1, h2, h3⟩ := h.le hb
  exact ⟨css, by rw [all2_sc h1]; exact all2_sc' xs, h2, fun b hb => (h3 b hb).le hH⟩
/-- an object of type t in block d -/
def Ob {α : Type} [Rp α] (t : Nat) (E H : Gh) (w : World) (d : Nat) (x : α) : Prop := ∃ l, Rp.cs E x l ∧ Tok H w d t l
theorem Ob.back {α : Type} [Rp α] {t d : Nat} {E E' H H2 : Gh} {w : World} {x : α} (h : Ob t E H w d x) (hE : Le E E') (hH : Le H2 H) : Ob t E' H2 w d x := ⟨_, Rp.mono hE h.choose_spec.1, h.choose_spec.2.blk, h.choose_spec.2.out.le hH⟩
instance {n : Nat} {α : Type} [Sc α] : Rp (Arr n α) where
  n := n
  cs := fun _ x l => x.l.length = n ∧ l = x.l.map Sc.enc
  mono := fun _ h => h
  len := fun h => by rw [h.2, List.length_map, h.1]
  one := fun {G x l} h => by
    rw [h.2, List.all_map]
    rw [List.all_eq_true]
    intro y _
    have := (Rp.one (α := α) (G := G) (x := y) (l := [Sc.enc y]) (Sc.sc.2 rfl))
    simpa using this
theorem Arr.open_ {n : Nat} {α : Type} [Sc α] {G : Gh} {x : Arr n α} {l : List Value} (h : Rp.cs G x l) : x.l.length = n ∧ l = x.l.map Sc.enc := h
theorem Arr.shut {n : Nat} {α : Type} [Sc α] {G : Gh} {x : Arr n α} (h : x.l.length = n) : Rp.cs G x (x.l.map Sc.enc) := ⟨h, rfl⟩
theorem arr_at {α : Type} [Sc α] {xs : List α} {i : Int} {x : α} (h : At xs i x) : (xs.map Sc.enc)[0 + i.toNat * 1]? = some (Sc.enc x) := by
  rw [Nat.zero_add, Nat.mul_one, List.getElem?_map, h.2]; rfl
theorem arr_at' {α : Type} [Sc α] {xs : List α} {i : Int} {x : α} (h : At xs i x) : (xs.map Sc.enc).toArray[i.toNat]? = some (Sc.enc x) := by
  rw [List.getElem?_toArray, List.getElem?_map, h.2]; rfl
theorem arr_lt {α : Type} [Sc α] {xs : List α} {i : Int} {x : α} (h : At xs i x) : 0 + i.toNat * 1 < (xs.map Sc.enc).length := by
  rw [List.length_map]; have := h.lt; have := h.1; omega
theorem arr_put {α : Type} [Sc α] {xs : List α} {i : Int} {y : α} : (xs.map Sc.enc).set (0 + i.toNat * 1) (Sc.enc y) = (put xs i y).map Sc.enc := by
  rw [Nat.zero_add, Nat.mul_one, put, List.map_set]
section
variable {α : Type} [Sc α] {B e c : Nat} {E L H G : Gh} {w w' w0 : World} {A : Option Addr} {xs : List α} {i : Int} {x : α} {M : List Nat}
theorem enc_one (x : α) : (Sc.enc x).oneCell' = true := by
  have := (Rp.one (α := α) (G := Gh.no) (x := x) (l := [Sc.enc x]) (Sc.sc.2 rfl))
  simpa using this
theorem OwnS.rdS (h : OwnS B e E H w A c xs) : Rd w A (xs.map Sc.enc) := by
  obtain ⟨css, h1, h2, _⟩ := h
  have := h2.rd
  rw [all2_sc h1, flat_sc] at this
  exact this
theorem OwnS.atS (h : OwnS B e E H w A c xs) (hx : At xs i x) : A.isSome = true ∧ w.cell? ((adr A).add (i.toNat * 1)) = some (Sc.enc x) := by
  have := h.rdS i.toNat (Sc.enc x) (by rw [List.getElem?_map, hx.2]; rfl)
  rwa [Nat.mul_one]
/-- a new slice that is frozen at once -/
theorem Inv.newRd (hI : Inv M G w0 L H w) (hf : Fr [] w w') (hR : Rd w' A (xs.map Sc.enc)) (hn : ∀ b ∈ blkOf A, w.heap.size ≤ b) : ∃ L2 H2, Inv M G w0 L2 H2 w' ∧ Up [] L H w L2 H2 w' ∧ Sl L2 A xs := by
  have h0 := hI.size
  refine ⟨L.or (cellsG A (xs.map Sc.enc)), H.or (cellsG A (xs.map Sc.enc)), ⟨hI.fr.then0 hf, fun a v k => k.elim (hI.st.fr0 hf a v) (cellsG_st hR a v), hI.le.trans (Le.l _ _), fun a v k => k.elim (fun k => .inl (hI.sub a v k)) .inr, fun a v k hlt => k.elim (fun k => hI.new a v k hlt) fun k => absurd (hn _ (cellsG_blk k)) (by omega), fun a v k => k.elim (hI.lnew a v) fun k => Nat.le_trans h0 (hn _ (cellsG_blk k))⟩,
    ⟨hf, Le.l _ _, Le.l _ _, fun a v k hlt => k.elim .inl fun k => absurd (hn _ (cellsG_blk k)) (by omega)⟩, Sl.ofFz ((cellsG_fz hR).up (Le.r _ _))⟩
/-- one that was mine, and is marked -/
theorem Inv.ownRd (h : OwnS w0.heap.size e E H w A c xs) (hI : Inv M G w0 L H w) (hf : Fr (bk A c) w w') (hR : Rd w' A (xs.map Sc.enc)) : ∃ L2 H2, Inv M G w0 L2 H2 w' ∧ Up (bk A c) L H w L2 H2 w' ∧ Sl L2 A xs := by
  have ho := h.off
  have hI2 : Inv M G w0 L H w' := hI.tok hf h.out (h.new (Nat.le_refl _))
  have hx : ∀ {a v}, cellsG A (xs.map Sc.enc) a v → a.block ∈ bk A c := by
    obtain ⟨css, h1, h2, _⟩ := h
    rw [all2_sc h1, flat_sc] at h2
    exact fun k => cellsG_bk h2 k
  refine ⟨L.or (cellsG A (xs.map Sc.enc)), H.or (cellsG A (xs.map Sc.enc)), ⟨hI2.fr, fun a v k => k.elim (hI2.st a v) (cellsG_st hR a v), hI.le.trans (Le.l _ _), fun a v k => k.elim (fun k => .inl (hI.sub a v k)) .inr, fun a v k hlt => k.elim (fun k => hI.new a v k hlt) fun k => absurd (ho _ (hx k)) (by omega), fun a v k => k.elim (hI.lnew a v) fun k => ho _ (hx k)⟩,
    ⟨hf, Le.l _ _, Le.l _ _, fun a v k _ => k.elim .inl fun k => .inr (hx k)⟩, Sl.ofFz ((cellsG_fz hR).up (Le.r _ _))⟩
end
theorem sl_nil {α : Type} [Rp α] {G : Gh} {A : Option Addr} {xs : List α} (h : Sl G A xs) (h0 : 0 < Rp.n α) (hA : A.isNone = true) : xs = [] := by
  cases xs with
  | nil => rfl
  | cons x xs =>
    have := (h.at_ (i := 0) rfl h0).1
    cases A <;> simp_all
theorem own_nil {α : Type} [Rp α] {B e c : Nat} {E H : Gh} {w : World} {A : Option Addr} {xs : List α} (h : OwnS B e E H w A c xs) (hA : A.isNone = true) : xs = [] := by
  obtain ⟨css, h1, h2, h3⟩ := h
  rcases h2.form with ⟨_, hn, _⟩ | ⟨g, cur, rfl, _⟩
  · exact List.eq_nil_of_length_eq_zero hn
  · cases hA
end Go.Lx
