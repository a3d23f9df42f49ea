/- SX, second part: a region whose order the tape draws. Operations that yield their value wherever a fact of their own holds are taken in the order that a schedule says; the others wait for one another. -/
import Derived.Test.YtohneemghiehdaaDoorSx1
set_option linter.unusedVariables false
set_option linter.unusedSimpArgs false
namespace Go.Sx
open Go

section
variable {P : Program} {ops : Array Oper} {Q : Exit → Act → World → Prop}

/-- j waits for i, straight or through others -/
inductive Reach (ops : Array Oper) : Nat → Nat → Prop
  | one {j i : Nat} {o : Oper} {e : Edge} : ops[j]? = some o → e ∈ o.after → Region.binds .any e = true → e.on = i → Reach ops j i
  | more {j i : Nat} {o : Oper} {e : Edge} : ops[j]? = some o → e ∈ o.after → Region.binds .any e = true → Reach ops e.on i → Reach ops j i

/-- whatever is listed has all that it waits for listed -/
def Down (ops : Array Oper) (listed : Array Bool) : Prop :=
  ∀ k o e, ops[k]? = some o → listed.getD k false = true → e ∈ o.after → Region.binds .any e = true → listed.getD e.on false = true

theorem Reach.listed {listed : Array Bool} (hd : Down ops listed) {j i : Nat} (h : Reach ops j i) :
    (∀ o e, ops[j]? = some o → e ∈ o.after → Region.binds .any e = true → listed.getD e.on false = true) → listed.getD i false = true := by
  induction h with
  | one ho he hb hi => intro hj; subst hi; exact hj _ _ ho he hb
  | more ho he hb _ ih => intro hj; exact ih fun o' e' ho' he' hb' => hd _ _ _ ho' (hj _ _ ho he hb) he' hb'

theorem Down.set {listed : Array Bool} (hd : Down ops listed) {j : Nat} (hj : j ∈ Region.ready .any ops listed) : Down ops (listed.setIfInBounds j true) := by
  intro k o e ho hk he hb
  by_cases hjk : j = k
  · subst hjk
    obtain ⟨_, o', ho', hall⟩ := mem_ready.1 hj
    rw [ho] at ho'
    cases ho'
    exact getD_set_true (hall e he hb)
  · rw [getD_set_ne false hjk] at hk
    exact getD_set_true (hd k o e ho hk he hb)

theorem Down.start (n : Nat) : Down ops (Array.replicate n false) := by
  intro k o e _ hk
  exfalso
  rcases Nat.lt_or_ge k n with h | h
  · simp [h] at hk
  · simp [Nat.not_lt.2 h] at hk

theorem foldl_bits (acc : Array Nat) : ∀ (l : List Edge) (s i : Nat), (l.foldl (fun s e => if Region.binds .any e then s ||| 2 ^ e.on ||| acc.getD e.on 0 else s) s).testBit i = true →
    s.testBit i = true ∨ ∃ e ∈ l, Region.binds .any e = true ∧ (e.on = i ∨ (acc.getD e.on 0).testBit i = true) := by
  intro l
  induction l with
  | nil => intro s i h; exact .inl h
  | cons e l ih =>
    intro s i h
    rw [List.foldl_cons] at h
    rcases ih _ i h with h1 | ⟨e', he', hb, hh⟩
    · by_cases hb : Region.binds .any e = true
      · rw [if_pos hb, Nat.testBit_or, Nat.testBit_or, Bool.or_eq_true, Bool.or_eq_true] at h1
        rcases h1 with (h1 | h1) | h1
        · exact .inl h1
        · rw [Nat.testBit_two_pow] at h1
          exact .inr ⟨e, List.mem_cons_self .., hb, .inl (by simpa using h1)⟩
        · exact .inr ⟨e, List.mem_cons_self .., hb, .inr h1⟩
      · rw [if_neg hb] at h1; exact .inl h1
    · exact .inr ⟨e', List.mem_cons_of_mem _ he', hb, hh⟩

theorem before_list : ∀ (l : List Oper) (acc : Array Nat) , (∀ j, j < l.length → ops[acc.size + j]? = l[j]?) →
    (∀ j i, (acc.getD j 0).testBit i = true → Reach ops j i) →
    ∀ j i, ((l.foldl (fun acc o => acc.push (o.after.foldl (fun s e => if Region.binds .any e then s ||| 2 ^ e.on ||| acc.getD e.on 0 else s) 0)) acc).getD j 0).testBit i = true → Reach ops j i := by
  intro l
  induction l with
  | nil => intro acc _ hacc; exact hacc
  | cons o l ih =>
    intro acc hl hacc
    rw [List.foldl_cons]
    refine ih _ ?_ ?_
    · intro j hj
      have := hl (j + 1) (by simpa using hj)
      rw [List.getElem?_cons_succ] at this
      rw [← this]
      congr 1
      simp; omega
    · intro j i h
      have ho : ops[acc.size]? = some o := by simpa using hl 0 (by simp)
      simp only [Array.getD_eq_getD_getElem?, Array.getElem?_push] at h
      split at h
      · rename_i hj
        subst hj
        rw [Option.getD_some, ← Array.foldl_toList] at h
        rcases foldl_bits acc o.after.toList 0 i (by simpa [Array.getD_eq_getD_getElem?] using h) with h0 | ⟨e, he, hb, h1 | h1⟩
        · simp at h0
        · exact .one ho (Array.mem_toList_iff.1 he) hb h1
        · exact .more ho (Array.mem_toList_iff.1 he) hb (hacc _ _ h1)
      · exact hacc j i (by simpa [Array.getD_eq_getD_getElem?] using h)

/-- does j wait for i? -/
def waits (ops : Array Oper) (j i : Nat) : Bool := ((Region.before ops).getD j 0).testBit i

theorem waits_reach {j i : Nat} (h : waits ops j i = true) : Reach ops j i := by
  unfold waits Region.before at h
  rw [← Array.foldl_toList] at h
  exact before_list ops.toList #[] (fun j _ => by simp) (fun j i h => by simp at h) j i h

abbrev Facts := List (Nat × (World → Prop))

/-- those facts on which an operation leans for which j does not wait -/
def drop (ops : Array Oper) (j : Nat) (T : Facts) : Facts := T.filter fun p => !waits ops j p.1
def All (T : Facts) (w : World) : Prop := ∀ p ∈ T, p.2 w

/-- Whatever order is picked from here on, and the facts stay. -/
def wpT (P : Program) (ops : Array Oper) (Q : Exit → Act → World → Prop) : Facts → Nat → Array Bool → Act → World → Prop
  | _, 0, listed, a, w => Region.ready .any ops listed = [] ∧ Q .normal a w
  | T, fuel + 1, listed, a, w =>
    (Region.ready .any ops listed = [] → Q .normal a w) ∧
    ∀ j ∈ Region.ready .any ops listed, wpOp P ops Q j (fun a' w' => All (drop ops j T) w' ∧ wpT P ops Q (drop ops j T) fuel (listed.setIfInBounds j true) a' w') a w

theorem wpAny_of_T : ∀ (fuel : Nat) (T : Facts) (listed : Array Bool) (a : Act) (w : World), wpT P ops Q T fuel listed a w → wpAny P .any ops Q fuel listed a w
  | 0, _, _, _, _, h => h
  | fuel + 1, _, _, _, _, h => ⟨h.1, fun i hi => wpOp_mono (fun _ _ h' => wpAny_of_T fuel _ _ _ _ h'.2) (h.2 i hi)⟩

theorem wpT_sub : ∀ (fuel : Nat) (T T' : Facts) (listed : Array Bool) (a : Act) (w : World), (∀ p ∈ T', p ∈ T) → wpT P ops Q T fuel listed a w → wpT P ops Q T' fuel listed a w
  | 0, _, _, _, _, _, _, h => h
  | fuel + 1, T, T', _, _, _, hs, h => ⟨h.1, fun j hj => by
      have hs' : ∀ p ∈ drop ops j T', p ∈ drop ops j T := fun p hp => by
        unfold drop at *
        rw [List.mem_filter] at *
        exact ⟨hs p hp.1, hp.2⟩
      exact wpOp_mono (fun a' w' h' => ⟨fun p hp => h'.1 p (hs' p hp), wpT_sub fuel _ _ _ _ _ hs' h'.2⟩) (h.2 j hj)⟩

theorem wpT_first {F : World → Prop} {i : Nat} {oi : Oper} {v : Value} (hi : ops[i]? = some oi) (hsel : ∀ (j : Nat) (o : Oper) cs b, ops[j]? = some o → o.op ≠ .select cs b)
    (hQ : ∀ c a w, ¬ Q (.panic c) a w) :
    ∀ (fuel : Nat) (T : Facts) (listed : Array Bool) (a : Act) (w : World), Down ops listed →
      (∀ j oj, ops[j]? = some oj → j ≠ i → listed.getD j true = false → (∀ e ∈ oj.after, Region.binds .any e = true → e.on ≠ i) → oi.apart ops oj = true) →
      i ∈ Region.ready .any ops listed → YieldsIf P ops F oi v a → F w → All T w →
      wpT P ops Q ((i, F) :: T) fuel (listed.setIfInBounds i true) (a.put oi.dst v) w → wpT P ops Q T (fuel + 1) listed a w := by
  intro fuel
  induction fuel with
  | zero =>
    intro T listed a w hd _ hr hy hF hT H
    refine ⟨fun h => (by rw [h] at hr; cases hr), fun j hj => ?_⟩
    by_cases hji : j = i
    · subst hji
      exact hy.wpOp hi hF ⟨fun p hp => hT p (List.mem_filter.1 hp).1, H.1, H.2⟩
    · have := ready_mono hj hji
      rw [H.1] at this
      cases this
  | succ fuel ih =>
    intro T listed a w hd hfree hr hy hF hT H
    refine ⟨fun h => (by rw [h] at hr; cases hr), fun j hj => ?_⟩
    by_cases hji : j = i
    · subst hji
      exact hy.wpOp hi hF ⟨fun p hp => hT p (List.mem_filter.1 hp).1, wpT_sub _ _ _ _ _ _ (fun p hp => List.mem_cons_of_mem _ (List.mem_filter.1 hp).1) H⟩
    · have h1 := H.2 j (ready_mono hj hji)
      obtain ⟨hjun, oj, hoj, hall⟩ := mem_ready.1 hj
      have hin : listed.getD i false = false := by
        have h0 := (mem_ready.1 hr).1
        rcases Nat.lt_or_ge i listed.size with h' | h'
        · simpa [h'] using h0
        · simp [h']
      have hnot : ∀ e ∈ oj.after, Region.binds .any e = true → e.on ≠ i := fun e he hb heq => by
        have h2 := hall e he hb
        rw [heq, hin] at h2
        cases h2
      have hnw : waits ops j i = false := by
        cases hw : waits ops j i with
        | false => rfl
        | true =>
          have := (waits_reach hw).listed hd (fun o e ho he hb => by rw [hoj] at ho; cases ho; exact hall e he hb)
          rw [hin] at this
          cases this
      have hdrop : drop ops j ((i, F) :: T) = (i, F) :: drop ops j T := by simp [drop, hnw]
      rw [hdrop] at h1
      have h2 := wpOp_putIf hoj (hfree j oj hoj hji hjun hnot) (fun cs b => hsel i oi cs b hi) (fun cs b => hsel j oj cs b hoj) (fun c a w h => absurd h (hQ c _ w)) hy h1
      have hfree' : ∀ k ok, ops[k]? = some ok → k ≠ i → (listed.setIfInBounds j true).getD k true = false →
          (∀ e ∈ ok.after, Region.binds .any e = true → e.on ≠ i) → oi.apart ops ok = true := fun k ok hk hki hun hno => by
        refine hfree k ok hk hki ?_ hno
        by_cases hjk : j = k
        · subst hjk; exact hjun
        · rw [getD_set_ne true hjk] at hun; exact hun
      refine wpOp_mono (fun a' w' h3 => ?_) h2
      have hA : All (drop ops j T) w' := fun p hp => h3.2.1 p (List.mem_cons_of_mem _ hp)
      refine ⟨hA, ih _ (listed.setIfInBounds j true) a' w' (hd.set hj) hfree' (ready_mono hr (Ne.symm hji)) h3.1 (h3.2.1 _ (List.mem_cons_self ..)) hA ?_⟩
      rw [Array.setIfInBounds_comm _ _ hji]
      exact h3.2.2
end

/-- a fact that always holds may stand beside the others -/
theorem wpT_true {P : Program} {ops : Array Oper} {Q : Exit → Act → World → Prop} {i : Nat} : ∀ (fuel : Nat) (T : Facts) (listed : Array Bool) (a : Act) (w : World), wpT P ops Q T fuel listed a w → wpT P ops Q ((i, fun _ => True) :: T) fuel listed a w
  | 0, _, _, _, _, h => h
  | fuel + 1, T, _, _, _, h => ⟨h.1, fun j hj => by
      refine wpOp_mono (fun a' w' h' => ?_) (h.2 j hj)
      by_cases hw : waits ops j i = true
      · have e : drop ops j ((i, fun _ => True) :: T) = drop ops j T := by simp [drop, hw]
        rw [e]; exact h'
      · have e : drop ops j ((i, fun _ => True) :: T) = (i, fun _ => True) :: drop ops j T := by simp [drop, hw]
        rw [e]
        refine ⟨fun p hp => ?_, wpT_true fuel _ _ _ _ h'.2⟩
        cases List.mem_cons.1 hp with
        | inl h => subst h; trivial
        | inr h => exact h'.1 p h⟩

/-- A schedule: which operation is taken next: a quiet one wherever it may stand, a loud one that is ready alone, or one of two or three that are. -/
inductive Sch where
  | done : Sch
  | q : Nat → Sch → Sch
  | l : Nat → Sch → Sch
  | two : Nat → Sch → Nat → Sch → Sch
  | three : Nat → Sch → Nat → Sch → Nat → Sch → Sch
/-- A region's operations in the order of a schedule. -/
inductive Todo where
  | done : Todo
  | quiet : Nat → Oper → Todo → Todo
  | loud : Nat → Oper → Todo → Todo
  | two : Nat → Oper → Todo → Nat → Oper → Todo → Todo
  | three : Nat → Oper → Todo → Nat → Oper → Todo → Nat → Oper → Todo → Todo
def Sch.len : Sch → Nat
  | .done => 0
  | .q _ s => s.len + 1
  | .l _ s => s.len + 1
  | .two _ s _ _ => s.len + 1
  | .three _ s _ _ _ _ => s.len + 1
def Todo.len : Todo → Nat
  | .done => 0
  | .quiet _ _ s => s.len + 1
  | .loud _ _ s => s.len + 1
  | .two _ _ s _ _ _ => s.len + 1
  | .three _ _ s _ _ _ _ _ _ => s.len + 1
def Sch.ofList : List (Nat × Bool) → Sch
  | [] => .done
  | (i, true) :: s => .q i (Sch.ofList s)
  | (i, false) :: s => .l i (Sch.ofList s)
def nth : List Oper → Nat → Oper
  | o :: _, 0 => o
  | _ :: l, n + 1 => nth l n
  | [], _ => default
def todoOf (l : List Oper) : Sch → Todo
  | .done => .done
  | .q i s => .quiet i (nth l i) (todoOf l s)
  | .l i s => .loud i (nth l i) (todoOf l s)
  | .two i s j s' => .two i (nth l i) (todoOf l s) j (nth l j) (todoOf l s')
  | .three i s j s' k s2 => .three i (nth l i) (todoOf l s) j (nth l j) (todoOf l s') k (nth l k) (todoOf l s2)

def schedB (ops : Array Oper) : Sch → Array Bool → Bool
  | .done, listed => (Region.ready .any ops listed).isEmpty
  | .q i s, listed => Nat.blt i ops.size && (Region.free .any ops listed i && (Region.ready .any ops listed).contains i) && schedB ops s (listed.setIfInBounds i true)
  | .l i s, listed => Nat.blt i ops.size && (Region.ready .any ops listed == [i]) && schedB ops s (listed.setIfInBounds i true)
  | .two i s j s', listed => Nat.blt i ops.size && Nat.blt j ops.size && (Region.ready .any ops listed == [i, j]) && (s'.len == s.len) && schedB ops s (listed.setIfInBounds i true) && schedB ops s' (listed.setIfInBounds j true)
  | .three i s j s' k s2, listed => Nat.blt i ops.size && Nat.blt j ops.size && Nat.blt k ops.size && (Region.ready .any ops listed == [i, j, k]) && (s'.len == s.len) && (s2.len == s.len) && schedB ops s (listed.setIfInBounds i true) && schedB ops s' (listed.setIfInBounds j true) && schedB ops s2 (listed.setIfInBounds k true)

/-- the same, the operations too -/
def Fits (ops : Array Oper) : Todo → Array Bool → Prop
  | .done, listed => Region.ready .any ops listed = []
  | .quiet i o s, listed => ops[i]? = some o ∧ (Region.free .any ops listed i = true ∧ i ∈ Region.ready .any ops listed) ∧ Fits ops s (listed.setIfInBounds i true)
  | .loud i o s, listed => ops[i]? = some o ∧ Region.ready .any ops listed = [i] ∧ Fits ops s (listed.setIfInBounds i true)
  | .two i o s j o' s', listed => ops[i]? = some o ∧ ops[j]? = some o' ∧ Region.ready .any ops listed = [i, j] ∧ s'.len = s.len ∧ Fits ops s (listed.setIfInBounds i true) ∧ Fits ops s' (listed.setIfInBounds j true)
  | .three i o s j o' s' k o2 s2, listed => ops[i]? = some o ∧ ops[j]? = some o' ∧ ops[k]? = some o2 ∧ Region.ready .any ops listed = [i, j, k] ∧ s'.len = s.len ∧ s2.len = s.len ∧ Fits ops s (listed.setIfInBounds i true) ∧ Fits ops s' (listed.setIfInBounds j true) ∧ Fits ops s2 (listed.setIfInBounds k true)

theorem nth_spec : ∀ (l : List Oper) (i : Nat), i < l.length → l[i]? = some (nth l i)
  | [], i, h => by simp at h
  | o :: l, 0, _ => rfl
  | o :: l, n + 1, h => by rw [List.getElem?_cons_succ]; exact nth_spec l n (by simpa using h)
theorem todo_length (l : List Oper) : ∀ s, (todoOf l s).len = s.len
  | .done => rfl
  | .q i s => by simp [todoOf, Todo.len, Sch.len, todo_length l s]
  | .l i s => by simp [todoOf, Todo.len, Sch.len, todo_length l s]
  | .two i s j s' => by simp [todoOf, Todo.len, Sch.len, todo_length l s]
  | .three i s j s' k s2 => by simp [todoOf, Todo.len, Sch.len, todo_length l s]
theorem nth_arr (l : List Oper) {i : Nat} (h : Nat.blt i l.toArray.size = true) : l.toArray[i]? = some (nth l i) := by
  simpa using nth_spec l i (by simpa [Nat.blt_eq] using h)
theorem fits_of (l : List Oper) : ∀ (s : Sch) (listed : Array Bool), schedB l.toArray s listed = true → Fits l.toArray (todoOf l s) listed
  | .done, listed, h => by simpa [schedB, Fits, todoOf] using h
  | .q i s, listed, h => by
    simp only [schedB, Bool.and_eq_true] at h
    obtain ⟨⟨h0, h1⟩, h2⟩ := h
    exact ⟨nth_arr l h0, by simpa using h1, fits_of l s _ h2⟩
  | .l i s, listed, h => by
    simp only [schedB, Bool.and_eq_true] at h
    obtain ⟨⟨h0, h1⟩, h2⟩ := h
    exact ⟨nth_arr l h0, by simpa using h1, fits_of l s _ h2⟩
  | .two i s j s', listed, h => by
    simp only [schedB, Bool.and_eq_true] at h
    obtain ⟨⟨⟨⟨⟨h0, h1⟩, h2⟩, h3⟩, h4⟩, h5⟩ := h
    exact ⟨nth_arr l h0, nth_arr l h1, by simpa using h2, by simpa [todo_length] using h3, fits_of l s _ h4, fits_of l s' _ h5⟩
  | .three i s j s' k s2, listed, h => by
    simp only [schedB, Bool.and_eq_true] at h
    obtain ⟨⟨⟨⟨⟨⟨⟨⟨h0, h1⟩, h2⟩, h3⟩, h4⟩, h5⟩, h6⟩, h7⟩, h8⟩ := h
    exact ⟨nth_arr l h0, nth_arr l h1, nth_arr l h2, by simpa using h3, by simpa [todo_length] using h4, by simpa [todo_length] using h5, fits_of l s _ h6, fits_of l s' _ h7, fits_of l s2 _ h8⟩

/-- The region's operations that are left, by a schedule. -/
def HS (P : Program) (N : Nat) (ops : Array Oper) (ds : List (Option Nat)) (T : Facts) (s : Todo) (E : Env) (w : World) (K : Post) : Prop :=
  ∀ a listed, Has N E a → Dsts ops ds → Down ops listed → All T w → Fits ops s listed → Region.noSelect ops = true → wpT P ops (toQ N K) T s.len listed a w
/-- One of them, that is ready; those of s are left behind it. -/
def Stp (P : Program) (N : Nat) (ops : Array Oper) (ds : List (Option Nat)) (T : Facts) (i : Nat) (o : Oper) (s : Todo) (E : Env) (w : World) (K : Post) : Prop :=
  ∀ a listed, Has N E a → Dsts ops ds → Down ops listed → All T w → ops[i]? = some o → i ∈ Region.ready .any ops listed → Fits ops s (listed.setIfInBounds i true) → Region.noSelect ops = true →
    wpOp P ops (toQ N K) i (fun a' w' => All (drop ops i T) w' ∧ wpT P ops (toQ N K) (drop ops i T) s.len (listed.setIfInBounds i true) a' w') a w

section
variable {P : Program} {N : Nat} {ops : Array Oper} {ds : List (Option Nat)} {T : Facts} {s s' s2 : Todo} {E : Env} {w : World} {K : Post}

theorem W_draw {id : Nat} {l : List Oper} (ds : List (Option Nat)) (s : Sch) (hm : P.follows .mixedOrders = true) (hds : l.map (·.dst) = ds) (hs : (schedB l.toArray s (Array.replicate l.toArray.size false) && Region.noSelect l.toArray && (s.len == l.toArray.size)) = true)
    (h : ∀ ops, ops = l.toArray → HS P N ops ds [] (todoOf l s) E w.drew K) : W P N (.region id l.toArray true) E w K := fun a ha => by
  simp only [Bool.and_eq_true, beq_iff_eq] at hs
  have h1 := h _ rfl a (Array.replicate l.toArray.size false) ha (hds ▸ dsts_of l) (Down.start _) (fun p hp => by cases hp) (fits_of l s _ hs.1.1) hs.1.2
  rw [todo_length, hs.2] at h1
  exact wp_region_any hm (wpAny_of_T _ _ _ _ _ h1)

theorem HS_nil (h : K .normal E w) : HS P N ops ds T .done E w K := fun a _ ha _ _ _ hs _ => ⟨hs, E, ha, h⟩

variable {t : Nat} {op : Op} {ty : TypeId} {pos : String} {after : Array Edge} {guard : Option (Nat × Bool)} {i j k : Nat} {o o' o2 : Oper}

theorem HS_loud (h : Stp P N ops ds T i o s E w K) : HS P N ops ds T (.loud i o s) E w K := fun a listed ha hds hdn hT hs hsel => by
  obtain ⟨ho, hr1, hs⟩ := hs
  refine ⟨fun h0 => absurd (hr1 ▸ h0) (by simp), fun j hj => ?_⟩
  rw [hr1] at hj
  obtain rfl : j = i := by simpa using hj
  exact h a listed ha hds hdn hT ho (by rw [hr1]; exact List.mem_singleton.2 rfl) hs hsel
/-- one of two is picked -/
theorem HS_two (h : Stp P N ops ds T i o s E w K) (h' : Stp P N ops ds T j o' s' E w K) : HS P N ops ds T (.two i o s j o' s') E w K := fun a listed ha hds hdn hT hs hsel => by
  obtain ⟨ho, ho', hr1, hl, hs, hs'⟩ := hs
  refine ⟨fun h0 => absurd (hr1 ▸ h0) (by simp), fun m hm => ?_⟩
  rw [hr1] at hm
  rcases List.mem_cons.1 hm with rfl | hm
  · exact h a listed ha hds hdn hT ho (by rw [hr1]; simp) hs hsel
  · obtain rfl : m = j := by simpa using hm
    have := h' a listed ha hds hdn hT ho' (by rw [hr1]; simp) hs' hsel
    rw [hl] at this
    exact this
theorem HS_three (h : Stp P N ops ds T i o s E w K) (h' : Stp P N ops ds T j o' s' E w K) (h2 : Stp P N ops ds T k o2 s2 E w K) : HS P N ops ds T (.three i o s j o' s' k o2 s2) E w K := fun a listed ha hds hdn hT hs hsel => by
  obtain ⟨ho, ho', ho2, hr1, hl, hl2, hs, hs', hs2⟩ := hs
  refine ⟨fun h0 => absurd (hr1 ▸ h0) (by simp), fun m hm => ?_⟩
  rw [hr1] at hm
  rcases List.mem_cons.1 hm with rfl | hm
  · exact h a listed ha hds hdn hT ho (by rw [hr1]; simp) hs hsel
  · rcases List.mem_cons.1 hm with rfl | hm
    · have := h' a listed ha hds hdn hT ho' (by rw [hr1]; simp) hs' hsel
      rw [hl] at this
      exact this
    · obtain rfl : m = k := by simpa using hm
      have := h2 a listed ha hds hdn hT ho2 (by rw [hr1]; simp) hs2 hsel
      rw [hl2] at this
      exact this

/-- an operation that yields its value in every world of which F holds -/
theorem HS_held {v : Value} (F : World → Prop) (hy : ∀ w', F w' → Runs P w' E ⟨some t, op, ty, pos, after, guard⟩ v) (hF : F w) (hd : Nat.blt t N = true) (hg : wants ds E guard = some true)
    (h : HS P N ops ds ((i, F) :: T) s ((t, v) :: E) w K) : HS P N ops ds T (.quiet i ⟨some t, op, ty, pos, after, guard⟩ s) E w K := fun a listed ha hds hdn hT hs hsel => by
  obtain ⟨ho, hs1, hs⟩ := hs
  obtain ⟨hf, hr'⟩ := hs1
  refine wpT_first (Q := toQ N K) ho (Region.noSelect_spec hsel) (fun _ _ _ h => h) s.len T listed a w hdn (Region.free_spec ho hf) hr' (.inl ⟨wants_spec hds (o := ⟨some t, op, ty, pos, after, guard⟩) ha hg, fun w' hw' => hy w' hw' a N ha⟩) hF hT ?_
  refine h _ _ (ha.put (some t) _ hd) hds (hdn.set hr') (fun p hp => ?_) hs hsel
  cases List.mem_cons.1 hp with
  | inl e => subst e; exact hF
  | inr e => exact hT p e

/-- one that yields it in whatever world -/
theorem HS_pure {v : Value} (hy : ∀ w', Runs P w' E ⟨some t, op, ty, pos, after, guard⟩ v) (hd : Nat.blt t N = true) (hg : wants ds E guard = some true)
    (h : HS P N ops ds T s ((t, v) :: E) w K) : HS P N ops ds T (.quiet i ⟨some t, op, ty, pos, after, guard⟩ s) E w K := fun a listed ha hds hdn hT hs hsel => by
  obtain ⟨ho, hs1, hs⟩ := hs
  obtain ⟨hf, hr'⟩ := hs1
  have h1 := h _ _ (ha.put (some t) _ hd) hds (hdn.set hr') hT hs hsel
  have h2 := wpT_first (P := P) (F := fun _ => True) (Q := toQ N K) ho (Region.noSelect_spec hsel) (fun _ _ _ h => h) s.len T listed a w hdn (Region.free_spec ho hf) hr' (.inl ⟨wants_spec hds (o := ⟨some t, op, ty, pos, after, guard⟩) ha hg, fun w' _ => hy w' a N ha⟩) trivial hT
  exact h2 (wpT_true _ _ _ _ _ h1)

/-- one whose guard says no -/
theorem HS_pass (hg : wants ds E guard = some false) (hd : Nat.blt t N = true)
    (h : HS P N ops ds T s ((t, undef) :: E) w K) : HS P N ops ds T (.quiet i ⟨some t, op, ty, pos, after, guard⟩ s) E w K := fun a listed ha hds hdn hT hs hsel => by
  obtain ⟨ho, hs1, hs⟩ := hs
  obtain ⟨hf, hr'⟩ := hs1
  have h1 := h _ _ (ha.put (some t) _ hd) hds (hdn.set hr') hT hs hsel
  have h2 := wpT_first (P := P) (F := fun _ => True) (Q := toQ N K) ho (Region.noSelect_spec hsel) (fun _ _ _ h => h) s.len T listed a w hdn (Region.free_spec ho hf) hr' (.inr ⟨wants_spec hds (o := ⟨some t, op, ty, pos, after, guard⟩) ha hg, rfl⟩) trivial hT
  exact h2 (wpT_true _ _ _ _ _ h1)
/-- the same, one that is loud -/
theorem Stp_passL (hg : wants ds E guard = some false) (hd : Nat.blt t N = true)
    (h : HS P N ops ds (drop ops i T) s ((t, undef) :: E) w K) : Stp P N ops ds T i ⟨some t, op, ty, pos, after, guard⟩ s E w K := fun a listed ha hds hdn hT ho hr hs hsel => by
  have hdn' : Down ops (listed.setIfInBounds i true) := hdn.set hr
  have hA : All (drop ops i T) w := fun p hp => hT p (List.mem_filter.1 hp).1
  unfold wpOp
  simp only [ho, wants_spec hds (o := ⟨some t, op, ty, pos, after, guard⟩) ha hg]
  rw [if_neg (by simp)]
  exact ⟨hA, h _ _ (ha.put (some t) _ hd) hds hdn' hA hs hsel⟩
theorem HS_passL (hg : wants ds E guard = some false) (hd : Nat.blt t N = true)
    (h : HS P N ops ds (drop ops i T) s ((t, undef) :: E) w K) : HS P N ops ds T (.loud i ⟨some t, op, ty, pos, after, guard⟩ s) E w K := HS_loud (Stp_passL hg hd h)

/-- one that may come up -/
theorem Stp_to' {dst : Option Nat} {Φ : Value → World → Prop} (hr : RunsTo P w E ⟨dst, op, ty, pos, after, guard⟩ Φ) (hd : fits N dst = true) (hg : wants ds E guard = some true)
    (h : ∀ v w', Φ v w' → All (drop ops i T) w' ∧ HS P N ops ds (drop ops i T) s (putE E dst v) w' K) : Stp P N ops ds T i ⟨dst, op, ty, pos, after, guard⟩ s E w K := fun a listed ha hds hdn hT ho hrd hs hsel => by
  have hdn' : Down ops (listed.setIfInBounds i true) := hdn.set hrd
  unfold wpOp
  simp only [ho, wants_spec hds (o := ⟨dst, op, ty, pos, after, guard⟩) ha hg, if_true]
  refine .inl ?_
  unfold Oper.wp
  obtain ⟨v, w', hΦ, h1 | ⟨h1, rfl⟩⟩ := hr a N ha
  · rw [h1]; exact ⟨(h _ _ hΦ).1, (h _ _ hΦ).2 _ _ (ha.put dst _ hd) hds hdn' (h _ _ hΦ).1 hs hsel⟩
  · rw [h1]; exact ⟨(h _ _ hΦ).1, (h _ _ hΦ).2 _ _ (ha.put dst _ hd) hds hdn' (h _ _ hΦ).1 hs hsel⟩

theorem Stp_call' {dst : Option Nat} {f : FuncId} {args : Array Value} (hr : Enters P w E ⟨dst, op, ty, pos, after, guard⟩ f args) (hd : fits N dst = true) (hg : wants ds E guard = some true)
    (h : Calls P f args w fun e w' => ∃ v, e = .returned v ∧ All (drop ops i T) w' ∧ HS P N ops ds (drop ops i T) s (putE E dst v) w' K) : Stp P N ops ds T i ⟨dst, op, ty, pos, after, guard⟩ s E w K := fun a listed ha hds hdn hT ho hrd hs hsel => by
  have hdn' : Down ops (listed.setIfInBounds i true) := hdn.set hrd
  unfold wpOp
  simp only [ho, wants_spec hds (o := ⟨dst, op, ty, pos, after, guard⟩) ha hg, if_true]
  refine .inl ?_
  unfold Oper.wp
  rw [hr a N ha]
  exact h.mono fun e w' ⟨v, he, hA, hk⟩ => by subst he; exact ⟨hA, hk _ _ (ha.put dst _ hd) hds hdn' hA hs hsel⟩
end
end Go.Sx
