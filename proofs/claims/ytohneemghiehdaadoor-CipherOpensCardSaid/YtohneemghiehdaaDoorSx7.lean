/- SX, seventh part: what the printed walks use. -/
import Derived.Test.YtohneemghiehdaaDoorSx6
set_option linter.unusedVariables false
set_option linter.unusedSimpArgs false
namespace Go.Sx
open Go

section
variable {P : Program} {N : Nat} {E : Env} {w : World} {K : Post} {K1 : Env → World → Prop}
theorem then_n (h : K1 E w) : thenP K1 K .normal E w := h
theorem then_ret (h : K .ret E w) : thenP K1 K .ret E w := h
theorem then_exit {i : Nat} (h : K (.exit i) E w) : thenP K1 K (.exit i) E w := h
theorem block_n {id : Nat} (h : K .normal E w) : blockP id K .normal E w := h
theorem block_ret {id : Nat} (h : K .ret E w) : blockP id K .ret E w := h
theorem block_exit {id : Nat} (h : K .normal E w) : blockP id K (.exit id) E w := by simp only [blockP, if_true]; exact h
theorem block_other {id i : Nat} (hne : Nat.beq i id = false) (h : K (.exit i) E w) : blockP id K (.exit i) E w := by
  have : i ≠ id := fun e => by subst e; simp at hne
  simp only [blockP, if_neg this]; exact h
theorem W_then {x y : Code} (h : W P N x E w (thenP (fun E' w' => W P N y E' w' K) K)) : W P N (.seq x y) E w K := W_seq h

theorem W_keepB (keep : List Nat) {c : Code} (h : ∀ B, B = pickE E keep → W P N c B w K) : W P N c E w K := W_keep keep (h _ rfl)

def lookL (E : Env) : List Nat → Option (List Value)
  | [] => some []
  | t :: ts => match lookE E t, lookL E ts with
    | some v, some vs => some (v :: vs)
    | _, _ => none
def zipE : List Nat → List Value → Env
  | t :: ts, v :: vs => (t, v) :: zipE ts vs
  | _, _ => []

theorem sub_zip : ∀ (ts : List Nat) (vs : List Value) (B E : Env), lookL E ts = some vs → Sub B E → Sub (zipE ts vs ++ B) E
  | [], vs, B, E, h, hB => by simp [lookL] at h; subst h; exact hB
  | t :: ts, vs, B, E, h, hB => by
    simp only [lookL] at h
    split at h
    · rename_i v vs' hv hvs
      cases h
      exact ⟨hv, sub_zip ts vs' B E hvs hB⟩
    · cases h

/-- A LOOP over the slots ts; the slots keep stay as they are. I: a number that every round lowers, the slots' values, the world. -/
theorem W_loopB (keep ts : List Nat) (I : Nat → List Value → World → Prop) {c : Code} (n : Nat) (vs : List Value) (hv : lookL E ts = some vs) (h0 : I n vs w)
    (h : ∀ B, B = pickE E keep → ∀ n vs w', I n vs w' → W P N c (zipE ts vs ++ B) w' (thenP (fun E2 w2 => ∃ m vs2, m < n ∧ lookL E2 ts = some vs2 ∧ I m vs2 w2 ∧ Sub B E2) K)) : W P N (.loop c) E w K := by
  refine W_sub (sub_zip ts vs _ _ hv (pickE_sub E keep)) ?_
  refine W_loop (fun n E' w' => ∃ vs, I n vs w' ∧ E' = zipE ts vs ++ pickE E keep) n ⟨vs, h0, rfl⟩ ?_
  rintro n E' w' ⟨vs, hI, rfl⟩
  refine (h _ rfl n vs w' hI).mono fun e E2 w2 hK => ?_
  cases e with
  | normal =>
    obtain ⟨m, vs2, hlt, hl, hI2, hs⟩ := hK
    exact ⟨m, _, hlt, sub_zip ts vs2 _ _ hl hs, vs2, hI2, rfl⟩
  | _ => exact hK

theorem W_drawS {id : Nat} {l : List Oper} (ds : List (Option Nat)) (s : Sch) (hm : P.follows .mixedOrders = true) (hds : l.map (·.dst) = ds) (hs : (schedB l.toArray s (Array.replicate l.toArray.size false) && Region.noSelect l.toArray && (s.len == l.toArray.size)) = true)
    (h : ∀ ops w1, ops = l.toArray → Fr [] w w1 → HS P N ops ds [] (todoOf l s) E w1 K) : W P N (.region id l.toArray true) E w K := W_draw ds s hm hds hs fun ops ho => h ops _ ho (Fr.drew w)
theorem W_drawF {id : Nat} {l : List Oper} (ds : List (Option Nat)) (s : List (Nat × Bool)) (hm : P.follows .mixedOrders = true) (hds : l.map (·.dst) = ds) (hs : (schedB l.toArray (Sch.ofList s) (Array.replicate l.toArray.size false) && Region.noSelect l.toArray && ((Sch.ofList s).len == l.toArray.size)) = true)
    (h : ∀ ops w1, ops = l.toArray → Fr [] w w1 → HS P N ops ds [] (todoOf l (Sch.ofList s)) E w1 K) : W P N (.region id l.toArray true) E w K := W_drawS ds _ hm hds hs h

/-- a Bool that is a test, known from here on -/
theorem Ops_known {ds : List (Option Nat)} {rest : List Oper} {b : Bool} (t : Nat) {v : Bool} (hv : lookE E t = some (.bool v)) (hb : v = b) (h : Ops P N ds rest ((t, .bool b) :: E) w K) : Ops P N ds rest E w K := fun ops hds a ha => by
  subst hb
  exact h ops hds a (ha.sub' hv)
theorem Ops_split {ds : List (Option Nat)} {rest : List Oper} {p : Prop} [Decidable p] (t : Nat) (hv : lookE E t = some (.bool (decide p))) (ht : p → Ops P N ds rest ((t, .bool true) :: E) w K) (hf : ¬ p → Ops P N ds rest ((t, .bool false) :: E) w K) : Ops P N ds rest E w K := by
  by_cases hp : p
  · exact Ops_known t hv (decide_eq_true hp) (ht hp)
  · exact Ops_known t hv (decide_eq_false hp) (hf hp)
theorem Ops_splitB {ds : List (Option Nat)} {rest : List Oper} {b : Bool} (t : Nat) (hv : lookE E t = some (.bool b)) (ht : b = true → Ops P N ds rest ((t, .bool true) :: E) w K) (hf : b = false → Ops P N ds rest ((t, .bool false) :: E) w K) : Ops P N ds rest E w K := by
  cases b with
  | true => exact Ops_known t hv rfl (ht rfl)
  | false => exact Ops_known t hv rfl (hf rfl)
end

section
variable {P : Program} {N : Nat} {ops : Array Oper} {ds : List (Option Nat)} {T : Facts} {s : Todo} {E : Env} {w : World} {K : Post}

theorem HS_known {b : Bool} (t : Nat) {v : Bool} (hv : lookE E t = some (.bool v)) (hb : v = b) (h : HS P N ops ds T s ((t, .bool b) :: E) w K) : HS P N ops ds T s E w K := fun a listed ha => by
  subst hb
  exact h a listed (ha.sub' hv)
theorem HS_split {p : Prop} [Decidable p] (t : Nat) (hv : lookE E t = some (.bool (decide p))) (ht : p → HS P N ops ds T s ((t, .bool true) :: E) w K) (hf : ¬ p → HS P N ops ds T s ((t, .bool false) :: E) w K) : HS P N ops ds T s E w K := by
  by_cases hp : p
  · exact HS_known t hv (decide_eq_true hp) (ht hp)
  · exact HS_known t hv (decide_eq_false hp) (hf hp)
theorem HS_splitB {b : Bool} (t : Nat) (hv : lookE E t = some (.bool b)) (ht : b = true → HS P N ops ds T s ((t, .bool true) :: E) w K) (hf : b = false → HS P N ops ds T s ((t, .bool false) :: E) w K) : HS P N ops ds T s E w K := by
  cases b with
  | true => exact HS_known t hv rfl (ht rfl)
  | false => exact HS_known t hv rfl (hf rfl)

variable {i d : Nat} {x : Operand} {t t' ty : TypeId} {pos : String} {after : Array Edge} {guard : Option (Nat × Bool)}
theorem HS_load {a : Addr} {v : Value} (ht : aggB P t = some false) (hx : ev E x = some (.pointer (some a))) (hc : w.cell? a = some v) (hd : Nat.blt d N = true) (hg : wants ds E guard = some true)
    (h : HS P N ops ds ((i, fun w' => w'.cell? a = some v) :: T) s ((d, v) :: E) w K) : HS P N ops ds T (.quiet i ⟨some d, .load t x, ty, pos, after, guard⟩ s) E w K :=
  HS_held (fun w' => w'.cell? a = some v) (fun _ h => R_load ht hx h) hc hd hg h
theorem HS_loadB {b o : Nat} {cs : List Value} {v : Value} (ht : aggB P t = some false)
    (hx : ev E x = some (.pointer (some ⟨b, o, none⟩))) (hB : Blk w b t' cs) (hv : cs[o]? = some v) (hd : Nat.blt d N = true) (hg : wants ds E guard = some true)
    (h : HS P N ops ds ((i, fun w' => w'.cell? ⟨b, o, none⟩ = some v) :: T) s ((d, v) :: E) w K) : HS P N ops ds T (.quiet i ⟨some d, .load t x, ty, pos, after, guard⟩ s) E w K :=
  HS_load ht hx (hB.at_ hv) hd hg h
theorem HS_loadN {b o n : Nat} {cs : List Value} (ht : aggB P t = some true) (hs : sz P t = some n)
    (hx : ev E x = some (.pointer (some ⟨b, o, none⟩))) (hB : Blk w b t' cs) (hle : o + n ≤ cs.length) (hd : Nat.blt d N = true) (hg : wants ds E guard = some true)
    (h : HS P N ops ds ((i, fun w' => Blk w' b t' cs) :: T) s ((d, .agg ((cs.drop o).take n).toArray) :: E) w K) : HS P N ops ds T (.quiet i ⟨some d, .load t x, ty, pos, after, guard⟩ s) E w K :=
  HS_held (fun w' => Blk w' b t' cs) (fun _ h => R_loadN ht hs hx h hle) hB hd hg h

/-- facts kept -/
def AllL : Facts → World → Prop
  | [], _ => True
  | p :: T, w => p.2 w ∧ AllL T w
theorem AllL.all : ∀ {T : Facts} {w : World}, AllL T w → All T w
  | [], _, _ => fun p hp => by cases hp
  | q :: T, w, h => fun p hp => by
    cases List.mem_cons.1 hp with
    | inl e => subst e; exact h.1
    | inr e => exact h.2.all p e
theorem HS_sub {T' : Facts} (hs : ∀ p ∈ T, p ∈ T') (hA : All T' w) (h : HS P N ops ds T' s E w K) : HS P N ops ds T s E w K := fun a listed ha hds hd _ hs1 hsel => wpT_sub _ _ _ _ _ _ hs (h a listed ha hds hd hA hs1 hsel)

/-- those of the numbers ks -/
def pickF (ks : List Nat) (T : Facts) : Facts := T.filter fun p => ks.contains p.1
def pickB (ops : Array Oper) (i : Nat) (ks idx : List Nat) : Bool := idx.all fun k => ks.contains k || waits ops i k
theorem drop_pick {ks : List Nat} (h : pickB ops i ks (T.map (·.1)) = true) : ∀ p ∈ drop ops i T, p ∈ pickF ks T := fun p hp => by
  obtain ⟨hp1, hp2⟩ := List.mem_filter.1 hp
  refine List.mem_filter.2 ⟨hp1, ?_⟩
  have := (List.all_eq_true.1 h) p.1 (List.mem_map_of_mem hp1)
  simp only [Bool.or_eq_true] at this
  rcases this with h1 | h1
  · exact h1
  · rw [h1] at hp2; cases hp2

/-- behind a loud operation the facts T' are kept: those of the numbers ks -/
theorem Stp_to {op : Op} {Φ : Value → World → Prop} (ks : List Nat) (T' : Facts) (hT : pickF ks T = T') (hm : pickB ops i ks (T.map (·.1)) = true) (hr : RunsTo P w E ⟨some d, op, ty, pos, after, guard⟩ Φ) (hd : Nat.blt d N = true) (hg : wants ds E guard = some true)
    (h : ∀ v w', Φ v w' → AllL T' w' ∧ HS P N ops ds T' s ((d, v) :: E) w' K) : Stp P N ops ds T i ⟨some d, op, ty, pos, after, guard⟩ s E w K := by
  subst hT
  refine Stp_to' hr hd hg fun v w' hΦ => ?_
  obtain ⟨h1, h2⟩ := h v w' hΦ
  have hA := h1.all
  have hs := drop_pick hm
  exact ⟨fun p hp => hA p (hs p hp), HS_sub hs hA h2⟩
theorem HS_to {op : Op} {Φ : Value → World → Prop} (ks : List Nat) (T' : Facts) (hT : pickF ks T = T') (hm : pickB ops i ks (T.map (·.1)) = true) (hr : RunsTo P w E ⟨some d, op, ty, pos, after, guard⟩ Φ) (hd : Nat.blt d N = true) (hg : wants ds E guard = some true)
    (h : ∀ v w', Φ v w' → AllL T' w' ∧ HS P N ops ds T' s ((d, v) :: E) w' K) : HS P N ops ds T (.loud i ⟨some d, op, ty, pos, after, guard⟩ s) E w K := HS_loud (Stp_to ks T' hT hm hr hd hg h)
theorem Stp_to0 {op : Op} {Φ : Value → World → Prop} (ks : List Nat) (T' : Facts) (hT : pickF ks T = T') (hm : pickB ops i ks (T.map (·.1)) = true) (hr : RunsTo P w E ⟨none, op, ty, pos, after, guard⟩ Φ) (hg : wants ds E guard = some true)
    (h : ∀ v w', Φ v w' → AllL T' w' ∧ HS P N ops ds T' s E w' K) : Stp P N ops ds T i ⟨none, op, ty, pos, after, guard⟩ s E w K := by
  subst hT
  refine Stp_to' hr rfl hg fun v w' hΦ => ?_
  obtain ⟨h1, h2⟩ := h v w' hΦ
  have hA := h1.all
  have hs := drop_pick hm
  exact ⟨fun p hp => hA p (hs p hp), HS_sub hs hA h2⟩
theorem HS_to0 {op : Op} {Φ : Value → World → Prop} (ks : List Nat) (T' : Facts) (hT : pickF ks T = T') (hm : pickB ops i ks (T.map (·.1)) = true) (hr : RunsTo P w E ⟨none, op, ty, pos, after, guard⟩ Φ) (hg : wants ds E guard = some true)
    (h : ∀ v w', Φ v w' → AllL T' w' ∧ HS P N ops ds T' s E w' K) : HS P N ops ds T (.loud i ⟨none, op, ty, pos, after, guard⟩ s) E w K := HS_loud (Stp_to0 ks T' hT hm hr hg h)
theorem Stp_call {op : Op} {f : FuncId} {args : Array Value} (ks : List Nat) (T' : Facts) (hT : pickF ks T = T') (hm : pickB ops i ks (T.map (·.1)) = true) (hr : Enters P w E ⟨some d, op, ty, pos, after, guard⟩ f args) (hd : Nat.blt d N = true) (hg : wants ds E guard = some true)
    (h : Calls P f args w fun e w' => ∃ v, e = .returned v ∧ AllL T' w' ∧ HS P N ops ds T' s ((d, v) :: E) w' K) : Stp P N ops ds T i ⟨some d, op, ty, pos, after, guard⟩ s E w K := by
  subst hT
  refine Stp_call' hr hd hg (h.mono fun e w' ⟨v, he, h1, h2⟩ => ?_)
  have hA := h1.all
  have hs := drop_pick hm
  exact ⟨v, he, fun p hp => hA p (hs p hp), HS_sub hs hA h2⟩
theorem HS_call {op : Op} {f : FuncId} {args : Array Value} (ks : List Nat) (T' : Facts) (hT : pickF ks T = T') (hm : pickB ops i ks (T.map (·.1)) = true) (hr : Enters P w E ⟨some d, op, ty, pos, after, guard⟩ f args) (hd : Nat.blt d N = true) (hg : wants ds E guard = some true)
    (h : Calls P f args w fun e w' => ∃ v, e = .returned v ∧ AllL T' w' ∧ HS P N ops ds T' s ((d, v) :: E) w' K) : HS P N ops ds T (.loud i ⟨some d, op, ty, pos, after, guard⟩ s) E w K := HS_loud (Stp_call ks T' hT hm hr hd hg h)
theorem Stp_call0 {op : Op} {f : FuncId} {args : Array Value} (ks : List Nat) (T' : Facts) (hT : pickF ks T = T') (hm : pickB ops i ks (T.map (·.1)) = true) (hr : Enters P w E ⟨none, op, ty, pos, after, guard⟩ f args) (hg : wants ds E guard = some true)
    (h : Calls P f args w fun e w' => ∃ v, e = .returned v ∧ AllL T' w' ∧ HS P N ops ds T' s E w' K) : Stp P N ops ds T i ⟨none, op, ty, pos, after, guard⟩ s E w K := by
  subst hT
  refine Stp_call' hr rfl hg (h.mono fun e w' ⟨v, he, h1, h2⟩ => ?_)
  have hA := h1.all
  have hs := drop_pick hm
  exact ⟨v, he, fun p hp => hA p (hs p hp), HS_sub hs hA h2⟩
theorem HS_call0 {op : Op} {f : FuncId} {args : Array Value} (ks : List Nat) (T' : Facts) (hT : pickF ks T = T') (hm : pickB ops i ks (T.map (·.1)) = true) (hr : Enters P w E ⟨none, op, ty, pos, after, guard⟩ f args) (hg : wants ds E guard = some true)
    (h : Calls P f args w fun e w' => ∃ v, e = .returned v ∧ AllL T' w' ∧ HS P N ops ds T' s E w' K) : HS P N ops ds T (.loud i ⟨none, op, ty, pos, after, guard⟩ s) E w K := HS_loud (Stp_call0 ks T' hT hm hr hg h)
end

section
variable {P : Program} {w : World} {E : Env} {dst : Option Nat} {ty : TypeId} {pos : String} {after : Array Edge} {guard : Option (Nat × Bool)} {x y s : Operand} {t t' : TypeId}

/-! ### against nil; Bools -/
theorem run_equal_of {a b : Value} {r : Bool} (h : ∀ d, (Op.equalIn (d + 1) t a b).run P w = .ok r w) : (Op.equal t a b).run P w = .ok r w := h 9999
theorem R_eqlOf {tu : TypeId} {a b : Value} {r : Bool} (hx : ev E x = some a) (hy : ev E y = some b) (hg : (eqGuard .eql t x y a b).run P w = .ok () w) (hb : binOp .eql t a b = (do pure (.bool (← Op.equal t a b)))) (h : ∀ d, (Op.equalIn (d + 1) t a b).run P w = .ok r w) :
    ∀ A N, Has N E A → (execOp A.eval ⟨dst, .binOp .eql t x y tu, ty, pos, after, guard⟩).run P w = .ok (.value (.bool r)) w := fun A N ha => by
  have h1 := run_equal_of h
  show ((do pure (.value (← (do eqGuard .eql t x y (A.eval x) (A.eval y); binOp .eql t (A.eval x) (A.eval y)))) : Sem Next)).run P w = _
  rw [ha.eval hx, ha.eval hy, hb]
  simp [hg, h1]
theorem R_neqOf {tu : TypeId} {a b : Value} {r : Bool} (hx : ev E x = some a) (hy : ev E y = some b) (hg : (eqGuard .neq t x y a b).run P w = .ok () w) (hb : binOp .neq t a b = (do pure (.bool (!(← Op.equal t a b))))) (h : ∀ d, (Op.equalIn (d + 1) t a b).run P w = .ok r w) :
    ∀ A N, Has N E A → (execOp A.eval ⟨dst, .binOp .neq t x y tu, ty, pos, after, guard⟩).run P w = .ok (.value (.bool (!r))) w := fun A N ha => by
  have h1 := run_equal_of h
  show ((do pure (.value (← (do eqGuard .neq t x y (A.eval x) (A.eval y); binOp .neq t (A.eval x) (A.eval y)))) : Sem Next)).run P w = _
  rw [ha.eval hx, ha.eval hy, hb]
  simp [hg, h1]
theorem R_ptrNil {tu : TypeId} {a : Option Addr} {e : TypeId} (hu : P.underlying t = some (.pointer e)) (hx : ev E x = some (.pointer a)) (hy : ev E y = some (.pointer none)) : Runs P w E ⟨dst, .binOp .eql t x y tu, ty, pos, after, guard⟩ (.bool a.isNone) := by
  refine R_eqlOf hx hy (by simp [eqGuard]) rfl fun d => ?_
  cases a <;> simp [Op.equalIn, run_underlying hu]
theorem R_ptrNotNil {tu : TypeId} {a : Option Addr} {e : TypeId} (hu : P.underlying t = some (.pointer e)) (hx : ev E x = some (.pointer a)) (hy : ev E y = some (.pointer none)) : Runs P w E ⟨dst, .binOp .neq t x y tu, ty, pos, after, guard⟩ (.bool (!a.isNone)) := by
  refine R_neqOf hx hy (by simp [eqGuard]) rfl fun d => ?_
  cases a <;> simp [Op.equalIn, run_underlying hu]
theorem R_boolEq {tu : TypeId} {a b : Bool} (hu : P.underlying t = some .bool) (hx : ev E x = some (.bool a)) (hy : ev E y = some (.bool b)) : Runs P w E ⟨dst, .binOp .eql t x y tu, ty, pos, after, guard⟩ (.bool (a == b)) := by
  refine R_eqlOf hx hy (by simp [eqGuard]) rfl fun d => ?_
  simp [Op.equalIn, run_underlying hu]
theorem R_boolNe {tu : TypeId} {a b : Bool} (hu : P.underlying t = some .bool) (hx : ev E x = some (.bool a)) (hy : ev E y = some (.bool b)) : Runs P w E ⟨dst, .binOp .neq t x y tu, ty, pos, after, guard⟩ (.bool (!(a == b))) := by
  refine R_neqOf hx hy (by simp [eqGuard]) rfl fun d => ?_
  simp [Op.equalIn, run_underlying hu]
theorem R_strEq {tu : TypeId} {a b : ByteArray} (hx : ev E x = some (.string a)) (hy : ev E y = some (.string b)) : Runs P w E ⟨dst, .binOp .eql t x y tu, ty, pos, after, guard⟩ (.bool (a.toList == b.toList)) := fun A N ha => by
  simp [execOp, ha.eval hx, ha.eval hy, binOp, eqGuard, Op.stringOp]
theorem R_strNe {tu : TypeId} {a b : ByteArray} (hx : ev E x = some (.string a)) (hy : ev E y = some (.string b)) : Runs P w E ⟨dst, .binOp .neq t x y tu, ty, pos, after, guard⟩ (.bool !(a.toList == b.toList)) := fun A N ha => by
  simp [execOp, ha.eval hx, ha.eval hy, binOp, eqGuard, Op.stringOp]
end
end Go.Sx
