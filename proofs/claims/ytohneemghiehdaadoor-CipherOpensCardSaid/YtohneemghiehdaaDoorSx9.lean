/- SX, ninth part: built values, copies, noughts appended. -/
import Derived.Test.YtohneemghiehdaaDoorSx8
set_option linter.unusedVariables false
set_option linter.unusedSimpArgs false
namespace Go.Sx
open Go

/-- the places of a struct's or array's parts: offset, cells -/
def partPl (P : Program) (t : TypeId) : Option (List (Nat × Nat)) := match P.underlying t with
  | some (.struct fs) => fs.toList.mapM fun f => (sz P f.type).map fun n => (f.offset, n)
  | some (.array n e) => (sz P e).map fun s => (List.range n).map fun i => (i * s, s)
  | _ => none

def fillV : List Value → List (Nat × Nat) → List Value → Option (List Value)
  | cs, [], [] => some cs
  | cs, (o, n) :: pl, v :: vs => if v.cells.size = n ∧ o + n ≤ cs.length then fillV (over cs o v.cells.toList) pl vs else none
  | _, _, _ => none

theorem over_nil (cs : List Value) (o : Nat) : over cs o [] = cs := by simp [over]
theorem over_length (cs : List Value) (o : Nat) (vs : List Value) (h : o + vs.length ≤ cs.length) : (over cs o vs).length = cs.length := by
  simp only [over, List.length_append, List.length_take, List.length_drop]; omega
theorem over_cons (cs : List Value) (o : Nat) (v : Value) (vs : List Value) (h : o + (vs.length + 1) ≤ cs.length) : over (cs.set o v) (o + 1) vs = over cs o (v :: vs) := by
  have := list_seg_step cs o v vs h
  simp only [over, List.length_cons]
  rw [← this]

theorem foldl_set : ∀ (vs : List Value) (k off : Nat) (cs : List Value), off + k + vs.length ≤ cs.length →
    ((vs.zipIdx k).foldl (fun (c : Array Value) (p : Value × Nat) => c.setIfInBounds (off + p.2) p.1) cs.toArray) = (over cs (off + k) vs).toArray
  | [], k, off, cs, _ => by simp [over_nil]
  | v :: vs, k, off, cs, h => by
    rw [List.zipIdx_cons, List.foldl_cons]
    have h' : off + k + (vs.length + 1) ≤ cs.length := by simpa using h
    have e : cs.toArray.setIfInBounds (off + k) v = (cs.set (off + k) v).toArray := by simp
    rw [e, foldl_set vs (k + 1) off (cs.set (off + k) v) (by simp; omega), ← Nat.add_assoc, over_cons cs (off + k) v vs h']

theorem fill_spec (place : Nat → Option (Nat × Nat)) : ∀ (parts : List (Nat × Value)) (pl : List (Nat × Nat)) (cs cs' : List Value),
    parts.map (fun p => place p.1) = pl.map some → fillV cs pl (parts.map (·.2)) = some cs' → Instr.fill place cs.toArray parts = some cs'.toArray
  | [], [], cs, cs', _, h => by simp [fillV] at h; subst h; rfl
  | [], _ :: _, _, _, hp, _ => by simp at hp
  | _ :: _, [], _, _, hp, _ => by simp at hp
  | (i, v) :: parts, (o, n) :: pl, cs, cs', hp, h => by
    simp only [List.map_cons, List.cons.injEq] at hp
    simp only [List.map_cons, fillV] at h
    split at h
    · rename_i hc
      unfold Instr.fill
      rw [hp.1]
      have h1 : (v.cells.size ≠ n || o + v.cells.size > cs.toArray.size) = false := by
        simp [hc.1]; omega
      simp only [h1, Bool.false_eq_true, if_false]
      have h2 := foldl_set v.cells.toList 0 o cs (by simp [hc.1]; omega)
      rw [Nat.add_zero] at h2
      have h3 : v.cells.zipIdx.foldl (fun (c : Array Value) (p : Value × Nat) => c.setIfInBounds (o + p.2) p.1) cs.toArray = (over cs o v.cells.toList).toArray := by
        rw [← h2, ← Array.foldl_toList]
        simp
      rw [h3]
      exact fill_spec place parts pl _ _ hp.2 h
    · cases h

section
variable {P : Program} {w : World} {E : Env} {dst : Option Nat} {ty : TypeId} {pos : String} {after : Array Edge} {guard : Option (Nat × Bool)} {x y s : Operand} {t t' : TypeId}

theorem run_mapM_pl {w : World} : ∀ (fs : List Field) (pl : List (Nat × Nat)), (fs.mapM fun f => (sz P f.type).map fun n => (f.offset, n)) = some pl →
    (fs.mapM (m := Sem) fun f => do pure (f.offset, ← sizeOf f.type)).run P w = .ok pl w
  | [], pl, h => by simp at h; subst h; rfl
  | f :: fs, pl, h => by
    simp only [List.mapM_cons, Option.bind_eq_bind, Option.bind_eq_some_iff] at h
    obtain ⟨a, ha, l, hl, h⟩ := h
    simp only [Option.pure_def, Option.some.injEq] at h
    subst h
    cases hs : sz P f.type with
    | none => rw [hs] at ha; cases ha
    | some n =>
      rw [hs] at ha
      simp at ha
      subst ha
      have ih := run_mapM_pl (w := w) fs l hl
      rw [List.mapM_cons, Sem.run_bind]
      have h1 : (do pure (f.offset, ← sizeOf f.type) : Sem (Nat × Nat)).run P w = .ok (f.offset, n) w := by simp [run_sizeOf hs]
      rw [h1, Result.andThen_ok, Sem.run_bind, ih, Result.andThen_ok]
      rfl

theorem evL_length {E : Env} : ∀ (xs : List Operand) (vs : List Value), evL E xs = some vs → vs.length = xs.length
  | [], vs, h => by simp [evL] at h; subst h; rfl
  | x :: xs, vs, h => by
    simp only [evL] at h
    split at h
    · rename_i v vs' hv hvs
      cases h
      simp [evL_length xs vs' hvs]
    · cases h

theorem parts_eval {N : Nat} {a : Act} (ha : Has N E a) : ∀ (parts : List (Nat × Operand)) (vs : List Value), evL E (parts.map (·.2)) = some vs → parts.map (fun p => (p.1, a.eval p.2)) = (parts.map (·.1)).zip vs
  | [], vs, h => by simp
  | (i, x) :: parts, vs, h => by
    simp only [List.map_cons, evL] at h
    split at h
    · rename_i v vs' hv hvs
      cases h
      simp only [List.map_cons, List.zip_cons_cons, ha.eval hv, parts_eval ha parts vs' hvs]
    · cases h

theorem R_build {parts : List (Nat × Operand)} {zs : List Value} {pls pl : List (Nat × Nat)} {vs cs : List Value} (hz : zr P t = some zs) (hp : partPl P t = some pls) (hpl : (parts.map (·.1)).map (fun i => pls[i]?) = pl.map some) (hv : evL E (parts.map (·.2)) = some vs)
    (hc : fillV zs pl vs = some cs) : Runs P w E ⟨dst, .build t parts.toArray, ty, pos, after, guard⟩ (.agg cs.toArray) := fun a N ha => by
  unfold zr at hz
  cases hzv : (P.info? t).bind (·.zero) with
  | none => rw [hzv] at hz; cases hz
  | some z =>
    rw [hzv] at hz
    simp at hz
    subst hz
    have hzero := run_zeroValue' (P := P) (w := w) (t := t) hzv
    have hpe := parts_eval ha parts vs hv
    have hl : (parts.map (·.1)).length = vs.length := by rw [evL_length _ _ hv]; simp
    have hz2 : ((parts.map (·.1)).zip vs).map (·.2) = vs := List.map_snd_zip (by omega)
    have hz1 : ((parts.map (·.1)).zip vs).map (·.1) = parts.map (·.1) := List.map_fst_zip (by omega)
    suffices h : (Instr.build t (parts.toArray.map fun (i, x) => (i, a.eval x))).run P w = .ok (.agg cs.toArray) w by
      simp only [execOp, Sem.run_bind]
      rw [h]
      rfl
    have hparts : (parts.toArray.map fun (i, x) => (i, a.eval x)).toList = (parts.map (·.1)).zip vs := by rw [← hpe]; simp
    unfold Instr.build
    simp only [Sem.run_bind, hzero, Result.andThen_ok, hparts]
    unfold partPl at hp
    split at hp
    · rename_i fs hu
      have hm := run_mapM_pl (w := w) fs.toList pls hp
      have hm' : (fs.mapM (m := Sem) fun f => do pure (f.offset, ← sizeOf f.type)).run P w = .ok pls.toArray w := by
        rw [← Array.toArray_toList (xs := fs), List.mapM_toArray]
        show Sem.run P (_ >>= fun (l : List (Nat × Nat)) => pure l.toArray) w = _
        rw [Sem.run_bind, hm]
        rfl
      have hf := fill_spec (fun i => pls.toArray[i]?) ((parts.map (·.1)).zip vs) pl z.cells.toList cs (by
        rw [← hpl]
        conv => rhs; rw [← hz1, List.map_map]
        apply List.map_congr_left
        intro i hi
        simp) (by rw [hz2]; exact hc)
      rw [run_underlying hu]
      simp only [Result.andThen_ok, Sem.run_bind, hm']
      rw [show z.cells = z.cells.toList.toArray by simp, hf]
      rfl
    · rename_i n e hu
      cases hs : sz P e with
      | none => rw [hs] at hp; cases hp
      | some sz0 =>
        rw [hs] at hp
        simp at hp
        subst hp
        have hf := fill_spec (fun i => some (i * sz0, sz0)) ((parts.map (·.1)).zip vs) pl z.cells.toList cs (by
          rw [← hpl]
          conv => rhs; rw [← hz1, List.map_map]
          apply List.map_congr_left
          intro i hi0
          have hi : i.1 ∈ parts.map (·.1) := by rw [← hz1]; exact List.mem_map_of_mem hi0
          show some (i.1 * sz0, sz0) = (List.map (fun i => (i * sz0, sz0)) (List.range n))[i.1]?
          generalize i.1 = i at hi
          have hh : (fun i => ((List.range n).map fun i => (i * sz0, sz0))[i]?) i ∈ pl.map some := by rw [← hpl]; exact List.mem_map_of_mem hi
          obtain ⟨q, _, hq⟩ := List.mem_map.1 hh
          by_cases hin : i < n
          · simp [hin]
          · exfalso
            have hq' : (List.map (fun i => (i * sz0, sz0)) (List.range n))[i]? = some q := hq.symm
            rw [List.getElem?_eq_none (by simpa using hin)] at hq'
            cases hq') (by rw [hz2]; exact hc)
        rw [run_underlying hu]
        simp only [Result.andThen_ok, Sem.run_bind, run_sizeOf hs]
        rw [show z.cells = z.cells.toList.toArray by simp, hf]
        rfl
    · cases hp

/-- copy of one-cell elements into a block -/
theorem R_copy {e g o dLen dCap sLen sCap : Nat} {tg : TypeId} {a0 : Addr} {cs ys : List Value} {dT sT : TypeId} (hu : P.underlying dT = some (.slice e)) (hs : sz P e = some 1)
    (hx : ev E x = some (.slice (some ⟨g, o, none⟩) dLen dCap)) (hy : ev E y = some (.slice (some a0) sLen sCap)) (hB : Blk w g tg cs) (hR : Rd w (some a0) ys) (hn : ys.length = min sLen dLen) (hfit : o + ys.length ≤ cs.length) (h1 : ys.all (·.oneCell') = true) :
    RunsTo P w E ⟨dst, .call { callee := .builtin .copy, args := #[x, y], argTypes := #[dT, sT] }, ty, pos, after, guard⟩ (fun u w' => u = vi ys.length ∧ Blk w' g tg (over cs o ys) ∧ Fr [g] w w') := fun a N hA => by
  have hr := run_copy_row (P := P) w dT sT ty e g o dLen dCap a0 sLen sCap cs.toArray tg ys hu hs hB hn hR.cells (by simpa using hfit) (one_of h1)
  refine ⟨_, _, ⟨rfl, blk_setRow hB, fr_setRow w g _⟩, .inl ?_⟩
  simp [execOp, resolve, invoke, builtin, hA.eval hx, hA.eval hy, hr, goInt, over]
end
section
variable {P : Program} {w : World} {E : Env} {dst : Option Nat} {ty : TypeId} {pos : String} {after : Array Edge} {guard : Option (Nat × Bool)} {x y : Operand} {t : TypeId}
/-- an array as a slice -/
theorem R_sliceAll {e sz0 len : Nat} {b o : Nat} (hu : P.underlying t = some (.array len e)) (hs : sz P e = some sz0) (hx : ev E x = some (.pointer (some ⟨b, o, none⟩))) :
    Runs P w E ⟨dst, .slice t x none none none, ty, pos, after, guard⟩ (.slice (some ⟨b, o, none⟩) len len) := by
  have h := R_sliceArr (w := w) (dst := dst) (ty := ty) (pos := pos) (after := after) (guard := guard) (lo := none) (hi := none) (l := 0) (h := len) hu hs hx rfl rfl (Nat.zero_le _) (Nat.le_refl _)
  have e1 : (if len = 0 then (⟨b, o, none⟩ : Addr) else ⟨b, o + 0 * sz0, none⟩) = ⟨b, o, none⟩ := by split <;> simp
  rw [e1] at h
  simpa using h
end
end Go.Sx
