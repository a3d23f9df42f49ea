/- PLAIN: UTF-8, by the table and by the decoder. -/
import Derived.Test.YtdnpdljnjoegiaaDoorP2p
import Derived.Test.YtdnpdljnjoegiaaDoorP2back
set_option linter.unusedVariables false
set_option linter.unusedSimpArgs false
namespace Go.Lx
def at_ (b : List UInt8) (i : Nat) : Nat := (b.getD i 0).toNat
def inR (b : List UInt8) (i lo hi : Nat) : Prop := lo ≤ at_ b i ∧ at_ b i ≤ hi
instance (b : List UInt8) (i lo hi : Nat) : Decidable (inR b i lo hi) := inferInstanceAs (Decidable (_ ∧ _))
def ldLo (x : Nat) : Nat := if x = 224 then 160 else if x = 240 then 144 else 128
def ldHi (x : Nat) : Nat := if x = 237 then 159 else if x = 244 then 143 else 191
def ldK (x : Nat) : Nat := if x < 128 then 1 else if 194 ≤ x ∧ x ≤ 223 then 2 else if 224 ≤ x ∧ x ≤ 239 then 3 else if 240 ≤ x ∧ x ≤ 244 then 4 else 0
/-- how many bytes the first code point has; 0: there is none -/
def stepR (b : List UInt8) : Nat :=
  let x := at_ b 0
  if ldK x = 0 then 0 else if 2 ≤ ldK x ∧ ¬ inR b 1 (ldLo x) (ldHi x) then 0 else if 3 ≤ ldK x ∧ ¬ inR b 2 128 191 then 0 else if 4 ≤ ldK x ∧ ¬ inR b 3 128 191 then 0 else ldK x
theorem get_list (l : List UInt8) (k : Nat) : (⟨l.toArray⟩ : ByteArray).get! k = l.getD k 0 := by
  show l.toArray[k]! = _
  rw [List.getElem!_toArray, List.getElem!_eq_getElem?_getD, List.getD_eq_getElem?_getD]
  rfl
theorem size_list (l : List UInt8) : (⟨l.toArray⟩ : ByteArray).size = l.length := by simp [ByteArray.size]
theorem at_big {b : List UInt8} {i : Nat} (h : at_ b i ≠ 0) : i < b.length := by
  rcases Nat.lt_or_ge i b.length with h1 | h1
  · exact h1
  · exfalso; apply h; rw [at_, List.getD_eq_getElem?_getD, List.getElem?_eq_none h1]; rfl
theorem at_lt (b : List UInt8) (i : Nat) : at_ b i < 256 := (b.getD i 0).toNat_lt
theorem decode_at (l : List UInt8) (p : Nat) : Utf8.decode ⟨l.toArray⟩ p = Utf8.decode ⟨(l.drop p).toArray⟩ 0 := by
  have hg : ∀ k, (⟨l.toArray⟩ : ByteArray).get! (p + k) = (⟨(l.drop p).toArray⟩ : ByteArray).get! (0 + k) := by
    intro k
    rw [get_list, get_list, List.getD_eq_getElem?_getD, List.getD_eq_getElem?_getD, List.getElem?_drop, Nat.zero_add]
  have hs : ∀ k, (p + k < (⟨l.toArray⟩ : ByteArray).size) = (0 + k < (⟨(l.drop p).toArray⟩ : ByteArray).size) := by
    intro k
    rw [size_list, size_list, List.length_drop]
    exact propext ⟨fun h => by omega, fun h => by omega⟩
  unfold Utf8.decode
  simp only [hg, hs]
def decX (x0 x1 x2 x3 : Nat) : Nat × Nat :=
  if x0 < 128 then (x0, 1)
  else if x0 / 32 = 6 ∧ (128 ≤ x1 ∧ x1 ≤ 191) then (if (x0 % 32) * 64 + x1 % 64 ≥ 128 then ((x0 % 32) * 64 + x1 % 64, 2) else (65533, 1))
  else if x0 / 16 = 14 ∧ (128 ≤ x1 ∧ x1 ≤ 191) ∧ (128 ≤ x2 ∧ x2 ≤ 191) then
    (if (x0 % 16) * 4096 + (x1 % 64) * 64 + x2 % 64 ≥ 2048 ∧ ((x0 % 16) * 4096 + (x1 % 64) * 64 + x2 % 64 < 55296 ∨ 57344 ≤ (x0 % 16) * 4096 + (x1 % 64) * 64 + x2 % 64 ∧ (x0 % 16) * 4096 + (x1 % 64) * 64 + x2 % 64 ≤ 1114111) then ((x0 % 16) * 4096 + (x1 % 64) * 64 + x2 % 64, 3) else (65533, 1))
  else if x0 / 8 = 30 ∧ (128 ≤ x1 ∧ x1 ≤ 191) ∧ (128 ≤ x2 ∧ x2 ≤ 191) ∧ (128 ≤ x3 ∧ x3 ≤ 191) then
    (if (x0 % 8) * 262144 + (x1 % 64) * 4096 + (x2 % 64) * 64 + x3 % 64 ≥ 65536 ∧ ((x0 % 8) * 262144 + (x1 % 64) * 4096 + (x2 % 64) * 64 + x3 % 64 < 55296 ∨ 57344 ≤ (x0 % 8) * 262144 + (x1 % 64) * 4096 + (x2 % 64) * 64 + x3 % 64 ∧ (x0 % 8) * 262144 + (x1 % 64) * 4096 + (x2 % 64) * 64 + x3 % 64 ≤ 1114111) then ((x0 % 8) * 262144 + (x1 % 64) * 4096 + (x2 % 64) * 64 + x3 % 64, 4) else (65533, 1))
  else (65533, 1)
theorem valid_nat (c : Nat) : Utf8.valid (c : Int) = decide (c < 55296 ∨ 57344 ≤ c ∧ c ≤ 1114111) := by
  unfold Utf8.valid
  rw [Bool.eq_iff_iff]
  simp only [Bool.or_eq_true, Bool.and_eq_true, decide_eq_true_eq]
  omega
theorem decode_X (b : List UInt8) : Utf8.decode ⟨b.toArray⟩ 0 = decX (at_ b 0) (at_ b 1) (at_ b 2) (at_ b 3) := by
  have e : ∀ k, ((⟨b.toArray⟩ : ByteArray).get! (0 + k)).toNat = at_ b k := fun k => by rw [get_list, Nat.zero_add]; rfl
  have c : ∀ k, (0 < k → k < 4 → (decide (0 + k < (⟨b.toArray⟩ : ByteArray).size) && at_ b k / 64 == 2) = decide (128 ≤ at_ b k ∧ at_ b k ≤ 191)) := by
    intro k hk hk4
    have h := at_lt b k
    have hb := at_big (b := b) (i := k)
    rw [size_list]
    by_cases hc : 128 ≤ at_ b k ∧ at_ b k ≤ 191
    · have := hb (by omega)
      have hd : at_ b k / 64 = 2 := by omega
      simp [hc, this, hd]
    · have hd : at_ b k / 64 ≠ 2 := by omega
      simp [hc, hd]
  unfold Utf8.decode decX
  simp only [e, c 1 (by decide) (by decide), c 2 (by decide) (by decide), c 3 (by decide) (by decide), valid_nat, Bool.and_eq_true, decide_eq_true_eq, beq_iff_eq, Utf8.runeError, and_assoc]
def stepX (x0 x1 x2 x3 : Nat) : Nat :=
  if ldK x0 = 0 then 0 else if 2 ≤ ldK x0 ∧ ¬ (ldLo x0 ≤ x1 ∧ x1 ≤ ldHi x0) then 0 else if 3 ≤ ldK x0 ∧ ¬ (128 ≤ x2 ∧ x2 ≤ 191) then 0 else if 4 ≤ ldK x0 ∧ ¬ (128 ≤ x3 ∧ x3 ≤ 191) then 0 else ldK x0
theorem step_X (b : List UInt8) : stepR b = stepX (at_ b 0) (at_ b 1) (at_ b 2) (at_ b 3) := rfl
/-- of the error, or of n bytes -/
def Ok (p : Nat × Nat) (n : Nat) : Prop := (n = 0 → p = (65533, 1)) ∧ (n ≠ 0 → p.2 = n ∧ ¬ (p.1 = 65533 ∧ p.2 = 1))
theorem Ok.err : Ok (65533, 1) 0 := ⟨fun _ => rfl, fun h => absurd rfl h⟩
theorem Ok.iff {A B : Prop} [Decidable A] [Decidable B] {c n : Nat} (hn : n ≠ 0) (h1 : n ≠ 1) (h : A ↔ B) : Ok (if A then (c, n) else (65533, 1)) (if B then n else 0) := by
  by_cases ha : A
  · rw [if_pos ha, if_pos (h.1 ha)]
    exact ⟨fun k => absurd k hn, fun _ => ⟨rfl, fun k => h1 k.2⟩⟩
  · rw [if_neg ha, if_neg (fun k => ha (h.2 k))]
    exact Ok.err
theorem step2 {x0 x1 x2 x3 : Nat} (h : 194 ≤ x0 ∧ x0 ≤ 223) : stepX x0 x1 x2 x3 = if 128 ≤ x1 ∧ x1 ≤ 191 then 2 else 0 := by
  have k : ldK x0 = 2 := by rw [ldK, if_neg (by omega), if_pos h]
  have l : ldLo x0 = 128 := by rw [ldLo, if_neg (by omega), if_neg (by omega)]
  have m : ldHi x0 = 191 := by rw [ldHi, if_neg (by omega), if_neg (by omega)]
  rw [stepX, k, l, m]
  by_cases d : 128 ≤ x1 ∧ x1 ≤ 191 <;> simp [d]
theorem step3 {x0 x1 x2 x3 : Nat} (h : 224 ≤ x0 ∧ x0 ≤ 239) : stepX x0 x1 x2 x3 = if (ldLo x0 ≤ x1 ∧ x1 ≤ ldHi x0) ∧ (128 ≤ x2 ∧ x2 ≤ 191) then 3 else 0 := by
  have k : ldK x0 = 3 := by rw [ldK, if_neg (by omega), if_neg (by omega), if_pos h]
  rw [stepX, k]
  by_cases d : ldLo x0 ≤ x1 ∧ x1 ≤ ldHi x0 <;> by_cases e : 128 ≤ x2 ∧ x2 ≤ 191 <;> simp [d, e]
theorem step4 {x0 x1 x2 x3 : Nat} (h : 240 ≤ x0 ∧ x0 ≤ 244) : stepX x0 x1 x2 x3 = if (ldLo x0 ≤ x1 ∧ x1 ≤ ldHi x0) ∧ (128 ≤ x2 ∧ x2 ≤ 191) ∧ (128 ≤ x3 ∧ x3 ≤ 191) then 4 else 0 := by
  have k : ldK x0 = 4 := by rw [ldK, if_neg (by omega), if_neg (by omega), if_neg (by omega), if_pos h]
  rw [stepX, k]
  by_cases d : ldLo x0 ≤ x1 ∧ x1 ≤ ldHi x0 <;> by_cases e : 128 ≤ x2 ∧ x2 ≤ 191 <;> by_cases f : 128 ≤ x3 ∧ x3 ≤ 191 <;> simp [d, e, f]
theorem step0 {x0 x1 x2 x3 : Nat} (h : ldK x0 = 0) : stepX x0 x1 x2 x3 = 0 := by rw [stepX, if_pos h]
theorem ite_and {α : Type} {A B : Prop} [Decidable A] [Decidable B] (x y : α) : (if A then (if B then x else y) else y) = if A ∧ B then x else y := by
  by_cases a : A <;> by_cases b : B <;> simp [a, b]
theorem dec_step (x0 x1 x2 x3 : Nat) (h0 : x0 < 256) (h1 : x1 < 256) (h2 : x2 < 256) (h3 : x3 < 256) : Ok (decX x0 x1 x2 x3) (stepX x0 x1 x2 x3) := by
  by_cases c1 : x0 < 128
  · have k : stepX x0 x1 x2 x3 = 1 := by simp [stepX, ldK, c1]
    rw [k, decX, if_pos c1]
    exact ⟨fun h => (by cases h), fun _ => ⟨rfl, fun h => absurd (show x0 = 65533 from h.1) (by omega)⟩⟩
  by_cases c2 : x0 / 32 = 6
  · have hd : decX x0 x1 x2 x3 = if (128 ≤ x1 ∧ x1 ≤ 191) ∧ (x0 % 32) * 64 + x1 % 64 ≥ 128 then ((x0 % 32) * 64 + x1 % 64, 2) else (65533, 1) := by
      have e1 : ¬ x0 / 16 = 14 := by omega
      have e2 : ¬ x0 / 8 = 30 := by omega
      rw [decX, if_neg c1]
      by_cases d : 128 ≤ x1 ∧ x1 ≤ 191
      · rw [if_pos ⟨c2, d⟩]; simp only [d, and_self, true_and]
      · rw [if_neg (fun h : x0 / 32 = 6 ∧ _ => d h.2), if_neg (fun h => e1 h.1), if_neg (fun h => e2 h.1), if_neg (fun h => d h.1)]
    by_cases c3 : 194 ≤ x0 ∧ x0 ≤ 223
    · rw [hd, step2 c3]
      exact Ok.iff (by decide) (by decide) ⟨fun h => h.1, fun h => ⟨h, by omega⟩⟩
    · rw [hd, step0 (by rw [ldK, if_neg c1, if_neg c3, if_neg (by omega), if_neg (by omega)]), if_neg (fun h => by omega)]
      exact Ok.err
  by_cases c3 : x0 / 16 = 14
  · have hd : decX x0 x1 x2 x3 = if ((128 ≤ x1 ∧ x1 ≤ 191) ∧ (128 ≤ x2 ∧ x2 ≤ 191)) ∧ ((x0 % 16) * 4096 + (x1 % 64) * 64 + x2 % 64 ≥ 2048 ∧ ((x0 % 16) * 4096 + (x1 % 64) * 64 + x2 % 64 < 55296 ∨ 57344 ≤ (x0 % 16) * 4096 + (x1 % 64) * 64 + x2 % 64 ∧ (x0 % 16) * 4096 + (x1 % 64) * 64 + x2 % 64 ≤ 1114111)) then ((x0 % 16) * 4096 + (x1 % 64) * 64 + x2 % 64, 3) else (65533, 1) := by
      have e2 : ¬ x0 / 8 = 30 := by omega
      rw [decX, if_neg c1, if_neg (fun h => c2 h.1)]
      by_cases d : (128 ≤ x1 ∧ x1 ≤ 191) ∧ (128 ≤ x2 ∧ x2 ≤ 191)
      · rw [if_pos ⟨c3, d⟩]; simp only [d, and_self, true_and]
      · rw [if_neg (fun h : x0 / 16 = 14 ∧ _ => d h.2), if_neg (fun h => e2 h.1), if_neg (fun h => d h.1)]
    rw [hd, step3 (by omega)]
    refine Ok.iff (by decide) (by decide) ?_
    unfold ldLo ldHi
    by_cases a1 : x0 = 224
    · subst a1; simp; omega
    · by_cases a2 : x0 = 237
      · subst a2; simp; omega
      · have a3 : ¬ x0 = 240 := by omega
        have a4 : ¬ x0 = 244 := by omega
        rw [if_neg a1, if_neg a2, if_neg a3, if_neg a4]
        omega
  by_cases c4 : x0 / 8 = 30
  · have hd : decX x0 x1 x2 x3 = if ((128 ≤ x1 ∧ x1 ≤ 191) ∧ (128 ≤ x2 ∧ x2 ≤ 191) ∧ (128 ≤ x3 ∧ x3 ≤ 191)) ∧ ((x0 % 8) * 262144 + (x1 % 64) * 4096 + (x2 % 64) * 64 + x3 % 64 ≥ 65536 ∧ ((x0 % 8) * 262144 + (x1 % 64) * 4096 + (x2 % 64) * 64 + x3 % 64 < 55296 ∨ 57344 ≤ (x0 % 8) * 262144 + (x1 % 64) * 4096 + (x2 % 64) * 64 + x3 % 64 ∧ (x0 % 8) * 262144 + (x1 % 64) * 4096 + (x2 % 64) * 64 + x3 % 64 ≤ 1114111)) then ((x0 % 8) * 262144 + (x1 % 64) * 4096 + (x2 % 64) * 64 + x3 % 64, 4) else (65533, 1) := by
      rw [decX, if_neg c1, if_neg (fun h => c2 h.1), if_neg (fun h => c3 h.1)]
      by_cases d : (128 ≤ x1 ∧ x1 ≤ 191) ∧ (128 ≤ x2 ∧ x2 ≤ 191) ∧ (128 ≤ x3 ∧ x3 ≤ 191)
      · rw [if_pos ⟨c4, d⟩]; simp only [d, and_self, true_and]
      · rw [if_neg (fun h : x0 / 8 = 30 ∧ _ => d h.2), if_neg (fun h => d h.1)]
    by_cases c5 : x0 ≤ 244
    · rw [hd, step4 (by omega)]
      refine Ok.iff (by decide) (by decide) ?_
      unfold ldLo ldHi
      by_cases a1 : x0 = 240
      · subst a1; simp; omega
      · by_cases a2 : x0 = 244
        · subst a2; simp; omega
        · have a3 : ¬ x0 = 224 := by omega
          have a4 : ¬ x0 = 237 := by omega
          rw [if_neg a1, if_neg a2, if_neg a3, if_neg a4]
          omega
    · rw [hd, step0 (by rw [ldK, if_neg c1, if_neg (by omega), if_neg (by omega), if_neg (by omega)]), if_neg (fun h => by omega)]
      exact Ok.err
  · rw [decX, if_neg c1, if_neg (fun h => c2 h.1), if_neg (fun h => c3 h.1), if_neg (fun h => c4 h.1), step0 (by rw [ldK, if_neg c1, if_neg (by omega), if_neg (by omega), if_neg (by omega)])]
    exact Ok.err
theorem decode_Ok (b : List UInt8) : Ok (Utf8.decode ⟨b.toArray⟩ 0) (stepR b) := by
  rw [decode_X, step_X]
  exact dec_step _ _ _ _ (at_lt b 0) (at_lt b 1) (at_lt b 2) (at_lt b 3)
end Go.Lx
