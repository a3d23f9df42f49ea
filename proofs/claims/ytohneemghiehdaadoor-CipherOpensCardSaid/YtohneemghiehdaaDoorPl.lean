/- PLAIN: rules for the loops of the pure texts, places, bounds. -/
import Derived.Test.YtohneemghiehdaaDoorLx2
set_option linter.unusedVariables false
set_option linter.unusedSimpArgs false
namespace Go.Lx
theorem lp1_inv {S0 : Type} {body : S0 → (S0 → Prop) → Prop} {a0 : S0} (n : Nat) (I : Nat → S0 → Prop) (h0 : I 0 a0)
    (step : ∀ k, k < n → ∀ x0, I k x0 → ∀ next, (∀ y0, I (k + 1) y0 → next y0) → body x0 next) (hend : ∀ x0, I n x0 → ∀ next, body x0 next) : Lp1 body a0 :=
  ⟨fun m x0 => ∃ k, k ≤ n ∧ m = n - k ∧ I k x0, n, ⟨0, by omega, by omega, h0⟩, by
    rintro m x0 ⟨k, hk, rfl, hI⟩
    rcases Nat.lt_or_eq_of_le hk with h | rfl
    · exact step k h x0 hI _ fun y0 hy => ⟨n - (k + 1), by omega, k + 1, h, rfl, hy⟩
    · exact hend x0 hI _⟩
theorem lp2_inv {S0 S1 : Type} {body : S0 → S1 → (S0 → S1 → Prop) → Prop} {a0 : S0} {a1 : S1} (n : Nat) (I : Nat → S0 → S1 → Prop) (h0 : I 0 a0 a1)
    (step : ∀ k, k < n → ∀ x0 x1, I k x0 x1 → ∀ next, (∀ y0 y1, I (k + 1) y0 y1 → next y0 y1) → body x0 x1 next) (hend : ∀ x0 x1, I n x0 x1 → ∀ next, body x0 x1 next) : Lp2 body a0 a1 :=
  ⟨fun m x0 x1 => ∃ k, k ≤ n ∧ m = n - k ∧ I k x0 x1, n, ⟨0, by omega, by omega, h0⟩, by
    rintro m x0 x1 ⟨k, hk, rfl, hI⟩
    rcases Nat.lt_or_eq_of_le hk with h | rfl
    · exact step k h x0 x1 hI _ fun y0 y1 hy => ⟨n - (k + 1), by omega, k + 1, h, rfl, hy⟩
    · exact hend x0 x1 hI _⟩
theorem lp3_inv {S0 S1 S2 : Type} {body : S0 → S1 → S2 → (S0 → S1 → S2 → Prop) → Prop} {a0 : S0} {a1 : S1} {a2 : S2} (n : Nat) (I : Nat → S0 → S1 → S2 → Prop) (h0 : I 0 a0 a1 a2)
    (step : ∀ k, k < n → ∀ x0 x1 x2, I k x0 x1 x2 → ∀ next, (∀ y0 y1 y2, I (k + 1) y0 y1 y2 → next y0 y1 y2) → body x0 x1 x2 next) (hend : ∀ x0 x1 x2, I n x0 x1 x2 → ∀ next, body x0 x1 x2 next) : Lp3 body a0 a1 a2 :=
  ⟨fun m x0 x1 x2 => ∃ k, k ≤ n ∧ m = n - k ∧ I k x0 x1 x2, n, ⟨0, by omega, by omega, h0⟩, by
    rintro m x0 x1 x2 ⟨k, hk, rfl, hI⟩
    rcases Nat.lt_or_eq_of_le hk with h | rfl
    · exact step k h x0 x1 x2 hI _ fun y0 y1 y2 hy => ⟨n - (k + 1), by omega, k + 1, h, rfl, hy⟩
    · exact hend x0 x1 x2 hI _⟩
theorem lp4_inv {S0 S1 S2 S3 : Type} {body : S0 → S1 → S2 → S3 → (S0 → S1 → S2 → S3 → Prop) → Prop} {a0 : S0} {a1 : S1} {a2 : S2} {a3 : S3} (n : Nat) (I : Nat → S0 → S1 → S2 → S3 → Prop) (h0 : I 0 a0 a1 a2 a3)
    (step : ∀ k, k < n → ∀ x0 x1 x2 x3, I k x0 x1 x2 x3 → ∀ next, (∀ y0 y1 y2 y3, I (k + 1) y0 y1 y2 y3 → next y0 y1 y2 y3) → body x0 x1 x2 x3 next) (hend : ∀ x0 x1 x2 x3, I n x0 x1 x2 x3 → ∀ next, body x0 x1 x2 x3 next) : Lp4 body a0 a1 a2 a3 :=
  ⟨fun m x0 x1 x2 x3 => ∃ k, k ≤ n ∧ m = n - k ∧ I k x0 x1 x2 x3, n, ⟨0, by omega, by omega, h0⟩, by
    rintro m x0 x1 x2 x3 ⟨k, hk, rfl, hI⟩
    rcases Nat.lt_or_eq_of_le hk with h | rfl
    · exact step k h x0 x1 x2 x3 hI _ fun y0 y1 y2 y3 hy => ⟨n - (k + 1), by omega, k + 1, h, rfl, hy⟩
    · exact hend x0 x1 x2 x3 hI _⟩
theorem lp5_inv {S0 S1 S2 S3 S4 : Type} {body : S0 → S1 → S2 → S3 → S4 → (S0 → S1 → S2 → S3 → S4 → Prop) → Prop} {a0 : S0} {a1 : S1} {a2 : S2} {a3 : S3} {a4 : S4} (n : Nat) (I : Nat → S0 → S1 → S2 → S3 → S4 → Prop) (h0 : I 0 a0 a1 a2 a3 a4)
    (step : ∀ k, k < n → ∀ x0 x1 x2 x3 x4, I k x0 x1 x2 x3 x4 → ∀ next, (∀ y0 y1 y2 y3 y4, I (k + 1) y0 y1 y2 y3 y4 → next y0 y1 y2 y3 y4) → body x0 x1 x2 x3 x4 next) (hend : ∀ x0 x1 x2 x3 x4, I n x0 x1 x2 x3 x4 → ∀ next, body x0 x1 x2 x3 x4 next) : Lp5 body a0 a1 a2 a3 a4 :=
  ⟨fun m x0 x1 x2 x3 x4 => ∃ k, k ≤ n ∧ m = n - k ∧ I k x0 x1 x2 x3 x4, n, ⟨0, by omega, by omega, h0⟩, by
    rintro m x0 x1 x2 x3 x4 ⟨k, hk, rfl, hI⟩
    rcases Nat.lt_or_eq_of_le hk with h | rfl
    · exact step k h x0 x1 x2 x3 x4 hI _ fun y0 y1 y2 y3 y4 hy => ⟨n - (k + 1), by omega, k + 1, h, rfl, hy⟩
    · exact hend x0 x1 x2 x3 x4 hI _⟩
theorem lp6_inv {S0 S1 S2 S3 S4 S5 : Type} {body : S0 → S1 → S2 → S3 → S4 → S5 → (S0 → S1 → S2 → S3 → S4 → S5 → Prop) → Prop} {a0 : S0} {a1 : S1} {a2 : S2} {a3 : S3} {a4 : S4} {a5 : S5} (n : Nat) (I : Nat → S0 → S1 → S2 → S3 → S4 → S5 → Prop) (h0 : I 0 a0 a1 a2 a3 a4 a5)
    (step : ∀ k, k < n → ∀ x0 x1 x2 x3 x4 x5, I k x0 x1 x2 x3 x4 x5 → ∀ next, (∀ y0 y1 y2 y3 y4 y5, I (k + 1) y0 y1 y2 y3 y4 y5 → next y0 y1 y2 y3 y4 y5) → body x0 x1 x2 x3 x4 x5 next) (hend : ∀ x0 x1 x2 x3 x4 x5, I n x0 x1 x2 x3 x4 x5 → ∀ next, body x0 x1 x2 x3 x4 x5 next) : Lp6 body a0 a1 a2 a3 a4 a5 :=
  ⟨fun m x0 x1 x2 x3 x4 x5 => ∃ k, k ≤ n ∧ m = n - k ∧ I k x0 x1 x2 x3 x4 x5, n, ⟨0, by omega, by omega, h0⟩, by
    rintro m x0 x1 x2 x3 x4 x5 ⟨k, hk, rfl, hI⟩
    rcases Nat.lt_or_eq_of_le hk with h | rfl
    · exact step k h x0 x1 x2 x3 x4 x5 hI _ fun y0 y1 y2 y3 y4 y5 hy => ⟨n - (k + 1), by omega, k + 1, h, rfl, hy⟩
    · exact hend x0 x1 x2 x3 x4 x5 hI _⟩
theorem lp7_inv {S0 S1 S2 S3 S4 S5 S6 : Type} {body : S0 → S1 → S2 → S3 → S4 → S5 → S6 → (S0 → S1 → S2 → S3 → S4 → S5 → S6 → Prop) → Prop} {a0 : S0} {a1 : S1} {a2 : S2} {a3 : S3} {a4 : S4} {a5 : S5} {a6 : S6} (n : Nat) (I : Nat → S0 → S1 → S2 → S3 → S4 → S5 → S6 → Prop) (h0 : I 0 a0 a1 a2 a3 a4 a5 a6)
    (step : ∀ k, k < n → ∀ x0 x1 x2 x3 x4 x5 x6, I k x0 x1 x2 x3 x4 x5 x6 → ∀ next, (∀ y0 y1 y2 y3 y4 y5 y6, I (k + 1) y0 y1 y2 y3 y4 y5 y6 → next y0 y1 y2 y3 y4 y5 y6) → body x0 x1 x2 x3 x4 x5 x6 next) (hend : ∀ x0 x1 x2 x3 x4 x5 x6, I n x0 x1 x2 x3 x4 x5 x6 → ∀ next, body x0 x1 x2 x3 x4 x5 x6 next) : Lp7 body a0 a1 a2 a3 a4 a5 a6 :=
  ⟨fun m x0 x1 x2 x3 x4 x5 x6 => ∃ k, k ≤ n ∧ m = n - k ∧ I k x0 x1 x2 x3 x4 x5 x6, n, ⟨0, by omega, by omega, h0⟩, by
    rintro m x0 x1 x2 x3 x4 x5 x6 ⟨k, hk, rfl, hI⟩
    rcases Nat.lt_or_eq_of_le hk with h | rfl
    · exact step k h x0 x1 x2 x3 x4 x5 x6 hI _ fun y0 y1 y2 y3 y4 y5 y6 hy => ⟨n - (k + 1), by omega, k + 1, h, rfl, hy⟩
    · exact hend x0 x1 x2 x3 x4 x5 x6 hI _⟩
/-- what is known of bytes that come in -/
def Wb (x : List UInt8) : Prop := x.length ≤ 9223372036854775807 ∧ ∀ y ∈ x, True
theorem At.nat {α : Type} {xs : List α} {k : Nat} {x : α} (h : xs[k]? = some x) : At xs (k : Int) x := ⟨Int.natCast_nonneg _, by simpa using h⟩
theorem At.get {α : Type} {xs : List α} {k : Nat} (h : k < xs.length) : At xs (k : Int) xs[k] := At.nat (List.getElem?_eq_getElem h)
theorem At.nat_iff {α : Type} {xs : List α} {k : Nat} {x : α} : At xs (k : Int) x ↔ xs[k]? = some x := ⟨fun h => by simpa using h.2, At.nat⟩
theorem cut_nat {α : Type} (xs : List α) (a b : Nat) : cut xs (a : Int) (b : Int) = (xs.drop a).take (b - a) := by simp [cut]
theorem cut_all {α : Type} (xs : List α) : cut xs 0 (xs.length : Int) = xs := by simp [cut]
theorem cut_front {α : Type} (xs : List α) (n : Nat) : cut xs 0 (n : Int) = xs.take n := by simp [cut]
theorem cut_back {α : Type} (xs : List α) (n : Nat) : cut xs (n : Int) (xs.length : Int) = xs.drop n := by simp [cut]; rw [List.take_of_length_le (by simp)]
theorem put_nat {α : Type} (xs : List α) (k : Nat) (x : α) : put xs (k : Int) x = xs.set k x := by simp [put]
theorem take_succ' {α : Type} {xs : List α} {k : Nat} (h : k < xs.length) : xs.take (k + 1) = xs.take k ++ [xs[k]] := List.take_succ_eq_append_getElem h
/-- a guard, decided -/
theorem guard {p : Prop} {A B : Prop} (h : p → A) (k : ¬ p → B) : (p → A) ∧ (¬ p → B) := ⟨h, k⟩
end Go.Lx
