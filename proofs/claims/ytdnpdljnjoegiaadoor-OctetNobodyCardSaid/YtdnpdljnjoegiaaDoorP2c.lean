/- PLAIN: a reader. -/
import Derived.Test.YtdnpdljnjoegiaaDoorP2b
import Derived.Test.YtdnpdljnjoegiaaDoorOtCp
set_option linter.unusedVariables false
set_option linter.unusedSimpArgs false
namespace Go.Lx
/-- a reader over b, at a place, with an error -/
def rdr (b : List UInt8) (p : Nat) (e : Int) : octet_Reader := ⟨⟨b, p, e, true⟩⟩
def numOf (b : List UInt8) : Nat := b.foldl (fun n x => 256 * n + x.toNat) 0
theorem numOf_snoc (b : List UInt8) (x : UInt8) : numOf (b ++ [x]) = 256 * numOf b + x.toNat := by simp [numOf, List.foldl_append]
theorem numOf_lt' : ∀ (b : List UInt8) (a : Nat), b.foldl (fun n x => 256 * n + x.toNat) a < (a + 1) * 256 ^ b.length
  | [], a => by simp
  | x :: b, a => by
    have h1 := numOf_lt' b (256 * a + x.toNat)
    have h2 := x.toNat_lt
    rw [List.foldl_cons, List.length_cons, Nat.pow_succ, Nat.mul_comm (256 ^ _) 256, ← Nat.mul_assoc]
    refine Nat.lt_of_lt_of_le h1 (Nat.mul_le_mul_right _ (by omega))
theorem numOf_lt (b : List UInt8) : numOf b < 256 ^ b.length := by simpa [numOf] using numOf_lt' b 0
/-- the number with which bytes begin, and the error -/
def numE (b : List UInt8) : Int × Int := if b.length < 8 then (0, 2) else if 9223372036854775807 < numOf (b.take 8) then (0, 5) else (numOf (b.take 8), 0)
theorem shl_or (v : BitVec 64) (x : UInt8) (h : v.toNat < 2 ^ 56) : ((v <<< 8) ||| (x.toBitVec.setWidth 64)).toNat = 256 * v.toNat + x.toNat := by
  have hx := x.toNat_lt
  rw [BitVec.toNat_or, BitVec.toNat_shiftLeft, BitVec.toNat_setWidth]
  have e1 : v.toNat <<< 8 % 2 ^ 64 = v.toNat <<< 8 := by rw [Nat.shiftLeft_eq]; omega
  have e2 : x.toBitVec.toNat % 2 ^ 64 = x.toNat := by show x.toNat % _ = _; omega
  rw [e1, e2, ← Nat.shiftLeft_add_eq_or_of_lt (by simpa using hx), Nat.shiftLeft_eq]
  omega
theorem octet_Read_of {b : List UInt8} {Q : octet_Reader → Prop} (hb : b.length ≤ 1000000000000) (hQ : Q (rdr b 0 0)) : octet_Read b Q := ⟨by unfold Rm; simp; omega, by simpa [rdr] using hQ⟩
theorem octet_Reader_dead_of {b : List UInt8} {p : Nat} {e : Int} {Q : Bool → Prop} (hQ : Q false) : octet_Reader_dead (rdr b p e) Q := hQ
theorem octet_source_left_of {b : List UInt8} {p : Nat} {e : Int} {Q : Int → Prop} (hb : b.length ≤ 1000000000000) (hp : p ≤ b.length) (hQ : Q ((b.length - p : Nat) : Int)) : octet_source_left ⟨b, p, e, true⟩ Q := by
  unfold octet_source_left
  have e1 : ((b.length : Int) - (p : Int)) = ((b.length - p : Nat) : Int) := by omega
  refine ⟨by unfold Ck; dsimp only; omega, ?_⟩
  dsimp only
  rw [e1]; exact hQ
theorem octet_Reader_Left_of {b : List UInt8} {p : Nat} {e : Int} {Q : Int → Prop} (hb : b.length ≤ 1000000000000) (hp : p ≤ b.length) (hQ : Q ((b.length - p : Nat) : Int)) : octet_Reader_Left (rdr b p e) Q := octet_source_left_of hb hp hQ
theorem octet_Reader_Err_of {b : List UInt8} {p : Nat} {e : Int} {Q : Int → Prop} (hQ : Q e) : octet_Reader_Err (rdr b p e) Q := ⟨fun h => absurd h (by simp [rdr]), fun _ => hQ⟩
def endE (b : List UInt8) (p : Nat) (e : Int) : Int := if e = 0 ∧ p < b.length then 3 else e
theorem octet_Reader_End_of {b : List UInt8} {p : Nat} {e : Int} {Q : Int → Prop} (hb : b.length ≤ 1000000000000) (hp : p ≤ b.length) (hQ : Q (endE b p e)) : octet_Reader_End (rdr b p e) Q := by
  unfold octet_Reader_End
  refine octet_Reader_Err_of ⟨_, fun _ h => h, fun h0 => octet_source_left_of hb hp ⟨fun h => ?_, fun h => ?_⟩, fun h0 => ⟨fun h => by simp at h, fun _ => ?_⟩⟩
  · have : p < b.length := by simp at h; omega
    rwa [endE, if_pos ⟨h0, this⟩] at hQ
  · have : ¬ p < b.length := by simp at h; omega
    rwa [endE, if_neg (fun h => this h.2)] at hQ
  · rwa [endE, if_neg (fun h => h0 h.1)] at hQ
/-- the next n bytes, where to, the error -/
theorem octet_source_take_of {b : List UInt8} {p : Nat} {e : Int} {n : Nat} {Q : List UInt8 → octet_source → Prop} (hb : b.length ≤ 1000000000000) (hp : p ≤ b.length)
    (h1 : e ≠ 0 → Q [] ⟨b, p, e, true⟩) (h2 : e = 0 → b.length - p < n → Q [] ⟨b, p, 2, true⟩) (h3 : e = 0 → p + n ≤ b.length → Q ((b.drop p).take n) ⟨b, (p + n : Nat), 0, true⟩) : octet_source_take ⟨b, p, e, true⟩ n Q := by
  unfold octet_source_take
  refine ⟨h1, fun h => ?_⟩
  have h0 : e = 0 := by simpa using h
  subst h0
  refine ⟨by unfold Ck; dsimp only; omega, fun h => h2 rfl (by dsimp only at h; omega), fun h => ?_⟩
  dsimp only at h ⊢
  have e1 : ((p : Int) + (n : Int)) = ((p + n : Nat) : Int) := by omega
  have e2 : ((p : Int) + (n : Int)) - (n : Int) = (p : Int) := by omega
  refine ⟨by unfold Ck; omega, by unfold Ck; omega, by omega, by omega, by omega, ?_⟩
  have := h3 rfl (by omega)
  rw [e2, e1, cut_nat, Nat.add_sub_cancel_left]; exact this
/-- what Number gives: the number, where to, the error -/
def numR (b : List UInt8) (p : Nat) (e : Int) : Int × Nat × Int :=
  if e ≠ 0 then (0, p, e) else if (numE (b.drop p)).2 ≠ 0 then (0, p, (numE (b.drop p)).2) else ((numE (b.drop p)).1, p + 8, 0)
theorem octet_Reader_Number_of {b : List UInt8} {p : Nat} {e : Int} {Q : Int → octet_Reader → Prop} (hb : b.length ≤ 1000000000000) (hp : p ≤ b.length)
    (hQ : Q (numR b p e).1 (rdr b (numR b p e).2.1 (numR b p e).2.2)) : octet_Reader_Number (rdr b p e) Q := by
  unfold octet_Reader_Number
  refine octet_Reader_dead_of ⟨fun h => by simp at h, fun _ => ?_⟩
  refine octet_source_take_of (n := 8) hb hp (fun h => ?_) (fun h0 h => ?_) (fun h0 h => ?_)
  · refine ⟨_, fun _ h => h, lp2_inv 0 (fun k v i => v = 0#64 ∧ i = 0) ⟨rfl, rfl⟩ (fun k hk => by omega) ?_⟩
    rintro v i ⟨rfl, rfl⟩ next
    refine ⟨fun h => by simp at h, fun _ => ⟨fun h => by simp at h, fun _ => ⟨by decide, ?_⟩⟩⟩
    rw [numR, if_pos h] at hQ
    exact hQ
  · refine ⟨_, fun _ h => h, lp2_inv 0 (fun k v i => v = 0#64 ∧ i = 0) ⟨rfl, rfl⟩ (fun k hk => by omega) ?_⟩
    rintro v i ⟨rfl, rfl⟩ next
    refine ⟨fun h => by simp at h, fun _ => ⟨fun h => by simp at h, fun _ => ⟨by decide, ?_⟩⟩⟩
    have hl : (b.drop p).length < 8 := by rw [List.length_drop]; omega
    have hne : (numE (b.drop p)).2 = 2 := by rw [numE, if_pos hl]
    rw [numR, if_neg (by simpa using h0), hne, if_pos (by decide)] at hQ
    exact hQ
  · subst h0
    have hl : ¬ (b.drop p).length < 8 := by rw [List.length_drop]; omega
    have hl8 : ((b.drop p).take 8).length = 8 := by rw [List.length_take]; omega
    generalize hd : (b.drop p).take 8 = d at hl8 ⊢
    have hne : numE (b.drop p) = if 9223372036854775807 < numOf d then ((0 : Int), (5 : Int)) else ((numOf d : Int), 0) := by rw [numE, if_neg hl, hd]
    refine ⟨_, fun _ h => h, lp2_inv 8 (fun k v i => i = (k : Int) ∧ v.toNat = numOf (d.take k)) ⟨rfl, rfl⟩ ?_ ?_⟩
    · rintro k hk v i ⟨rfl, hv⟩ next hnext
      refine ⟨fun _ => ⟨d[k], At.get (by omega), by unfold Ck; omega, hnext _ _ ⟨by omega, ?_⟩⟩, fun h => absurd (by omega) h⟩
      have h1 := numOf_lt (d.take k)
      have h2 : 256 ^ (d.take k).length ≤ 256 ^ 7 := Nat.pow_le_pow_right (by decide) (by rw [List.length_take]; omega)
      rw [shl_or _ _ (by omega), hv, take_succ' (by omega), numOf_snoc]
    · rintro v i ⟨rfl, hv⟩ next
      rw [show d.take 8 = d from by rw [← hl8, List.take_length]] at hv
      refine ⟨fun h => by rw [hl8] at h; omega, fun _ => ⟨fun h => ⟨by unfold Ck; dsimp only; omega, ?_⟩, fun h => ⟨by omega, ?_⟩⟩⟩
      · rw [if_pos (by omega)] at hne
        rw [numR, if_neg (by decide), hne, if_pos (by decide)] at hQ
        have e1 : (((p + 8 : Nat) : Int) - 8) = (p : Int) := by omega
        dsimp only
        rw [e1]; exact hQ
      · rw [if_neg (by omega)] at hne
        rw [numR, if_neg (by decide), hne, if_neg (by simp)] at hQ
        rw [hv]; exact hQ

theorem numE_ok {b : List UInt8} (h : (numE b).2 = 0) : 8 ≤ b.length ∧ 0 ≤ (numE b).1 ∧ (numE b).1 ≤ 9223372036854775807 ∧ (numE b).1 = numOf (b.take 8) := by
  unfold numE at h ⊢
  split at h
  · cases h
  · rename_i hl
    rw [if_neg hl]
    split at h
    · cases h
    · rename_i hn
      rw [if_neg hn]
      exact ⟨by omega, by dsimp only; omega, by dsimp only; omega, rfl⟩
def withR (b : List UInt8) (p : Nat) (e lo hi : Int) : Int × Nat × Int :=
  if e ≠ 0 then (0, p, e) else if (numE (b.drop p)).2 ≠ 0 then (0, p, (numE (b.drop p)).2) else if (numE (b.drop p)).1 < lo ∨ hi < (numE (b.drop p)).1 then (0, p, 5) else ((numE (b.drop p)).1, p + 8, 0)
theorem numR_err {b : List UInt8} {p : Nat} (h : (numE (b.drop p)).2 ≠ 0) : numR b p 0 = (0, p, (numE (b.drop p)).2) := by rw [numR, if_neg (by decide), if_pos h]
theorem numR_ok {b : List UInt8} {p : Nat} (h : (numE (b.drop p)).2 = 0) : numR b p 0 = ((numE (b.drop p)).1, p + 8, 0) := by rw [numR, if_neg (by decide), if_neg (by simpa using h)]
theorem octet_Reader_Within_of {b : List UInt8} {p : Nat} {e lo hi : Int} {Q : Int → octet_Reader → Prop} (hb : b.length ≤ 1000000000000) (hp : p ≤ b.length)
    (hQ : Q (withR b p e lo hi).1 (rdr b (withR b p e lo hi).2.1 (withR b p e lo hi).2.2)) : octet_Reader_Within (rdr b p e) lo hi Q := by
  unfold octet_Reader_Within
  refine ⟨fun x => x = decide (e ≠ 0), ?_, octet_Reader_dead_of ⟨fun h => by simp at h, fun _ => rfl⟩⟩
  rintro x rfl
  by_cases he : e = 0
  · subst he
    refine ⟨fun h => by simp at h, fun _ => octet_Reader_Number_of hb hp ?_⟩
    by_cases h2 : (numE (b.drop p)).2 = 0
    · obtain ⟨h8, hlo, hhi, _⟩ := numE_ok h2
      rw [numR_ok h2]
      rw [List.length_drop] at h8
      refine ⟨_, fun _ h => h, fun x => x = decide ((numE (b.drop p)).1 < lo ∨ hi < (numE (b.drop p)).1), ?_, ?_⟩
      · rintro x rfl
        by_cases h3 : (numE (b.drop p)).1 < lo ∨ hi < (numE (b.drop p)).1
        · refine ⟨fun _ => ⟨by unfold Ck; simp [rdr]; omega, fun _ => ?_, fun h => absurd (show (5 : Int) ≠ 0 by decide) h⟩, fun h => by simp at h; omega⟩
          rw [withR, if_neg (by decide), if_neg (by simpa using h2), if_pos h3] at hQ
          have e1 : ((p + 8 : Nat) : Int) - 8 = (p : Int) := by omega
          simp only [rdr, e1] at hQ ⊢; exact hQ
        · refine ⟨fun h => by simp at h; omega, fun _ => ⟨fun h => absurd rfl h, fun _ => ?_⟩⟩
          rw [withR, if_neg (by decide), if_neg (by simpa using h2), if_neg h3] at hQ
          exact hQ
      · refine ⟨fun _ => ⟨fun h => ?_, fun h => ?_⟩, fun h => absurd rfl h⟩
        · dsimp only at h; simp [h]
        · dsimp only at h; simp only [h, false_or]
    · rw [numR_err h2]
      refine ⟨_, fun _ h => h, fun x => x = false, ?_, ⟨fun h => absurd h h2, fun _ => rfl⟩⟩
      rintro x rfl
      refine ⟨fun h => by simp at h, fun _ => ⟨fun _ => ?_, fun h => absurd h2 h⟩⟩
      rw [withR, if_neg (by decide), if_pos h2] at hQ
      exact hQ
  · refine ⟨fun _ => ?_, fun h => by simp [he] at h⟩
    rw [withR, if_pos he] at hQ
    exact hQ
def bytesR (b : List UInt8) (p : Nat) (e most : Int) : List UInt8 × Nat × Int :=
  if e ≠ 0 then ([], p, e) else if (numE (b.drop p)).2 ≠ 0 then ([], p, (numE (b.drop p)).2) else if max most 0 < (numE (b.drop p)).1 then ([], p, 4)
  else if b.length - (p + 8) < (numE (b.drop p)).1.toNat then ([], p, 2) else ((b.drop (p + 8)).take (numE (b.drop p)).1.toNat, p + 8 + (numE (b.drop p)).1.toNat, 0)
theorem octet_Reader_Bytes_of {b : List UInt8} {p : Nat} {e most : Int} {Q : List UInt8 → octet_Reader → Prop} (hb : b.length ≤ 1000000000000) (hp : p ≤ b.length)
    (hQ : Q (bytesR b p e most).1 (rdr b (bytesR b p e most).2.1 (bytesR b p e most).2.2)) : octet_Reader_Bytes (rdr b p e) most Q := by
  unfold octet_Reader_Bytes
  refine ⟨fun x => x = decide (e ≠ 0), ?_, octet_Reader_dead_of ⟨fun h => by simp at h, fun _ => rfl⟩⟩
  rintro x rfl
  by_cases he : e = 0
  · subst he
    refine ⟨fun h => by simp at h, fun _ => octet_Reader_Number_of hb hp ?_⟩
    by_cases h2 : (numE (b.drop p)).2 = 0
    · obtain ⟨h8, hlo, hhi, _⟩ := numE_ok h2
      rw [numR_ok h2]
      rw [List.length_drop] at h8
      obtain ⟨n, hn⟩ : ∃ n : Nat, (numE (b.drop p)).1 = (n : Int) := ⟨(numE (b.drop p)).1.toNat, by omega⟩
      simp only [bytesR, h2, ne_eq, not_true_eq_false, if_false, hn, Int.toNat_natCast] at hQ
      dsimp only
      rw [hn]
      refine ⟨_, fun _ h => h, fun x => x = decide ((n : Int) > max most 0), ?_, ⟨fun _ => rfl, fun h => absurd rfl h⟩⟩
      rintro x rfl
      by_cases h3 : (n : Int) > max most 0
      · refine ⟨fun _ => ?_, fun h => by simp at h; omega⟩
        rw [if_pos h3] at hQ
        exact octet_source_take_of (b := b) (p := p + 8) hb (by omega) (fun _ => ⟨fun _ => hQ, fun h => absurd (by decide : (4 : Int) ≠ 0) h⟩) (fun h => absurd h (by decide)) (fun h => absurd h (by decide))
      · refine ⟨fun h => by simp at h; omega, fun _ => ?_⟩
        rw [if_neg h3] at hQ
        refine octet_source_take_of (b := b) (p := p + 8) hb (by omega) (fun h => absurd rfl h) (fun _ h => ⟨fun _ => ?_, fun h => absurd (by decide : (2 : Int) ≠ 0) h⟩) (fun _ h => ⟨fun h => absurd rfl h, fun _ => ⟨?_, ?_⟩⟩)
        · rw [if_pos h] at hQ; exact hQ
        · have h' : p + 8 + n ≤ b.length := h
          unfold Rm; simp [rdr]; omega
        · have h' : p + 8 + n ≤ b.length := h
          rw [if_neg (by omega)] at hQ
          rw [List.nil_append]; exact hQ
    · rw [numR_err h2]
      rw [bytesR, if_neg (by decide), if_pos h2] at hQ
      refine ⟨_, fun _ h => h, fun x => x = false, ?_, ⟨fun h => absurd h h2, fun _ => rfl⟩⟩
      rintro x rfl
      refine ⟨fun h => by simp at h, fun _ => octet_source_take_of (b := b) (n := 0) hb hp (fun _ => ⟨fun _ => hQ, fun h => absurd h2 h⟩) (fun h => absurd h h2) (fun h => absurd h h2)⟩
  · refine ⟨fun _ => ?_, fun h => by simp [he] at h⟩
    rw [bytesR, if_pos he] at hQ
    exact hQ
end Go.Lx
