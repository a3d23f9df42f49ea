/- PLAIN: texts, blocks that are opened. -/
import Derived.Test.YtdnpdljnjoegiaaDoorP2c
set_option linter.unusedVariables false
set_option linter.unusedSimpArgs false
namespace Go.Lx
def digs : Nat → Nat → List UInt8
  | 0, _ => []
  | k + 1, n => digs k (n / 256) ++ [UInt8.ofNat n]
theorem be8_digs (n : Nat) : be8 n = digs 8 n := by
  simp only [be8, digs, dig, Nat.div_div_eq_div_mul, List.nil_append, List.cons_append]
  simp only [show 256 ^ 7 = 256 * 256 * 256 * 256 * 256 * 256 * 256 from rfl, show 256 ^ 6 = 256 * 256 * 256 * 256 * 256 * 256 from rfl, show 256 ^ 5 = 256 * 256 * 256 * 256 * 256 from rfl, show 256 ^ 4 = 256 * 256 * 256 * 256 from rfl, show 256 ^ 3 = 256 * 256 * 256 from rfl, show 256 ^ 2 = 256 * 256 from rfl, Nat.pow_one, Nat.pow_zero, Nat.div_one]
theorem digs_num : ∀ (k : Nat) (l : List UInt8), l.length = k → digs k (numOf l) = l
  | 0, l, h => by simp [digs, List.eq_nil_of_length_eq_zero h]
  | k + 1, l, h => by
    obtain ⟨m, x, rfl⟩ : ∃ m x, l = m ++ [x] := ⟨l.dropLast, l.getLast (by intro e; simp [e] at h), (List.dropLast_concat_getLast _).symm⟩
    rw [numOf_snoc, digs]
    have hx := x.toNat_lt
    rw [show (256 * numOf m + x.toNat) / 256 = numOf m by omega, digs_num k m (by simpa using h)]
    rw [show UInt8.ofNat (256 * numOf m + x.toNat) = x from UInt8.toNat.inj (by rw [UInt8.toNat_ofNat']; omega)]
theorem num_digs : ∀ (k n : Nat), n < 256 ^ k → numOf (digs k n) = n
  | 0, n, h => by have : n = 0 := by simpa using h
                  subst this; rfl
  | k + 1, n, h => by
    rw [digs, numOf_snoc, num_digs k (n / 256) (by rw [Nat.pow_succ] at h; omega), UInt8.toNat_ofNat']
    omega

theorem be8_num {l : List UInt8} (h : l.length = 8) : be8 (numOf l) = l := by rw [be8_digs]; exact digs_num 8 l h
theorem num_be8 {n : Nat} (h : n < 18446744073709551616) : numOf (be8 n) = n := by rw [be8_digs]; exact num_digs 8 n h
theorem bytesR_ok {b : List UInt8} {p : Nat} {most : Int} (h : (bytesR b p 0 most).2.2 = 0) :
    (bytesR b p 0 most).2.1 = p + 8 + (bytesR b p 0 most).1.length ∧ p + 8 + (bytesR b p 0 most).1.length ≤ b.length ∧ ((bytesR b p 0 most).1.length : Int) ≤ max most 0 ∧ (b.drop p).take 8 = be8 (bytesR b p 0 most).1.length ∧ (b.drop (p + 8)).take (bytesR b p 0 most).1.length = (bytesR b p 0 most).1 := by
  by_cases h2 : (numE (b.drop p)).2 = 0
  · obtain ⟨h8, hlo, hhi, hnum⟩ := numE_ok h2
    rw [List.length_drop] at h8
    obtain ⟨n, hn⟩ : ∃ n : Nat, (numE (b.drop p)).1 = (n : Int) := ⟨(numE (b.drop p)).1.toNat, by omega⟩
    simp only [bytesR, h2, ne_eq, not_true_eq_false, if_false, hn, Int.toNat_natCast] at h ⊢
    split at h
    · cases h
    · rename_i h3
      rw [if_neg h3]
      split at h
      · cases h
      · rename_i h4
        rw [if_neg h4]
        have hl : ((b.drop (p + 8)).take n).length = n := by rw [List.length_take, List.length_drop]; omega
        dsimp only
        rw [hl]
        refine ⟨rfl, by omega, by omega, ?_, rfl⟩
        have h5 : n = numOf ((b.drop p).take 8) := by rw [hn] at hnum; exact_mod_cast hnum
        rw [h5, be8_num (by rw [List.length_take, List.length_drop]; omega)]
  · rw [bytesR, if_neg (by decide), if_pos h2] at h
    exact absurd h h2
theorem bytesR_le {b : List UInt8} {p : Nat} {e most : Int} (hp : p ≤ b.length) : (bytesR b p e most).2.1 ≤ b.length := by
  unfold bytesR
  split
  · exact hp
  · split
    · exact hp
    · rename_i h2
      have h2 : (numE (b.drop p)).2 = 0 := by simpa using h2
      obtain ⟨h8, _⟩ := numE_ok h2
      rw [List.length_drop] at h8
      split
      · exact hp
      · split
        · exact hp
        · dsimp only; omega
theorem bytesR_bad {b : List UInt8} {p : Nat} {e most : Int} (h : (bytesR b p e most).2.2 ≠ 0) : (bytesR b p e most).1 = [] ∧ (bytesR b p e most).2.1 = p := by
  unfold bytesR at h ⊢
  split
  · exact ⟨rfl, rfl⟩
  · rename_i h1
    rw [if_neg h1] at h
    split
    · exact ⟨rfl, rfl⟩
    · rename_i h2
      rw [if_neg h2] at h
      split
      · exact ⟨rfl, rfl⟩
      · rename_i h3
        rw [if_neg h3] at h
        split
        · exact ⟨rfl, rfl⟩
        · rename_i h4
          rw [if_neg h4] at h
          exact absurd rfl h
/-- what Text gives -/
def textR (b : List UInt8) (p : Nat) (e most : Int) : List UInt8 × Nat × Int :=
  if e ≠ 0 then ([], p, e) else
    let r := bytesR b p 0 (4 * min (max most 0) 16384)
    if r.2.2 ≠ 0 then ([], p, r.2.2) else if Lib.validD r.1 = false then ([], p, 21) else if max most 0 < (Lib.runeCountL r.1 : Int) then ([], p, 4) else (r.1, r.2.1, 0)
theorem octet_Reader_Text_of {b : List UInt8} {p : Nat} {e most : Int} {Q : Str → octet_Reader → Prop} (hb : b.length ≤ 1000000000000) (hp : p ≤ b.length)
    (hQ : Q ⟨(textR b p e most).1⟩ (rdr b (textR b p e most).2.1 (textR b p e most).2.2)) : octet_Reader_Text (rdr b p e) most Q := by
  unfold octet_Reader_Text
  refine ⟨fun x => x = decide (e ≠ 0), ?_, octet_Reader_dead_of ⟨fun h => by simp at h, fun _ => rfl⟩⟩
  rintro x rfl
  by_cases he : e = 0
  · subst he
    refine ⟨fun h => by simp at h, fun _ => ⟨by unfold Ck; omega, octet_Reader_Bytes_of hb hp ?_⟩⟩
    rw [textR, if_neg (by decide)] at hQ
    dsimp only at hQ
    have hle := bytesR_le (e := 0) (most := 4 * min (max most 0) 16384) hp
    have hbad := bytesR_bad (b := b) (p := p) (e := 0) (most := 4 * min (max most 0) 16384)
    have hok := bytesR_ok (b := b) (p := p) (most := 4 * min (max most 0) 16384)
    generalize bytesR b p 0 (4 * min (max most 0) 16384) = r at hQ hle hbad hok ⊢
    obtain ⟨d, q, e2⟩ := r
    dsimp only at hQ hle hbad hok ⊢
    refine ⟨_, fun _ h => h, fun h => ?_, fun h => ?_⟩
    · replace h : e2 ≠ 0 := h
      rw [if_pos h] at hQ
      rw [(hbad h).2]; exact hQ
    · have h0 : e2 = 0 := by simpa [rdr] using h
      subst h0
      obtain ⟨h1, h2, h3, _⟩ := hok rfl
      rw [if_neg (by decide)] at hQ
      have hd : d.length ≤ 100000 := by omega
      refine ⟨by dsimp only; omega, fun hv => ?_, fun hv => ⟨by dsimp only; omega, fun hc => ?_, fun hc => ?_⟩⟩
      · have hv' : Lib.validD d = false := by simpa using hv
        rw [if_pos hv'] at hQ
        exact ⟨fun _ => hQ, fun h => absurd (show (21 : Int) ≠ 0 by decide) h⟩
      · have hv' : ¬ Lib.validD d = false := by simp at hv; simp [hv]
        rw [if_neg hv', if_pos hc] at hQ
        exact ⟨fun _ => hQ, fun h => absurd (show (4 : Int) ≠ 0 by decide) h⟩
      · have hv' : ¬ Lib.validD d = false := by simp at hv; simp [hv]
        rw [if_neg hv', if_neg hc] at hQ
        exact ⟨fun h => absurd rfl h, fun _ => hQ⟩
  · refine ⟨fun _ => ?_, fun h => by simp [he] at h⟩
    rw [textR, if_pos he] at hQ
    exact hQ
/-- the block with which bytes begin -/
def openR (b : List UInt8) : List UInt8 × Int × Int :=
  let r := bytesR b 0 0 16384
  if r.2.2 ≠ 0 then ([], 0, r.2.2) else if b.length - r.2.1 < 4 then ([], 0, 2) else if (b.drop r.2.1).take 4 ≠ be4 (sumOf (b.take r.2.1)) then ([], 0, 20) else (r.1, (r.2.1 + 4 : Nat), 0)
theorem octet_Open_of {b : List UInt8} {Q : List UInt8 → Int → Int → Prop} (hb : b.length ≤ 1000000000000) (hQ : Q (openR b).1 (openR b).2.1 (openR b).2.2) : octet_Open b Q := by
  unfold octet_Open
  refine octet_Read_of hb (octet_Reader_Bytes_of hb (Nat.zero_le _) ?_)
  have hle := bytesR_le (b := b) (p := 0) (e := 0) (most := 16384) (Nat.zero_le _)
  unfold openR at hQ
  generalize bytesR b 0 0 16384 = r at hQ hle ⊢
  obtain ⟨d, q, e2⟩ := r
  dsimp only at hQ hle ⊢
  refine octet_Reader_Err_of ⟨fun h => octet_Reader_Err_of (by rw [if_pos h] at hQ; exact hQ), fun h => ?_⟩
  have h0 : e2 = 0 := by simpa using h
  subst h0
  rw [if_neg (by decide)] at hQ
  refine octet_Reader_Left_of hb hle ⟨by unfold Ck; omega, octet_source_take_of (b := b) (n := 4) hb hle (fun h => absurd rfl h) (fun _ h => ?_) (fun _ h => ?_)⟩
  · rw [if_pos h] at hQ
    exact ⟨fun _ => hQ, fun h => absurd (by decide) h⟩
  · rw [if_neg (by omega)] at hQ
    have hl : ((b.drop q).take 4).length = 4 := by rw [List.length_take, List.length_drop]; omega
    generalize hd : (b.drop q).take 4 = l at hl hQ ⊢
    have e1 : ((b.length : Int) - ((b.length - q : Nat) : Int)) = (q : Int) := by omega
    refine ⟨fun h => by rw [hl] at h; omega, fun _ => ⟨by omega, by omega, ?_⟩⟩
    rw [e1, cut_front]
    refine octet_Sum_of (by rw [List.length_take]; omega) ?_
    generalize sumOf (b.take q) = c at hQ ⊢
    match l, hl with
    | [a0, a1, a2, a3], _ =>
      refine ⟨fun x => x = decide ([a0, a1, a2, a3] ≠ be4 c), ?_, ?_⟩
      · rintro x rfl
        by_cases hc : [a0, a1, a2, a3] = be4 c
        · rw [if_neg (by simpa using hc)] at hQ
          refine ⟨fun h => by simp [hc] at h, fun _ => ⟨by unfold Ck; omega, ?_⟩⟩
          have e2 : ((q : Int) + 4) = ((q + 4 : Nat) : Int) := by omega
          rw [e2]; exact hQ
        · rw [if_pos hc] at hQ
          exact ⟨fun _ => hQ, fun h => by simp [hc] at h⟩
      · have tn : ∀ x y : UInt8, ((x.toNat : Int) ≠ (y.toNat : Int)) ↔ y ≠ x := fun x y => ⟨fun h e => h (by rw [e]), fun h e => h (UInt8.toNat.inj (by omega))⟩
        refine ⟨a0, ⟨by decide, rfl⟩, fun h => ?_, fun h => ⟨a1, ⟨by decide, rfl⟩, fun h' => ?_, fun h' => ⟨a2, ⟨by decide, rfl⟩, fun h2 => ?_, fun h2 => ⟨a3, ⟨by decide, rfl⟩, ?_⟩⟩⟩⟩
        all_goals simp only [tn, Decidable.not_not] at *
        all_goals simp_all [be4]
end Go.Lx
