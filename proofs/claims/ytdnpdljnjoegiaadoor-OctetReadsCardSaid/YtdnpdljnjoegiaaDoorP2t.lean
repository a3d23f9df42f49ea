/- PLAIN: the law OctetReads. -/
import Derived.Test.YtdnpdljnjoegiaaDoorP2s
import Derived.Test.YtdnpdljnjoegiaaDoorOmReadsp
set_option linter.unusedVariables false
set_option linter.unusedSimpArgs false
namespace Go.Lx
theorem sealskinref02_Reader_Text_of {b : List UInt8} {p : Nat} {e most : Int} {Q : Str → sealskinref02_Reader → Prop} (hb : b.length ≤ 1000000000000) (hp : p ≤ b.length)
    (hQ : Q ⟨(textR b p e most).1⟩ (rrd b (textR b p e most).2.1 (textR b p e most).2.2)) : sealskinref02_Reader_Text (rrd b p e) most Q := by
  unfold sealskinref02_Reader_Text
  refine ⟨fun h => ?_, fun h => ?_⟩
  · replace h : e ≠ 0 := h
    rw [textR, if_pos h] at hQ; exact hQ
  · have h0 : e = 0 := Decidable.not_not.1 h
    subst h0
    rw [textR, if_neg (by decide)] at hQ
    dsimp only at hQ
    rw [Int.max_comm 0 most]
    refine ⟨by unfold Ck; omega, sealskinref02_Reader_Bytes_of hb hp ?_⟩
    have hbad := bytesR_bad (b := b) (p := p) (e := 0) (most := 4 * min (max most 0) 16384)
    have hok := bytesR_ok (b := b) (p := p) (most := 4 * min (max most 0) 16384)
    generalize bytesR b p 0 (4 * min (max most 0) 16384) = r at hQ hbad hok ⊢
    obtain ⟨d, q, e2⟩ := r
    dsimp only at hQ hbad hok ⊢
    refine ⟨fun h => ?_, fun h => ?_⟩
    · replace h : e2 ≠ 0 := h
      rw [if_pos h] at hQ
      rw [(hbad h).2]; exact hQ
    · have h0 : e2 = 0 := Decidable.not_not.1 h
      subst h0
      rw [if_neg (by decide)] at hQ
      obtain ⟨h1, h2, h3, _⟩ := hok rfl
      refine sealskinref02_Runes_of (by omega) ?_
      rw [Rn_spec]
      by_cases hv : Lib.validD d = false
      · rw [if_pos hv] at hQ ⊢
        refine ⟨_, fun _ h => h, fun _ => ⟨fun _ => hQ, fun h => absurd (show (21 : Int) ≠ 0 by decide) h⟩, fun h => absurd (by decide) h⟩
      · rw [if_neg hv] at hQ ⊢
        refine ⟨_, fun _ h => h, fun h => absurd h (by omega), fun _ => ⟨fun hc => ?_, fun hc => ?_⟩⟩
        · rw [if_pos hc] at hQ
          exact ⟨fun _ => hQ, fun h => absurd (show (4 : Int) ≠ 0 by decide) h⟩
        · rw [if_neg hc] at hQ
          exact ⟨fun h => absurd rfl h, fun _ => hQ⟩
theorem numR_le {b : List UInt8} {p : Nat} {e : Int} (hp : p ≤ b.length) : (numR b p e).2.1 ≤ b.length := by
  unfold numR
  split
  · exact hp
  · split
    · exact hp
    · rename_i h2
      obtain ⟨h8, _⟩ := numE_ok (Decidable.not_not.1 h2)
      rw [List.length_drop] at h8
      dsimp only; omega
theorem withR_le {b : List UInt8} {p : Nat} {e lo hi : Int} (hp : p ≤ b.length) : (withR b p e lo hi).2.1 ≤ b.length := by
  unfold withR
  split
  · exact hp
  · split
    · exact hp
    · rename_i h2
      obtain ⟨h8, _⟩ := numE_ok (Decidable.not_not.1 h2)
      rw [List.length_drop] at h8
      split
      · exact hp
      · dsimp only; omega
theorem textR_le {b : List UInt8} {p : Nat} {e most : Int} (hp : p ≤ b.length) : (textR b p e most).2.1 ≤ b.length := by
  unfold textR
  split
  · exact hp
  · dsimp only
    split
    · exact hp
    · split
      · exact hp
      · split
        · exact hp
        · exact bytesR_le hp
/-- bytes turned over change nothing of what follows -/
theorem turn_loop {J : Prop} {n : Nat} {a : List UInt8} (ha : a.length = n) (hn : n ≤ 1000000000000) (hJ : J) :
    Lp2 (fun (x6_21 : List UInt8) (x30_21 : Int) next21_ => ((x30_21 < (n : Int)) → (∃ x27_, At x6_21 x30_21 x27_ ∧ ∃ x28_, At x6_21 x30_21 x28_ ∧ Ck (x30_21 + 1) ∧ next21_ (put x6_21 x30_21 (x27_ ^^^ (255 : UInt8))) (x30_21 + 1))) ∧ (¬ (x30_21 < (n : Int)) → J)) a 0 := put_loop ha hn hJ (· ^^^ 255)
theorem OctetReads_all (b : List UInt8) (l : List sealskinlaw02_Ask) (w0 : Wb b) (w1 : l.length ≤ 9223372036854775807 ∧ ∀ x ∈ l, (-9223372036854775808 ≤ x.Op_ ∧ x.Op_ ≤ 9223372036854775807) ∧ (-9223372036854775808 ≤ x.Lo_ ∧ x.Lo_ ≤ 9223372036854775807) ∧ (-9223372036854775808 ≤ x.Hi_ ∧ x.Hi_ ≤ 9223372036854775807)) : sealskinlaw02_OctetReads b l (fun r => r = true) := by
  unfold sealskinlaw02_OctetReads
  refine ⟨fun x => x = false → b.length ≤ 32768 ∧ l.length ≤ 1000, ?_, ⟨fun _ h => (by simp at h), fun h h' => ⟨by omega, by simp at h'; omega⟩⟩⟩
  intro x hx
  refine ⟨fun _ => awake_of rfl, fun h => ?_⟩
  obtain ⟨h1, h2⟩ := hx h
  have hb : b.length ≤ 1000000000000 := by omega
  refine slices_Clone_of hb (octet_Read_of hb ⟨True, fun _ => ?_, turn_loop rfl hb trivial⟩)
  refine ⟨fun r x => ∃ p e, p ≤ b.length ∧ r = rdr b p e ∧ x = rrd b p e, ?_, ?_⟩
  · rintro r x ⟨p, e, hp, rfl, rfl⟩
    exact octet_Reader_End_of hb hp (sealskinref02_Reader_End_of hb hp ⟨fun _ => awake_of rfl, fun h => absurd rfl h⟩)
  · refine lp3_inv l.length (fun k i x r => i = (k : Int) ∧ ∃ p e, p ≤ b.length ∧ r = rdr b p e ∧ x = rrd b p e) ⟨rfl, 0, 0, Nat.zero_le _, rfl, rfl⟩ ?_ ?_
    · rintro k hk i x r ⟨rfl, p, e, hp, rfl, rfl⟩ next hnext
      refine ⟨fun _ => ⟨fun r x => ∃ p e, p ≤ b.length ∧ r = rdr b p e ∧ x = rrd b p e, ?_, l[k], At.get hk, ?_⟩, fun h => absurd (by omega) h⟩
      · rintro r x h
        exact ⟨by unfold Ck; omega, hnext _ _ _ ⟨by omega, h⟩⟩
      · refine ⟨fun same r x => same = true ∧ ∃ p e, p ≤ b.length ∧ r = rdr b p e ∧ x = rrd b p e, ?_, ?_⟩
        · rintro same r x ⟨rfl, p, e, hp, rfl, rfl⟩
          refine ⟨fun x => x = false, fun x hx => ⟨fun h => by simp [hx] at h, fun _ => ⟨p, e, hp, rfl, rfl⟩⟩, fun h => by simp at h, fun _ => ?_⟩
          refine octet_Reader_Left_of hb hp (sealskinref02_Reader_Left_of hb hp ⟨fun h => absurd rfl h, fun _ => octet_Reader_Err_of ⟨fun h => absurd rfl h, fun _ => octet_Reader_End_of hb hp (sealskinref02_Reader_End_of hb hp ?_)⟩⟩)
          simp
        · refine ⟨fun _ => ?_, fun _ => ⟨fun _ => ?_, fun _ => ⟨fun _ => ?_, fun _ => ?_⟩⟩⟩
          · exact octet_Reader_Number_of hb hp (sealskinref02_Reader_Number_of hb hp ⟨by simp, _, _, numR_le hp, rfl, rfl⟩)
          · exact octet_Reader_Within_of hb hp (sealskinref02_Reader_Within_of hb hp ⟨by simp, _, _, withR_le hp, rfl, rfl⟩)
          · refine octet_Reader_Bytes_of hb hp (sealskinref02_Reader_Bytes_of hb hp (bytes_Equal_of (turn_loop rfl ?_ ⟨by simp, _, _, bytesR_le hp, rfl, rfl⟩)))
            by_cases h0 : (bytesR b p e (l[k].Hi_)).2.2 = 0
            · by_cases he : e = 0
              · subst he; have := (bytesR_ok h0).2.1; omega
              · rw [bytesR, if_pos he] at h0; exact absurd h0 he
            · rw [(bytesR_bad h0).1]; simp
          · exact octet_Reader_Text_of hb hp (sealskinref02_Reader_Text_of hb hp ⟨by simp, _, _, textR_le hp, rfl, rfl⟩)
    · rintro i x r ⟨rfl, p, e, hp, rfl, rfl⟩ next
      exact ⟨fun h => absurd h (by omega), fun _ => ⟨p, e, hp, rfl, rfl⟩⟩
end Go.Lx
