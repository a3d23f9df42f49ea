/- PLAIN: the document's count of code points; its texts. -/
import Derived.Test.YtdnpdljnjoegiaaDoorP2r
set_option linter.unusedVariables false
set_option linter.unusedSimpArgs false
namespace Go.Lx
def rnF : Nat → List UInt8 → Option Nat
  | 0, b => if b = [] then some 0 else none
  | f + 1, b => if b = [] then some 0 else if stepR b = 0 then none else (rnF f (b.drop (stepR b))).map (· + 1)
theorem rnF_valid : ∀ (f : Nat) (b : List UInt8), b.length ≤ f → Lib.validGoD f b = (rnF f b).isSome
  | 0, b, h => by
    obtain rfl : b = [] := List.eq_nil_of_length_eq_zero (by omega)
    rfl
  | f + 1, b, h => by
    rw [Lib.validGoD, rnF]
    by_cases hb : b = []
    · rw [if_pos hb, if_pos hb]; rfl
    · rw [if_neg hb, if_neg hb]
      obtain ⟨h1, h2⟩ := decode_Ok b
      show (if (Utf8.decode ⟨b.toArray⟩ 0).1 = 65533 ∧ (Utf8.decode ⟨b.toArray⟩ 0).2 = 1 then false else Lib.validGoD f (b.drop (Utf8.decode ⟨b.toArray⟩ 0).2)) = _
      by_cases hs : stepR b = 0
      · rw [h1 hs, if_pos hs]; rfl
      · obtain ⟨h3, h4⟩ := h2 hs
        have hl : 0 < b.length := List.length_pos_iff.2 hb
        rw [if_neg h4, if_neg hs, h3, rnF_valid f _ (by rw [List.length_drop]; omega), Option.isSome_map]
theorem rnF_count : ∀ (f p : Nat) (l : List UInt8) (n : Nat), l.length ≤ p + f → rnF f (l.drop p) = some n → Lib.runeCountFrom ⟨l.toArray⟩ f p = n
  | 0, p, l, n, h, hr => by
    rw [rnF] at hr
    split at hr
    · cases hr; rfl
    · cases hr
  | f + 1, p, l, n, h, hr => by
    rw [rnF] at hr
    rw [Lib.runeCountFrom, size_list]
    by_cases hb : l.drop p = []
    · rw [if_pos hb] at hr
      cases hr
      have : l.length ≤ p := List.drop_eq_nil_iff.1 hb
      rw [if_neg (by omega)]
    · rw [if_neg hb] at hr
      have hp : p < l.length := Decidable.byContradiction fun h => hb (List.drop_eq_nil_iff.2 (by omega))
      rw [if_pos hp, decode_at]
      obtain ⟨h1, h2⟩ := decode_Ok (l.drop p)
      by_cases hs : stepR (l.drop p) = 0
      · rw [if_pos hs] at hr; cases hr
      · rw [if_neg hs] at hr
        obtain ⟨h3, _⟩ := h2 hs
        rw [h3]
        cases hq : rnF f ((l.drop p).drop (stepR (l.drop p))) with
        | none => rw [hq] at hr; cases hr
        | some m =>
          rw [hq] at hr
          rw [List.drop_drop] at hq
          rw [rnF_count f (p + stepR (l.drop p)) l m (by omega) hq]
          have : m + 1 = n := by simpa using hr
          omega
/-- how many code points bytes are; -1: they are no UTF-8 -/
def Rn (b : List UInt8) : Int := match rnF b.length b with | some n => n | none => -1
theorem Rn_spec (b : List UInt8) : Rn b = if Lib.validD b = false then -1 else (Lib.runeCountL b : Int) := by
  have h1 := rnF_valid b.length b (Nat.le_refl _)
  have h2 := rnF_count b.length 0 b
  rw [List.drop_zero] at h2
  unfold Rn Lib.validD
  cases hq : rnF b.length b with
  | none => rw [hq] at h1; rw [h1]; rfl
  | some n =>
    rw [hq] at h1
    rw [h1]
    have := h2 n (by omega) hq
    rw [Lib.runeCountL, Lib.runeCount, size_list, this]
    rfl
theorem rnF_stable : ∀ (f g : Nat) (b : List UInt8), b.length ≤ f → b.length ≤ g → rnF f b = rnF g b
  | 0, 0, _, _, _ => rfl
  | 0, g + 1, b, h, _ => by
    obtain rfl : b = [] := List.eq_nil_of_length_eq_zero (by omega)
    rfl
  | f + 1, 0, b, _, h => by
    obtain rfl : b = [] := List.eq_nil_of_length_eq_zero (by omega)
    rfl
  | f + 1, g + 1, b, h, k => by
    unfold rnF
    by_cases hb : b = []
    · rw [if_pos hb, if_pos hb]
    · have hl : 0 < b.length := List.length_pos_iff.2 hb
      rw [if_neg hb, if_neg hb]
      by_cases hs : stepR b = 0
      · rw [if_pos hs, if_pos hs]
      · rw [if_neg hs, if_neg hs, rnF_stable f g _ (by rw [List.length_drop]; omega) (by rw [List.length_drop]; omega)]
def after (n : Nat) (r : Option Nat) : Int := match r with | some c => (n + c : Nat) | none => -1
theorem after_step {b : List UInt8} {n : Nat} (hb : b ≠ []) (hs : stepR b ≠ 0) : after n (rnF b.length b) = after (n + 1) (rnF (b.drop (stepR b)).length (b.drop (stepR b))) := by
  have hl : 0 < b.length := List.length_pos_iff.2 hb
  have e : rnF b.length b = (rnF (b.drop (stepR b)).length (b.drop (stepR b))).map (· + 1) := by
    obtain ⟨m, hm⟩ : ∃ m, b.length = m + 1 := ⟨b.length - 1, by omega⟩
    rw [hm, rnF, if_neg hb, if_neg hs, rnF_stable m _ _ (by rw [List.length_drop]; omega) (Nat.le_refl _)]
  rw [e]
  cases rnF (b.drop (stepR b)).length (b.drop (stepR b)) with
  | none => rfl
  | some c => show ((n + (c + 1) : Nat) : Int) = ((n + 1 + c : Nat) : Int); omega
theorem after_bad {b : List UInt8} {n : Nat} (hb : b ≠ []) (hs : stepR b = 0) : after n (rnF b.length b) = -1 := by
  have hl : 0 < b.length := List.length_pos_iff.2 hb
  obtain ⟨m, hm⟩ : ∃ m, b.length = m + 1 := ⟨b.length - 1, by omega⟩
  rw [hm, rnF, if_neg hb, if_pos hs]; rfl
theorem at_get {b : List UInt8} {i : Nat} (h : i < b.length) : at_ b i = (b[i]).toNat := by rw [at_, List.getD_eq_getElem?_getD, List.getElem?_eq_getElem h]; rfl
theorem ldK_cases (x : Nat) : ldK x = 0 ∨ ldK x = 1 ∨ ldK x = 2 ∨ ldK x = 3 ∨ ldK x = 4 := by
  unfold ldK
  split
  · omega
  · split
    · omega
    · split
      · omega
      · split <;> omega
theorem sealskinref02_Runes_of {b0 : List UInt8} {Q : Int → Prop} (hl0 : b0.length ≤ 1000000000000) (hQ : Q (Rn b0)) : sealskinref02_Runes b0 Q := by
  unfold sealskinref02_Runes
  refine ⟨fun n => n = Rn b0, fun n hn => hn ▸ hQ, ?_⟩
  refine ⟨fun m b i => ∃ n : Nat, i = (n : Int) ∧ m = b.length ∧ n + b.length ≤ b0.length ∧ Rn b0 = after n (rnF b.length b), b0.length, ⟨0, rfl, rfl, by omega, by unfold Rn after; cases rnF b0.length b0 <;> simp⟩, ?_⟩
  rintro m b i ⟨n, rfl, rfl, hnb, hR⟩
  refine ⟨fun hpos => ?_, fun hz => ?_⟩
  rotate_left
  · have : b = [] := List.eq_nil_of_length_eq_zero (by omega)
    subst this
    rw [hR]; show ((n : Nat) : Int) = ((n + 0 : Nat) : Int); omega
  · have hbn : b ≠ [] := fun h => by rw [h] at hpos; simp at hpos
    have hl : 0 < b.length := List.length_pos_iff.2 hbn
    have bad : stepR b = 0 → Q (-1) := fun hs => by rw [hR, after_bad hbn hs] at hQ; exact hQ
    have h0 := at_get hl
    generalize hx : at_ b 0 = x at h0
    refine ⟨fun k lo hi => k = (ldK x : Int) ∧ lo.toNat = ldLo x ∧ hi.toNat = ldHi x, ?_, b[0], At.get hl, ?_⟩
    · rintro k lo hi ⟨rfl, hlo, hhi⟩
      refine ⟨fun y => y = decide (ldK x = 0 ∨ b.length < ldK x), ?_, fun h => ?_, fun h => ?_⟩
      · rintro y rfl
        by_cases hk : ldK x = 0 ∨ b.length < ldK x
        · refine ⟨fun _ => bad ?_, fun h => by simp [hk] at h⟩
          rcases hk with hk | hk
          · rw [step_X, hx, step0 hk]
          · have hz : at_ b (ldK x - 1) = 0 := Decidable.byContradiction fun h => by have := at_big h; omega
            have hk4 : ldK x = 1 ∨ ldK x = 2 ∨ ldK x = 3 ∨ ldK x = 4 := by rcases ldK_cases x with h | h | h | h | h <;> omega
            have hlp : 128 ≤ ldLo x := by unfold ldLo; split <;> (try omega); split <;> omega
            rw [step_X, hx]
            unfold stepX
            rcases hk4 with e | e | e | e <;> rw [e] at hz hk ⊢
            · omega
            · simp only [Nat.add_one_sub_one] at hz; rw [hz]; simp; omega
            · simp only [Nat.add_one_sub_one] at hz; rw [hz]; simp
            · simp only [Nat.add_one_sub_one] at hz; rw [hz]; simp
        · have hk1 : 0 < ldK x := by omega
          have hk2 : ldK x ≤ b.length := by omega
          refine ⟨fun h => absurd (of_decide_eq_true h) hk, fun _ => ?_⟩
          refine ⟨stepR b = ldK x, fun hs => ?_, ?_⟩
          · rw [cut_back]
            refine ⟨by omega, by omega, by unfold Ck; omega, b.length - ldK x, by omega, n + 1, by omega, by rw [List.length_drop], by rw [List.length_drop]; omega, ?_⟩
            rw [hR, after_step hbn (by omega), hs]
          · have hst : stepR b = stepX x (at_ b 1) (at_ b 2) (at_ b 3) := by rw [step_X, hx]
            refine lp3_inv (ldK x - 1) (fun j lo hi i => i = ((1 + j : Nat) : Int) ∧ (j = 0 → lo.toNat = ldLo x ∧ hi.toNat = ldHi x) ∧ (j ≠ 0 → lo.toNat = 128 ∧ hi.toNat = 191) ∧ (1 ≤ j → inR b 1 (ldLo x) (ldHi x)) ∧ (2 ≤ j → inR b 2 128 191) ∧ (3 ≤ j → inR b 3 128 191)) ⟨rfl, fun _ => ⟨hlo, hhi⟩, fun h => absurd rfl h, fun h => by omega, fun h => by omega, fun h => by omega⟩ ?_ ?_
            · rintro j hj lo hi i ⟨rfl, hA, hB, c1, c2, c3⟩ next hnext
              have hjl : 1 + j < b.length := by omega
              have hk4 : ldK x ≤ 4 := by rcases ldK_cases x with h | h | h | h | h <;> omega
              have hat := at_get hjl
              refine ⟨fun _ => ⟨fun y => y = decide (¬ inR b (1 + j) lo.toNat hi.toNat), ?_, b[1 + j], At.get hjl, fun h => ?_, fun h => ⟨b[1 + j], At.get hjl, ?_⟩⟩, fun h => absurd (by omega) h⟩
              · rintro y rfl
                by_cases hin : inR b (1 + j) lo.toNat hi.toNat
                · refine ⟨fun h => absurd hin (of_decide_eq_true h), fun _ => ⟨by unfold Ck; omega, hnext _ _ _ ⟨by omega, fun h => by omega, fun _ => ⟨rfl, rfl⟩, fun _ => ?_, fun h => ?_, fun h => ?_⟩⟩⟩
                  · by_cases hj0 : j = 0
                    · subst hj0; obtain ⟨e1, e2⟩ := hA rfl; rw [e1, e2] at hin; exact hin
                    · exact c1 (by omega)
                  · by_cases hj1 : j = 1
                    · subst hj1; obtain ⟨e1, e2⟩ := hB (by omega); rw [e1, e2] at hin; exact hin
                    · exact c2 (by omega)
                  · by_cases hj1 : j = 2
                    · subst hj1; obtain ⟨e1, e2⟩ := hB (by omega); rw [e1, e2] at hin; exact hin
                    · exact c3 (by omega)
                · refine ⟨fun _ => bad ?_, fun h => by simp [hin] at h⟩
                  rw [hst]
                  unfold stepX
                  have hj3 : j = 0 ∨ j = 1 ∨ j = 2 := by omega
                  rcases hj3 with rfl | rfl | rfl
                  · obtain ⟨e1, e2⟩ := hA rfl
                    rw [e1, e2] at hin
                    have : 2 ≤ ldK x ∧ ¬ (ldLo x ≤ at_ b 1 ∧ at_ b 1 ≤ ldHi x) := ⟨by omega, hin⟩
                    rw [if_neg (by omega), if_pos this]
                  · obtain ⟨e1, e2⟩ := hB (by omega)
                    rw [e1, e2] at hin
                    have : 3 ≤ ldK x ∧ ¬ (128 ≤ at_ b 2 ∧ at_ b 2 ≤ 191) := ⟨by omega, hin⟩
                    rw [if_neg (by omega), if_neg (fun h => h.2 (c1 (by omega))), if_pos this]
                  · obtain ⟨e1, e2⟩ := hB (by omega)
                    rw [e1, e2] at hin
                    have : 4 ≤ ldK x ∧ ¬ (128 ≤ at_ b 3 ∧ at_ b 3 ≤ 191) := ⟨by omega, hin⟩
                    rw [if_neg (by omega), if_neg (fun h => h.2 (c1 (by omega))), if_neg (fun h => h.2 (c2 (by omega))), if_pos this]
              · show true = decide _
                rw [decide_eq_true]
                unfold inR; rw [hat]; omega
              · show decide _ = decide _
                congr 1
                unfold inR; rw [hat]
                exact propext ⟨fun h2 => by omega, fun h2 => by omega⟩
            · rintro lo hi i ⟨rfl, hA, hB, c1, c2, c3⟩ next
              refine ⟨fun h => absurd h (by omega), fun _ => ?_⟩
              rw [hst]
              unfold stepX
              rw [if_neg (by omega), if_neg (fun h => h.2 (c1 (by omega))), if_neg (fun h => h.2 (c2 (by omega))), if_neg (fun h => h.2 (c3 (by omega)))]
      · have : ldK x = 0 := by omega
        simp [this]
      · have h' : ¬ ldK x = 0 := by omega
        show decide _ = decide _
        congr 1
        exact propext ⟨fun h => .inr (by omega), fun h => by omega⟩
    · have e1 : (128 : UInt8).toNat = 128 := rfl
      have e2 : (191 : UInt8).toNat = 191 := rfl
      have e3 : (159 : UInt8).toNat = 159 := rfl
      have e4 : (160 : UInt8).toNat = 160 := rfl
      have e5 : (143 : UInt8).toNat = 143 := rfl
      have e6 : (144 : UInt8).toNat = 144 := rfl
      have hx8 : x < 256 := by rw [h0]; exact (b[0]).toNat_lt
      rw [← h0]
      clear bad hR hQ hnb hpos
      refine ⟨fun c1 => ⟨by rw [ldK, if_pos (by omega)]; rfl, by rw [e1, ldLo, if_neg (by omega), if_neg (by omega)], by rw [e2, ldHi, if_neg (by omega), if_neg (by omega)]⟩, fun c1 => ⟨fun y => y = decide (194 ≤ x ∧ x ≤ 223), ?_, fun h => ?_, fun h => ?_⟩⟩
      · rintro y rfl
        refine ⟨fun h => ?_, fun h => ?_⟩
        · have h := of_decide_eq_true h
          exact ⟨by rw [ldK, if_neg (by omega), if_pos h]; rfl, by rw [e1, ldLo, if_neg (by omega), if_neg (by omega)], by rw [e2, ldHi, if_neg (by omega), if_neg (by omega)]⟩
        · have h2 := of_decide_eq_false h
          refine ⟨fun y => y = decide (224 ≤ x ∧ x ≤ 239), ?_, fun h => ?_, fun h => ?_⟩
          · rintro y rfl
            refine ⟨fun h => ?_, fun h => ?_⟩
            · have h3 := of_decide_eq_true h
              have hk : (3 : Int) = (ldK x : Int) := by rw [ldK, if_neg (by omega), if_neg (by omega), if_pos h3]; rfl
              refine ⟨fun lo => lo.toNat = ldLo x, fun lo hlo => ⟨fun h => ⟨hk, hlo, by rw [e3, ldHi, if_pos (by omega)]⟩, fun h => ⟨hk, hlo, by rw [e2, ldHi, if_neg (by omega), if_neg (by omega)]⟩⟩, fun h => ?_, fun h => ?_⟩
              · show (160 : UInt8).toNat = _; rw [e4, ldLo, if_pos (by omega)]
              · show (128 : UInt8).toNat = _; rw [e1, ldLo, if_neg (by omega), if_neg (by omega)]
            · have h3 := of_decide_eq_false h
              refine ⟨fun y => y = decide (240 ≤ x ∧ x ≤ 244), ?_, fun h => ?_, fun h => ?_⟩
              · rintro y rfl
                refine ⟨fun h => ?_, fun h => ?_⟩
                · have h4 := of_decide_eq_true h
                  have hk : (4 : Int) = (ldK x : Int) := by rw [ldK, if_neg (by omega), if_neg (by omega), if_neg (by omega), if_pos h4]; rfl
                  refine ⟨fun lo => lo.toNat = ldLo x, fun lo hlo => ⟨fun h => ⟨hk, hlo, by rw [e5, ldHi, if_neg (by omega), if_pos (by omega)]⟩, fun h => ⟨hk, hlo, by rw [e2, ldHi, if_neg (by omega), if_neg (by omega)]⟩⟩, fun h => ?_, fun h => ?_⟩
                  · show (144 : UInt8).toNat = _; rw [e6, ldLo, if_neg (by omega), if_pos (by omega)]
                  · show (128 : UInt8).toNat = _; rw [e1, ldLo, if_neg (by omega), if_neg (by omega)]
                · have h4 := of_decide_eq_false h
                  exact ⟨by rw [ldK, if_neg (by omega), if_neg (by omega), if_neg (by omega), if_neg (by omega)]; rfl, by rw [e1, ldLo, if_neg (by omega), if_neg (by omega)], by rw [e2, ldHi, if_neg (by omega), if_neg (by omega)]⟩
              · show decide _ = decide _; congr 1; exact propext ⟨fun _ => by omega, fun _ => by omega⟩
              · show false = decide _; rw [eq_comm, decide_eq_false_iff_not]; omega
          · show decide _ = decide _; congr 1; exact propext ⟨fun _ => by omega, fun _ => by omega⟩
          · show false = decide _; rw [eq_comm, decide_eq_false_iff_not]; omega
      · show decide _ = decide _; congr 1; exact propext ⟨fun _ => by omega, fun _ => by omega⟩
      · show false = decide _; rw [eq_comm, decide_eq_false_iff_not]; omega
end Go.Lx
