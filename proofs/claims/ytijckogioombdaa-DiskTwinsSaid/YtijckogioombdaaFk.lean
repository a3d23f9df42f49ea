/- PLAIN: a fuse that burns over several appends. -/
import Derived.Test.YtijckogioombdaaFj
set_option linter.unusedVariables false
set_option linter.unusedSimpArgs false
namespace Go.Sx
open Go
structure Burnt (D0 D : Dk) (N T : Nat) : Prop where
  room : D.room = D0.room
  used : D.used ≤ D0.used + T
  len : (D.F.getD 1 []).length = (D0.F.getD 1 []).length + min T N
  on : T < N → D.off = false ∧ D.armed = true ∧ D.left = N - T
  off : N ≤ T → D.off = true
theorem Burnt.step {D0 D : Dk} {N T : Nat} (h : Burnt D0 D N T) (hT : D.F.length = 3) (b : List UInt8) (hb : D0.used + T + b.length ≤ D0.room) :
    Burnt D0 (D.append 1 b).2 N (T + b.length) ∧ ((D.append 1 b).1 = 50 ↔ N ≤ T + b.length) := by
  have hu := h.used
  have hl := h.len
  have hr := h.room
  rcases Nat.lt_or_ge T N with hlt | hge
  · obtain ⟨h1, h2, h3⟩ := h.on hlt
    have hp := append_put (D := D) (i := 1) (b := b) (by decide) h1 (by omega)
    rw [show ((1 : Nat) : Int) = 1 from rfl] at hp
    have hpu := used_put (D := D.burnD b.length) (i := 1) (by rw [burnD_F]; exact hT) (by decide) (D.F.getD 1 [] ++ b.take (D.burnN b.length))
    rw [burnD_used, burnD_F, List.length_append, List.length_take] at hpu
    have hbl := burn_le D b.length
    rw [hp]
    have hset : (((D.burnD b.length).put 1 (D.F.getD 1 [] ++ b.take (D.burnN b.length))).F.getD 1 []).length = (D.F.getD 1 []).length + D.burnN b.length := by
      show (((D.burnD b.length).F.set 1 _).getD 1 []).length = _
      rw [set_same (by rw [burnD_F, hT]; decide), List.length_append, List.length_take]
      omega
    have hroom : ((D.burnD b.length).put 1 (D.F.getD 1 [] ++ b.take (D.burnN b.length))).room = D0.room := by
      show (D.burnD b.length).room = _
      rw [burnD_room, hr]
    by_cases hc : b.length < D.left
    · have hN : D.burnN b.length = b.length := by rw [Dk.burnN, h2, if_pos rfl, if_pos hc]
      have hD : D.burnD b.length = { D with left := D.left - b.length } := by rw [Dk.burnD, h2, if_pos rfl, if_pos hc]
      refine ⟨⟨hroom, by dsimp only; omega, by dsimp only; rw [hset]; omega, fun _ => ?_, fun hx => ?_⟩, ?_⟩
      · dsimp only
        rw [hD]
        exact ⟨h1, h2, by show D.left - b.length = _; omega⟩
      · omega
      · dsimp only
        rw [hD]
        unfold Dk.done Dk.put
        dsimp only
        rw [h1]
        constructor
        · intro hx; simp at hx
        · intro hx; omega
    · have hN : D.burnN b.length = D.left := by rw [Dk.burnN, h2, if_pos rfl, if_neg hc]
      have hD : D.burnD b.length = { D with off := true, armed := false, left := 0 } := by rw [Dk.burnD, h2, if_pos rfl, if_neg hc]
      refine ⟨⟨hroom, by dsimp only; omega, by dsimp only; rw [hset]; omega, fun hx => ?_, fun _ => ?_⟩, ?_⟩
      · omega
      · dsimp only
        rw [hD]; rfl
      · dsimp only
        rw [hD]
        unfold Dk.done Dk.put
        dsimp only
        constructor
        · intro _; omega
        · intro _; rfl
  · have ho := h.off hge
    have he : D.append 1 b = (50, D) := by
      have ha : D.able 1 = 50 := by rw [Dk.able, if_pos ho]
      rw [Dk.append, ha, if_pos (by decide)]
    rw [he]
    refine ⟨⟨hr, by dsimp only; omega, by dsimp only; omega, fun hx => by omega, fun _ => ho⟩, ?_⟩
    constructor
    · intro _; omega
    · intro _; rfl
theorem Burnt.start {D : Dk} {N : Nat} (hN : 1 ≤ N) : (D.start.2.disarm.2.arm (N : Int)).1 = 0 ∧ Burnt D (D.start.2.disarm.2.arm (N : Int)).2 N 0 := by
  have ha : D.start.2.disarm.2.arm (N : Int) = (0, { D with off := false, armed := true, left := N }) := by
    unfold Dk.arm Dk.disarm Dk.start
    simp only [Bool.false_eq_true, if_false]
    rw [if_neg (by omega)]
    rfl
  rw [ha]
  exact ⟨rfl, rfl, by show D.used ≤ _; omega, by show (D.F.getD 1 []).length = _; omega, fun _ => ⟨rfl, rfl, by show N = _; omega⟩, fun h => by omega⟩
end Go.Sx
