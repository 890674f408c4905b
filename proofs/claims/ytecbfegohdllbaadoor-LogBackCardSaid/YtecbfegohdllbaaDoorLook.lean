/- Layer 46 (stream): what a stream of bytes tells, loses and lets wait: plain facts. -/
import Derived.Test.YtecbfegohdllbaaDoorRep
namespace Go.Proofs.YtecbfegohdllbaaDoor
open Go.RowKit
set_option linter.unusedVariables false
set_option linter.unusedSimpArgs false
/-- the reports told, how many bytes are lost, what waits -/
def look (Y : List Int) : List (List Int) × Nat × List Int :=
  if _h : Y.length < 32 then ([], 0, Y)
  else if getE (Y.take 32) = 0 then (getR (Y.take 32) :: (look (Y.drop 32)).1, (look (Y.drop 32)).2.1, (look (Y.drop 32)).2.2)
  else ((look (Y.drop 1)).1, (look (Y.drop 1)).2.1 + 1, (look (Y.drop 1)).2.2)
termination_by Y.length
decreasing_by all_goals (simp; omega)
theorem look_short {Y : List Int} (h : Y.length < 32) : look Y = ([], 0, Y) := by rw [look, dif_pos h]
theorem look_hit {Y : List Int} (h : ¬ Y.length < 32) (he : getE (Y.take 32) = 0) : look Y = (getR (Y.take 32) :: (look (Y.drop 32)).1, (look (Y.drop 32)).2.1, (look (Y.drop 32)).2.2) := by
  rw [look, dif_neg h, if_pos he]
theorem look_miss {Y : List Int} (h : ¬ Y.length < 32) (he : ¬ getE (Y.take 32) = 0) : look Y = ((look (Y.drop 1)).1, (look (Y.drop 1)).2.1 + 1, (look (Y.drop 1)).2.2) := by
  rw [look, dif_neg h, if_neg he]
theorem look_ind {p : List Int → Prop} (h1 : ∀ Y, Y.length < 32 → p Y) (h2 : ∀ Y, ¬ Y.length < 32 → getE (Y.take 32) = 0 → p (Y.drop 32) → p Y) (h3 : ∀ Y, ¬ Y.length < 32 → ¬ getE (Y.take 32) = 0 → p (Y.drop 1) → p Y) : ∀ Y, p Y := by
  have : ∀ n, ∀ Y : List Int, Y.length = n → p Y := by
    intro n
    induction n using Nat.strongRecOn with
    | _ n ih =>
      intro Y hY
      by_cases h : Y.length < 32
      · exact h1 Y h
      · by_cases he : getE (Y.take 32) = 0
        · exact h2 Y h he (ih (Y.drop 32).length (by simp; omega) _ rfl)
        · exact h3 Y h he (ih (Y.drop 1).length (by simp; omega) _ rfl)
  exact fun Y => this _ Y rfl
theorem look_count : ∀ Y, 32 * (look Y).1.length + (look Y).2.1 + (look Y).2.2.length = Y.length ∧ (look Y).2.2.length < 32 := by
  refine look_ind (fun Y h => ?_) (fun Y h he ih => ?_) (fun Y h he ih => ?_)
  · rw [look_short h]; exact ⟨by simp, h⟩
  · rw [look_hit h he]
    simp only [List.length_cons, List.length_drop] at ih ⊢
    omega
  · rw [look_miss h he]
    simp only [List.length_drop] at ih ⊢
    omega
theorem look_app (B : List Int) : ∀ Y, look (Y ++ B) = ((look Y).1 ++ (look ((look Y).2.2 ++ B)).1, (look Y).2.1 + (look ((look Y).2.2 ++ B)).2.1, (look ((look Y).2.2 ++ B)).2.2) := by
  refine look_ind (fun Y h => ?_) (fun Y h he ih => ?_) (fun Y h he ih => ?_)
  · rw [look_short h]; simp
  · have h' : ¬ (Y ++ B).length < 32 := by simp; omega
    have ht : (Y ++ B).take 32 = Y.take 32 := List.take_append_of_le_length (by omega)
    have hd : (Y ++ B).drop 32 = Y.drop 32 ++ B := List.drop_append_of_le_length (by omega)
    rw [look_hit h' (by rw [ht]; exact he), ht, hd, ih, look_hit h he]
    rfl
  · have h' : ¬ (Y ++ B).length < 32 := by simp; omega
    have ht : (Y ++ B).take 32 = Y.take 32 := List.take_append_of_le_length (by omega)
    have hd : (Y ++ B).drop 1 = Y.drop 1 ++ B := List.drop_append_of_le_length (by omega)
    rw [look_miss h' (by rw [ht]; exact he), hd, ih, look_miss h he]
    simp only [Prod.mk.injEq, true_and, and_true]
    omega
theorem look_rest : ∀ Y, ∀ x ∈ (look Y).2.2, x ∈ Y := by
  refine look_ind (fun Y h => ?_) (fun Y h he ih => ?_) (fun Y h he ih => ?_)
  · rw [look_short h]; exact fun x hx => hx
  · rw [look_hit h he]; exact fun x hx => List.mem_of_mem_drop (ih x hx)
  · rw [look_miss h he]; exact fun x hx => List.mem_of_mem_drop (ih x hx)
theorem look_wf : ∀ Y : List Int, (∀ x ∈ Y, 0 ≤ x ∧ x ≤ 255) → ∀ Z ∈ (look Y).1, RepWf Z ∧ RightL Z := by
  refine look_ind (fun Y h => ?_) (fun Y h he ih => ?_) (fun Y h he ih => ?_)
  · rw [look_short h]; intro _ Z hZ; cases hZ
  · rw [look_hit h he]
    intro hb Z hZ
    rcases List.mem_cons.1 hZ with rfl | hZ
    · have := frame_get (Y.take 32) (fun x hx => hb x (List.mem_of_mem_take hx)) he
      exact ⟨this.1, this.2.1⟩
    · exact ih (fun x hx => hb x (List.mem_of_mem_drop hx)) Z hZ
  · rw [look_miss h he]
    intro hb
    exact ih (fun x hx => hb x (List.mem_of_mem_drop hx))
theorem look_frames : ∀ l : List (List Int), (∀ Z ∈ l, RepWf Z ∧ RightL Z) → look (l.flatMap frameL) = (l, 0, [])
  | [], _ => look_short (by decide)
  | Z :: l, h => by
    have hZ := h Z (List.mem_cons_self)
    have hl := frameL_len Z hZ.1.1
    have e : (Z :: l).flatMap frameL = frameL Z ++ l.flatMap frameL := by simp
    have ht : (frameL Z ++ l.flatMap frameL).take 32 = frameL Z := by rw [← hl]; simp
    have hd : (frameL Z ++ l.flatMap frameL).drop 32 = l.flatMap frameL := by rw [← hl]; simp
    have ih := look_frames l (fun Z hZ => h Z (List.mem_cons_of_mem _ hZ))
    have g := get_frame Z hZ.1 hZ.2
    rw [e, look_hit (by simp; omega) (by rw [ht]; exact g.1), ht, hd, ih, g.2]
end Go.Proofs.YtecbfegohdllbaaDoor
