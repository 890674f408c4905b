/- Layer 46 (stream): reports as a parameter; the load of one of them. -/
import Derived.Test.YtecbfegohdllbaaDoorStreamRows
import Derived.Test.YtecbfegohdllbaaDoorFlat
import Derived.Deep.Slices
namespace Go.Proofs.YtecbfegohdllbaaDoor
open Go.RowKit Go.ChangeShapes Go.WideShapes Go.Deep
set_option linter.unusedVariables false
set_option linter.unusedSimpArgs false
theorem open_reps {H : Type} {enc : TypeId × Value → H} {w : World} {base : Nat} {held : Bool} {fuel : Nat} {a : Option Addr} {len cap : Nat} {x : DataW H × List MemPlace}
    (h : DataW.trod enc Tryd.prog w base (fun _ => true) held fuel 60 (Value.slice a len cap).cells.toList = some x) : ∃ l, RRow w (.slice a len cap) l ∧ ∀ Z ∈ l, RepWf Z := by
  rcases open_slice Tryd.underlying60 h with ⟨hcs, -⟩ | ⟨a', len', cap', m, n, D, Pl, hcs, -, hl, hm, hmm, -, hx⟩
  · simp [Value.cells] at hcs
    obtain ⟨rfl, rfl, rfl⟩ := hcs
    exact ⟨[], ⟨none, 0, rfl, Nat.le_refl _, fun _ => rfl, fun b e => by cases e⟩, fun Z hZ => by cases hZ⟩
  · simp [Value.cells] at hcs
    obtain ⟨rfl, rfl, rfl⟩ := hcs
    simp only [if_true] at hmm
    subst hmm
    have hc : Tryd.prog.cellsOf 50 = 11 := by kernel_rfl
    have each : ∀ i, i < m → ∃ Z : List Int, RepWf Z ∧ ∀ (j : Nat) (x : Value), (rcells Z).toList[j]? = some x → w.cell? (a'.add (11 * i + j)) = some x := by
      intro i hi
      obtain ⟨cs, h1, h2⟩ := hx i hi
      rw [hc] at h1
      obtain ⟨-, hlen, hcell⟩ := World.cells?_some h1
      obtain ⟨Z, z1, z2, z3⟩ := flat_cells (n := 5) (N := 11) (ks := rkinds) (by kernel_rfl) h2 hlen
      refine ⟨Z, ⟨z1, z3⟩, fun j x hj => ?_⟩
      have hj' : cs[j]? = some x := by rw [z2]; simpa [rcells] using hj
      have hjl : j < 11 := by rw [← hlen]; exact (List.getElem?_eq_some_iff.1 hj').1
      have := hcell j hjl
      rw [add_add, Nat.mul_comm i 11] at this
      rw [this, hj']
    obtain ⟨f, hf⟩ := choose_lt each
    refine ⟨(List.range len).map f, ⟨some a', m, by simp, by simpa using hl, (fun e => by cases e), fun b e i Z hi j x hj => ?_⟩, fun Z hZ => ?_⟩
    · obtain rfl := Option.some.inj e
      obtain ⟨hr, hZ⟩ : i < len ∧ f i = Z := by
        rw [List.getElem?_map] at hi
        obtain ⟨r, hr, hB⟩ := Option.map_eq_some_iff.1 hi
        obtain ⟨h1, h2⟩ := List.getElem?_eq_some_iff.1 hr
        simp at h1 h2
        subst h2
        exact ⟨h1, hB⟩
      subst hZ
      exact (hf i (by omega)).2 j x hj
    · obtain ⟨i, hi, rfl⟩ := List.mem_map.1 hZ
      exact (hf i (by have := List.mem_range.1 hi; omega)).1
theorem wpR_load_part {Q : Exit → Act → World → Prop} {ops : Array Oper} {rest : List Oper} {o : Oper} {a : Act} {w : World} (hg : Region.wanted o (yielded ops a.tmps) = true) (x : Operand) (ho : o.op = .load 50 x)
    (p : Addr) (hx : a.eval x = .pointer (some p)) (Z : List Int) (hZ : Z.length = 11) (hc : ∀ (j : Nat) (v : Value), (rcells Z).toList[j]? = some v → w.cell? (p.add j) = some v)
    (h : wpList Tryd.prog ops Q rest (a.put o.dst (.agg (rcells Z))) w) : wpList Tryd.prog ops Q (o :: rest) a w := by
  refine wpList_unguard hg (wpList_plain rfl fun K hK => ?_)
  have hrun := exec_load_part (o := { o with guard := none }) (ρ := a.eval) (w := w) x ho p hx Z hZ hc
  unfold Oper.wp
  rw [hrun]
  exact hK _ _ h
end Go.Proofs.YtecbfegohdllbaaDoor
