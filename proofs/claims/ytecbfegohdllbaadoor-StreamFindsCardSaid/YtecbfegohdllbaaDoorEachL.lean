/- As the text EachF, but that one operation, z, which waits for all others, may write wherever: a region that draws its order: one order walked serves every order, where what reads may be taken first and what is left comes alone. (No program in sight.) -/
import Derived.OrdersHeld
import Derived.Test.YtecbfegohdllbaaDoorPackA
import Derived.Below
import Derived.Deep.RegionHeld3
namespace Go.Proofs.YtecbfegohdllbaaDoor
open Go.RowKit Go
section
variable {z : Nat} {B : Nat} {P : Program} {ops : Array Oper} {Q : Exit → Act → World → Prop} {md : Region.Mode}
/-- Whatever order is picked from here on; each step leaves what was there. -/
def wpAnyL (z B : Nat) (P : Program) (md : Region.Mode) (ops : Array Oper) (Q : Exit → Act → World → Prop) : Nat → Array Bool → Act → World → Prop
  | 0, listed, a, w => Region.ready md ops listed = [] ∧ Q .normal a w
  | fuel + 1, listed, a, w =>
    (Region.ready md ops listed = [] → Q .normal a w) ∧
    ∀ i ∈ Region.ready md ops listed, wpOp P ops Q i (fun a' w' => (i ≠ z → Below B w w') ∧ wpAnyL z B P md ops Q fuel (listed.setIfInBounds i true) a' w') a w
theorem wpAny_of_L : ∀ (fuel : Nat) (listed : Array Bool) (a : Act) (w : World), wpAnyL z B P md ops Q fuel listed a w → wpAny P md ops Q fuel listed a w
  | 0, _, _, _, h => h
  | fuel + 1, _, _, _, h => ⟨h.1, fun i hi => wpOp_mono (fun a' w' h' => wpAny_of_L fuel _ a' w' h'.2) (h.2 i hi)⟩
theorem belowL_chain {B : Nat} {w w1 w2 : World} (h : Below B w w1) (k : Below B w1 w2) : Below B w w2 := h.trans k
theorem yieldsIfL_mono {S S' : World → Prop} {o : Oper} {v : Value} {a : Act} (h : ∀ w, S' w → S w) (hy : YieldsIf P ops S o v a) : YieldsIf P ops S' o v a :=
  hy.imp (fun ⟨h1, h2⟩ => ⟨h1, fun w hw => h2 w (h w hw)⟩) id
/-- what waits for i, and what waits for that: none of it listed yet -/
def LagsP (md : Region.Mode) (ops : Array Oper) (i : Nat) (ds : List Nat) (listed : Array Bool) : Prop :=
  ∀ d ∈ ds, listed.getD d true = false ∧ ∃ o, ops[d]? = some o ∧ ∃ e ∈ o.after, Region.binds md e = true ∧ (e.on = i ∨ e.on ∈ ds)
def lags (md : Region.Mode) (ops : Array Oper) (i : Nat) (ds : List Nat) (listed : Array Bool) : Bool :=
  ds.all fun d => !(listed.getD d true) && match ops[d]? with | some o => o.after.any fun e => Region.binds md e && (e.on == i || ds.contains e.on) | none => false
theorem lags_spec {i : Nat} {ds : List Nat} {listed : Array Bool} (h : lags md ops i ds listed = true) : LagsP md ops i ds listed := by
  intro d hd
  have h1 := List.all_eq_true.1 h d hd
  simp only [Bool.and_eq_true, Bool.not_eq_true'] at h1
  refine ⟨h1.1, ?_⟩
  cases ho : ops[d]? with
  | none => rw [ho] at h1; cases h1.2
  | some o =>
    rw [ho] at h1
    obtain ⟨k, hk, he⟩ := Array.any_eq_true.1 h1.2
    simp only [Bool.and_eq_true, Bool.or_eq_true, beq_iff_eq, List.contains_iff_mem] at he
    exact ⟨o, rfl, o.after[k], Array.getElem_mem hk, he.1, he.2⟩
theorem unlisted {listed : Array Bool} {k : Nat} (h0 : listed.getD k true = false) (h1 : listed.getD k false = true) : False := by
  rcases Nat.lt_or_ge k listed.size with h' | h'
  · simp [h'] at h0 h1; rw [h0] at h1; cases h1
  · simp [Array.getElem?_eq_none h'] at h1
theorem lags_not {i d : Nat} {ds : List Nat} {listed : Array Bool} (h : LagsP md ops i ds listed) (hi : listed.getD i true = false) (hd : d ∈ ds) : d ∉ Region.ready md ops listed := by
  intro hr
  obtain ⟨-, o, ho, e, he, hb, hon⟩ := h d hd
  obtain ⟨_, o', ho', hall⟩ := mem_ready.1 hr
  rw [ho] at ho'
  obtain rfl := Option.some.inj ho'
  have h1 := hall e he hb
  rcases hon with rfl | hon
  · exact unlisted hi h1
  · exact unlisted (h _ hon).1 h1
theorem wpAnyL_first {i : Nat} {oi : Oper} {v : Value} (hi : ops[i]? = some oi) (hsel : ∀ (j : Nat) (o : Oper) cs b, ops[j]? = some o → o.op ≠ .select cs b)
    (hQ : ∀ c a w, Q (.panic c) (a.put oi.dst v) w → Q (.panic c) a w) {ds : List Nat} (hzd : z ∈ ds) :
    ∀ (fuel : Nat) (listed : Array Bool) (a : Act) (w : World),
      (∀ j oj, ops[j]? = some oj → j ≠ i → listed.getD j true = false → (∀ e ∈ oj.after, Region.binds md e = true → e.on ≠ i) → oi.apart ops oj = true) →
      LagsP md ops i ds listed → i ∈ Region.ready md ops listed → YieldsIf P ops (fun w' => Below B w w') oi v a →
      wpAnyL z B P md ops Q fuel (listed.setIfInBounds i true) (a.put oi.dst v) w → wpAnyL z B P md ops Q (fuel + 1) listed a w := by
  intro fuel
  induction fuel with
  | zero =>
    intro listed a w _ _ hr hy H
    refine ⟨fun h => (by rw [h] at hr; cases hr), fun j hj => ?_⟩
    by_cases hji : j = i
    · subst hji; exact hy.wpOp hi (Below.refl _ _) ⟨fun _ => Below.refl _ _, H⟩
    · have := ready_mono hj hji
      rw [H.1] at this
      cases this
  | succ fuel ih =>
    intro listed a w hfree hlg hr hy H
    refine ⟨fun h => (by rw [h] at hr; cases hr), fun j hj => ?_⟩
    by_cases hji : j = i
    · subst hji; exact hy.wpOp hi (Below.refl _ _) ⟨fun _ => Below.refl _ _, H⟩
    · have hjz : j ≠ z := fun e => lags_not hlg (mem_ready.1 hr).1 hzd (by rw [← e]; exact hj)
      have hlg' : LagsP md ops i ds (listed.setIfInBounds j true) := fun d hd => by
        have hdj : j ≠ d := fun e => lags_not hlg (mem_ready.1 hr).1 hd (by rw [← e]; exact hj)
        exact ⟨by rw [getD_set_ne true hdj]; exact (hlg d hd).1, (hlg d hd).2⟩
      have h1 := H.2 j (ready_mono hj hji)
      obtain ⟨hjun, oj, hoj, hall⟩ := mem_ready.1 hj
      have hnot : ∀ e ∈ oj.after, Region.binds md e = true → e.on ≠ i := fun e he hb heq => by
        have h1 := hall e he hb
        have h0 := (mem_ready.1 hr).1
        rw [heq] at h1
        rcases Nat.lt_or_ge i listed.size with h' | h'
        · simp [h'] at h0 h1; rw [h0] at h1; cases h1
        · simp [Array.getElem?_eq_none h'] at h1
      have h2 := wpOp_putIf hoj (hfree j oj hoj hji hjun hnot) (fun cs b => hsel i oi cs b hi) (fun cs b => hsel j oj cs b hoj) hQ hy h1
      have hfree' : ∀ k ok, ops[k]? = some ok → k ≠ i → (listed.setIfInBounds j true).getD k true = false →
          (∀ e ∈ ok.after, Region.binds md e = true → e.on ≠ i) → oi.apart ops ok = true := fun k ok hk hki hun hno => by
        refine hfree k ok hk hki ?_ hno
        by_cases hjk : j = k
        · subst hjk; exact hjun
        · rw [getD_set_ne true hjk] at hun; exact hun
      refine wpOp_mono (fun a' w' h3 => ⟨h3.2.1, ih (listed.setIfInBounds j true) a' w' hfree' hlg' (ready_mono hr (Ne.symm hji)) (yieldsIfL_mono (fun w2 hw2 => belowL_chain (h3.2.1 hjz) hw2) h3.1) ?_⟩) h2
      rw [Array.setIfInBounds_comm _ _ hji]
      exact h3.2.2
theorem wpAnyL_take {i : Nat} {oi : Oper} {v : Value} {fuel : Nat} {listed : Array Bool} {a : Act} {w : World} (d : Option Tmp) (hi : ops[i]? = some oi) (hd : oi.dst = d)
    (hs : Region.noSelect ops = true) (hf : Region.free md ops listed i = true) (hr : (Region.ready md ops listed).contains i = true)
    (hQ : ∀ c a w, Q (.panic c) (a.put d v) w → Q (.panic c) a w) (hw : Region.wanted oi (yielded ops a.tmps) = true) (ds : List Nat) (hz : (ds.contains z && lags md ops i ds listed) = true)
    (hv : ∀ w', Below B w w' → (execOp a.eval oi).run P w' = .ok (.value v) w')
    (h : wpAnyL z B P md ops Q fuel (listed.setIfInBounds i true) (a.put d v) w) : wpAnyL z B P md ops Q (fuel + 1) listed a w := by
  subst hd
  simp only [Bool.and_eq_true, List.contains_iff_mem] at hz
  exact wpAnyL_first hi (Region.noSelect_spec hs) hQ hz.1 fuel listed a w (Region.free_spec hi hf) (lags_spec hz.2) (by simpa using hr) (.inl ⟨hw, hv⟩) h
theorem wpAnyL_skip {i : Nat} {oi : Oper} {fuel : Nat} {listed : Array Bool} {a : Act} {w : World} (d : Option Tmp) (hi : ops[i]? = some oi) (hd : oi.dst = d)
    (hs : Region.noSelect ops = true) (hf : Region.free md ops listed i = true) (hr : (Region.ready md ops listed).contains i = true)
    (hQ : ∀ c a w, Q (.panic c) (a.put d undef) w → Q (.panic c) a w) (hw : Region.wanted oi (yielded ops a.tmps) = false) (ds : List Nat) (hz : (ds.contains z && lags md ops i ds listed) = true)
    (h : wpAnyL z B P md ops Q fuel (listed.setIfInBounds i true) (a.put d undef) w) : wpAnyL z B P md ops Q (fuel + 1) listed a w := by
  subst hd
  simp only [Bool.and_eq_true, List.contains_iff_mem] at hz
  exact wpAnyL_first hi (Region.noSelect_spec hs) hQ hz.1 fuel listed a w (Region.free_spec hi hf) (lags_spec hz.2) (by simpa using hr) (.inr ⟨hw, rfl⟩) h
/-- what comes alone -/
theorem wpAnyL_alone {i : Nat} {oi : Oper} {fuel : Nat} {listed : Array Bool} {a : Act} {w : World} (hi : ops[i]? = some oi) (hr : Region.ready md ops listed = [i])
    (hw : Region.wanted oi (yielded ops a.tmps) = true)
    (h : ∀ K : Act → World → Prop, Shut (∀ a' w', (i ≠ z → Below B w w') → wpAnyL z B P md ops Q fuel (listed.setIfInBounds i true) a' w' → K a' w') → oi.wp P a w K Q) : wpAnyL z B P md ops Q (fuel + 1) listed a w := by
  refine ⟨fun h0 => (by rw [hr] at h0; cases h0), fun j hj => ?_⟩
  rw [hr, List.mem_singleton] at hj
  subst hj
  unfold wpOp
  simp only [hi, hw, if_true]
  exact .inl (h _ (fun a' w' h1 h2 => ⟨h1, h2⟩))
theorem wpAnyL_done {listed : Array Bool} {a : Act} {w : World} (hr : Region.ready md ops listed = []) (h : Q .normal a w) :
    ∀ fuel, wpAnyL z B P md ops Q fuel listed a w
  | 0 => ⟨hr, h⟩
  | _ + 1 => ⟨fun _ => h, by rw [hr]; simp⟩
theorem wp_region_L' {id : Nat} {a : Act} {w : World} {n : Nat} {l : Array Bool} (hm : P.follows .mixedOrders = true) (hn : ops.size = n) (hl : Array.replicate n false = l)
    (h : wpAnyL z B P .any ops Q n l a w.drew) : (Code.region id ops true).wp P Q a w := by
  subst hn; subst hl
  exact wp_region_any hm (wpAny_of_L _ _ _ _ h)
theorem wp_region_L {id : Nat} {a : Act} {w : World} (hm : P.follows .mixedOrders = true)
    (h : wpAnyL z B P .any ops Q ops.size (Array.replicate ops.size false) a w.drew) : (Code.region id ops true).wp P Q a w :=
  wp_region_any hm (wpAny_of_L _ _ _ _ h)
end
end Go.Proofs.YtecbfegohdllbaaDoor
