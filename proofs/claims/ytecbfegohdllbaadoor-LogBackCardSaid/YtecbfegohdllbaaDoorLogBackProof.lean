/- Proved: for every input the Go function astrolabe/astrolabelaw47.LogBack returns true, and its arguments read as before. Conditions: none beyond the row's own. -/
import Derived.WalkKit
import Derived.ProofKit
import Derived.OpenShut
import Derived.Test.YtecbfegohdllbaaDoorCardF
import Derived.Test.YtecbfegohdllbaaDoorFlat
import Derived.Test.YtecbfegohdllbaaDoorLog27
import Derived.ShutString
import Derived.ChangeOld
import Derived.Below
namespace Go.Proofs.YtecbfegohdllbaaDoor.logBack
open Go.ChangeShapes Go.WideShapes Go.ChangeAt Go.RowKit
open Go.ChangeMaps (open_string shut_string)
set_option linter.unusedVariables false
theorem own : ownKnob Tryd.prog.godebug = none := pOwn
theorem laidOut : laidOutB Tryd.prog = true := pLaid
theorem laid_met (os : Os) : laidMet Tryd.prog Rows.logBackRow.laid ((laidWorldF os).forCall (fun _ _ => 0) ⟨#[], #[.int .i64 0, .slice none 0 0, .int .i64 0, .int .u16 0], []⟩).memory :=
  laidMet_of_run' 8 (by kernel_rfl) (by kernel_rfl)
theorem reads (os : Os) {H : Type} (enc : TypeId × Value → H) : DataW.whole enc Tryd.prog ((laidWorldF os).forCall (fun _ _ => 0) ⟨#[], #[.int .i64 0, .slice none 0 0, .int .i64 0, .int .u16 0], []⟩).memory Tryd.f19.params.toList Rows.logBackSpec.vars false #[.int .i64 0, .slice none 0 0, .int .i64 0, .int .u16 0].toList 8 = some ([.lit (.int .i64 0), .nil, .lit (.int .i64 0), .lit (.int .u16 0)], [], []) := by kernel_rfl
set_option maxRecDepth 100000 in
theorem lifted (os : Os) (started : os.Started) (H : Type) (enc : TypeId × Value → H) (F : Stop.Interp) :
    ReturnsInHanded {} Tryd.checked os 19 .any ((OpenSpec.ofChange Rows.logBackSpec).preRow enc Tryd.prog Tryd.f19 Rows.logBackRow.domain false Rows.logBackRow.laid) (((OpenSpec.ofChange Rows.logBackSpec).at F).post enc Tryd.prog Tryd.f19 false true false false) := by
  refine returnsInHanded_of_row (C := Tryd.checked) (s := (OpenSpec.ofChange Rows.logBackSpec)) own started (by kernel_rfl) Tryd.func19
    (witness_row_atRef (enc := enc) (C := Tryd.checked) false (laidWorldF os) #[.int .i64 0, .slice none 0 0, .int .i64 0, .int .u16 0] rfl (by kernel_rfl) (by kernel_rfl) (by kernel_rfl)
      (OpenSpec.preRow_of_cond 8 (reads os enc) (by kernel_rfl) (fun k hk => by cases hk) (by kernel_rfl) (laid_met os))) ?_
  intro W base args ds gs before hval0 hW hcnd hcond _ hL _ _
  have h4 : Four W := four_of hL
  obtain ⟨ea0, ea1, hE⟩ := errs_of (rest := []) hL
  have hval : ∀ (j : Nat) t v, Tryd.f19.params[j]? = some t → args[j]? = some v → Value.okWide Tryd.prog W .any base t v := hval0
  have hW' := hW
  obtain ⟨p, q, hA0, hV, rfl, hfz, hnd⟩ := hW
  have hA : DataW.TrodAll enc Tryd.prog W 0 (fun _ => true) true Tryd.f19.params.toList args.toList ds p := hA0
  rw [Tryd.params19] at hA hval
  obtain ⟨v0, vs0, d0, ds0, p0, q0, hargs, rfl, rfl, h0, r0⟩ := trodAll_cons hA
  obtain ⟨v1, vs1, d1, ds1, p1, q1, rfl, rfl, rfl, h1, r1⟩ := trodAll_cons r0
  obtain ⟨v2, vs2, d2, ds2, p2, q2, rfl, rfl, rfl, h2, r2⟩ := trodAll_cons r1
  obtain ⟨v3, vs3, d3, ds3, p3, q3, rfl, rfl, rfl, h3, r3⟩ := trodAll_cons r2
  obtain ⟨rfl, rfl, rfl⟩ := trodAll_nil r3
  obtain rfl : args = #[v0, v1, v2, v3] := by cases args; simp_all
  obtain ⟨rfl, rfl⟩ := trodVars_none hV
  obtain ⟨a0, rfl, rfl, rfl, w0⟩ := open_int Tryd.underlying3 (hval 0 3 v0 rfl rfl) h0
  obtain ⟨a1, len1, cap1, rfl⟩ := okWide_slice Tryd.underlying60 (hval 1 60 v1 rfl rfl)
  have k1 := h1
  have lt1 : ∀ x ∈ p1, x.block < W.heap.size := by obtain ⟨m, hm⟩ := k1; exact DataW.trod_lt m _ _ _ hm
  obtain ⟨z1, w1⟩ : ∃ l, RRow W (.slice a1 len1 cap1) l ∧ ∀ Z ∈ l, RepWf Z := by
    obtain ⟨fuel, hf⟩ := h1
    exact open_reps hf
  obtain ⟨a2, rfl, rfl, rfl, w2⟩ := open_int Tryd.underlying3 (hval 2 3 v2 rfl rfl) h2
  obtain ⟨a3, rfl, rfl, rfl, w3⟩ := open_int Tryd.underlying32 (hval 3 32 v3 rfl rfl) h3
  clear hA0 hval0
  refine (LogBack_walk a0 (.slice a1 len1 cap1) z1 a2 a3 W w0 w1 w2 w3 h4 ea0 ea1 hE).mono fun e W' ⟨he, bel⟩ => ?_
  subst he
  exact ⟨_, rfl, _, _, _, [], _, [], hW', trodAll_mk1 (shut_bool Tryd.underlying4 _), (trodAll_cons_mk (shut_int Tryd.underlying3 w0) (trodAll_cons_mk (Below.trod laidOut (by kernel_rfl) (of_decide_eq_true (by kernel_rfl)) k1 bel lt1) (trodAll_cons_mk (shut_int Tryd.underlying3 w2) (trodAll_cons_mk (shut_int Tryd.underlying32 w3) trodAll_mk0)))), rfl, bel.frame _, fun h => by cases h⟩
theorem jf0 : (Rows.logBackRow.wf (OpenSpec.ofChange (OpenSpec.ofChange Rows.logBackSpec).bare)) = true := by kernel_rfl
theorem jf1 : (laidOutB Tryd.prog) = true := pLaid
theorem jf2 : (mapsRowed Tryd.prog) = true := pRowed
theorem jf3 : (Tryd.f19.params.all (Tryd.prog.readableRec ·)) = true := by kernel_rfl
theorem jf4 : (namedTie Tryd.prog Rows.logBackRow.named (OpenSpec.ofChange Rows.logBackSpec).bare.vars) = true := by kernel_rfl
theorem jf5 : ((Rows.logBackRow.stops == [])) = true := by kernel_rfl
theorem jf6 : ((Tryd.prog.stops == [])) = true := by kernel_rfl
theorem jf7 : ((Rows.logBackRow.knobs == [])) = true := by kernel_rfl
theorem jf8 : ((Tryd.prog.stopKnobs == [])) = true := by kernel_rfl
theorem jf9 : ((Rows.logBackRow.inPlace == Tryd.prog.inPlace 19)) = true := by kernel_rfl
theorem jf10 : ((Rows.logBackRow.unfollowed == Tryd.prog.unfollowed 19)) = true := by kernel_rfl
theorem jf11 : ((Rows.logBackRow.recurses == Tryd.prog.recurses 19)) = true := by kernel_rfl
theorem jf12 : ((Rows.logBackRow.named == Tryd.prog.varsNamed 19)) = true := by kernel_rfl
theorem jf13 : ((Rows.logBackRow.maps == (Tryd.f19.params.toList ++ (OpenSpec.ofChange Rows.logBackSpec).bare.plain.varTypes Tryd.prog).any (Tryd.prog.mapsRec ·))) = true := by kernel_rfl
theorem jf14 : ((Rows.logBackRow.ifaces == (Tryd.f19.params.toList ++ (OpenSpec.ofChange Rows.logBackSpec).bare.plain.varTypes Tryd.prog).any (Tryd.prog.ifacesRec ·))) = true := by kernel_rfl
theorem jf15 : ((Rows.logBackRow.mapsOut == Tryd.prog.mapsAmong Tryd.f19.resultTypes.toList)) = true := by kernel_rfl
theorem jf16 : ((Rows.logBackRow.loops == (Tryd.f19.params.toList ++ (OpenSpec.ofChange Rows.logBackSpec).bare.plain.varTypes Tryd.prog).any (Tryd.prog.loopsFrom ·))) = true := by kernel_rfl
theorem jf17 : ((Rows.logBackRow.wideKeys == (Tryd.f19.params.toList ++ (OpenSpec.ofChange Rows.logBackSpec).bare.plain.varTypes Tryd.prog ++ Tryd.f19.resultTypes.toList).any (Tryd.prog.wideKeysFrom ·))) = true := by kernel_rfl
theorem jf18 : ((OpenSpec.ofChange Rows.logBackSpec).bare.vars.all (Tryd.prog.varReadable ·)) = true := by kernel_rfl
theorem jf19 : (Tryd.f19.resultTypes.all (fun t => Tryd.prog.readableRec t && decide (t < Tryd.prog.types.size))) = true := by kernel_rfl
theorem jf20 : ((Rows.logBackRow.ifacesOut == Tryd.f19.resultTypes.toList.any (Tryd.prog.ifacesRec ·))) = true := by kernel_rfl
theorem jf21 : ((Rows.logBackRow.loopsOut == Tryd.f19.resultTypes.toList.any (Tryd.prog.loopsFrom ·))) = true := by kernel_rfl
theorem jf22 : ((Rows.logBackRow.plainKeys == Tryd.prog.plainKeys)) = true := by kernel_rfl
theorem jf23 : (Rows.logBackRow.shortTexts.isNone) = true := by kernel_rfl
theorem jf24 : (Tryd.prog.stopsHeard) = true := pHeard
theorem jf25 : (Tryd.prog.mayEnter) = true := pEnter
theorem jf26 : ((Rows.logBackRow.lifted == Tryd.prog.liftsFinal)) = true := pLifts
theorem jf27 : ((Tryd.prog.make == some Rows.logBackRow.make)) = true := pMake
theorem jf28 : ((Rows.logBackRow.kinds == (if Rows.logBackRow.domain.isEmpty then [] else Tryd.f19.params.toList.map fun t => match Tryd.prog.underlying t with | some (.int k) => some k | _ => none))) = true := by kernel_rfl
theorem jf29 : ((Rows.logBackRow.pinned == Rows.logBackRow.pinnedBy)) = true := by kernel_rfl
theorem jf30 : ((Rows.logBackRow.veiled == (Tryd.f19.params.toList ++ (OpenSpec.ofChange Rows.logBackSpec).bare.plain.varTypes Tryd.prog ++ Tryd.f19.resultTypes.toList).any (Tryd.prog.veiledRec ·))) = true := by kernel_rfl
theorem jf31 : (Rows.logBackRow.veiledFits Tryd.prog Tryd.f19.params.toList (Tryd.f19.params.toList ++ (OpenSpec.ofChange Rows.logBackSpec).bare.plain.varTypes Tryd.prog ++ Tryd.f19.resultTypes.toList)) = true := by kernel_rfl
set_option maxRecDepth 100000 in
theorem closed : joinedFacts Tryd.prog 19 Tryd.f19 (OpenSpec.ofChange Rows.logBackSpec).bare Rows.logBackRow = true := band (band (band (band (band (band (band (band (band (band (band (band (band (band (band (band (band (band (band (band (band (band (band (band (band (band (band (band (band (band (band jf0 jf1) jf2) jf3) jf4) jf5) jf6) jf7) jf8) jf9) jf10) jf11) jf12) jf13) jf14) jf15) jf16) jf17) jf18) jf19) jf20) jf21) jf22) jf23) jf24) jf25) jf26) jf27) jf28) jf29) jf30) jf31
theorem over : Rows.logBackRow.holds Tryd.pinned (OpenSpec.ofChange Rows.logBackSpec) :=
  OpenClaim.holds_of_cond 19 Tryd.f19 rfl rfl rfl rfl rfl rfl rfl ⟨rfl, rfl, rfl, rfl, rfl⟩ rfl rfl rfl rfl rfl (by kernel_rfl) Tryd.func19 closed
    (of_decide_eq_true (by kernel_rfl)) (by unfold Func.isWrapper; first | (rw [if_pos (by decide +kernel)]; kernel_rfl) | (rw [if_neg (by decide +kernel)]; exact ⟨rfl, rfl⟩))
    (fun os started H enc _ F => by rw [OpenClaim.pre_eq_preRow]; exact lifted os started H enc F)
theorem said : Rows.LogBackSaid := over
theorem wants : (Tryd.f19.params.toList.all fun t => !Tryd.prog.wantsStandIn t) = true := by kernel_rfl
theorem looked : true = Tryd.pinned.checked.prog.looks [] := by kernel_rfl
theorem plain (f : FuncId) (fn : Func) (hf : Tryd.pinned.checked.prog.funcNamed "astrolabe/astrolabelaw47.LogBack" = some f) (hfn : Tryd.pinned.checked.prog.funcs[f]? = some fn) :
    true = Tryd.pinned.checked.prog.looks [] ∧ ∀ (j : Nat) t, fn.params[j]? = some t → Tryd.pinned.checked.prog.wantsStandIn t = false := by
  obtain rfl : f = 19 := Option.some.inj ((show Tryd.prog.funcNamed "astrolabe/astrolabelaw47.LogBack" = some 19 by kernel_rfl).symm.trans hf) |>.symm
  obtain rfl : fn = Tryd.f19 := (Option.some.inj (Tryd.func19.symm.trans hfn)).symm
  refine ⟨looked, fun j t ht => ?_⟩
  have h := List.all_eq_true.1 wants t (Array.mem_toList_iff.2 (Array.mem_of_getElem? ht))
  exact (show Tryd.prog.wantsStandIn t = false by simpa using h)
/-- ████ THE CARD ████ -/
theorem proved : Rows.LogBackCardSaid :=
  Claim7.holds_tied_plain_at .later [] _ _ _ _ said (fun _ h => by cases h) (by kernel_rfl) (fun _ h => by cases h) logBack_row_tie rfl ⟨rfl, rfl⟩ (by kernel_rfl) rfl plain (by kernel_rfl)
#print axioms proved
end Go.Proofs.YtecbfegohdllbaaDoor.logBack
