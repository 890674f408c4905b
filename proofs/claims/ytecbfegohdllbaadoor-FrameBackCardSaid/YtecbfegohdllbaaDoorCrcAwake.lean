/- Bytes as text, and the page's example of layer 11 (crc). -/
import Derived.Test.YtecbfegohdllbaaDoorCrc
import Derived.Laws.BytesArg
import Derived.Lib.SlBytesConst
namespace Go.Proofs.YtecbfegohdllbaaDoor
open Go.RowKit
set_option linter.unusedVariables false
theorem conv_reads (v : Value) (l : List Int) (w : World) (h : Reads .u8 w v l) : (convert 22 9 v).run Tryd.prog w = .ok (.string (strOfNums l)) w := by
  by_cases hl : 0 < l.length
  · obtain ⟨b, off, c, rfl, _, _, _, hc⟩ := h.plain hl
    exact run_convert_bytes_arg (P := Tryd.prog) w 22 5 Tryd.underlying22 Tryd.underlying5 b off l.length c l rfl (fun i hi => by rw [hc i hi, List.getD_eq_getElem?_getD, List.getElem?_eq_getElem hi]; rfl) 9 Tryd.underlying9
  · obtain rfl : l = [] := List.length_eq_zero_iff.1 (by omega)
    obtain ⟨a, c, rfl, _⟩ := h
    rcases a with _ | a
    · exact run_convert_bytes_nil (P := Tryd.prog) w 22 5 Tryd.underlying22 Tryd.underlying5 _ _ 9 Tryd.underlying9
    · have hlc : (loadCells a 0).run Tryd.prog w = .ok #[] w := by rfl
      rw [run_convert_bytes_string w 22 9 5 _ _ c Tryd.underlying22 Tryd.underlying5 Tryd.underlying9]
      simp only [List.length_nil]
      rw [run_bytesToString w a 0 c [] hlc]
      rfl
theorem conv_reads_later (v : Value) (l : List Int) (w : World) (h : Reads .u8 w v l) : ∀ w', Below w.heap.size w w' → (convert 22 9 v).run Tryd.prog w' = .ok (.string (strOfNums l)) w' := fun w' hb => conv_reads v l w' (h.later hb)
def nine : List Int := [49, 50, 51, 52, 53, 54, 55, 56, 57]
def eleven : List Int := [49, 50, 51, 52, 53, 54, 55, 56, 57, 41, 177]
theorem crc_nine : crcOf nine = 10673#16 := by decide +kernel
theorem seal_nine : sealL nine = eleven := by decide +kernel
theorem str_nine : strOfNums nine = ⟨#[49, 50, 51, 52, 53, 54, 55, 56, 57]⟩ := by rfl
/-- a slice made of numbers reads as them -/
theorem reads_built (w : World) (l : List Int) (t : TypeId) (fr : Nat × Nat) (vs : Array Value) (hvs : vs = (l.map (Value.int .u8)).toArray) (hw : ∀ x ∈ l, (Lit.int .u8 x).wf = true) (hm : l.length ≤ maxLen) (n : Nat) (hn : n = l.length) :
    Reads .u8 (w.alloc (.cells vs t fr)) (.slice (some ⟨w.heap.size, 0, none⟩) n n) l := by
  subst hvs hn
  refine ⟨some ⟨w.heap.size, 0, none⟩, l.length, rfl, Nat.le_refl _, hm, hw, fun h => (nomatch h), fun b hb i hi => ?_⟩
  obtain rfl := Option.some.inj hb
  rw [Addr.add_lit, World.cell?_alloc_mark]
  simp [hi]
set_option maxRecDepth 20000 in
theorem awake11 (w : World) (h4 : Four w) : Calls Tryd.prog 21 #[] w fun e w' => e = .returned (.bool true) ∧ Below w.heap.size w w' := by
  have hn : ∀ x ∈ nine, (Lit.int .u8 x).wf = true := by decide
  have he : ∀ x ∈ eleven, (Lit.int .u8 x).wf = true := by decide
  have B0 := hid (Below.refl w.heap.size w)
  have F0 := hid h4
  clear h4
  go_enter Tryd.func21, Tryd.ntmps21
  go_wp2_with fail
  refine (open_ok _ eleven 9 rfl _ (reads_built w eleven _ _ _ rfl he (by decide) _ rfl) (F0.out.later ?g1) seal_nine.symm (by decide)).mono ?_
  case g1 => exact (Below.refl _ _).alloc (Nat.le_refl _) _
  rintro e w1 ⟨v1, rfl, hb, hown⟩
  have hr1 : Reads .u8 w1 v1 nine := reads_of_owns hown hn
  clear hown
  have hB : Below w.heap.size w w1 := ((Below.refl w.heap.size w).alloc (Nat.le_refl _) _).trans (hb.mono (by simp))
  clear hb
  have hcs := Lib.run_convert_bytes_const (P := Tryd.prog) w1 22 5 #[.int .u8 49, .int .u8 50, .int .u8 51, .int .u8 52, .int .u8 53, .int .u8 54, .int .u8 55, .int .u8 56, .int .u8 57] 9 9 Tryd.underlying22 Tryd.underlying5
  go_wp2_with fail
  refine (of_any _ nine _ (reads_built w1 nine _ _ _ rfl hn (by decide) _ rfl) (F0.out.later ?g2)).mono ?_
  case g2 => exact hB.alloc hB.size _
  rintro e w2 ⟨rfl, hb2⟩
  have hB2 : Below w1.heap.size w1 w2 := ((Below.refl w1.heap.size w1).alloc (Nat.le_refl _) _).trans (hb2.mono (by simp))
  have hs := conv_reads v1 nine w2 (hr1.later hB2)
  replace hB := chain hB hB2
  clear hcs
  clear hb2 hB2 hr1
  rw [crc_nine, str_nine] at *
  go_wp2_with fail
  refine (of_any _ [] _ ⟨none, 0, rfl, Nat.le_refl _, Nat.zero_le _, by simp, fun _ => ⟨rfl, rfl⟩, fun b hb => (nomatch hb)⟩ (F0.out.later hB)).mono ?_
  rintro e w3 ⟨rfl, hb3⟩
  replace hB := chain hB hb3
  go_wp2
  go_ret
  exact ⟨rfl, hB⟩
end Go.Proofs.YtecbfegohdllbaaDoor
