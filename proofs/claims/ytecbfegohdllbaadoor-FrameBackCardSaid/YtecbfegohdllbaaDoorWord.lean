/- What the functions of package word, and its reference, return: contracts. -/
import Derived.Test.YtecbfegohdllbaaDoorBits
import Derived.OwnWalk
import Derived.Handy
import Derived.Laws.BytesArg
namespace Go.Proofs.YtecbfegohdllbaaDoor
open Go.RowKit
def lowI (x : Int) : Int := (x + 2147483648) % 4294967296 - 2147483648
def halfI (x : Int) : Int := (x + 32768) % 65536 - 32768
theorem lowI_bd (x : Int) : -2147483648 ≤ lowI x ∧ lowI x ≤ 2147483647 := by unfold lowI; omega
theorem halfI_bd (x : Int) : -32768 ≤ halfI x ∧ halfI x ≤ 32767 := by unfold halfI; omega
theorem lowI_wrap (x : Int) : wrap32 x = lowI x := by simp [wrap32, lowI]
theorem half_any (x : Int) (w : World) :
    Calls Tryd.prog 97 #[.int .i32 x] w fun e w' => e = .returned (.int .i32 (halfI x)) ∧ w = w' := by
  go_enter Tryd.func97, Tryd.ntmps97
  go_wp2
  go_ret
  refine ⟨ret_int ?_, rfl⟩
  simp [wrap32, i16wrap, halfI]
  omega
theorem pair_any (a b : Int) (w : World) (ha : 0 ≤ a ∧ a ≤ 255) (hb : 0 ≤ b ∧ b ≤ 255) :
    Calls Tryd.prog 66 #[.int .u8 a, .int .u8 b] w fun e w' => e = .returned (.int .i32 (halfI (256 * a + b))) ∧ w = w' := by
  go_enter Tryd.func66, Tryd.ntmps66
  go_wp2
  go_ret
  refine ⟨ret_int ?_, rfl⟩
  have h := or_join .u16 8 a b (by decide) (by omega) (by omega)
  rw [show ((2:Int) ^ 8) = 256 from rfl] at h
  show wrap32 (IntKind.i16.wrap (bits .or .u16 (a * 256) b)) = _
  rw [h, IntKind.wrap_u16, i16wrap]
  simp [wrap32, halfI]
  omega
theorem Tryd.infoU8 : (Tryd.prog.info? 5).map (fun i => (i.zero, i.size, i.bytes)) = some (some (.int .u8 0), 1, 1) := by kernel_rfl
/-- a word's four bytes -/
def fourI (x : Int) : List Int := [x / 16777216 % 256, x / 65536 % 256, x / 256 % 256, x % 256]
def vU8 (l : List Int) : List Value := l.map (Value.int .u8)
theorem four_eq (x : Int) : ([.int .u8 (x % 4294967296 / 16777216), .int .u8 (x % 4294967296 / 65536 % 256), .int .u8 (x % 4294967296 / 256 % 256), .int .u8 (x % 256)] : List Value) = vU8 (fourI x) := by
  have e1 : x % 4294967296 / 16777216 = x / 16777216 % 256 := by omega
  have e2 : x % 4294967296 / 65536 % 256 = x / 65536 % 256 := by omega
  have e3 : x % 4294967296 / 256 % 256 = x / 256 % 256 := by omega
  simp only [vU8, fourI, List.map_cons, List.map_nil, e1, e2, e3]
theorem bytes_any (x : Int) (w : World) :
    Calls Tryd.prog 64 #[.int .i32 x] w fun e w' => ∃ v, e = .returned v ∧ Below w.heap.size w w' ∧
      w'.ownsRow w.heap.size 5 1 v 4 (vU8 (fourI x)) := by
  obtain ⟨i0, hi, hz0, hz1, hz2⟩ := info_parts Tryd.infoU8
  go_enter Tryd.func64, Tryd.ntmps64
  go_wp2_with fail
  refine wp_loop_rounds 5 ?_
  iterate 4 (rw [rounds_succ]; go_wp2_with fail)
  rw [rounds_succ]
  go_wp2_with (at_builtin; refine wpList_append_own _ rfl _ _ 22 rfl w.heap.size 5 i0 (.int .u8 0) 1 1 Tryd.underlying22 hi hz0 hz1 hz2 rfl (by decide) _ _ _ rfl (ownsRow_empty ?cs ?c0) ⟨w.heap.size, 0, none⟩ 4 4 [.int .u8 (x % 4294967296 / 16777216), .int .u8 (x % 4294967296 / 65536 % 256), .int .u8 (x % 4294967296 / 256 % 256), .int .u8 (x % 256)] rfl rfl ?c3 ?c4 ?c5 ?c6 ?c7 ?_)
  case cs => simp
  case c0 => simp
  case c3 =>
    intro j u h
    rcases j with _ | _ | _ | _ | j <;> simp at h <;> subst h <;> go_simp
  case c4 => simp [Value.oneCell']
  case c5 => decide
  case c6 => decide
  case c7 => simp; omega
  intro v' w' hown hg _
  have hown2 : w'.ownsRow w.heap.size 5 1 v' 4 (vU8 (fourI x)) := by
    rw [← four_eq]; exact hown
  go_wp2
  go_ret
  exact ⟨v', rfl, (((Below.refl _ w).alloc (Nat.le_refl _) _).alloc (by simp) _).grown hg (by simp; omega) (fun k e => by simp [Value.ownBlock] at e; omega), hown2⟩
theorem bytes4_any (x : Int) (w : World) :
    Calls Tryd.prog 64 #[.int .i32 x] w fun e w' => ∃ b c, e = .returned (.slice (some ⟨b, 0, none⟩) 4 c) ∧ Below w.heap.size w w' ∧ 4 ≤ c ∧ c ≤ maxLen ∧ w.heap.size ≤ b ∧ b < w'.heap.size ∧
      w'.cell? ⟨b, 0, none⟩ = some (.int .u8 (x / 16777216 % 256)) ∧ w'.cell? ⟨b, 1, none⟩ = some (.int .u8 (x / 65536 % 256)) ∧ w'.cell? ⟨b, 2, none⟩ = some (.int .u8 (x / 256 % 256)) ∧ w'.cell? ⟨b, 3, none⟩ = some (.int .u8 (x % 256)) := by
  refine (bytes_any x w).mono ?_
  rintro e w' ⟨v, rfl, hb, hown⟩
  have hr := reads_of_owns hown (by intro x hx; simp [fourI] at hx; rcases hx with rfl | rfl | rfl | rfl <;> exact WalkArith.wf_u8 (by omega))
  obtain ⟨hl, ⟨rfl, hn⟩ | ⟨g, cap, cur, rfl, hg, hc, h1, h2, h3, h4⟩⟩ := hown
  · cases hn
  · have hlt : g < w'.heap.size := (Array.getElem?_eq_some_iff.1 hc).1
    obtain ⟨b, off, c, hv, _, _, _, hcell⟩ := hr.plain (by simp [fourI])
    obtain ⟨ha, _, rfl⟩ := Value.slice.inj hv
    obtain ⟨rfl, rfl, _⟩ := Addr.mk.inj (Option.some.inj ha)
    have c0 := hcell 0 (by simp [fourI])
    have c1 := hcell 1 (by simp [fourI])
    have c2 := hcell 2 (by simp [fourI])
    have c3 := hcell 3 (by simp [fourI])
    simp [fourI] at c0 c1 c2 c3
    exact ⟨g, cap, rfl, hb, h1, h2, hg, hlt, c0, c1, c2, c3⟩
theorem from_short (a : Option Addr) (n c : Nat) (w : World) (hn : n < 4) :
    Calls Tryd.prog 99 #[.slice a n c] w fun e w' => e = .returned (.tuple #[.int .i32 0, .int .i64 4]) ∧ w = w' := by
  go_enter Tryd.func99, Tryd.ntmps99
  go_wp2
  go_ret2
  exact ⟨rfl, rfl⟩
theorem from_long (a : Option Addr) (n c : Nat) (w : World) (hn : 4 < n) (hm : n ≤ 9223372036854775807) :
    Calls Tryd.prog 99 #[.slice a n c] w fun e w' => e = .returned (.tuple #[.int .i32 0, .int .i64 5]) ∧ w = w' := by
  go_enter Tryd.func99, Tryd.ntmps99
  go_wp2
  go_ret2
  exact ⟨rfl, rfl⟩
theorem or256 (x b : Int) (hx : 0 ≤ x ∧ x < 16777216) (hb : 0 ≤ b ∧ b ≤ 255) : bits .or .u32 (x * 256) b = x * 256 + b := by
  have h := or_join .u32 8 x b (by decide) (by omega) (by omega)
  rw [show ((2:Int) ^ 8) = 256 from rfl] at h
  rw [h, IntKind.wrap_u32']; omega
theorem from_four (b0 b1 b2 b3 : Int) (b off c : Nat) (w : World) (h0 : 0 ≤ b0 ∧ b0 ≤ 255) (h1 : 0 ≤ b1 ∧ b1 ≤ 255) (h2 : 0 ≤ b2 ∧ b2 ≤ 255) (h3 : 0 ≤ b3 ∧ b3 ≤ 255)
    (c0 : w.cell? ⟨b, off, none⟩ = some (.int .u8 b0)) (c1 : w.cell? ⟨b, off + 1, none⟩ = some (.int .u8 b1)) (c2 : w.cell? ⟨b, off + 2, none⟩ = some (.int .u8 b2)) (c3 : w.cell? ⟨b, off + 3, none⟩ = some (.int .u8 b3)) :
    Calls Tryd.prog 99 #[.slice (some ⟨b, off, none⟩) 4 c] w fun e w' => e = .returned (.tuple #[.int .i32 (lowI (((b0 * 256 + b1) * 256 + b2) * 256 + b3)), .int .i64 0]) ∧ w = w' := by
  go_enter Tryd.func99, Tryd.ntmps99
  go_wp2_with fail
  go_loop [4, 17] (fun n i => (i = .int .i64 0 ∧ n = .int .u32 0) ∨ (i = .int .i64 1 ∧ n = .int .u32 b0) ∨ (i = .int .i64 2 ∧ n = .int .u32 (b0 * 256 + b1)) ∨ (i = .int .i64 3 ∧ n = .int .u32 ((b0 * 256 + b1) * 256 + b2)) ∨ (i = .int .i64 4 ∧ n = .int .u32 (((b0 * 256 + b1) * 256 + b2) * 256 + b3))) (fun _ i => 4 - (intOf i).toNat)
  case atStart => exact .inl ⟨rfl, rfl⟩
  case round =>
    rcases hrel with ⟨rfl, rfl⟩ | ⟨rfl, rfl⟩ | ⟨rfl, rfl⟩ | ⟨rfl, rfl⟩ | ⟨rfl, rfl⟩
    · have e := or256 0 b0 (by omega) h0
      have E := hid e; clear e
      go_wp2
      go_round
      case rel => exact .inr (.inl ⟨rfl, by have := E.out; simp at this; simp [this]⟩)
      case measure => simp [intOf]
    · have e := or256 b0 b1 (by omega) h1
      have E := hid e; clear e
      go_wp2
      go_round
      case rel => exact .inr (.inr (.inl ⟨rfl, by rw [E.out]⟩))
      case measure => simp [intOf]
    · have e := or256 (b0 * 256 + b1) b2 (by omega) h2
      have E := hid e; clear e
      go_wp2
      go_round
      case rel => exact .inr (.inr (.inr (.inl ⟨rfl, by rw [E.out]⟩)))
      case measure => simp [intOf]
    · have e := or256 ((b0 * 256 + b1) * 256 + b2) b3 (by omega) h3
      have E := hid e; clear e
      go_wp2
      go_round
      case rel => exact .inr (.inr (.inr (.inr ⟨rfl, by rw [E.out]⟩)))
      case measure => simp [intOf]
    · go_wp2
      go_ret2
      exact ⟨by rw [← lowI_wrap]; rfl, rfl⟩
end Go.Proofs.YtecbfegohdllbaaDoor
