/- New blocks in a row: what each holds. (No program in sight.) -/
import Derived.Test.YtecbfegohdllbaaDoorBase
import Derived.Laws.Rows
namespace Go.Proofs.YtecbfegohdllbaaDoor
open Go.RowKit
def allocs : World → List Obj → World
  | w, [] => w
  | w, o :: os => allocs (w.alloc o) os
theorem allocs_old : ∀ (os : List Obj) (w : World) (k : Nat), k < w.heap.size → (allocs w os).heap[k]? = w.heap[k]?
  | [], _, _, _ => rfl
  | o :: os, w, k, h => (allocs_old os (w.alloc o) k (by simp; omega)).trans (Below.heap_alloc w o k h)
theorem allocs_new : ∀ (os : List Obj) (w : World) (i : Nat), i < os.length → (allocs w os).heap[w.heap.size + i]? = os[i]?
  | [], _, _, h => absurd h (Nat.not_lt_zero _)
  | o :: os, w, 0, _ => (allocs_old os (w.alloc o) w.heap.size (by simp)).trans (heap_alloc_new w o)
  | o :: os, w, i + 1, h => by
    have := allocs_new os (w.alloc o) i (by simpa using h)
    rw [World.size_alloc] at this
    rw [show w.heap.size + (i + 1) = w.heap.size + 1 + i by omega]
    exact this
theorem allocs_size : ∀ (os : List Obj) (w : World), (allocs w os).heap.size = w.heap.size + os.length
  | [], _ => rfl
  | o :: os, w => (allocs_size os (w.alloc o)).trans (by rw [World.size_alloc, List.length_cons]; omega)
theorem allocs_below : ∀ (os : List Obj) (w w0 : World), Below w0.heap.size w0 w → Below w0.heap.size w0 (allocs w os)
  | [], _, _, h => h
  | o :: os, w, w0, h => allocs_below os (w.alloc o) w0 (h.alloc h.size o)
end Go.Proofs.YtecbfegohdllbaaDoor
