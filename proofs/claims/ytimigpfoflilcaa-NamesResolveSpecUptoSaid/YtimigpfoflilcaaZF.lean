/- Names: what stands where one block grows. -/
import Derived.Test.YtimigpfoflilcaaZ2
namespace Go.Sz
open Go.RowKit
/-- what holds wherever all blocks but one stay -/
def Far (b : Option Nat) (W : World) (P : World → Prop) : Prop := ∀ W' : World, W.heap.size ≤ W'.heap.size → (∀ k, k < W.heap.size → some k ≠ b → W'.heap[k]? = W.heap[k]?) → P W'
theorem Far.now {b : Option Nat} {W : World} {P : World → Prop} (h : Far b W P) : P W := h W (Nat.le_refl _) fun _ _ _ => rfl
theorem Far.ext {b : Option Nat} {W V : World} {P : World → Prop} (h : Far b W P) (hE : Ext W V) : Far b V P := fun W' h1 h2 =>
  h W' (Nat.le_trans hE.size h1) fun k hk hb => (h2 k (Nat.lt_of_lt_of_le hk hE.size) hb).trans (hE.block k hk)
theorem Far.grow {W V : World} {P : World → Prop} {v v' : Value} (h : Far v.ownBlock W P) (hg : Grows W v V v') : Far v'.ownBlock V P := fun W' h1 h2 =>
  h W' (Nat.le_trans hg.by_.size h1) fun k hk hb => (h2 k (Nat.lt_of_lt_of_le hk hg.by_.size) (fun e => by
    rcases hg.own k e.symm with h3 | h3
    · exact hb h3.symm
    · omega)).trans (hg.by_.block k hk hb)
theorem ownsRow_lt' {W : World} {D e size n : Nat} {v : Value} {xs : List Value} (h : W.ownsRow D e size v n xs) : ∀ k, v.ownBlock = some k → k < W.heap.size := fun k hk => by
  rcases h.2 with ⟨rfl, _⟩ | ⟨g, cap, cur, rfl, _, h2, _⟩
  · cases hk
  · obtain rfl : g = k := by simpa [Value.ownBlock] using hk
    exact (Array.getElem?_eq_some_iff.1 h2).1
theorem Far.mono {b : Option Nat} {W : World} {P Q : World → Prop} (h : Far b W P) (hq : ∀ V, P V → Q V) : Far b W Q := fun W' h1 h2 => hq _ (h W' h1 h2)
/-- a row in another block than the one that grows -/
theorem SL.far {W : World} {n : Nat} {ao : Option Addr} {cap : Nat} {rows : List (List Value)} {b : Option Nat} (h : SL W n ao cap rows) (hn : 0 < n) (hb : ∀ a, ao = some a → rows ≠ [] → some a.block ≠ b) : Far b W fun V => SL V n ao cap rows := fun _ _ h2 =>
  h.keep fun a ha hr => h2 a.block (h.blk hn a ha hr) (hb a ha hr)
end Go.Sz
