/- What 'happens' is to answer (a move of five bytes), and its packet and its place. -/
import Derived.Test.YtdlahgmbilkdcaaNK
import Derived.Test.YtdlahgmbilkdcaaRG2
namespace Go.Sz
open Go.RowKit
structure Mv where
  b0 : UInt8
  b1 : UInt8
  b2 : UInt8
  b3 : UInt8
  b4 : UInt8
def Mv.at (m : Mv) (n : Nw) : Int := if n.q.length = 0 then 0 else ((m.b1.toNat % n.q.length : Nat) : Int)
def Mv.x (m : Mv) : Int := ((m.b2.toNat % 7 : Nat) : Int)
def Mv.y (m : Mv) : Int := ((m.b3.toNat % 7 : Nat) : Int)
def Mv.kind (m : Mv) : Nat := m.b0.toNat % 6
def happensN (n : Nw) (m : Mv) : Nw × Pk × Int :=
  if m.kind = 0 then ((sendN n ⟨m.x, m.y, [m.b4]⟩).1, ⟨0, 0, []⟩, (sendN n ⟨m.x, m.y, [m.b4]⟩).2)
  else if m.kind = 1 then ((deliverN n (m.at n)).2.1, (deliverN n (m.at n)).1, (deliverN n (m.at n)).2.2)
  else if m.kind = 2 then ((loseN n (m.at n)).1, ⟨0, 0, []⟩, (loseN n (m.at n)).2)
  else if m.kind = 3 then ((repeatN n (m.at n)).1, ⟨0, 0, []⟩, (repeatN n (m.at n)).2)
  else if m.kind = 4 then ((cutN n m.x m.y true).1, ⟨0, 0, []⟩, (cutN n m.x m.y true).2)
  else ((cutN n m.x m.y false).1, ⟨0, 0, []⟩, (cutN n m.x m.y false).2)
def RetH (r : Nw × Pk × Int) (w : World) (e : Ending) (w' : World) : Prop := ∃ cs cp : List Value, e = .returned (.tuple #[.agg cs.toArray, .agg cp.toArray, .int .i64 r.2.2]) ∧ RepN w' cs r.1 ∧ RepP w' cp r.2.1 ∧ Ext w w'
theorem kind_lt (m : Mv) : m.kind < 6 := Nat.mod_lt _ (by omega)
end Go.Sz
