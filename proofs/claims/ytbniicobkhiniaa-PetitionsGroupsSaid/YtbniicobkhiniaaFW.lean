/- Petitions: a hold or a group is set, or ended, alone. -/
import Derived.Test.YtbniicobkhiniaaFWtt
import Derived.Test.YtbniicobkhiniaaFWtf
import Derived.Test.YtbniicobkhiniaaFWft
import Derived.Test.YtbniicobkhiniaaFWff
namespace Go.Proofs.Ytbniicobkhiniaa
open Go.RowKit Go.Sz
theorem law_groups (l : List Ft) (gr : Bool) (s nb : Int) (on : Bool) (fr to kn t : Int) (ht : inI64 t) (ao : Option Addr) (cap : Nat) (w : World) (h : RepF w ao cap l) : Calls Try.prog 8 #[.slice ao l.length cap, .bool gr, .int .i64 s, .int .i64 nb, .bool on, .agg #[.int .i64 fr, .int .i64 to], .int .i64 kn, .int .i64 t] w (Tru w) := by
  cases gr <;> cases on
  · exact grp_ff l s nb fr to kn t ao cap w h ht
  · exact grp_ft l s nb fr to kn t ao cap w h ht
  · exact grp_tf l s nb fr to kn t ao cap w h ht
  · exact grp_tt l s nb fr to kn t ao cap w h ht
end Go.Proofs.Ytbniicobkhiniaa
