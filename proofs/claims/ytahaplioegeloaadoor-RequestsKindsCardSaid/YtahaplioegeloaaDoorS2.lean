import Derived.Test.YtahaplioegeloaaDoorC10
namespace Go.Proofs.YtahaplioegeloaaDoor
open Go.RowKit Go.Sz

end Go.Proofs.YtahaplioegeloaaDoor
