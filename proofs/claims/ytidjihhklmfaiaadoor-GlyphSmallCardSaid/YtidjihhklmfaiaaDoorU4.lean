/- Plain law, fifth part: the program is awake. -/
import Derived.Test.YtidjihhklmfaiaaDoorU3
namespace Go.Proofs.YtidjihhklmfaiaaDoor.U
open Go.RowKit Go.Lib Go.Proofs.YtidjihhklmfaiaaDoorW.PrintWords Go.Proofs.YtidjihhklmfaiaaDoor.X Go.Proofs.YtidjihhklmfaiaaDoor.Pg
theorem awake05 : Ev (fun k => broadsheetlaw05_awake.f k) true :=
  Ev.of (fun k => broadsheetlaw05_awake.mono k) (k := 20) (by decide +kernel)
end Go.Proofs.YtidjihhklmfaiaaDoor.U
