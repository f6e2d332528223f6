/- All that the printed texts lean on beyond the kit. -/
import Derived.Test.YtidjihhklmfaiaaDoorXGlob
import Derived.Test.YtidjihhklmfaiaaDoorXCheck
