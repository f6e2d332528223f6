/- Both Parse functions in the printer's shape. -/
import Derived.Test.YtldancekpigkaaaDoorXParsG
import Derived.Test.YtldancekpigkaaaDoorXParsR
