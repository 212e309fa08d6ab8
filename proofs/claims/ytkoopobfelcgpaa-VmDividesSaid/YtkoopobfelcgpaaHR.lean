/- layer 7: joined again -/
import Derived.Test.YtkoopobfelcgpaaHQ
import Derived.Test.YtkoopobfelcgpaaHM
