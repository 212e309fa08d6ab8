/- layer 7: joined -/
import Derived.Test.YtkoopobfelcgpaaHL
import Derived.Test.YtkoopobfelcgpaaHM
