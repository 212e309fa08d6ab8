/- layer 7: joined, for VmAgain -/
import Derived.Test.YtkoopobfelcgpaaHT
import Derived.Test.YtkoopobfelcgpaaHM
