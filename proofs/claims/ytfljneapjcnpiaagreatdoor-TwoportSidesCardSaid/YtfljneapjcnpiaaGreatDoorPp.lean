/- Numbers: the walks of the package parts, and rows of numbers. -/
import Derived.Test.YtfljneapjcnpiaaGreatDoorParts2
import Derived.Test.YtfljneapjcnpiaaGreatDoorNums
import Derived.Test.YtfljneapjcnpiaaGreatDoorOwns
