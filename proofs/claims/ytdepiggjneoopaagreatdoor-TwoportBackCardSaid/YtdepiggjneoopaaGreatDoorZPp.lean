/- a part of the proof of the last text -/
import Derived.Test.YtdepiggjneoopaaGreatDoorZNums
