/- All printed functions. -/
import Derived.Test.YtodpbobjmkhcfaaGreatDoorKa
import Derived.Test.YtodpbobjmkhcfaaGreatDoorLb
