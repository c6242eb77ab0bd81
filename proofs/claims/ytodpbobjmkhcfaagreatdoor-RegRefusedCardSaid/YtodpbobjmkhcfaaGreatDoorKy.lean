/- All printed functions. -/
import Derived.Test.YtodpbobjmkhcfaaGreatDoorKa
import Derived.Test.YtodpbobjmkhcfaaGreatDoorKb
import Derived.Test.YtodpbobjmkhcfaaGreatDoorKc
import Derived.Test.YtodpbobjmkhcfaaGreatDoorKd
import Derived.Test.YtodpbobjmkhcfaaGreatDoorKe
import Derived.Test.YtodpbobjmkhcfaaGreatDoorKf
import Derived.Test.YtodpbobjmkhcfaaGreatDoorKg
