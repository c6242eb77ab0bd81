/- All printed functions. -/
import Derived.Test.YtbjelopcelompaaGreatDoorKa
import Derived.Test.YtbjelopcelompaaGreatDoorKb
import Derived.Test.YtbjelopcelompaaGreatDoorKc
import Derived.Test.YtbjelopcelompaaGreatDoorKd
