/- The printed functions that never panic here. -/
import Derived.Test.YthagelbepgcolaaGreatDoorKa
import Derived.Test.YthagelbepgcolaaGreatDoorKb
import Derived.Test.YthagelbepgcolaaGreatDoorKc
import Derived.Test.YthagelbepgcolaaGreatDoorKd
