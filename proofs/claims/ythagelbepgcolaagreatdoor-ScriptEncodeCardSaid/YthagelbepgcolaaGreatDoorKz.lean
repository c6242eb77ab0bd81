/- All printed functions. -/
import Derived.Test.YthagelbepgcolaaGreatDoorKa
import Derived.Test.YthagelbepgcolaaGreatDoorKb
import Derived.Test.YthagelbepgcolaaGreatDoorKc
import Derived.Test.YthagelbepgcolaaGreatDoorKd
import Derived.Test.YthagelbepgcolaaGreatDoorKe
