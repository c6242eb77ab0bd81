/- The closed call of the statements on scripts. -/
import Derived.Test.YthagelbepgcolaaGreatDoorDoe
namespace Go.Proofs.YthagelbepgcolaaGreatDoor.Gst
open Go Go.RowKit
set_option maxRecDepth 100000
def tabC : List Value := [0,1,56,2,57,49,28,3,61,58,42,50,38,29,17,4,62,47,59,36,45,43,51,22,53,39,33,30,24,18,12,5,63,55,48,27,60,41,37,16,46,35,44,21,52,32,23,11,54,26,40,15,34,20,31,10,25,14,19,9,13,8,7,6].map fun n => .int .u8 n
theorem awake_run : okRun4 tabC (tCallO Tryz.prog [3] [52, 338] orc 100000 60 14 [] (tabE4 tabC)) = true := by decide +kernel
end Go.Proofs.YthagelbepgcolaaGreatDoor.Gst
