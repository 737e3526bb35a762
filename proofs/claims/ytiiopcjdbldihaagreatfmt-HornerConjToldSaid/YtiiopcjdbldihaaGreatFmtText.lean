/- (*Int).Text, String, Sign, BitLen, exact.Dy.Back at numbers 1, 2, 3. No condition but io.EOF etc. laid. -/
import Derived.Test.YtiiopcjdbldihaaGreatFmtText1
import Derived.Test.YtiiopcjdbldihaaGreatFmtText2
import Derived.Test.YtiiopcjdbldihaaGreatFmtText3
