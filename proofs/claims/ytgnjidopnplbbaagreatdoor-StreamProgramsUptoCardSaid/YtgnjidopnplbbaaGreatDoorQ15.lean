/- A part of the proof of the statement S8 (texts brought together and shortened by a program of this work). -/
import Derived.Test.YtgnjidopnplbbaaGreatDoorQ13
import Derived.Test.YtgnjidopnplbbaaGreatDoorQ8
import Derived.Test.YtgnjidopnplbbaaGreatDoorQ11
import Derived.Test.YtgnjidopnplbbaaGreatDoorQ14
set_option maxRecDepth 1000000
set_option linter.unusedVariables false
set_option linter.unusedSimpArgs false
set_option linter.unusedSectionVars false








