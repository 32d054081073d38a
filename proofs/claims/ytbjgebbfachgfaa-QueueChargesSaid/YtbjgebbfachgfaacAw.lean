/- What Awake answers, and the texts that the laws' walks lean on. -/
import Derived.Test.YtbjgebbfachgfaacW42
set_option linter.unusedVariables false
set_option linter.unusedSimpArgs false
set_option linter.unusedSectionVars false
set_option linter.all false

