/- The examples' numbers with a fault. -/
import Derived.Test.YtbjgebbfachgfaacJ10
set_option linter.unusedVariables false
set_option linter.unusedSimpArgs false
set_option linter.unusedSectionVars false
set_option linter.all false
namespace Go.Proofs.Ytbjgebbfachgfaa

def exWork2 : Work := ⟨exRules, exJobs, [⟨15, 10⟩]⟩
def exShort : List Spell := [⟨1, 0, 0, 13⟩, ⟨4, 2, 13, 15⟩, ⟨5, -1, 15, 25⟩]
def exMore : List Spell := [⟨3, 2, 25, 31⟩, ⟨2, 1, 31, 38⟩, ⟨1, 0, 38, 51⟩]
theorem ex2_day20 : (day exWork2 20).1 = exShort ∧ dayErr exWork2 20 = 0 ∧ (day exWork2 20).2.jobs.length = 3 := by decide +kernel
theorem ex2_day40 : (day exWork2 40).1 = exShort ++ exMore ∧ dayErr exWork2 40 = 0 ∧ (day exWork2 40).2.jobs.length = 3 := by decide +kernel
theorem ex2_quote1 : quote exRules ⟨⟨#[98]⟩, 1, 8, 5⟩ = 35 ∧ quoteErr exRules ⟨⟨#[98]⟩, 1, 8, 5⟩ = 0 := by decide +kernel
theorem ex2_quote2 : quote exRules ⟨⟨#[99]⟩, 2, 4, 9⟩ = 30 ∧ quoteErr exRules ⟨⟨#[99]⟩, 2, 4, 9⟩ = 0 := by decide +kernel

end Go.Proofs.Ytbjgebbfachgfaa
