/-
  HeirAncestors: for every input the statement returns true, and each argument reads behind the call as it read before.
  Conditions: those of the given row alone. (The texts of this claim are merged by the session's program wip/pack.py; declarations that nothing names are left out.)
-/

import Derived.Test.YtdljclokenoogaaKTa5
set_option linter.unusedVariables false
set_option linter.unusedSimpArgs false
