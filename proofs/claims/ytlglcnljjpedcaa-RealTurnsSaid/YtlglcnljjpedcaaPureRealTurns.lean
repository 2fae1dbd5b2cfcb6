/-
  The pure statement of the law RealTurns: proved in YtlglcnljjpedcaaRealPure2, for every input.
-/
import Derived.Test.YtlglcnljjpedcaaRealPure2
