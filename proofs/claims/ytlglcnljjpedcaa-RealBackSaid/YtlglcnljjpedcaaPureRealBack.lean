/-
  The pure statement of the law RealBack: proved in YtlglcnljjpedcaaRealPure, for every input.
-/
import Derived.Test.YtlglcnljjpedcaaRealPure
