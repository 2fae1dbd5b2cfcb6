/-
  The pure statement of the law RealOrder: proved in YtlglcnljjpedcaaRealPure, for every input.
-/
import Derived.Test.YtlglcnljjpedcaaRealPure
