/-
  The pure statement of the law RealKeys: proved in YtlglcnljjpedcaaRealPure, for every input.
-/
import Derived.Test.YtlglcnljjpedcaaRealPure
