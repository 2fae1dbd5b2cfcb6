/-
  The pure statement of the law RealEdges: proved in YtlglcnljjpedcaaRealPure3, for every input.
-/
import Derived.Test.YtlglcnljjpedcaaRealPure3
