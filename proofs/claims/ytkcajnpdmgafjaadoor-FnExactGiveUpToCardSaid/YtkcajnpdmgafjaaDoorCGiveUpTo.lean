/- GiveUpTo: a bound on the marks of its result. -/
import Derived.Test.YtkcajnpdmgafjaaDoorRWcv
