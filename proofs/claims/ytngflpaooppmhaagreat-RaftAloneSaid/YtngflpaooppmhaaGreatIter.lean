/- Nothing. -/
import Derived.Test.YtngflpaooppmhaaGreatShelf
