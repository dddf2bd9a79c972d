/- Nothing more of the library is wanted here. -/
import Derived.Test.YtogdfkilhpkloaaGreatDoorShelf
