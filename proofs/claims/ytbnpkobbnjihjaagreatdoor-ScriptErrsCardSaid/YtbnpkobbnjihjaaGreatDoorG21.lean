/- See GetG. -/
import Derived.Test.YtbnpkobbnjihjaaGreatDoorG19
