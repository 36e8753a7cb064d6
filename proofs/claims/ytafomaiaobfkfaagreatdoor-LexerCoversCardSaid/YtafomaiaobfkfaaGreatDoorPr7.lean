/- The hand walk stands in its place. Conditions: none. -/
import Derived.Test.YtafomaiaobfkfaaGreatDoorPrS
