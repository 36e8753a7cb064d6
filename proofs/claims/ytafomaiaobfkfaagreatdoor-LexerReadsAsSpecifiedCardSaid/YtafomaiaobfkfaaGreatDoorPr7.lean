/- A function of the program as plain Lean and its contract, or what such texts share: printed by a program of this session's. Conditions: each theorem's own. -/
import Derived.Test.YtafomaiaobfkfaaGreatDoorPrS
