/- GzX: a part of the proof. -/
import Derived.Test.YtokmmcflinnfiaaGreatGzF14
