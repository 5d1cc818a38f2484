/- GdX: a part of the proof. -/
import Derived.Test.YtokmmcflinnfiaaGdF6
