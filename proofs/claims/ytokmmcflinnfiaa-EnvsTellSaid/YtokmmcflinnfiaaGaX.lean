/- GaX: a part of the proof. -/
import Derived.Test.YtokmmcflinnfiaaGaF5
