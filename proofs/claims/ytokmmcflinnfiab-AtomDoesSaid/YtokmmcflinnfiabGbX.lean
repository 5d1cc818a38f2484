/- GbX: a part of the proof. -/
import Derived.Test.YtokmmcflinnfiabGbF11
