/- GeX: a part of the proof. -/
import Derived.Test.YtokmmcflinnfiaaGeF11
