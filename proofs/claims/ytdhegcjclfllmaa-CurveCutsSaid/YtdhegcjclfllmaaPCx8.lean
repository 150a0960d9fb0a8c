-- The document's Cut of a curve is proved by an own text.
import Derived.Test.YtdhegcjclfllmaaCurU
