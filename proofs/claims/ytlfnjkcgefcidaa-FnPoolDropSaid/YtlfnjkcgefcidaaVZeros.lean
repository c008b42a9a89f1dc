-- The print's words that these laws name, taken out by a program of this session. Lean checks them.
import Derived.Test.YtlfnjkcgefcidaaVApart
import Derived.Test.YtlfnjkcgefcidaaVArr
