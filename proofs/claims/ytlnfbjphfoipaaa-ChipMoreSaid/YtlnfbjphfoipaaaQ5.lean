import Derived.Test.YtlnfbjphfoipaaaQ0
import Derived.Test.YtlnfbjphfoipaaaProg
import Derived.KernelRfl
set_option linter.all false
