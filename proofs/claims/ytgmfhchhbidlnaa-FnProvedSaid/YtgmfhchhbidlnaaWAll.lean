-- Written by wip/xp/xp.py over the kit's print; Lean checks it.
import Derived.Test.YtgmfhchhbidlnaaW0
