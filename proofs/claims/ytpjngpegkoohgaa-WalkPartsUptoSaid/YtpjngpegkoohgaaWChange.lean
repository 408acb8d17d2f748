/-
  A change of a tree.
-/
import Derived.Test.YtpjngpegkoohgaaChange
import Derived.Test.YtpjngpegkoohgaaPick
import Derived.Test.YtpjngpegkoohgaaCopy
import Derived.Test.YtpjngpegkoohgaaUndo
import Derived.Test.YtpjngpegkoohgaaBase
import Derived.Test.YtpjngpegkoohgaaWChIns
import Derived.Test.YtpjngpegkoohgaaWChCut
import Derived.Test.YtpjngpegkoohgaaWChSet
set_option linter.unusedVariables false
set_option linter.unusedSimpArgs false
set_option maxRecDepth 100000
namespace Go.Proofs.Ytpjngpegkoohgaa
open Go.Vl

namespace WChange

theorem c_Change (l : List Nd) (c : Ch) (h : Ch.ok 16777216 l c) : FnP Try.prog 17 [.sl 4 (l.map Nd.av), cav c, .sl 1 (c.path.map AV.int)] (.tup [.sl 4 ((c.app l).map Nd.av), cav (c.back l), .int 0]) := by
  obtain ⟨k, p, x⟩ := c
  rcases h.kind with ⟨hk, hp⟩ | ⟨hk, hx, d, hd⟩ | ⟨hk, d, hd⟩
  · simp only at hk hp; subst hk
    exact WChIns.c_Ins ⟨1, p, x⟩ rfl h.len h.nsz p h.len l h.sz hp
  · simp only at hk hx hd; subst hk; subst hx
    have := WChCut.c_Cut ⟨2, p, Nd.dflt⟩ rfl h.len h.nsz p h.len l h.sz d hd h.wf
    have hg := Nd.at_got p l d hd
    rw [show Ch.back l ⟨2, p, Nd.dflt⟩ = ⟨1, p, Nd.got l p⟩ from rfl, hg]
    exact this
  · simp only at hk hd; subst hk
    have := WChSet.c_Set ⟨3, p, x⟩ rfl h.len h.nsz p h.len l h.sz d hd h.wf
    have hg := Nd.at_got p l d hd
    rw [show Ch.back l ⟨3, p, x⟩ = ⟨3, p, Nd.got l p⟩ from rfl, hg]
    exact this

end WChange

end Go.Proofs.Ytpjngpegkoohgaa
