/- Contracts of functions. -/
import Derived.Test.YtjbknbgdfhihcaaVO0
namespace Go.Sep
open Go.Proofs
set_option linter.unusedSimpArgs false
set_option linter.unusedVariables false
set_option maxRecDepth 100000
def w00 : Write := ⟨0, z24⟩
def mem0 : List (List Write) := List.replicate 24 [w00]
def z8 : List Int := List.replicate 8 0
@[simp] theorem z8_len : z8.length = 8 := rfl
def k00 : Core := ⟨0, z8, z24, 0⟩
def nilM : Machine := ⟨[], [], ⟨[]⟩, []⟩
def machNew (l : List (List Step)) : Machine := ⟨l, List.replicate l.length k00, ⟨mem0⟩, []⟩
attribute [simp] machNew
attribute [go_sem] machNew
end Go.Sep
