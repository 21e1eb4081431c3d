/- Contracts of functions. -/
import Derived.Test.YtfecojefbnnknaaLxx21
import Derived.Test.YtfecojefbnnknaaLxx22
open List renaming getD_eq_getElem?_getD → qZw
namespace Go.Sep
set_option maxHeartbeats 16000000
open Go.Proofs
set_option linter.unusedSimpArgs false
set_option linter.unusedVariables false
set_option maxRecDepth 100000
theorem qAt {l:List Ins} (hb:wJ l 3=true):(dA l).length=l.length:=by
 unfold dA
 rw [if_pos hb]
 simp
theorem qRz {l:List Ins} (hb:wJ l 3=true) {a:Nat} (ha:a<l.length) {r:Int} (hr:0≤r∧r<4):r∈(dA l).getD a []↔qCy l a r:=by
 unfold dA
 rw [if_pos hb]
 simp only [qZw,List.getElem?_map,List.getElem?_range ha,Option.map_some,Option.getD_some,List.mem_filter]
 constructor
 ·rintro ⟨_,h⟩
  simpa using h
 ·intro h
  refine ⟨?_,by simpa using h⟩
  simp
  omega
theorem qHl {l:List Ins} (a:Nat):((dA l).getD a []).length≤4:=by
 by_cases ha:a<(dA l).length
 ·unfold dA at ha⊢
  split at ha
  ·rename_i hb
   rw [if_pos hb]
   have ha':a<l.length:=by simpa using ha
   simp only [qZw,List.getElem?_map,List.getElem?_range ha',Option.map_some,Option.getD_some]
   exact List.length_filter_le _ _
  ·simp at ha
 ·rw [qZw,List.getElem?_eq_none (by omega)]
  simp
end Go.Sep
