/- From a contract of a law to the kit's words. -/
import Derived.Test.YtoijhndfkfliiaaRep
import Derived.Below
namespace Go.Sep
open Go.RowKit
set_option linter.unusedVariables false
set_option linter.unusedSimpArgs false

theorem below_of_post {e : Env} {Lf : Nat → List Nat} {b : Bool} {v : Value} {w' : World} (h : Post e Lf [] (.bool b) v w') : v = .bool b ∧ Below e.w.heap.size e.w w' := by
  obtain ⟨e', Lf', L, rfl, T, hv, _⟩ := h
  simp only [RV] at hv
  exact ⟨hv.1, T.io.1, T.io.2.1, T.io.2.2, T.size, fun k hk => T.keep k hk (fun nm hF => by simp at hF)⟩

/-- The callee's memory, where a law begins: all that lies there is lent. -/
def entry (num : Nat → Nat) (W : World) : Env := { num := num, w := W, w0 := W, φ := fun _ => .dead, Fr := fun _ => False, Bo := fun b => b < W.heap.size }

theorem entry_ok (num : Nat → Nat) (W : World) : Ok (entry num W) (blks (fun _ => []) (preH [])) (look (preH [])) (fun _ => []) where
  size0 := Nat.le_refl _
  io0 := SameIo.refl _
  fr b hb := by rcases hb with hb | hb; exact hb.elim; exact ⟨hb, by simp [blks, preH]⟩
  keep0 _ _ _ := rfl
  own0 nm hn := by simp [preH, look] at hn
  rh := { row := fun nm row hr => by simp [preH, look] at hr, nodup := fun nm hn => by simp [preH, look] at hn, blk := fun nm hn => by simp [preH, look] at hn, dis := fun n m hn => by simp [preH, look] at hn, dead := fun _ _ => rfl }

end Go.Sep
