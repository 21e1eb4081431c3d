/- Contracts of functions. -/
import Derived.Test.YtoijhndfkfliiaaConF
import Derived.Test.YtoijhndfkfliiaaConG
import Derived.Test.YtoijhndfkfliiaaConH
namespace Go.Sep
open Go.Proofs
set_option linter.unusedSimpArgs false
set_option linter.unusedVariables false
set_option maxRecDepth 100000
def m188 : MFn := ⟨69, [.t 2], .seq (xr [xo 1 (.box (.t 0)), xo 2 (.mv (.c (.bool false)))]) (.seq (xr [xo 3 (.mv (xi 1048576))]) (.seq (xr [xo 11 (.load 2 true (.t 1)), xv 12 3, xo 13 (.call 27 [false, false] [.t 11, .t 12]), xv 3 13]) (.seq (.seq (xr [xv 14 3, xo 15 (.bin .lss (.t 14) (xi 0))]) (.cond 15 (.seq (xr [xo 2 (.mv (.c (.bool true)))]) (.ret)) (.skip))) (.seq (xr [xo 16 (.load 2 true (.t 1)), xo 17 (.call 28 [false] [.t 16]), xo 18 (.call 189 [false] [.t 17]), xo 4 (.alloc [.nil, .nil]), ⟨none, .store 2 (.t 4) (.t 18), none⟩]) (.seq (xr [xo 19 (.load 2 true (.t 1)), xo 20 (.call 28 [false] [.t 19]), xo 5 (.alloc [.nil, .nil]), ⟨none, .store 2 (.t 5) (.t 20), none⟩]) (.seq (xr [xo 21 (.load 2 true (.t 5)), xo 22 (.call 190 [false] [.t 21]), xo 6 (.alloc [.nil, .nil]), ⟨none, .store 2 (.t 6) (.t 22), none⟩]) (.seq (.seq (xr [xo 23 (.load 2 true (.t 6)), xo 24 (.load 2 true (.t 4)), xo 25 (.call 30 [false, false] [.t 23, .t 24]), xo 26 (.un .«not» (.t 25))]) (.cond 26 (.seq (xr [xo 2 (.mv (.c (.bool false)))]) (.ret)) (.skip))) (.seq (.seq (.dreg (.take 0 (xo 27 (.load 2 true (.t 5))) (.only 1 [] (xo 28 (.load 2 true (.t 1))) (.only 2 [] (xo 29 (.call 28 [false] [.t 28])) (.only 3 [0] (xo 30 (.call 30 [false, false] [.t 27, .t 29])) (.only 4 [] (xo 31 (.un .«not» (.t 30))) (.done))))))) (.cond 31 (.seq (xr [xo 2 (.mv (.c (.bool false)))]) (.ret)) (.skip))) (.seq (xr [xo 7 (.mv (xi 1))]) (.seq (xr [xo 32 (.load 2 true (.t 5)), xv 33 7, xo 34 (.call 31 [true, false] [.t 32, .t 33]), xv 7 34]) (.seq (.seq (xr [xv 35 7, xo 36 (.bin .lss (.t 35) (xi 0)), xv 37 36, xg 38 (.load 2 true (.t 6)) 37 false, xg 39 (.load 2 true (.t 4)) 37 false, xg 40 (.call 30 [false, false] [.t 38, .t 39]) 37 false, xg 41 (.un .«not» (.t 40)) 37 false, xo 42 (.pick (.t 37) (.c (.bool true)) (.t 41))]) (.cond 42 (.seq (xr [xo 2 (.mv (.c (.bool false)))]) (.ret)) (.skip))) (.seq (xr [xo 8 (.mv (xi 1))]) (.seq (xr [xo 43 (.load 2 true (.t 6)), xv 44 8, xo 45 (.call 31 [true, false] [.t 43, .t 44]), xv 8 45]) (.seq (xr [xo 9 (.mv (xi 1))]) (.seq (xr [xo 46 (.load 2 true (.t 6)), xv 47 9, xo 48 (.call 191 [false, false] [.t 46, .t 47]), xv 9 48]) (.seq (.seq (xr [xv 49 9, xo 50 (.bin .lss (.t 49) (xi 0))]) (.cond 50 (.seq (xr [xo 2 (.mv (.c (.bool false)))]) (.ret)) (.skip))) (.seq (.seq (xr [xv 51 9, xv 52 8, xo 53 (.bin .neq (.t 51) (.t 52))]) (.cond 53 (.seq (xr [xo 2 (.mv (.c (.bool false)))]) (.ret)) (.skip))) (.seq (xr [xo 54 (.load 2 true (.t 1)), xo 55 (.call 28 [false] [.t 54]), xo 56 (.call 190 [false] [.t 55]), xo 10 (.alloc [.nil, .nil]), ⟨none, .store 2 (.t 10) (.t 56), none⟩]) (.seq (.seq (xr [xo 57 (.load 2 true (.t 10)), xo 58 (.load 2 true (.t 4)), xo 59 (.call 30 [false, false] [.t 57, .t 58]), xo 60 (.un .«not» (.t 59))]) (.cond 60 (.seq (xr [xo 2 (.mv (.c (.bool false)))]) (.ret)) (.skip))) (.seq (xr [xo 9 (.mv (xi 1))]) (.seq (xr [xo 61 (.load 2 true (.t 6)), xv 62 9, xo 63 (.call 191 [false, false] [.t 61, .t 62]), xv 9 63]) (.seq (.seq (xr [xv 64 9, xo 65 (.bin .lss (.t 64) (xi 0))]) (.cond 65 (.seq (xr [xo 2 (.mv (.c (.bool false)))]) (.ret)) (.skip))) (.seq (.seq (xr [xv 66 9, xv 67 8, xo 68 (.bin .neq (.t 66) (.t 67))]) (.cond 68 (.seq (xr [xo 2 (.mv (.c (.bool false)))]) (.ret)) (.skip))) (.seq (xr [xo 2 (.mv (.c (.bool true)))]) (.ret)))))))))))))))))))))))))⟩
theorem c188 : chkC Try.prog num Try.f14.ntmps m188.body ((Try.f14.body).getD .skip) = true := by kernel_rfl
def m189 : MFn := ⟨29, [.cell 2 2 true], .seq (xr [xo 1 (.box (.t 0)), xo 2 (.alloc [.nil, .nil])]) (.seq (xr [xo 5 (.load 2 true (.t 1)), xo 6 (.call 238 [false] [.t 5]), xo 3 (.alloc [.nil, .nil]), ⟨none, .store 2 (.t 3) (.t 6), none⟩]) (.seq (.seq (xr [xo 4 (.mv (xi 0))]) (.blk 0 (.loop (.seq (.seq (xr [xv 7 4, xo 8 (.fad 1 (.t 1)), xo 9 (.load 1 false (.t 8)), xo 10 (.len (.t 9)), xo 11 (.bin .lss (.t 7) (.t 10)), xv 12 11, xg 13 (.load 2 true (.t 1)) 12 true, xg 14 (.call 62 [false] [.t 13]) 12 true, xo 15 (.pick (.t 12) (.t 14) (.c (.bool false)))]) (.cond 15 (.skip) (.exit 0))) (.seq (.blk 1 (.dreg (.take 0 (xo 18 (.fad 1 (.t 3))) (.take 1 (xo 19 (.load 1 false (.t 18))) (.take 2 (xv 20 4) (.take 3 (xo 21 (.fad 1 (.t 1))) (.take 4 (xo 22 (.load 1 false (.t 21))) (.only 5 [] (xv 23 4) (.only 6 [4] (xo 24 (.iad 1 (.t 22) (.t 23))) (.only 7 [] (xo 25 (.load 1 false (.t 24))) (.only 8 [] (xo 26 (.call 239 [false] [.t 25])) (.only 9 [0, 1, 2, 3, 4] (xo 27 (.iad 1 (.t 19) (.t 20))) (.only 10 [0, 1, 2, 3, 4] ⟨none, .store 1 (.t 27) (.t 26), none⟩ (.done)))))))))))))) (xr [xv 16 4, xo 17 (.bin .add (.t 16) (xi 1)), xv 4 17])))))) (.seq (xr [xo 28 (.load 2 true (.t 3)), ⟨none, .store 2 (.t 2) (.t 28), none⟩]) (.ret))))⟩
theorem c189 : chkC Try.prog num Try.f65.ntmps m189.body ((Try.f65.body).getD .skip) = true := by kernel_rfl
def m190 : MFn := ⟨5, [.cell 2 2 true], .seq (xr [xo 1 (.box (.t 0)), xo 2 (.alloc [.nil, .nil])]) (.seq (xr [xo 3 (.load 2 true (.t 1)), xo 4 (.call 200 [false, false] [.t 3, .c (.fn 240 [])]), ⟨none, .store 2 (.t 2) (.t 4), none⟩]) (.ret))⟩
theorem c190 : chkC Try.prog num Try.f66.ntmps m190.body ((Try.f66.body).getD .skip) = true := by kernel_rfl
def m200 : MFn := ⟨31, [.cell 4 2 true], .seq (xr [xo 2 (.box (.t 0)), xo 4 (.alloc [.nil, .nil])]) (.seq (xr [xo 8 (.load 2 true (.t 2)), xo 9 (.call 247 [false] [.t 8]), xo 5 (.alloc [.nil, .nil]), ⟨none, .store 2 (.t 5) (.t 9), none⟩]) (.seq (.seq (xr [xo 10 (.load 2 true (.t 2)), xo 11 (.call 48 [false] [.t 10]), xo 12 (.un .«not» (.t 11))]) (.cond 12 (.seq (xr [xo 13 (.load 2 true (.t 5)), ⟨none, .store 2 (.t 4) (.t 13), none⟩]) (.ret)) (.skip))) (.seq (.seq (xr [xo 14 (.fad 1 (.t 2)), xo 15 (.load 1 false (.t 14)), xo 16 (.len (.t 15)), xo 17 (.mv (xi 0))]) (.blk 0 (.loop (.seq (xr [xo 18 (.bin .lss (.t 17) (.t 16))]) (.seq (.cond 18 (.skip) (.exit 0)) (.seq (.blk 1 (.seq (xr [xv 19 17, xo 20 (.iad 1 (.t 15) (.t 17)), xo 21 (.load 1 false (.t 20)), xv 6 19, xv 7 21]) (.dreg (.take 0 (xo 22 (.fad 1 (.t 5))) (.take 1 (xo 23 (.load 1 false (.t 22))) (.take 2 (xv 24 6) (.take 3 (xv 25 1) (.only 4 [] (xv 26 7) (.only 5 [3] (xo 27 (.calv (.t 25) [.t 26])) (.only 6 [0, 1, 2, 3] (xo 28 (.iad 1 (.t 23) (.t 24))) (.only 7 [0, 1, 2, 3] ⟨none, .store 1 (.t 28) (.t 27), none⟩ (.done)))))))))))) (xr [xo 29 (.bin .add (.t 17) (xi 1)), xv 17 29]))))))) (.seq (xr [xo 30 (.load 2 true (.t 5)), ⟨none, .store 2 (.t 4) (.t 30), none⟩]) (.ret)))))⟩
theorem c200 : chkC Try.prog num Try.f95.ntmps m200.body ((Try.f95.body).getD .skip) = true := by kernel_rfl
def m239 : MFn := ⟨32, [.t 2], .seq (xr [xo 2 (.mv (.c (.nil)))]) (.seq (xr [xo 6 (.mkSl [xz, xz, xz, xz, xz] 0 []), xv 7 0, xo 8 (.app 5 40 (.t 6) (.t 7)), xv 3 8]) (.seq (xr [xv 9 0, xo 10 (.call 289 [false] [.t 9]), xv 4 10]) (.seq (.seq (xr [xo 5 (.mv (xi 0))]) (.blk 0 (.loop (.seq (.seq (xr [xv 11 5, xv 12 4, xo 13 (.len (.t 12)), xo 14 (.bin .lss (.t 11) (.t 13))]) (.cond 14 (.skip) (.exit 0))) (.seq (.blk 1 (.dreg (.take 0 (xv 17 3) (.take 1 (xv 18 5) (.take 2 (xv 19 0) (.take 3 (xv 20 5) (.take 4 (xo 21 (.iad 5 (.t 19) (.t 20))) (.take 5 (xo 22 (.load 5 true (.t 21))) (.take 6 (xv 23 4) (.take 7 (xv 24 5) (.take 8 (xo 25 (.iad 1 (.t 23) (.t 24))) (.take 9 (xo 26 (.load 1 false (.t 25))) (.only 10 [] (xv 27 5) (.only 11 [] (xo 28 (.bin .add (.t 27) (xi 1))) (.only 12 [5, 9] (xo 29 (.call 290 [false, false, false] [.t 22, .t 26, .t 28])) (.only 13 [0, 1, 2, 3, 4, 5, 6, 7, 8, 9] (xo 30 (.iad 5 (.t 17) (.t 18))) (.only 14 [0, 1, 2, 3, 4, 5, 6, 7, 8, 9] ⟨none, .store 5 (.t 30) (.t 29), none⟩ (.done)))))))))))))))))) (xr [xv 15 5, xo 16 (.bin .add (.t 15) (xi 1)), xv 5 16])))))) (.seq (xr [xv 31 3, xv 2 31]) (.ret)))))⟩
theorem c239 : chkC Try.prog num Try.f152.ntmps m239.body ((Try.f152.body).getD .skip) = true := by kernel_rfl
def m240 : MFn := ⟨29, [.t 2], .seq (xr [xo 2 (.mv (.c (.nil)))]) (.seq (xr [xv 6 0, xo 7 (.call 248 [false] [.t 6]), xv 3 7]) (.seq (.seq (xr [xv 8 0, xo 9 (.call 291 [false] [.t 8]), xo 10 (.len (.t 9)), xo 11 (.mv (xi 0))]) (.blk 0 (.loop (.seq (xr [xo 12 (.bin .lss (.t 11) (.t 10))]) (.seq (.cond 12 (.skip) (.exit 0)) (.seq (.blk 1 (.seq (xr [xv 13 11, xo 14 (.iad 1 (.t 9) (.t 11)), xo 15 (.load 1 false (.t 14)), xv 4 13, xv 5 15]) (xr [xv 16 3, xv 17 4, xv 18 0, xv 19 4, xo 20 (.iad 5 (.t 18) (.t 19)), xo 21 (.load 5 true (.t 20)), xv 22 5, xv 23 4, xo 24 (.bin .add (.t 23) (xi 1)), xo 25 (.call 292 [false, false, false] [.t 21, .t 22, .t 24]), xo 26 (.iad 5 (.t 16) (.t 17)), ⟨none, .store 5 (.t 26) (.t 25), none⟩]))) (xr [xo 27 (.bin .add (.t 11) (xi 1)), xv 11 27]))))))) (.seq (xr [xv 28 3, xv 2 28]) (.ret))))⟩
theorem c240 : chkC Try.prog num Try.f153.ntmps m240.body ((Try.f153.body).getD .skip) = true := by kernel_rfl
def m291 : MFn := ⟨96, [.t 2], .seq (xr [xo 2 (.mv (.c (.nil)))]) (.seq (.seq (xr [xv 13 0, xo 14 (.call 67 [false, false] [.t 13, xi 3]), xo 15 (.un .«not» (.t 14))]) (.cond 15 (.seq (xr [xo 2 (.mv (.c (.nil)))]) (.ret)) (.skip))) (.seq (xr [xv 16 0, xo 17 (.len (.t 16)), xo 18 (.mkS [.nil] 24 (.t 17) (.t 17)), xv 3 18]) (.seq (xr [xo 19 (.build [.bool false, .int .i64 0] [(0, 1, .c (.bool true))]), xo 4 (.alloc [.bool false, .int .i64 0]), ⟨none, .store 2 (.t 4) (.t 19), none⟩]) (.seq (xr [xv 20 3, xo 21 (.load 2 true (.t 4)), xo 22 (.load 2 true (.t 4)), xo 23 (.load 2 true (.t 4)), xo 24 (.load 2 true (.t 4)), xo 25 (.mkSl [.bool false, .int .i64 0] 4 [(0, .t 21), (1, .t 22), (2, .t 23), (3, .t 24)]), xo 26 (.iad 1 (.t 20) (xi 0)), ⟨none, .store 1 (.t 26) (.t 25), none⟩]) (.seq (.seq (xr [xo 5 (.mv (.c (.bool true)))]) (.blk 0 (.loop (.seq (.seq (xr [xv 27 5]) (.cond 27 (.skip) (.exit 0))) (.blk 1 (.seq (xr [xo 5 (.mv (.c (.bool false)))]) (.seq (xr [xv 28 0, xo 29 (.len (.t 28)), xo 30 (.mv (xi 0))]) (.blk 2 (.loop (.seq (xr [xo 31 (.bin .lss (.t 30) (.t 29))]) (.seq (.cond 31 (.skip) (.exit 2)) (.seq (.blk 3 (.seq (xr [xv 32 30, xo 33 (.iad 5 (.t 28) (.t 30)), xo 34 (.load 5 true (.t 33)), xo 7 (.alloc [xz, xz, xz, xz, xz]), xv 6 32, ⟨none, .store 5 (.t 7) (.t 34), none⟩]) (.seq (.seq (xr [xv 35 3, xv 36 6, xo 37 (.iad 1 (.t 35) (.t 36)), xo 38 (.load 1 false (.t 37)), xo 39 (.len (.t 38)), xo 40 (.bin .eql (.t 39) (xi 0))]) (.cond 40 (.exit 3) (.skip))) (.seq (.dreg (.take 0 (xo 41 (.load 5 true (.t 7))) (.take 1 (xv 42 3) (.only 2 [] (xv 43 6) (.only 3 [1] (xo 44 (.iad 1 (.t 42) (.t 43))) (.only 4 [] (xo 45 (.load 1 false (.t 44))) (.only 5 [0] (xo 46 (.call 330 [false, false] [.t 41, .t 45])) (.only 6 [0, 1] (xv 8 46) (.done))))))))) (.seq (xr [xv 47 0, xv 48 6, xo 49 (.call 216 [false, false] [.t 47, .t 48]), xo 50 (.len (.t 49)), xo 51 (.mv (xi 0))]) (.blk 4 (.loop (.seq (xr [xo 52 (.bin .lss (.t 51) (.t 50))]) (.seq (.cond 52 (.skip) (.exit 4)) (.seq (.blk 5 (.seq (xr [xo 53 (.iad 1 (.t 49) (.t 51)), xo 54 (.load 1 false (.t 53)), xv 10 54]) (.seq (.seq (xr [xv 55 3, xv 56 10, xo 57 (.iad 1 (.t 55) (.t 56)), xo 58 (.load 1 false (.t 57)), xo 59 (.len (.t 58)), xo 60 (.bin .eql (.t 59) (xi 0))]) (.cond 60 (.seq (xr [xv 61 3, xv 62 10, xo 63 (.mkSl [.bool false, .int .i64 0] 0 []), xv 64 8, xo 65 (.app 2 16 (.t 63) (.t 64)), xo 66 (.iad 1 (.t 61) (.t 62)), ⟨none, .store 1 (.t 66) (.t 65), none⟩]) (.seq (xr [xo 5 (.mv (.c (.bool true)))]) (.exit 5))) (.skip))) (.seq (xr [xv 67 3, xv 68 10, xo 69 (.iad 1 (.t 67) (.t 68)), xo 70 (.load 1 false (.t 69)), xv 71 8, xo 72 (.call 331 [true, false] [.t 70, .t 71]), xv 11 72]) (xr [xv 73 5, xv 74 73, xg 75 (.mv (.t 11)) 74 false, xo 76 (.pick (.t 74) (.c (.bool true)) (.t 75)), xv 5 76]))))) (xr [xo 77 (.bin .add (.t 51) (xi 1)), xv 51 77]))))))))))) (xr [xo 78 (.bin .add (.t 30) (xi 1)), xv 30 78]))))))))))))) (.seq (.seq (xr [xv 79 3, xo 80 (.len (.t 79)), xo 81 (.mv (xi 0))]) (.blk 6 (.loop (.seq (xr [xo 82 (.bin .lss (.t 81) (.t 80))]) (.seq (.cond 82 (.skip) (.exit 6)) (.seq (.blk 7 (.seq (xr [xv 83 81, xv 12 83]) (.seq (xr [xv 84 3, xv 85 12, xo 86 (.iad 1 (.t 84) (.t 85)), xo 87 (.load 1 false (.t 86)), xo 88 (.len (.t 87)), xo 89 (.bin .eql (.t 88) (xi 0))]) (.cond 89 (xr [xv 90 3, xv 91 12, xo 92 (.mkS [.bool false, .int .i64 0] 16 (xi 4) (xi 4)), xo 93 (.iad 1 (.t 90) (.t 91)), ⟨none, .store 1 (.t 93) (.t 92), none⟩]) (.skip))))) (xr [xo 94 (.bin .add (.t 81) (xi 1)), xv 81 94]))))))) (.seq (xr [xv 95 3, xv 2 95]) (.ret))))))))⟩
theorem c291 : chkC Try.prog num Try.f238.ntmps m291.body ((Try.f238.body).getD .skip) = true := by kernel_rfl
open Nat renaming reduceAdd → qA, reduceMul → qB, reduceEqDiff → qC, reduceBEq → qD
open Int renaming reduceToNat → qE, reduceEq → qF, reduceLT → qG, reduceLE → qH
open List renaming getD_eq_getElem?_getD → gD

-- S3
/-- A round over the places: how far it is, what is told, whether something changed. -/
structure Mid (l : List Ins) (S : KS) (a : Nat) (T : KS) (more : Bool) : Prop where
  inv : KInv l T
  f : more = false → T = S ∧ ∀ b, b < a → EOk l S b
  t : more = true → mS T < mS S
structure Inn (l : List Ins) (S : KS) (a : Nat) (out : KV) (j : Nat) (U : KS) (more : Bool) : Prop where
  inv : KInv l U
  f : more = false → U = S ∧ out = behind (l.getD a default) (kat S a) ∧ (∀ b, b < a → EOk l S b) ∧ ∀ i, i < j → kat S ((nextOf l a).getD i 0).toNat ≠ [] ∧ vle out (kat S ((nextOf l a).getD i 0).toNat)
  t : more = true → mS U < mS S
theorem mid_le {l : List Ins} {S T : KS} {a : Nat} {more : Bool} (h : Mid l S a T more) : mS T ≤ mS S := by
  cases more
  · rw [(h.f rfl).1]
    exact Nat.le_refl _
  · exact Nat.le_of_lt (h.t rfl)
theorem mid_start {l : List Ins} {S : KS} (h : KInv l S) : Mid l S 0 S false := ⟨h, fun _ => ⟨rfl, fun b hb => by omega⟩, fun h => by simp at h⟩
theorem mid_skip {l : List Ins} {S T : KS} {a : Nat} {more : Bool} (h : Mid l S a T more) (hk : kat T a = []) : Mid l S (a + 1) T more := by
  refine ⟨h.inv, fun hm => ⟨(h.f hm).1, fun b hb => ?_⟩, h.t⟩
  by_cases hba : b < a
  · exact (h.f hm).2 b hba
  · have : b = a := by omega
    subst this
    intro hs
    rw [(h.f hm).1] at hk
    exact absurd hk hs
theorem inn_start {l : List Ins} {S T : KS} {a : Nat} {more : Bool} (h : Mid l S a T more) : Inn l S a (behind (l.getD a default) (kat T a)) 0 T more :=
  ⟨h.inv, fun hm => ⟨(h.f hm).1, by rw [(h.f hm).1], (h.f hm).2, fun i hi => by omega⟩, h.t⟩
theorem inn_step {l : List Ins} {S T U : KS} {a j : Nat} {out : KV} {more : Bool} (hb : bodyOk l 3 = true) (ha : a < l.length) (hT : KInv l T) (hs : kat T a ≠ []) (ho : out = behind (l.getD a default) (kat T a)) (h : Inn l S a out j U more) (hj : j < (nextOf l a).length) :
    Inn l S a out (j + 1) (upd U out ((nextOf l a).getD j 0).toNat) (more || updD U out ((nextOf l a).getD j 0).toNat) := by
  have hm := getD_mem (nextOf l a) j 0 hj
  have hn := next_in hb ha _ hm
  have hn' : ((nextOf l a).getD j 0).toNat < U.length := by rw [h.inv.len]; exact hn.2
  have hwo : WfV out := ho ▸ behind_wf _ ((hT.wf a).resolve_left hs)
  have hw := h.inv.wf ((nextOf l a).getD j 0).toNat
  have hmm := upd_meas hn' hw hwo
  refine ⟨upd_inv h.inv hn.2 hwo fun V hV => ho ▸ out_le hT ha (body_regs hb ha) hs V hV _ hm, fun hf => ?_, fun ht => ?_⟩
  · rw [Bool.or_eq_false_iff] at hf
    obtain ⟨h1, h2, h3, h4⟩ := h.f hf.1
    have he := upd_same hf.2
    refine ⟨he.trans h1, h2, h3, fun i hi => ?_⟩
    by_cases hij : i < j
    · exact h4 i hij
    · have : i = j := by omega
      subst this
      have := upd_new hn' hw hwo
      rw [he, h1] at this
      exact this
  · cases hd : updD U out ((nextOf l a).getD j 0).toNat with
    | true =>
      have := hmm.2 hd
      cases hmo : more with
      | true => have := h.t hmo; omega
      | false => rw [(h.f hmo).1] at this ⊢; exact this
    | false =>
      rw [hd, Bool.or_false] at ht
      have := h.t ht
      omega
theorem inn_end {l : List Ins} {S U : KS} {a : Nat} {out : KV} {more : Bool} (h : Inn l S a out (nextOf l a).length U more) : Mid l S (a + 1) U more := by
  refine ⟨h.inv, fun hf => ?_, h.t⟩
  obtain ⟨h1, h2, h3, h4⟩ := h.f hf
  refine ⟨h1, fun b hb => ?_⟩
  by_cases hba : b < a
  · exact h3 b hba
  · have : b = a := by omega
    subst this
    intro hs n hn
    obtain ⟨i, hi, e⟩ := List.getElem_of_mem hn
    have := h4 i hi
    have e' : (nextOf l b).getD i 0 = n := by rw [← e]; simp [List.getD_eq_getElem?_getD, hi]
    rw [e', h2] at this
    exact this
theorem mid_end {l : List Ins} {S T : KS} {more : Bool} (h : Mid l S l.length T more) : (more = false → ∀ a, a < l.length → EOk l T a) ∧ 2 * mS T + (if more then 1 else 0) < 2 * mS S + 1 := by
  cases more
  · obtain ⟨h1, h2⟩ := h.f rfl
    rw [h1]
    exact ⟨fun _ => h2, by simp⟩
  · have := h.t rfl
    exact ⟨fun h => by simp at h, by simp; omega⟩
/-- The first places filled where nothing is told. -/
def fillN (S : KS) (i : Nat) : KS := fillK (S.take i) ++ S.drop i
theorem fillN_length (S : KS) (i : Nat) (h : i ≤ S.length) : (fillN S i).length = S.length := by
  unfold fillN fillK
  rw [List.length_append, List.length_map, List.length_take, List.length_drop]
  omega
theorem fillN_zero (S : KS) : fillN S 0 = S := by simp [fillN, fillK]
theorem fillN_end (S : KS) : fillN S S.length = fillK S := by simp [fillN]
theorem fillN_getD (S : KS) (i : Nat) (h : i < S.length) : (fillN S i).getD i [] = kat S i := by
  have hl : (fillK (S.take i)).length = i := by unfold fillK; rw [List.length_map, List.length_take]; omega
  unfold fillN kat
  rw [List.getD_eq_getElem?_getD, List.getElem?_append_right (by omega), hl]
  simp [List.getD_eq_getElem?_getD]
theorem fillN_step (S : KS) (i : Nat) (h : i < S.length) : fillN S (i + 1) = (fillN S i).set i (if kat S i = [] then none4 else kat S i) := by
  have hl : (fillK (S.take i)).length = i := by unfold fillK; rw [List.length_map, List.length_take]; omega
  have hd : S.drop i = kat S i :: S.drop (i + 1) := by
    rw [List.drop_eq_getElem_cons h]
    simp [kat, List.getD_eq_getElem?_getD, h]
  have ht : S.take (i + 1) = S.take i ++ [kat S i] := by
    rw [take_snoc S [] i h]
  unfold fillN
  rw [ht, hd]
  have hm : fillK (S.take i ++ [kat S i]) = fillK (S.take i) ++ [if kat S i = [] then none4 else kat S i] := by
    unfold fillK
    rw [List.map_append]
    rfl
  rw [hm, List.set_append_right _ _ (by omega), hl]
  simp

-- S3
theorem nil_start (n : Nat) : nilRs ((List.replicate n [AV.nil]).set 0 [.sl .own 2 (knowns kinit)]) (knownss .own (kstart n)) := by
  have hr : ∀ n, nilRs (List.replicate n [AV.nil]) (knownss .own (List.replicate n [])) := by
    intro n
    induction n with
    | zero => simp [knownss, nilRs]
    | succ n ih =>
      rw [List.replicate_succ, List.replicate_succ]
      simp only [knownss, List.map_cons] at ih ⊢
      rw [nilRs_cons]
      exact ⟨by simp [nilL, nilV, knowns], ih⟩
  unfold kstart
  cases n with
  | zero => simp [knownss, nilRs]
  | succ n =>
    rw [List.replicate_succ, List.replicate_succ]
    simp only [List.set_cons_zero, knownss, List.map_cons]
    rw [nilRs_cons]
    exact ⟨by simp [nilL, nilV], hr n⟩
theorem kss_same (S : KS) (n : Nat) (h : n < S.length) : (knownss .own S).set n [.sl .own 2 (knowns (kat S n))] = knownss .own S := by
  have e := set_sameG S n [] h
  rw [knownss_set]
  exact congrArg _ e
theorem kss_upd (S : KS) (out : KV) (n : Nat) : (knownss .own S).set n [.sl .own 2 (knowns (if kat S n = [] then out else meetK (kat S n) out))] = knownss .own (upd S out n) := by
  rw [knownss_set]
  rfl
set_option maxHeartbeats 8000000 in
theorem implKnownAt_ok (l : List Ins) (Kx : KS) (hl : l.length < 2 ^ 47) (hK : bodyOk l 3 = true → IsLfp l Kx) : CallOk Try.prog num 291 [.sl .bw 5 (inss l)] [] (.sl .own 1 (knownss .own (knownRes l Kx))) := by
  refine enter (m := m291) (f := 291) (fn := Try.f238) Try.func238 (by kernel_rfl) rfl c291 rfl (by simp [Try.f238]) (by simp [bnds, bnd, nf_sl, nf_int, nf_bool, nf_str, ints_bnd]) (fun _ _ h => by simp [preH, look] at h) ?_
  unfold m291
  simp only [go_sem, qA, qB, qC, qD, qE, qF, qG, qH]
  repeat refine K ?_
  refine CA [] (implBodyOk_ok l 3 (by omega) (by omega) (by omega)) ?_
  try simp only [go_sem, qA, qB, qC, qD, qE, qF, qG, qH]
  repeat refine K ?_
  cases hb : bodyOk l 3
  · try simp only [go_sem, qA, qB, qC, qD, qE, qF, qG, qH, hb]
    repeat refine K ?_
    refine ⟨_, Sub.refl _, FinS_one ?_⟩; simp [-List.drop_one]
    all_goals (try simp [knownRes, hb, knownss])
  have hK' := hK hb
  obtain ⟨hl1, hl2⟩ := body_len hb
  have hgs0 : ∀ r, ((List.replicate l.length [AV.nil]).set 0 r).getD 0 [] = r := fun r => getD_set_self _ _ _ _ (by simp; omega)
  have hg0 : (List.replicate l.length [AV.nil]).getD 0 [] = [AV.nil] := by
    cases h : l.length with
    | zero => omega
    | succ n => rfl
  have hrl : (List.replicate l.length [AV.nil]).length = l.length := by simp
  have d0 : decide (((0 : Nat) : Int) = 0) = true := by decide
  have d4 : decide (((4 : Nat) : Int) = 0) = false := by decide
  try simp only [go_sem, qA, qB, qC, qD, qE, qF, qG, qH, hb, hg0, hrl]
  repeat refine K ?_
  refine loop_intro (ι := KS × Bool) (fun q => .mk [(0, .sl .bw 5 (inss l)), (3, .ns 10 0 l.length), (5, .bool q.2)] [(10, 1, knownss .own q.1)] 11) (fun q => KInv l q.1 ∧ (q.2 = false → ∀ a, a < l.length → EOk l q.1 a)) (fun q => 2 * mS q.1 + (if q.2 then 1 else 0)) (kstart l.length, true) ⟨kstart_inv (by omega), by simp⟩ ?_ ?_
  · refine Sub.trans (Sub.foldAt 10 0 12 rfl (by simp [-gD] <;> omega) rfl (by decide) (by decide) rfl (by simp <;> omega)) ?_
    simp only [fS, fS3, qA, qC]
    refine Sub.shape [] id (by omega) ?_ ?_ ?_ ?_ <;> simp [ints_rep]
    all_goals (exact .inr (nil_start _))
  · rintro ⟨S, more⟩ ⟨hI, hE⟩
    simp only at hI hE
    have hSl := hI.len
    cases more
    · have hS : S = Kx := lfp_unique ⟨hI, hE rfl⟩ hK'
      subst hS
      simp only [go_sem, qA, qB, qC, qD, qE, qF, qG, qH]
      repeat refine K ?_
      refine loop_intro (ι := Nat) (fun i => .mk [(3, .ns 10 0 l.length), (80, .int .i64 l.length), (81, .int .i64 i)] [(10, 1, knownss .own (fillN S i))] 11) (fun i => i ≤ l.length) (fun i => l.length - i) 0 (by simp) ?_ ?_
      · have e0 := fillN_zero S
        refine Sub.shape [] id (by omega) ?_ ?_ ?_ ?_ <;> simp [ints_rep]
        all_goals (rw [e0])
        all_goals (exact .inl rfl)
      · intro i hi
        have hfl := fillN_length S i (by omega)
        simp only [go_sem, qA, qB, qC, qD, qE, qF, qG, qH]
        refine branch_intro (fun hc => ?_) (fun hc => ?_)
        · simp only [decide_eq_true_eq] at hc
          have hi' : i < l.length := by omega
          have hgd := fillN_getD S i (by omega)
          have hst := fillN_step S i (by omega)
          have hgk : (knownss .own (fillN S i)).getD i [] = [.sl .own 2 (knowns (kat S i))] := by rw [knownss_getD _ _ _ (by omega), hgd]
          have hgs : ∀ r, ((knownss .own (fillN S i)).set i r).getD i [] = r := fun r => getD_set_self _ _ _ _ (by rw [knownss_length]; omega)
          by_cases hk : kat S i = []
          · rw [if_pos hk] at hst
            rw [hk] at hgk
            have hz : (knowns ([] : KV)).length = 0 := rfl
            simp only [go_sem, qA, qB, qC, qD, qE, qF, qG, qH, hgk, hgs, hfl, hSl, hz, d0, wrap_succ (i := i) (by omega)]
            repeat refine K ?_
            refine back_intro (i + 1) ?_ hi' (by omega)
            have hn4 : none4.length = 4 := rfl
            rw [none4_row]
            refine Sub.trans (Sub.foldAt 10 0 12 rfl (by simp [-gD] <;> omega) rfl (by decide) (by decide) rfl (by simp <;> omega)) ?_
            simp only [fS, fS3, qA, qC, hn4]
            rw [hst]
            refine Sub.shape [] id (by omega) ?_ ?_ ?_ ?_ <;> simp [ints_rep]
            all_goals (rw [knownss_set])
            all_goals (exact .inl rfl)
          · rw [if_neg hk] at hst
            have hw4 := ((hI.wf i).resolve_left hk).1
            have hmt : List.take 4 (kat S i) = kat S i := List.take_of_length_le (by omega)
            have hset := knownss_set .own (fillN S i) i (kat S i)
            generalize kat S i = v at hgk hst hw4 hmt hset
            simp only [go_sem, qA, qB, qC, qD, qE, qF, qG, qH, hgk, hgs, hfl, hSl, hw4, hmt, d4, wrap_succ (i := i) (by omega)]
            repeat refine K ?_
            refine back_intro (i + 1) ?_ hi' (by omega)
            refine Sub.trans (Sub.foldAt 10 0 11 rfl (by simp [-gD] <;> omega) rfl (by decide) (by decide) rfl (by simp <;> omega)) ?_
            simp only [fS, fS3, qA, qC, hw4, hmt]
            rw [hst]
            refine Sub.shape [] id (by omega) ?_ ?_ ?_ ?_ <;> simp [ints_rep]
            all_goals (rw [hset])
            all_goals (exact .inl rfl)
        · simp only [decide_eq_false_iff_not] at hc
          have he : i = l.length := by omega
          subst he
          have hfe : fillN S l.length = fillK S := by rw [← hSl]; exact fillN_end S
          simp only [go_sem, qA, qB, qC, qD, qE, qF, qG, qH, hfe]
          repeat refine K ?_
          refine ⟨_, Sub.refl _, FinS_one ?_⟩; simp [-List.drop_one]
          all_goals (try simp [knownRes, hb, fillK_length, hSl])
    · simp only [go_sem, qA, qB, qC, qD, qE, qF, qG, qH]
      repeat refine K ?_
      refine loop_intro (ι := Nat × KS × Bool) (fun q => .mk [(0, .sl .bw 5 (inss l)), (3, .ns 10 0 l.length), (5, .bool q.2.2), (28, .sl .bw 5 (inss l)), (29, .int .i64 l.length), (30, .int .i64 q.1)] [(10, 1, knownss .own q.2.1)] 11) (fun q => q.1 ≤ l.length ∧ Mid l S q.1 q.2.1 q.2.2) (fun q => l.length - q.1) (0, S, false) ⟨Nat.zero_le _, mid_start hI⟩ ?_ ?_
      · refine Sub.shape [] id (by omega) ?_ ?_ ?_ ?_ <;> simp [ints_rep]
      · rintro ⟨a, T, more⟩ ⟨ha, hM⟩
        simp only at ha hM
        have hTl := hM.inv.len
        simp only [go_sem, qA, qB, qC, qD, qE, qF, qG, qH]
        refine branch_intro (fun hc => ?_) (fun hc => ?_)
        · simp only [decide_eq_true_eq] at hc
          have ha' : a < l.length := by omega
          have hgi := inss_getD l a ha'
          have hgk : (knownss .own T).getD a [] = [.sl .own 2 (knowns (kat T a))] := knownss_getD _ _ _ (by omega)
          have hgs : ∀ r, ((knownss .own T).set a r).getD a [] = r := fun r => getD_set_self _ _ _ _ (by rw [knownss_length]; omega)
          have hsm := kss_same T a (by omega)
          by_cases hk : kat T a = []
          · rw [hk] at hgk hsm
            have hz : (knowns ([] : KV)).length = 0 := rfl
            have hms := mid_skip hM hk
            simp only [go_sem, qA, qB, qC, qD, qE, qF, qG, qH, hgi, hgk, hgs, hTl, hz, d0, wrap_succ (i := a) (by omega)]
            repeat refine K ?_
            refine back_intro (a + 1, T, more) ?_ ⟨ha', hms⟩ (by simp only; omega)
            refine Sub.trans (Sub.foldAt 10 0 12 rfl (by simp [-gD] <;> omega) rfl (by decide) (by decide) rfl (by simp <;> omega)) ?_
            simp only [fS, fS3, qA, qC]
            refine Sub.shape [] id (by omega) ?_ ?_ ?_ ?_ <;> simp [ints_rep]
            all_goals (exact .inl hsm)
          · have hwn := (hM.inv.wf a).resolve_left hk
            have hk4 := hwn.1
            have hwo := behind_wf (l.getD a default) hwn
            have hbe := implBehind_ok (l.getD a default) (kat T a) (body_regs hb ha') hk4
            have hIs := inn_start hM
            have hIst := fun U mo j => inn_step (S := S) (T := T) (U := U) (j := j) (more := mo) hb ha' hM.inv hk rfl
            have hIe := fun U mo => inn_end (l := l) (S := S) (U := U) (a := a) (out := behind (l.getD a default) (kat T a)) (more := mo)
            generalize behind (l.getD a default) (kat T a) = out at hwo hbe hIs hIst hIe
            have hmt : List.take 4 (kat T a) = kat T a := List.take_of_length_le (by omega)
            generalize kat T a = v at hgk hsm hk4 hbe hmt
            have hol := hwo.1
            have hot : List.take 4 out = out := List.take_of_length_le (by omega)
            simp only [go_sem, qA, qB, qC, qD, qE, qF, qG, qH, hgi, hgk, hgs, hTl, hk4, hmt, d4]
            repeat refine K ?_
            refine DA [] (hbe) ?_
            try simp only [go_sem, qA, qB, qC, qD, qE, qF, qG, qH]
            repeat refine K ?_
            try simp only [go_sem, qA, qB, qC, qD, qE, qF, qG, qH, hk4, hmt, hol]
            repeat refine K ?_
            refine CA [] (implNextOf_ok l a hb ha') ?_
            try simp only [go_sem, qA, qB, qC, qD, qE, qF, qG, qH]
            repeat refine K ?_
            try simp only [go_sem, qA, qB, qC, qD, qE, qF, qG, qH, hk4, hmt, hol]
            repeat refine K ?_
            have hin := next_in hb ha'
            refine loop_intro (ι := Nat × KS × Bool) (fun q => .mk [(0, .sl .bw 5 (inss l)), (3, .ns 10 0 l.length), (5, .bool q.2.2), (8, .ns 11 0 4), (28, .sl .bw 5 (inss l)), (29, .int .i64 l.length), (30, .int .i64 a), (49, .ns 12 0 (nextOf l a).length), (50, .int .i64 (nextOf l a).length), (51, .int .i64 q.1)] [(10, 1, knownss .own q.2.1), (11, 2, knowns out), (12, 1, ints (nextOf l a))] 13) (fun q => q.1 ≤ (nextOf l a).length ∧ Inn l S a out q.1 q.2.1 q.2.2) (fun q => (nextOf l a).length - q.1) (0, T, more) ⟨Nat.zero_le _, hIs⟩ ?_ ?_
            · refine Sub.trans (Sub.foldAt 10 0 12 rfl (by simp [-gD] <;> omega) rfl (by decide) (by decide) rfl (by simp <;> omega)) ?_
              simp only [fS, fS3, qA, qC, hk4, hmt]
              refine Sub.shape [] (fun m => if m = 11 then 13 else if m = 12 then 14 else m) (by omega) ?_ ?_ ?_ ?_ <;> simp [ints_rep]
              all_goals (exact .inl hsm)
            · rintro ⟨j, U, mo⟩ ⟨hj, hI2⟩
              simp only at hj hI2
              have hUl := hI2.inv.len
              simp only [go_sem, qA, qB, qC, qD, qE, qF, qG, qH]
              refine branch_intro (fun hc2 => ?_) (fun hc2 => ?_)
              · simp only [decide_eq_true_eq] at hc2
                have hj' : j < (nextOf l a).length := by omega
                have hgn := ints_getD (nextOf l a) j hj'
                have hmn := hin _ (getD_mem (nextOf l a) j 0 hj')
                have hsp' := hIst U mo j hI2 hj'
                generalize (nextOf l a).getD j 0 = w at hgn hmn hsp'
                obtain ⟨m, rfl⟩ : ∃ m : Nat, w = (m : Int) := ⟨w.toNat, by omega⟩
                simp only [Int.toNat_natCast] at hmn hsp'
                have hnl : (nextOf l a).length ≤ 2 := by
                  unfold nextOf
                  simp only
                  repeat' split
                  all_goals simp
                have hgk2 : (knownss .own U).getD m [] = [.sl .own 2 (knowns (kat U m))] := knownss_getD _ _ _ (by omega)
                have hgs2 : ∀ r, ((knownss .own U).set m r).getD m [] = r := fun r => getD_set_self _ _ _ _ (by rw [knownss_length]; omega)
                have hku := kss_upd U out m
                by_cases hkm : kat U m = []
                · have hd : updD U out m = true := by unfold updD; rw [decide_eq_true hkm]; rfl
                  rw [hd, Bool.or_true] at hsp'
                  rw [if_pos hkm] at hku
                  rw [hkm] at hgk2
                  have hz : (knowns ([] : KV)).length = 0 := rfl
                  simp only [go_sem, qA, qB, qC, qD, qE, qF, qG, qH, hgn, hgk2, hgs2, hUl, hz, d0, hol, hot, wrap_succ (i := j) (by omega)]
                  repeat refine K ?_
                  refine back_intro (j + 1, upd U out m, true) ?_ ⟨hj', hsp'⟩ (by simp only; omega)
                  refine Sub.trans (Sub.foldAt 10 0 15 rfl (by simp [-gD] <;> omega) rfl (by decide) (by decide) rfl (by simp <;> omega)) ?_
                  simp only [fS, fS3, qA, qC, hol, hot]
                  refine Sub.shape [] id (by omega) ?_ ?_ ?_ ?_ <;> simp [ints_rep]
                  all_goals (exact .inl hku)
                · have hwm := (hI2.inv.wf m).resolve_left hkm
                  have hm4 := hwm.1
                  have hmt2 : List.take 4 (kat U m) = kat U m := List.take_of_length_le (by omega)
                  have hud : updD U out m = lessK (kat U m) out := by unfold updD; rw [decide_eq_false hkm]; rfl
                  rw [hud] at hsp'
                  rw [if_neg hkm] at hku
                  have hmml := meetK_length (kat U m) out
                  rw [hm4] at hmml
                  have hmmt : List.take 4 (meetK (kat U m) out) = meetK (kat U m) out := List.take_of_length_le (by omega)
                  have hme := implMeet_ok (kat U m) out (by omega) (by omega)
                  rw [hm4] at hme
                  generalize kat U m = u at hgk2 hm4 hmt2 hud hsp' hku hmml hmmt hme
                  simp only [go_sem, qA, qB, qC, qD, qE, qF, qG, qH, hgn, hgk2, hgs2, hUl, hm4, hmt2, d4, hol, hot]
                  repeat refine K ?_
                  refine CA [(0, 13)] (hme) ?_
                  try simp only [go_sem, qA, qB, qC, qD, qE, qF, qG, qH]
                  repeat refine K ?_
                  cases mo
                  · try simp only [go_sem, qA, qB, qC, qD, qE, qF, qG, qH, hm4, hmml, hmmt, hol, hot, wrap_succ (i := j) (by omega)]
                    repeat refine K ?_
                    rw [Bool.false_or] at hsp'
                    refine back_intro (j + 1, upd U out m, lessK u out) ?_ ⟨hj', hsp'⟩ (by simp only; omega)
                    refine Sub.trans (Sub.foldAt 10 0 13 rfl (by simp [-gD] <;> omega) rfl (by decide) (by decide) rfl (by simp <;> omega)) ?_
                    simp only [fS, fS3, qA, qC, hmml, hmmt]
                    refine Sub.shape [] id (by omega) ?_ ?_ ?_ ?_ <;> simp [ints_rep]
                    all_goals (exact .inl hku)
                  · try simp only [go_sem, qA, qB, qC, qD, qE, qF, qG, qH, hm4, hmml, hmmt, hol, hot, wrap_succ (i := j) (by omega)]
                    repeat refine K ?_
                    rw [Bool.true_or] at hsp'
                    refine back_intro (j + 1, upd U out m, true) ?_ ⟨hj', hsp'⟩ (by simp only; omega)
                    refine Sub.trans (Sub.foldAt 10 0 13 rfl (by simp [-gD] <;> omega) rfl (by decide) (by decide) rfl (by simp <;> omega)) ?_
                    simp only [fS, fS3, qA, qC, hmml, hmmt]
                    refine Sub.shape [] id (by omega) ?_ ?_ ?_ ?_ <;> simp [ints_rep]
                    all_goals (exact .inl hku)
              · simp only [decide_eq_false_iff_not] at hc2
                have he : j = (nextOf l a).length := by omega
                subst he
                have hMe := hIe U mo hI2
                simp only [go_sem, qA, qB, qC, qD, qE, qF, qG, qH, hUl, wrap_succ (i := a) (by omega)]
                repeat refine K ?_
                refine back_intro (a + 1, U, mo) ?_ ⟨ha', hMe⟩ (by simp only; omega)
                refine Sub.shape [] id (by omega) ?_ ?_ ?_ ?_ <;> simp [ints_rep]
        · simp only [decide_eq_false_iff_not] at hc
          have he : a = l.length := by omega
          subst he
          have hme := mid_end hM
          simp only [go_sem, qA, qB, qC, qD, qE, qF, qG, qH]
          repeat refine K ?_
          refine back_intro (T, more) ?_ ⟨hM.inv, hme.1⟩ (by simpa using hme.2)
          refine Sub.shape [] id (by omega) ?_ ?_ ?_ ?_ <;> simp [ints_rep]

-- S3
open Classical in
noncomputable def kfix (l : List Ins) : KS := if h : bodyOk l 3 = true then Classical.choose (lfp_exists h) else []
theorem kfix_lfp (l : List Ins) (h : bodyOk l 3 = true) : IsLfp l (kfix l) := by
  unfold kfix
  rw [dif_pos h]
  exact Classical.choose_spec (lfp_exists h)
/-- What is known at the places of a body. -/
noncomputable def knownOf (l : List Ins) : KS := knownRes l (kfix l)
theorem knownOf_length (l : List Ins) : (knownOf l).length ≤ l.length := by
  unfold knownOf knownRes
  cases hb : bodyOk l 3
  · simp
  · rw [if_pos rfl, fillK_length, (kfix_lfp l hb).inv.len]
    exact Nat.le_refl _
theorem knownOf_at (l : List Ins) (i : Nat) (h : i < (knownOf l).length) : ((knownOf l).getD i []).length = 4 := by
  unfold knownOf knownRes at h ⊢
  cases hb : bodyOk l 3
  · rw [hb] at h
    simp at h
  · rw [hb] at h
    rw [if_pos rfl] at h ⊢
    rw [fillK_length] at h
    rw [fillK_getD _ _ h]
    split
    · rfl
    · rename_i hk
      exact (((kfix_lfp l hb).inv.wf i).resolve_left hk).1
def foldN (l : List Ins) (K : KS) : Nat → List Ins
  | 0 => l
  | i + 1 => (foldN l K i).set i (foldOne (l.getD i default) (K.getD i []) ((i + 1 : Nat) : Int))
theorem foldN_length (l : List Ins) (K : KS) : ∀ i, (foldN l K i).length = l.length
  | 0 => rfl
  | i + 1 => by rw [foldN, List.length_set, foldN_length l K i]
theorem inss_setG (l : List Ins) (i : Nat) (y : Ins) : (inss l).set i [.int .i64 y.op, .int .i64 y.r, .int .i64 y.a, .int .i64 y.b, .int .i64 y.n] = inss (l.set i y) := by simp [inss, insC]
noncomputable def foldB (l : List Ins) : List Ins := foldN l (knownOf l) (knownOf l).length
set_option maxHeartbeats 4000000 in
theorem specFoldBody_ok (l : List Ins) (hl : 40 * l.length ≤ 2 ^ 47) : CallOk Try.prog num 239 [.sl .bw 5 (inss l)] [] (.sl .own 5 (inss (foldB l))) := by
  have hkl := knownOf_length l
  have hka := knownOf_at l
  have hkn := specKnownAt_ok l (kfix l) (by omega) (kfix_lfp l)
  unfold foldB
  change CallOk Try.prog num 289 [.sl .bw 5 (inss l)] [] (.sl .own 1 (knownss .own (knownOf l))) at hkn
  generalize knownOf l = Kw at hkl hka hkn ⊢
  refine enter (m := m239) (f := 239) (fn := Try.f152) Try.func152 (by kernel_rfl) rfl c239 rfl (by simp [Try.f152]) (by simp [bnds, bnd, nf_sl, nf_int, nf_bool, nf_str, ints_bnd]) (fun _ _ h => by simp [preH, look] at h) ?_
  unfold m239
  simp only [go_sem, qA, qB, qC, qD, qE, qF, qG, qH]
  repeat refine K ?_
  refine CA [] (hkn) ?_
  try simp only [go_sem, qA, qB, qC, qD, qE, qF, qG, qH]
  repeat refine K ?_
  try simp only [go_sem, qA, qB, qC, qD, qE, qF, qG, qH]
  repeat refine K ?_
  refine loop_intro (ι := Nat) (fun i => .mk [(0, .sl .bw 5 (inss l)), (3, .ns 11 0 l.length), (4, .ns 12 0 Kw.length), (5, .int .i64 i)] [(11, 5, inss (foldN l Kw i)), (12, 1, knownss .own Kw)] 13) (fun i => i ≤ Kw.length) (fun i => Kw.length - i) 0 (by simp) ?_ ?_
  · refine Sub.shape [] id (by omega) ?_ ?_ ?_ ?_ <;> simp [ints_rep]
    all_goals (exact .inl rfl)
  · intro i hi
    simp only [go_sem, qA, qB, qC, qD, qE, qF, qG, qH]
    refine branch_intro (fun hc => ?_) (fun hc => ?_)
    · simp only [decide_eq_true_eq] at hc
      have hi' : i < Kw.length := by omega
      have h4 := hka i hi'
      have hg := inss_getD l i (by omega)
      have hgf := inss_getD (foldN l Kw i) i (by rw [foldN_length]; omega)
      have hlf := foldN_length l Kw i
      have hgk := knownss_getD .own Kw i hi'
      have hst : foldN l Kw (i + 1) = (foldN l Kw i).set i (foldOne (l.getD i default) (Kw.getD i []) ((i + 1 : Nat) : Int)) := rfl
      have hsk := set_sameG (knownss .own Kw) i [] (by rw [knownss_length]; exact hi')
      rw [hgk] at hsk
      generalize Kw.getD i [] = v at h4 hgk hst hsk
      have hmt : List.take 4 v = v := List.take_of_length_le (by omega)
      simp only [go_sem, qA, qB, qC, qD, qE, qF, qG, qH, hg, hgf, hgk, hlf, h4, hmt, wrap_succ (i := i) (by omega)]
      repeat refine K ?_
      refine DA [] (specFoldOne_ok (l.getD i default) v ((i + 1 : Nat) : Int) (by omega)) ?_
      try simp only [go_sem, qA, qB, qC, qD, qE, qF, qG, qH]
      repeat refine K ?_
      generalize foldOne (l.getD i default) v ((i + 1 : Nat) : Int) = y at hst
      try simp only [go_sem, qA, qB, qC, qD, qE, qF, qG, qH, hgf, hlf, inss_setG, wrap_succ (i := i) (by omega)]
      repeat refine K ?_
      refine back_intro (i + 1) ?_ hi' (by omega)
      refine Sub.trans (Sub.foldAt 12 0 13 rfl (by simp [-gD] <;> omega) rfl (by decide) (by decide) rfl (by simp <;> omega)) ?_
      simp only [fS, fS3, qA, qC, h4, hmt]
      rw [hst]
      refine Sub.shape [] id (by omega) ?_ ?_ ?_ ?_ <;> simp [ints_rep]
      all_goals (exact .inl hsk)
    · simp only [decide_eq_false_iff_not] at hc
      have he : i = Kw.length := by omega
      subst he
      have hfe := foldN_length l Kw Kw.length
      simp only [go_sem, qA, qB, qC, qD, qE, qF, qG, qH]
      repeat refine K ?_
      refine ⟨_, Sub.refl _, FinS_one ?_⟩; simp [-List.drop_one]
      all_goals (try simp [hfe])
set_option maxHeartbeats 4000000 in
theorem implFoldBody_ok (l : List Ins) (hl : 40 * l.length ≤ 2 ^ 47) : CallOk Try.prog num 240 [.sl .bw 5 (inss l)] [] (.sl .own 5 (inss (foldB l))) := by
  have hkl := knownOf_length l
  have hka := knownOf_at l
  have hkn := implKnownAt_ok l (kfix l) (by omega) (kfix_lfp l)
  unfold foldB
  change CallOk Try.prog num 291 [.sl .bw 5 (inss l)] [] (.sl .own 1 (knownss .own (knownOf l))) at hkn
  generalize knownOf l = Kw at hkl hka hkn ⊢
  refine enter (m := m240) (f := 240) (fn := Try.f153) Try.func153 (by kernel_rfl) rfl c240 rfl (by simp [Try.f153]) (by simp [bnds, bnd, nf_sl, nf_int, nf_bool, nf_str, ints_bnd]) (fun _ _ h => by simp [preH, look] at h) ?_
  unfold m240
  simp only [go_sem, qA, qB, qC, qD, qE, qF, qG, qH]
  repeat refine K ?_
  refine CA [] (copyBody_ok l hl) ?_
  try simp only [go_sem, qA, qB, qC, qD, qE, qF, qG, qH]
  repeat refine K ?_
  try simp only [go_sem, qA, qB, qC, qD, qE, qF, qG, qH]
  repeat refine K ?_
  refine CA [] (hkn) ?_
  try simp only [go_sem, qA, qB, qC, qD, qE, qF, qG, qH]
  repeat refine K ?_
  try simp only [go_sem, qA, qB, qC, qD, qE, qF, qG, qH]
  repeat refine K ?_
  refine loop_intro (ι := Nat) (fun i => .mk [(0, .sl .bw 5 (inss l)), (3, .ns 10 0 l.length), (9, .ns 11 0 Kw.length), (10, .int .i64 Kw.length), (11, .int .i64 i)] [(10, 5, inss (foldN l Kw i)), (11, 1, knownss .own Kw)] 12) (fun i => i ≤ Kw.length) (fun i => Kw.length - i) 0 (by simp) ?_ ?_
  · refine Sub.shape [] id (by omega) ?_ ?_ ?_ ?_ <;> simp [ints_rep]
    all_goals (exact .inl rfl)
  · intro i hi
    simp only [go_sem, qA, qB, qC, qD, qE, qF, qG, qH]
    refine branch_intro (fun hc => ?_) (fun hc => ?_)
    · simp only [decide_eq_true_eq] at hc
      have hi' : i < Kw.length := by omega
      have h4 := hka i hi'
      have hg := inss_getD l i (by omega)
      have hgf := inss_getD (foldN l Kw i) i (by rw [foldN_length]; omega)
      have hlf := foldN_length l Kw i
      have hgk := knownss_getD .own Kw i hi'
      have hst : foldN l Kw (i + 1) = (foldN l Kw i).set i (foldOne (l.getD i default) (Kw.getD i []) ((i + 1 : Nat) : Int)) := rfl
      have hsk := set_sameG (knownss .own Kw) i [] (by rw [knownss_length]; exact hi')
      rw [hgk] at hsk
      generalize Kw.getD i [] = v at h4 hgk hst hsk
      have hmt : List.take 4 v = v := List.take_of_length_le (by omega)
      simp only [go_sem, qA, qB, qC, qD, qE, qF, qG, qH, hg, hgf, hgk, hlf, h4, hmt, wrap_succ (i := i) (by omega)]
      repeat refine K ?_
      refine CA [] (implFoldOne_ok (l.getD i default) v ((i + 1 : Nat) : Int) (by omega)) ?_
      try simp only [go_sem, qA, qB, qC, qD, qE, qF, qG, qH]
      repeat refine K ?_
      generalize foldOne (l.getD i default) v ((i + 1 : Nat) : Int) = y at hst
      try simp only [go_sem, qA, qB, qC, qD, qE, qF, qG, qH, hgf, hlf, inss_setG, wrap_succ (i := i) (by omega)]
      repeat refine K ?_
      refine back_intro (i + 1) ?_ hi' (by omega)
      refine Sub.trans (Sub.foldAt 11 0 12 rfl (by simp [-gD] <;> omega) rfl (by decide) (by decide) rfl (by simp <;> omega)) ?_
      simp only [fS, fS3, qA, qC, h4, hmt]
      rw [hst]
      refine Sub.shape [] id (by omega) ?_ ?_ ?_ ?_ <;> simp [ints_rep]
      all_goals (exact .inl hsk)
    · simp only [decide_eq_false_iff_not] at hc
      have he : i = Kw.length := by omega
      subst he
      have hfe := foldN_length l Kw Kw.length
      simp only [go_sem, qA, qB, qC, qD, qE, qF, qG, qH]
      repeat refine K ?_
      refine ⟨_, Sub.refl _, FinS_one ?_⟩; simp [-List.drop_one]
      all_goals (try simp [hfe])

-- S3
theorem foldB_length (l : List Ins) : (foldB l).length = l.length := foldN_length l _ _
noncomputable def foldProg (p : Prog) : Prog := if progOk p then ⟨p.caps, p.bods.map foldB⟩ else p
/-- The first bodies done. -/
def mapN (g : List Ins → List Ins) (l : List (List Ins)) (i : Nat) : List (List Ins) := (l.take i).map g ++ l.drop i
theorem mapN_length (g : List Ins → List Ins) (l : List (List Ins)) (i : Nat) (h : i ≤ l.length) : (mapN g l i).length = l.length := by
  unfold mapN
  rw [List.length_append, List.length_map, List.length_take, List.length_drop]
  omega
theorem mapN_zero (g : List Ins → List Ins) (l : List (List Ins)) : mapN g l 0 = l := by simp [mapN]
theorem mapN_end (g : List Ins → List Ins) (l : List (List Ins)) : mapN g l l.length = l.map g := by simp [mapN]
theorem mapN_getD (g : List Ins → List Ins) (l : List (List Ins)) (i : Nat) (h : i < l.length) : (mapN g l i).getD i [] = l.getD i [] := by
  have hl : ((l.take i).map g).length = i := by rw [List.length_map, List.length_take]; omega
  unfold mapN
  rw [List.getD_eq_getElem?_getD, List.getElem?_append_right (by omega), hl]
  simp [List.getD_eq_getElem?_getD]
theorem mapN_step (g : List Ins → List Ins) (l : List (List Ins)) (i : Nat) (h : i < l.length) : mapN g l (i + 1) = (mapN g l i).set i (g (l.getD i [])) := by
  have hl : ((l.take i).map g).length = i := by rw [List.length_map, List.length_take]; omega
  have hd : l.drop i = l.getD i [] :: l.drop (i + 1) := by
    rw [List.drop_eq_getElem_cons h]
    simp [List.getD_eq_getElem?_getD, h]
  unfold mapN
  rw [take_snoc l [] i h, List.map_append, hd, List.set_append_right _ _ (by omega), hl]
  simp
theorem bods_setG (m : Mode) (l : List (List Ins)) (i : Nat) (b : List Ins) : (bodies m l).set i [.sl m 5 (inss b)] = bodies m (l.set i b) := by simp [bodies]
set_option maxHeartbeats 8000000 in
theorem specFoldProg_ok (p : Prog) (hp : SmallP p) : CallOk Try.prog num 189 [.agg (progC .bw p)] [] (.agg (progC .own (foldProg p))) := by
  have hp' := hp
  obtain ⟨h1, h2, h3⟩ := hp
  have lp := l17Prog_ok p hp'
  have po := specProgOk_ok p (by omega) (by omega) (fun b hb => by have := h3 b hb; omega)
  refine enter (m := m189) (f := 189) (fn := Try.f65) Try.func65 (by kernel_rfl) rfl c189 rfl (by simp [Try.f65]) (by simp [bnds, bnd, nf_sl, nf_int, nf_bool, nf_str, ints_bnd]) (fun _ _ h => by simp [preH, look] at h) ?_
  unfold m189
  simp only [go_sem, qA, qB, qC, qD, qE, qF, qG, qH]
  repeat refine K ?_
  refine CA [] (lp) ?_
  try simp only [go_sem, qA, qB, qC, qD, qE, qF, qG, qH]
  repeat refine K ?_
  try simp only [go_sem, qA, qB, qC, qD, qE, qF, qG, qH]
  repeat refine K ?_
  refine loop_intro (ι := Nat) (fun i => .mk [(1, .ptr 10 0 0), (2, .ptr 11 0 0), (3, .ptr 14 0 0), (4, .int .i64 i)] [(10, 2, [progC .bw p]), (11, 2, [[.nil, .nil]]), (14, 2, [[.sl .own 1 (ints p.caps), .sl .own 1 (bodies .own (mapN foldB p.bods i))]])] 15) (fun i => i ≤ p.bods.length ∧ (progOk p = false → i = 0)) (fun i => p.bods.length - i) 0 (by simp) ?_ ?_
  · refine Sub.trans (Sub.fold1 14 0 12 rfl (by simp [-gD] <;> omega) rfl (by decide) (by decide) rfl) ?_
    simp only [fS, fS3, qA, qC]
    refine Sub.trans (Sub.fold1 14 1 13 rfl (by simp [-gD] <;> omega) rfl (by decide) (by decide) rfl) ?_
    simp only [fS, fS3, qA, qC]
    have e0 := mapN_zero foldB p.bods
    refine Sub.shape [] id (by omega) ?_ ?_ ?_ ?_ <;> simp [ints_rep]
    all_goals (rw [e0])
    all_goals (exact .inl rfl)
  · rintro i ⟨hi, hio⟩
    have hml := mapN_length foldB p.bods i hi
    by_cases hlt : i < p.bods.length
    · have d1 : decide ((i : Int) < (p.bods.length : Int)) = true := by simp; omega
      have hgb := bodies_getD .bw p.bods i hlt
      have hb3 := h3 _ (getD_mem p.bods i [] hlt)
      have hst := mapN_step foldB p.bods i hlt
      have hbl := foldB_length (p.bods.getD i [])
      have fb := specFoldBody_ok (p.bods.getD i []) (by omega)
      have hgs : (bodies .own (mapN foldB p.bods i)).getD i [] = [.sl .own 5 (inss (p.bods.getD i []))] := by rw [bodies_getD .own _ i (by omega), mapN_getD foldB p.bods i hlt]
      simp only [go_sem, qA, qB, qC, qD, qE, qF, qG, qH, d1]
      repeat refine K ?_
      refine CA [] (po) ?_
      try simp only [go_sem, qA, qB, qC, qD, qE, qF, qG, qH]
      repeat refine K ?_
      cases hpo : progOk p
      · have hi0 := hio hpo
        subst hi0
        have hf : foldProg p = p := by simp [foldProg, hpo]
        try simp only [go_sem, qA, qB, qC, qD, qE, qF, qG, qH, mapN_zero]
        repeat refine K ?_
        rw [hf]
        refine ⟨_, Sub.refl _, FinS_one ?_⟩; simp [-List.drop_one]
      · generalize p.bods.getD i [] = b at hgb hb3 hst hbl fb hgs
        try simp only [go_sem, qA, qB, qC, qD, qE, qF, qG, qH, hgb, hml]
        repeat refine K ?_
        refine DA [] (fb) ?_
        try simp only [go_sem, qA, qB, qC, qD, qE, qF, qG, qH]
        repeat refine K ?_
        generalize foldB b = fbb at hst hbl
        try simp only [go_sem, qA, qB, qC, qD, qE, qF, qG, qH, hml, hgs, wrap_succ (i := i) (by omega)]
        repeat refine K ?_
        refine back_intro (i + 1) ?_ ⟨hlt, by simp⟩ (by omega)
        have hml2 := mapN_length foldB p.bods (i + 1) hlt
        have hbs := bods_setG .own (mapN foldB p.bods i) i fbb
        rw [← hst] at hbs
        refine Sub.trans (Sub.foldAt 15 0 16 rfl (by simp [-gD] <;> omega) rfl (by decide) (by decide) rfl (by simp <;> omega)) ?_
        simp only [fS, fS3, qA, qC, hbs]
        refine Sub.trans (Sub.fold1 14 1 15 rfl (by simp [-gD] <;> omega) rfl (by decide) (by decide) rfl) ?_
        simp only [fS, fS3, qA, qC, hbs, hml2]
        refine Sub.shape [] id (by omega) ?_ ?_ ?_ ?_ <;> simp [ints_rep]
    · have d1 : decide ((i : Int) < (p.bods.length : Int)) = false := by simp; omega
      have he : i = p.bods.length := by omega
      subst he
      cases hpo : progOk p
      · have hi0 := hio hpo
        have hf : foldProg p = p := by simp [foldProg, hpo]
        have hm0 : mapN foldB p.bods p.bods.length = p.bods := by
          have := mapN_zero foldB p.bods
          rw [← hi0] at this
          exact this
        simp only [go_sem, qA, qB, qC, qD, qE, qF, qG, qH, d1, hm0]
        repeat refine K ?_
        rw [hf]
        refine ⟨_, Sub.refl _, FinS_one ?_⟩; simp [-List.drop_one]
      · have hf : foldProg p = ⟨p.caps, p.bods.map foldB⟩ := by simp [foldProg, hpo]
        simp only [go_sem, qA, qB, qC, qD, qE, qF, qG, qH, d1, mapN_end]
        repeat refine K ?_
        rw [hf]
        refine ⟨_, Sub.refl _, FinS_one ?_⟩; simp [-List.drop_one]

-- S3
noncomputable def eachB (g : List Ins → List Ins) (p : Prog) : Prog := if progOk p then ⟨p.caps, p.bods.map g⟩ else p
theorem d_calv {P : Program} {num : Nat → Nat} {fin : AS → Prop} (i : Nat) (deps : List Nat) (dst : Option Nat) (y : Arg) (xs : List Arg) (tr : DTree) (pend : List (Nat × List Nat)) (k : List It) (t : List (Nat × AV)) (h : Heap) (nx : Nat) :
    vc P num fin (.draw (.only i deps ⟨dst, .calv y xs, none⟩ tr) pend :: k) (.mk t h nx) = dcall P num fin (.calv y xs) (undep deps pend) dst tr k t h nx := by
  rw [vc]
  rfl
set_option maxHeartbeats 8000000 in
theorem eachBody_ok (p : Prog) (hp : SmallP p) (F : Nat) (g : List Ins → List Ins) (hF : ∀ b ∈ p.bods, CallOk Try.prog num F [.sl .bw 5 (inss b)] [] (.sl .own 5 (inss (g b)))) :
    CallOk Try.prog num 200 [.agg (progC .bw p), .fn F []] [] (.agg (progC .own (eachB g p))) := by
  have hp' := hp
  obtain ⟨h1, h2, h3⟩ := hp
  have lp := copyProg_ok p hp'
  have po := implProgOk_ok p (by omega) (by omega) (fun b hb => by have := h3 b hb; omega)
  refine enter (m := m200) (f := 200) (fn := Try.f95) Try.func95 (by kernel_rfl) rfl c200 rfl (by simp [Try.f95]) (by simp [bnds, bnd, nf_sl, nf_int, nf_bool, nf_str, ints_bnd]) (fun _ _ h => by simp [preH, look] at h) ?_
  unfold m200
  simp only [go_sem, qA, qB, qC, qD, qE, qF, qG, qH]
  repeat refine K ?_
  refine CA [] (lp) ?_
  try simp only [go_sem, qA, qB, qC, qD, qE, qF, qG, qH]
  repeat refine K ?_
  try simp only [go_sem, qA, qB, qC, qD, qE, qF, qG, qH]
  repeat refine K ?_
  refine CA [] (po) ?_
  try simp only [go_sem, qA, qB, qC, qD, qE, qF, qG, qH]
  repeat refine K ?_
  cases hpo : progOk p
  · have hf : eachB g p = p := by simp [eachB, hpo]
    rw [hf]
    try simp only [go_sem, qA, qB, qC, qD, qE, qF, qG, qH]
    repeat refine K ?_
    refine ⟨_, Sub.refl _, FinS_one ?_⟩; simp [-List.drop_one]
  have hf : eachB g p = ⟨p.caps, p.bods.map g⟩ := by simp [eachB, hpo]
  rw [hf]
  try simp only [go_sem, qA, qB, qC, qD, qE, qF, qG, qH]
  repeat refine K ?_
  refine loop_intro (ι := Nat) (fun i => .mk [(1, .fn F []), (4, .ptr 11 0 0), (5, .ptr 14 0 0), (15, .sl .bw 1 (bodies .bw p.bods)), (16, .int .i64 p.bods.length), (17, .int .i64 i)] [(11, 2, [[.nil, .nil]]), (14, 2, [[.sl .own 1 (ints p.caps), .sl .own 1 (bodies .own (mapN g p.bods i))]])] 15) (fun i => i ≤ p.bods.length) (fun i => p.bods.length - i) 0 (by simp) ?_ ?_
  · refine Sub.trans (Sub.fold1 14 0 12 rfl (by simp [-gD] <;> omega) rfl (by decide) (by decide) rfl) ?_
    simp only [fS, fS3, qA, qC]
    refine Sub.trans (Sub.fold1 14 1 13 rfl (by simp [-gD] <;> omega) rfl (by decide) (by decide) rfl) ?_
    simp only [fS, fS3, qA, qC]
    have e0 := mapN_zero g p.bods
    refine Sub.shape [] id (by omega) ?_ ?_ ?_ ?_ <;> simp [ints_rep]
    all_goals (rw [e0])
    all_goals (exact .inl rfl)
  · rintro i hi
    have hml := mapN_length g p.bods i hi
    simp only [go_sem, qA, qB, qC, qD, qE, qF, qG, qH]
    refine branch_intro (fun hc => ?_) (fun hc => ?_)
    · simp only [decide_eq_true_eq] at hc
      have hlt : i < p.bods.length := by omega
      have hgb := bodies_getD .bw p.bods i hlt
      have hst := mapN_step g p.bods i hlt
      have fb := hF _ (getD_mem p.bods i [] hlt)
      have hgs : (bodies .own (mapN g p.bods i)).getD i [] = [.sl .own 5 (inss (p.bods.getD i []))] := by rw [bodies_getD .own _ i (by omega), mapN_getD g p.bods i hlt]
      generalize p.bods.getD i [] = b at hgb hst fb hgs
      simp only [go_sem, qA, qB, qC, qD, qE, qF, qG, qH, hgb, hml, d_calv]
      repeat refine K ?_
      refine DAV [] (fb) ?_
      try simp only [go_sem, qA, qB, qC, qD, qE, qF, qG, qH]
      repeat refine K ?_
      generalize g b = fbb at hst
      try simp only [go_sem, qA, qB, qC, qD, qE, qF, qG, qH, hml, hgs, wrap_succ (i := i) (by omega)]
      repeat refine K ?_
      refine back_intro (i + 1) ?_ hlt (by omega)
      have hml2 := mapN_length g p.bods (i + 1) hlt
      have hbs := bods_setG .own (mapN g p.bods i) i fbb
      rw [← hst] at hbs
      refine Sub.trans (Sub.foldAt 15 0 16 rfl (by simp [-gD] <;> omega) rfl (by decide) (by decide) rfl (by simp <;> omega)) ?_
      simp only [fS, fS3, qA, qC, hbs]
      refine Sub.trans (Sub.fold1 14 1 15 rfl (by simp [-gD] <;> omega) rfl (by decide) (by decide) rfl) ?_
      simp only [fS, fS3, qA, qC, hbs, hml2]
      refine Sub.shape [] id (by omega) ?_ ?_ ?_ ?_ <;> simp [ints_rep]
    · simp only [decide_eq_false_iff_not] at hc
      have he : i = p.bods.length := by omega
      subst he
      simp only [go_sem, qA, qB, qC, qD, qE, qF, qG, qH, mapN_end]
      repeat refine K ?_
      refine ⟨_, Sub.refl _, FinS_one ?_⟩; simp [-List.drop_one]
set_option maxHeartbeats 4000000 in
theorem implFoldProg_ok (p : Prog) (hp : SmallP p) : CallOk Try.prog num 190 [.agg (progC .bw p)] [] (.agg (progC .own (foldProg p))) := by
  have eb := eachBody_ok p hp 240 foldB (fun b hb => implFoldBody_ok b (by have := hp.body b hb; omega))
  have he : eachB foldB p = foldProg p := rfl
  rw [he] at eb
  refine enter (m := m190) (f := 190) (fn := Try.f66) Try.func66 (by kernel_rfl) rfl c190 rfl (by simp [Try.f66]) (by simp [bnds, bnd, nf_sl, nf_int, nf_bool, nf_str, ints_bnd]) (fun _ _ h => by simp [preH, look] at h) ?_
  unfold m190
  simp only [go_sem, qA, qB, qC, qD, qE, qF, qG, qH]
  repeat refine K ?_
  refine CA [] (eb) ?_
  try simp only [go_sem, qA, qB, qC, qD, qE, qF, qG, qH]
  repeat refine K ?_
  try simp only [go_sem, qA, qB, qC, qD, qE, qF, qG, qH]
  repeat refine K ?_
  refine ⟨_, Sub.refl _, FinS_one ?_⟩; simp [-List.drop_one]

-- S3
theorem tot_map {g : List Ins → List Ins} (hg : ∀ b, (g b).length = b.length) : ∀ l, tot (l.map g) = tot l
  | [] => rfl
  | b :: l => by simp [tot, hg b, tot_map hg l]
theorem foldProg_caps (p : Prog) : (foldProg p).caps = p.caps := by
  unfold foldProg
  split <;> rfl
theorem foldProg_len (p : Prog) : (foldProg p).bods.length = p.bods.length := by
  unfold foldProg
  split
  · simp
  · rfl
theorem foldProg_tot (p : Prog) : tot (foldProg p).bods = tot p.bods := by
  unfold foldProg
  split
  · exact tot_map foldB_length _
  · rfl
theorem foldProg_each (p : Prog) {n : Nat} (h : ∀ b ∈ p.bods, b.length ≤ n) : ∀ b ∈ (foldProg p).bods, b.length ≤ n := by
  unfold foldProg
  split
  · intro b hb
    simp only [List.mem_map] at hb
    obtain ⟨c, hc, rfl⟩ := hb
    rw [foldB_length]
    exact h c hc
  · exact h
set_option maxHeartbeats 8000000 in
theorem exactFoldProg_ok (p : Prog) (h1 : p.caps.length < 2 ^ 63 ∧ p.bods.length < 2 ^ 63 ∧ ∀ b ∈ p.bods, b.length < 2 ^ 63) :
    CallOk Try.prog num 188 [.agg (progC .bw p)] [] (.bool true) := by
  refine enter (m := m188) (f := 188) (fn := Try.f14) Try.func14 (by kernel_rfl) rfl c188 rfl (by simp [Try.f14]) (by simp [bnds, bnd, nf_sl, nf_int, nf_bool, nf_str, ints_bnd]) (fun _ _ h => by simp [preH, look] at h) ?_
  unfold m188
  simp only [go_sem, qA, qB, qC, qD, qE, qF, qG, qH]
  repeat refine K ?_
  refine CA [] (szProg_ok p 1048576 h1.1 h1.2.1 h1.2.2 (by omega) (by omega)) ?_
  try simp only [go_sem, qA, qB, qC, qD, qE, qF, qG, qH]
  repeat refine K ?_
  rw [szProg_eq p _ (by omega)]
  refine branch_intro (fun hc => ?_) (fun hc => ?_)
  · simp only [go_sem, qA, qB, qC, qD, qE, qF, qG, qH]
    repeat refine K ?_
    refine ⟨_, Sub.refl _, ?_⟩; simp [FinS, nilL, nilV, oneOr, -List.drop_one]
  simp only [decide_eq_false_iff_not] at hc
  have hp := prgSz_of (p := p) (n := 1048576) (by have := szL_ge hc (by omega); omega)
  clear hc h1
  obtain ⟨p1, p2, p3, p4⟩ := hp
  have q1 : ∀ b ∈ p.bods, 40 * b.length ≤ 2 ^ 47 := fun b hb => by have := p3 b hb; omega
  have q2 : ∀ b ∈ p.bods, b.length ≤ 2 ^ 47 := fun b hb => by have := p3 b hb; omega
  have hpp : SmallP p := ⟨by omega, by omega, fun b hb => by have := p3 b hb; omega⟩
  have tp := toProg_ok p (by omega) (by omega) q1
  have cs := specFoldProg_ok p hpp
  have ci := implFoldProg_ok p hpp
  have wc : (foldProg p).caps.length = p.caps.length := by rw [foldProg_caps]
  have wl := foldProg_len p
  have wt := foldProg_tot p
  have we := foldProg_each p q2
  generalize foldProg p = w at cs ci wc wl wt we
  have ew := eqProg_ok w w (by omega) (by omega) we
  have ep := eqProg_ok p p (by omega) (by omega) q2
  have hh := heldProg_ok w 1 (by omega) (by omega) (by omega)
  have hm := markProg_ok w 1 (by omega) (by omega) (by omega)
  have eb : (w == w) = true := by simp
  have d1 : decide ((1 : Int) + w.caps.length + 5 * tot w.bods < 0) = false := by simp; omega
  have d2 : decide ((1 : Int) + p.caps.length + 5 * tot p.bods < 0) = false := by simp; omega
  clear wc wl wt we
  have hbt : List.take w.bods.length (bodMarks (1 + (w.caps.length : Int)) w.bods) = bodMarks (1 + (w.caps.length : Int)) w.bods := List.take_of_length_le (by rw [bodMarks_length]; exact Nat.le_refl _)
  simp only [go_sem, qA, qB, qC, qD, qE, qF, qG, qH]
  repeat refine K ?_
  refine CA [] (tp) ?_
  try simp only [go_sem, qA, qB, qC, qD, qE, qF, qG, qH]
  repeat refine K ?_
  refine CA [] (cs) ?_
  try simp only [go_sem, qA, qB, qC, qD, qE, qF, qG, qH]
  repeat refine K ?_
  try simp only [go_sem, qA, qB, qC, qD, qE, qF, qG, qH]
  repeat refine K ?_
  refine CA [] (tp) ?_
  try simp only [go_sem, qA, qB, qC, qD, qE, qF, qG, qH]
  repeat refine K ?_
  refine CA [] (ci) ?_
  try simp only [go_sem, qA, qB, qC, qD, qE, qF, qG, qH]
  repeat refine K ?_
  try simp only [go_sem, qA, qB, qC, qD, qE, qF, qG, qH]
  repeat refine K ?_
  refine CA [] (ew) ?_
  try simp only [go_sem, qA, qB, qC, qD, qE, qF, qG, qH]
  repeat refine K ?_
  try simp only [go_sem, qA, qB, qC, qD, qE, qF, qG, qH]
  repeat refine K ?_
  refine DA [] (tp) ?_
  try simp only [go_sem, qA, qB, qC, qD, qE, qF, qG, qH]
  repeat refine K ?_
  refine DA [] (ep) ?_
  try simp only [go_sem, qA, qB, qC, qD, qE, qF, qG, qH]
  repeat refine K ?_
  try simp only [go_sem, qA, qB, qC, qD, qE, qF, qG, qH]
  repeat refine K ?_
  refine CA [(0, 16), (1, 17)] (markProg_ok p 1 (by omega) (by omega) (by omega)) ?_
  try simp only [go_sem, qA, qB, qC, qD, qE, qF, qG, qH]
  repeat refine K ?_
  try simp only [go_sem, qA, qB, qC, qD, qE, qF, qG, qH, d2]
  repeat refine K ?_
  refine CA [] (ew) ?_
  try simp only [go_sem, qA, qB, qC, qD, qE, qF, qG, qH]
  repeat refine K ?_
  try simp only [go_sem, qA, qB, qC, qD, qE, qF, qG, qH]
  repeat refine K ?_
  refine CA [(0, 19), (1, 20)] (hm) ?_
  try simp only [go_sem, qA, qB, qC, qD, qE, qF, qG, qH]
  repeat refine K ?_
  try simp only [go_sem, qA, qB, qC, qD, qE, qF, qG, qH]
  repeat refine K ?_
  refine CA [] (hh) ?_
  try simp only [go_sem, qA, qB, qC, qD, qE, qF, qG, qH]
  repeat refine K ?_
  try simp only [go_sem, qA, qB, qC, qD, qE, qF, qG, qH, d1]
  repeat refine K ?_
  refine CA [] (tp) ?_
  try simp only [go_sem, qA, qB, qC, qD, qE, qF, qG, qH]
  repeat refine K ?_
  refine CA [] (ci) ?_
  try simp only [go_sem, qA, qB, qC, qD, qE, qF, qG, qH]
  repeat refine K ?_
  try simp only [go_sem, qA, qB, qC, qD, qE, qF, qG, qH]
  repeat refine K ?_
  refine CA [] (ew) ?_
  try simp only [go_sem, qA, qB, qC, qD, qE, qF, qG, qH]
  repeat refine K ?_
  try simp only [go_sem, qA, qB, qC, qD, qE, qF, qG, qH]
  repeat refine K ?_
  refine CA [] (hh) ?_
  try simp only [go_sem, qA, qB, qC, qD, qE, qF, qG, qH]
  repeat refine K ?_
  try simp only [go_sem, qA, qB, qC, qD, qE, qF, qG, qH, d1]
  repeat refine K ?_
  refine ⟨_, Sub.refl _, ?_⟩; simp [FinS, nilL, nilV, oneOr, -List.drop_one]


end Go.Sep
