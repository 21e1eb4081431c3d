/- Contracts of functions. -/
import Derived.Test.YtoijhndfkfliiaaCony
import Derived.Test.YtoijhndfkfliiaaConA
import Derived.Test.YtoijhndfkfliiaaConx
namespace Go.Sep
open Go.Proofs
set_option linter.unusedSimpArgs false
set_option linter.unusedVariables false
set_option maxRecDepth 100000
def m171 : MFn := ⟨67, [.t 8], .seq (xr [xo 4 (.box (.t 0)), xo 5 (.box (.t 1)), xo 6 (.box (.t 2)), xo 8 (.mv (.c (.bool false)))]) (.seq (xr [xo 9 (.mv (xi 1048576))]) (.seq (xr [xo 15 (.load 2 true (.t 4)), xv 16 9, xo 17 (.call 27 [false, false] [.t 15, .t 16]), xv 9 17]) (.seq (.seq (xr [xv 18 9, xo 19 (.bin .lss (.t 18) (xi 0))]) (.cond 19 (.seq (xr [xo 8 (.mv (.c (.bool true)))]) (.ret)) (.skip))) (.seq (xr [xo 20 (.load 4 true (.t 5)), xv 21 9, xo 22 (.call 172 [false, false] [.t 20, .t 21]), xv 9 22]) (.seq (.seq (xr [xv 23 9, xo 24 (.bin .lss (.t 23) (xi 0))]) (.cond 24 (.seq (xr [xo 8 (.mv (.c (.bool true)))]) (.ret)) (.skip))) (.seq (xr [xo 25 (.load 3 true (.t 6)), xv 26 9, xo 27 (.call 139 [false, false] [.t 25, .t 26]), xv 9 27]) (.seq (.seq (xr [xv 28 9, xo 29 (.bin .lss (.t 28) (xi 0))]) (.cond 29 (.seq (xr [xo 8 (.mv (.c (.bool true)))]) (.ret)) (.skip))) (.seq (.dreg (.take 0 (xo 30 (.load 2 true (.t 4))) (.take 2 (xo 32 (.load 4 true (.t 5))) (.take 4 (xo 34 (.load 3 true (.t 6))) (.take 6 (xv 36 3) (.only 1 [0] (xo 31 (.call 28 [false] [.t 30])) (.only 3 [2] (xo 33 (.call 173 [false] [.t 32])) (.only 5 [4] (xo 35 (.call 138 [false] [.t 34])) (.only 7 [6] (xo 37 (.call 174 [false, false, false, false] [.t 31, .t 33, .t 35, .t 36])) (.only 8 [0, 2, 4, 6] (xv 10 37) (.done))))))))))) (.seq (xr [xo 38 (.load 2 true (.t 4)), xo 39 (.call 28 [false] [.t 38]), xo 11 (.alloc [.nil, .nil]), ⟨none, .store 2 (.t 11) (.t 39), none⟩]) (.seq (xr [xo 40 (.load 4 true (.t 5)), xo 41 (.call 173 [false] [.t 40]), xo 12 (.alloc [.nil, .nil, .nil, .nil]), ⟨none, .store 4 (.t 12) (.t 41), none⟩]) (.seq (xr [xo 42 (.load 3 true (.t 6)), xo 43 (.call 138 [false] [.t 42]), xo 13 (.alloc [.nil, .nil, .nil]), ⟨none, .store 3 (.t 13) (.t 43), none⟩]) (.seq (xr [xo 44 (.load 2 true (.t 11)), xo 45 (.load 4 true (.t 12)), xo 46 (.load 3 true (.t 13)), xv 47 3, xo 48 (.call 175 [false, false, false, false] [.t 44, .t 45, .t 46, .t 47]), xv 14 48]) (.seq (.seq (xr [xv 49 14, xv 50 10, xo 51 (.eqB true (.t 49) (.t 50))]) (.cond 51 (.seq (xr [xo 8 (.mv (.c (.bool false)))]) (.ret)) (.skip))) (.seq (.seq (.dreg (.take 0 (xo 52 (.load 2 true (.t 11))) (.only 1 [] (xo 53 (.load 2 true (.t 4))) (.only 2 [] (xo 54 (.call 28 [false] [.t 53])) (.only 3 [0] (xo 55 (.call 30 [false, false] [.t 52, .t 54])) (.only 4 [] (xo 56 (.un .«not» (.t 55))) (.done))))))) (.cond 56 (.seq (xr [xo 8 (.mv (.c (.bool false)))]) (.ret)) (.skip))) (.seq (.seq (.dreg (.take 0 (xo 57 (.load 4 true (.t 12))) (.only 1 [] (xo 58 (.load 4 true (.t 5))) (.only 2 [] (xo 59 (.call 173 [false] [.t 58])) (.only 3 [0] (xo 60 (.call 176 [false, false] [.t 57, .t 59])) (.only 4 [] (xo 61 (.un .«not» (.t 60))) (.done))))))) (.cond 61 (.seq (xr [xo 8 (.mv (.c (.bool false)))]) (.ret)) (.skip))) (.seq (.seq (.dreg (.take 0 (xo 62 (.load 3 true (.t 13))) (.only 1 [] (xo 63 (.load 3 true (.t 6))) (.only 2 [] (xo 64 (.call 138 [false] [.t 63])) (.only 3 [0] (xo 65 (.call 140 [false, false] [.t 62, .t 64])) (.only 4 [] (xo 66 (.un .«not» (.t 65))) (.done))))))) (.cond 66 (.seq (xr [xo 8 (.mv (.c (.bool false)))]) (.ret)) (.skip))) (.seq (xr [xo 8 (.mv (.c (.bool true)))]) (.ret))))))))))))))))))⟩
theorem c171 : chkC Try.prog num Try.f7.ntmps m171.body ((Try.f7.body).getD .skip) = true := by kernel_rfl
def m174 : MFn := ⟨97, [.t 8], .seq (xr [xo 4 (.box (.t 0)), xo 5 (.box (.t 1)), xo 6 (.box (.t 2)), xo 8 (.mv (.c (.bool false)))]) (.seq (.seq (xr [xv 14 3, xo 15 (.fad 1 (.t 5)), xo 16 (.load 1 false (.t 15)), xo 17 (.len (.t 16)), xo 18 (.bin .sub (.t 17) (xi 1)), xo 19 (.call 64 [false, false, false] [.t 14, xi 0, .t 18]), xo 20 (.un .«not» (.t 19)), xv 21 20, xg 22 (.mv (.t 3)) 21 false, xg 23 (.fad 0 (.t 6)) 21 false, xg 24 (.load 1 false (.t 23)) 21 false, xg 25 (.len (.t 24)) 21 false, xg 26 (.bin .geq (.t 22) (.t 25)) 21 false, xo 27 (.pick (.t 21) (.c (.bool true)) (.t 26))]) (.cond 27 (.seq (xr [xo 8 (.mv (.c (.bool false)))]) (.ret)) (.skip))) (.seq (.dreg (.take 0 (xo 28 (.fad 1 (.t 5))) (.take 1 (xo 29 (.load 1 false (.t 28))) (.take 2 (xv 30 3) (.take 3 (xo 31 (.iad 4 (.t 29) (.t 30))) (.take 4 (xo 32 (.load 4 true (.t 31))) (.take 5 (xo 33 (.fad 0 (.t 6))) (.take 6 (xo 34 (.load 1 false (.t 33))) (.take 7 (xv 35 3) (.take 8 (xo 36 (.iad 3 (.t 34) (.t 35))) (.take 9 (xo 37 (.load 3 true (.t 36))) (.both 10 [] (xo 9 (.alloc [.int .i64 0, .nil, .nil, .int .i64 0])) (.only 11 [] (xo 10 (.alloc [.int .i64 0, .nil, .int .i64 0])) (.only 12 [0, 1, 2, 3, 4] ⟨none, .store 4 (.t 9) (.t 32), none⟩ (.only 13 [0, 1, 2, 3, 4, 5, 6, 7, 8, 9] ⟨none, .store 3 (.t 10) (.t 37), none⟩ (.done)))) 11 [] (xo 10 (.alloc [.int .i64 0, .nil, .int .i64 0])) (.only 10 [] (xo 9 (.alloc [.int .i64 0, .nil, .nil, .int .i64 0])) (.only 12 [0, 1, 2, 3, 4] ⟨none, .store 4 (.t 9) (.t 32), none⟩ (.only 13 [0, 1, 2, 3, 4, 5, 6, 7, 8, 9] ⟨none, .store 3 (.t 10) (.t 37), none⟩ (.done)))))))))))))))) (.seq (xr [xo 39 (.load 2 true (.t 4)), xv 40 3, xo 41 (.fad 0 (.t 9)), xo 42 (.load 1 false (.t 41)), xo 43 (.call 224 [false, false, false] [.t 39, .t 40, .t 42]), xv 38 43, xo 44 (.ext (.t 38) 0), xo 45 (.ext (.t 38) 1), xv 11 44, xv 12 45]) (.seq (.seq (xr [xv 46 11, xo 47 (.bin .lss (.t 46) (xi 0)), xv 48 47, xg 49 (.fad 1 (.t 9)) 48 false, xg 50 (.load 1 false (.t 49)) 48 false, xg 51 (.len (.t 50)) 48 false, xg 52 (.bin .lss (.t 51) (xi 4)) 48 false, xo 53 (.pick (.t 48) (.c (.bool true)) (.t 52)), xv 54 53, xg 55 (.fad 1 (.t 10)) 54 false, xg 56 (.load 1 false (.t 55)) 54 false, xg 57 (.len (.t 56)) 54 false, xg 58 (.bin .lss (.t 57) (xi 4)) 54 false, xo 59 (.pick (.t 54) (.c (.bool true)) (.t 58))]) (.cond 59 (.seq (xr [xo 8 (.mv (.c (.bool false)))]) (.ret)) (.skip))) (.seq (.seq (xr [xo 60 (.fad 3 (.t 9)), xo 61 (.load 1 false (.t 60)), xo 62 (.bin .neq (.t 61) (xi 0))]) (.cond 62 (.seq (xr [xo 63 (.fad 3 (.t 9)), xo 64 (.load 1 false (.t 63)), xo 65 (.fad 2 (.t 10)), xo 66 (.load 1 false (.t 65)), xo 67 (.bin .eql (.t 64) (.t 66)), xv 8 67]) (.ret)) (.skip))) (.seq (.seq (xr [xo 68 (.load 2 true (.t 4)), xo 69 (.load 4 true (.t 5)), xv 70 3, xo 71 (.call 225 [false, false, false] [.t 68, .t 69, .t 70]), xo 72 (.un .«not» (.t 71))]) (.cond 72 (.seq (xr [xo 8 (.mv (.c (.bool true)))]) (.ret)) (.skip))) (.seq (.seq (xr [xo 13 (.mv (xi 0))]) (.blk 0 (.loop (.seq (.seq (xr [xv 73 13, xo 74 (.bin .lss (.t 73) (xi 4))]) (.cond 74 (.skip) (.exit 0))) (.seq (.blk 1 (.seq (.dreg (.take 0 (xo 77 (.fad 1 (.t 9))) (.take 1 (xo 78 (.load 1 false (.t 77))) (.take 2 (xv 79 13) (.take 3 (xo 80 (.iad 1 (.t 78) (.t 79))) (.take 4 (xo 81 (.load 1 false (.t 80))) (.take 5 (xo 82 (.fad 1 (.t 10))) (.take 6 (xo 83 (.load 1 false (.t 82))) (.only 7 [] (xv 84 13) (.only 8 [6] (xo 85 (.iad 1 (.t 83) (.t 84))) (.only 9 [] (xo 86 (.load 1 false (.t 85))) (.only 10 [4] (xo 87 (.bin .neq (.t 81) (.t 86))) (.done))))))))))))) (.cond 87 (.seq (xr [xo 8 (.mv (.c (.bool false)))]) (.ret)) (.skip)))) (xr [xv 75 13, xo 76 (.bin .add (.t 75) (xi 1)), xv 13 76])))))) (.seq (xr [xo 88 (.fad 2 (.t 10)), xo 89 (.load 1 false (.t 88)), xo 90 (.bin .eql (.t 89) (xi 0)), xv 91 90, xg 92 (.fad 0 (.t 10)) 91 true, xg 93 (.load 1 false (.t 92)) 91 true, xg 94 (.mv (.t 11)) 91 true, xg 95 (.bin .eql (.t 93) (.t 94)) 91 true, xo 96 (.pick (.t 91) (.t 95) (.c (.bool false))), xv 8 96]) (.ret)))))))))⟩
theorem c174 : chkC Try.prog num Try.f44.ntmps m174.body ((Try.f44.body).getD .skip) = true := by kernel_rfl
def m175 : MFn := ⟨85, [.t 8], .seq (xr [xo 4 (.box (.t 0)), xo 5 (.box (.t 1)), xo 6 (.box (.t 2)), xo 8 (.mv (.c (.bool false)))]) (.seq (.seq (xr [xv 13 3, xo 14 (.call 229 [false, false] [.t 5, .t 13]), xo 15 (.un .«not» (.t 14)), xv 16 15, xg 17 (.mv (.t 3)) 16 false, xg 18 (.fad 0 (.t 6)) 16 false, xg 19 (.load 1 false (.t 18)) 16 false, xg 20 (.len (.t 19)) 16 false, xg 21 (.bin .geq (.t 17) (.t 20)) 16 false, xo 22 (.pick (.t 16) (.c (.bool true)) (.t 21))]) (.cond 22 (.seq (xr [xo 8 (.mv (.c (.bool false)))]) (.ret)) (.skip))) (.seq (.dreg (.take 0 (xo 23 (.fad 1 (.t 5))) (.take 1 (xo 24 (.load 1 false (.t 23))) (.take 2 (xv 25 3) (.take 3 (xo 26 (.iad 4 (.t 24) (.t 25))) (.take 4 (xo 27 (.load 4 true (.t 26))) (.take 5 (xo 28 (.fad 0 (.t 6))) (.take 6 (xo 29 (.load 1 false (.t 28))) (.take 7 (xv 30 3) (.take 8 (xo 31 (.iad 3 (.t 29) (.t 30))) (.take 9 (xo 32 (.load 3 true (.t 31))) (.both 10 [] (xo 9 (.alloc [.int .i64 0, .nil, .nil, .int .i64 0])) (.only 11 [] (xo 10 (.alloc [.int .i64 0, .nil, .int .i64 0])) (.only 12 [0, 1, 2, 3, 4] ⟨none, .store 4 (.t 9) (.t 27), none⟩ (.only 13 [0, 1, 2, 3, 4, 5, 6, 7, 8, 9] ⟨none, .store 3 (.t 10) (.t 32), none⟩ (.done)))) 11 [] (xo 10 (.alloc [.int .i64 0, .nil, .int .i64 0])) (.only 10 [] (xo 9 (.alloc [.int .i64 0, .nil, .nil, .int .i64 0])) (.only 12 [0, 1, 2, 3, 4] ⟨none, .store 4 (.t 9) (.t 27), none⟩ (.only 13 [0, 1, 2, 3, 4, 5, 6, 7, 8, 9] ⟨none, .store 3 (.t 10) (.t 32), none⟩ (.done)))))))))))))))) (.seq (xr [xo 34 (.load 2 true (.t 4)), xv 35 3, xo 36 (.fad 0 (.t 9)), xo 37 (.load 1 false (.t 36)), xo 38 (.call 230 [false, false, false] [.t 34, .t 35, .t 37]), xv 33 38, xo 39 (.ext (.t 33) 0), xo 40 (.ext (.t 33) 1), xv 11 39, xv 12 40]) (.seq (.blk 0 (.seq (xr [xv 42 11, xo 43 (.bin .lss (.t 42) (xi 0)), xv 44 43, xg 45 (.fad 1 (.t 9)) 44 false, xg 46 (.load 1 false (.t 45)) 44 false, xg 47 (.len (.t 46)) 44 false, xg 48 (.bin .lss (.t 47) (xi 4)) 44 false, xo 49 (.pick (.t 44) (.c (.bool true)) (.t 48)), xv 50 49, xg 51 (.fad 1 (.t 10)) 50 false, xg 52 (.load 1 false (.t 51)) 50 false, xg 53 (.len (.t 52)) 50 false, xg 54 (.bin .lss (.t 53) (xi 4)) 50 false, xo 55 (.pick (.t 50) (.c (.bool true)) (.t 54)), xv 41 55]) (.cond 41 (.seq (xr [xo 8 (.mv (.c (.bool false)))]) (.ret)) (.seq (xr [xo 57 (.fad 3 (.t 9)), xo 58 (.load 1 false (.t 57)), xo 59 (.bin .neq (.t 58) (xi 0)), xv 56 59]) (.cond 56 (.seq (xr [xo 60 (.fad 2 (.t 10)), xo 61 (.load 1 false (.t 60)), xo 62 (.fad 3 (.t 9)), xo 63 (.load 1 false (.t 62)), xo 64 (.bin .eql (.t 61) (.t 63)), xv 8 64]) (.ret)) (.seq (xr [xv 66 12, xv 65 66]) (.cond 65 (.seq (.dreg (.only 0 [] (xo 67 (.fad 2 (.t 10))) (.only 1 [] (xo 68 (.load 1 false (.t 67))) (.only 2 [] (xo 69 (.bin .eql (.t 68) (xi 0))) (.only 3 [] (xv 70 69) (.take 4 (xg 71 (.fad 0 (.t 10)) 70 true) (.take 5 (xg 72 (.load 1 false (.t 71)) 70 true) (.only 6 [] (xg 73 (.mv (.t 11)) 70 true) (.only 7 [5] (xg 74 (.bin .eql (.t 72) (.t 73)) 70 true) (.only 8 [] (xo 75 (.pick (.t 70) (.t 74) (.c (.bool false)))) (.only 9 [] (xv 76 75) (.take 10 (xg 77 (.fad 1 (.t 9)) 76 true) (.take 11 (xg 78 (.load 1 false (.t 77)) 76 true) (.take 12 (xg 79 (.cut 1 (.t 78) none (some (xi 4))) 76 true) (.only 13 [] (xg 80 (.fad 1 (.t 10)) 76 true) (.only 14 [] (xg 81 (.load 1 false (.t 80)) 76 true) (.only 15 [] (xg 82 (.cut 1 (.t 81) none (some (xi 4))) 76 true) (.only 16 [12] (xg 83 (.call 34 [false, false] [.t 79, .t 82]) 76 true) (.only 17 [] (xo 84 (.pick (.t 76) (.t 83) (.c (.bool false)))) (.only 18 [4, 5, 10, 11, 12] (xv 8 84) (.done))))))))))))))))))))) (.ret)) (.skip)))))))) (.seq (xr [xo 8 (.mv (.c (.bool true)))]) (.ret))))))⟩
theorem c175 : chkC Try.prog num Try.f47.ntmps m175.body ((Try.f47.body).getD .skip) = true := by kernel_rfl
def m225 : MFn := ⟨38, [.t 6], .seq (xr [xo 3 (.box (.t 0)), xo 4 (.box (.t 1)), xo 6 (.mv (.c (.bool false)))]) (.seq (.seq (xr [xv 9 2, xo 10 (.fad 1 (.t 4)), xo 11 (.load 1 false (.t 10)), xo 12 (.len (.t 11)), xo 13 (.bin .sub (.t 12) (xi 1)), xo 14 (.call 64 [false, false, false] [.t 9, xi 0, .t 13]), xo 15 (.un .«not» (.t 14)), xv 16 15, xg 17 (.fad 1 (.t 4)) 16 false, xg 18 (.load 1 false (.t 17)) 16 false, xg 19 (.mv (.t 2)) 16 false, xg 20 (.iad 4 (.t 18) (.t 19)) 16 false, xg 21 (.fad 3 (.t 20)) 16 false, xg 22 (.load 1 false (.t 21)) 16 false, xg 23 (.bin .neq (.t 22) (xi 0)) 16 false, xo 24 (.pick (.t 16) (.c (.bool true)) (.t 23))]) (.cond 24 (.seq (xr [xo 6 (.mv (.c (.bool false)))]) (.ret)) (.skip))) (.seq (.dreg (.take 0 (xo 26 (.load 2 true (.t 3))) (.take 1 (xv 27 2) (.take 2 (xo 28 (.fad 1 (.t 4))) (.take 3 (xo 29 (.load 1 false (.t 28))) (.only 4 [] (xv 30 2) (.only 5 [3] (xo 31 (.iad 4 (.t 29) (.t 30))) (.only 6 [] (xo 32 (.fad 0 (.t 31))) (.only 7 [] (xo 33 (.load 1 false (.t 32))) (.only 8 [0, 1] (xo 34 (.call 224 [false, false, false] [.t 26, .t 27, .t 33])) (.only 9 [] (xv 25 34) (.take 10 (xo 35 (.ext (.t 25) 0)) (.take 11 (xo 36 (.ext (.t 25) 1)) (.only 12 [0, 1, 2, 3, 10] (xv 7 35) (.only 13 [0, 1, 2, 3, 10, 11] (xv 8 36) (.done)))))))))))))))) (.seq (xr [xv 37 8, xv 6 37]) (.ret))))⟩
theorem c225 : chkC Try.prog num Try.f132.ntmps m225.body ((Try.f132.body).getD .skip) = true := by kernel_rfl
def m229 : MFn := ⟨13, [.t 4], .seq (xr [xo 4 (.mv (.c (.bool false)))]) (.seq (xr [xv 5 1, xv 6 0, xo 7 (.nilck (.t 6)), xo 8 (.fad 1 (.t 7)), xo 9 (.load 1 false (.t 8)), xo 10 (.len (.t 9)), xo 11 (.bin .sub (.t 10) (xi 1)), xo 12 (.call 59 [false, false, false] [.t 5, xi 0, .t 11]), xv 4 12]) (.ret))⟩
theorem c229 : chkC Try.prog num Try.f139.ntmps m229.body ((Try.f139.body).getD .skip) = true := by kernel_rfl
open Nat renaming reduceAdd → qA, reduceMul → qB, reduceEqDiff → qC, reduceBEq → qD
open Int renaming reduceToNat → qE, reduceEq → qF, reduceLT → qG, reduceLE → qH
open List renaming getD_eq_getElem?_getD → gD

-- S2
theorem isCore_ok (m : Machine) (who : Int) (hl : m.cores.length < 2 ^ 40) : CallOk Try.prog num 229 [.fptr .bw (machineC .bw m) 0, .int .i64 who] [] (.bool (within who 0 (m.cores.length - 1))) := by
  have w1 : IntKind.i64.wrap ((m.cores.length : Int) - 1) = m.cores.length - 1 := wrap64 (by omega) (by omega)
  refine enter (m := m229) (f := 229) (fn := Try.f139) Try.func139 (by kernel_rfl) rfl c229 rfl (by simp [Try.f139]) (by simp [bnds, bnd, nf_sl, nf_int, nf_bool, nf_str, ints_bnd]) (fun _ _ h => by simp [preH, look] at h) ?_
  unfold m229
  simp only [go_sem, qA, qB, qC, qD, qE, qF, qG, qH, w1]
  repeat refine K ?_
  refine CA [] (within_ok who 0 (m.cores.length - 1)) ?_
  try simp only [go_sem, qA, qB, qC, qD, qE, qF, qG, qH]
  repeat refine K ?_
  refine ⟨_, Sub.refl _, ?_⟩; simp [FinS, nilL, nilV, oneOr, -List.drop_one]
def between (p : Prog) (m : Machine) (who : Int) : Bool := within who 0 (m.cores.length - 1) && decide ((m.cores.getD who.toNat default).st = 0) && (placeOf p who (m.cores.getD who.toNat default).at_).2
def coreSame (p : Prog) (m : Machine) (s : Source) (who : Int) : Bool :=
  if within who 0 (m.cores.length - 1) && decide (who < s.ths.length) then
    let k := m.cores.getD who.toNat default
    let t := s.ths.getD who.toNat default
    let pl := placeOf p who k.at_
    if pl.1 < 0 ∨ k.regs.length < 4 ∨ t.regs.length < 4 then false
    else if k.st ≠ 0 then decide (t.st = k.st)
    else if pl.2 then decide (t.st = 0) && decide (t.at_ = pl.1) && decide (k.regs.take 4 = t.regs.take 4)
    else true
  else false
theorem specBetween_ok (p : Prog) (m : Machine) (who : Int) (hp : SmallP p) (hl : m.cores.length < 2 ^ 40) : CallOk Try.prog num 225 [.agg (progC .bw p), .agg (machineC .bw m), .int .i64 who] [] (.bool (between p m who)) := by
  have w1 : IntKind.i64.wrap ((m.cores.length : Int) - 1) = m.cores.length - 1 := wrap64 (by omega) (by omega)
  refine enter (m := m225) (f := 225) (fn := Try.f132) Try.func132 (by kernel_rfl) rfl c225 rfl (by simp [Try.f132]) (by simp [bnds, bnd, nf_sl, nf_int, nf_bool, nf_str, ints_bnd]) (fun _ _ h => by simp [preH, look] at h) ?_
  unfold m225
  simp only [go_sem, qA, qB, qC, qD, qE, qF, qG, qH, w1]
  repeat refine K ?_
  refine CA [] (l1In_ok who 0 (m.cores.length - 1)) ?_
  try simp only [go_sem, qA, qB, qC, qD, qE, qF, qG, qH]
  repeat refine K ?_
  cases hw : within who 0 (m.cores.length - 1)
  · try simp only [go_sem, qA, qB, qC, qD, qE, qF, qG, qH, hw]
    repeat refine K ?_
    refine ⟨_, Sub.refl _, ?_⟩; simp [FinS, nilL, nilV, oneOr, -List.drop_one]
    simp [between, hw]
  have hw' := within_iff.1 hw
  have hk : who.toNat < m.cores.length := by omega
  have hcg := cores_getD .bw m.cores who.toNat hk
  try simp only [go_sem, qA, qB, qC, qD, qE, qF, qG, qH, hw, hcg]
  repeat refine K ?_
  by_cases hst : (m.cores.getD who.toNat default).st = 0
  · try simp only [go_sem, qA, qB, qC, qD, qE, qF, qG, qH, hst, hcg]
    repeat refine K ?_
    refine DA [] (specPlaceOf_ok p who (m.cores.getD who.toNat default).at_ hp) ?_
    try simp only [go_sem, qA, qB, qC, qD, qE, qF, qG, qH]
    repeat refine K ?_
    try simp only [go_sem, qA, qB, qC, qD, qE, qF, qG, qH]
    repeat refine K ?_
    refine ⟨_, Sub.refl _, ?_⟩; simp [FinS, nilL, nilV, oneOr, -List.drop_one]
    have hq : between p m who = (placeOf p who (m.cores.getD who.toNat default).at_).2 := by
      unfold between
      rw [hw, hst]
      rfl
    rw [hq]
    simp
  · try simp only [go_sem, qA, qB, qC, qD, qE, qF, qG, qH, hst, hcg]
    repeat refine K ?_
    refine ⟨_, Sub.refl _, ?_⟩; simp [FinS, nilL, nilV, oneOr, -List.drop_one]
    simp [-List.getD_eq_getElem?_getD, between, hst]
set_option maxHeartbeats 4000000 in
theorem implCoreSame_ok (p : Prog) (m : Machine) (s : Source) (who : Int) (hp : SmallP p) (hm : SmallM m) (hs : Small s) : CallOk Try.prog num 175 [.agg (progC .bw p), .agg (machineC .bw m), .agg (sourceC .bw s), .int .i64 who] [] (.bool (coreSame p m s who)) := by
  have hl := hm.cores
  have ht := hs.ths
  refine enter (m := m175) (f := 175) (fn := Try.f47) Try.func47 (by kernel_rfl) rfl c175 rfl (by simp [Try.f47]) (by simp [bnds, bnd, nf_sl, nf_int, nf_bool, nf_str, ints_bnd]) (fun _ _ h => by simp [preH, look] at h) ?_
  unfold m175
  simp only [go_sem, qA, qB, qC, qD, qE, qF, qG, qH]
  repeat refine K ?_
  refine CA [] (isCore_ok m who hl) ?_
  try simp only [go_sem, qA, qB, qC, qD, qE, qF, qG, qH]
  repeat refine K ?_
  cases hw : within who 0 (m.cores.length - 1)
  · try simp only [go_sem, qA, qB, qC, qD, qE, qF, qG, qH, hw]
    repeat refine K ?_
    refine ⟨_, Sub.refl _, ?_⟩; simp [FinS, nilL, nilV, oneOr, -List.drop_one]
    simp [coreSame, hw]
  have hw' := within_iff.1 hw
  have hk : who.toNat < m.cores.length := by omega
  by_cases hs' : (s.ths.length : Int) ≤ who
  · try simp only [go_sem, qA, qB, qC, qD, qE, qF, qG, qH, hw, hs']
    repeat refine K ?_
    refine ⟨_, Sub.refl _, ?_⟩; simp [FinS, nilL, nilV, oneOr, -List.drop_one]
    have : ¬ who < s.ths.length := by omega
    simp [coreSame, this]
  have hj : who.toNat < s.ths.length := by omega
  have hlt : who < s.ths.length := by omega
  have hr1 := hm.regs _ (getD_mem m.cores who.toNat default hk)
  have hr2 := hs.regs _ (getD_mem s.ths who.toNat default hj)
  have hres : coreSame p m s who = (let k := m.cores.getD who.toNat default
    let t := s.ths.getD who.toNat default
    let pl := placeOf p who k.at_
    if pl.1 < 0 ∨ k.regs.length < 4 ∨ t.regs.length < 4 then false
    else if k.st ≠ 0 then decide (t.st = k.st)
    else if pl.2 then decide (t.st = 0) && decide (t.at_ = pl.1) && decide (k.regs.take 4 = t.regs.take 4)
    else true) := by simp only [coreSame, hw, hlt]; rfl
  rw [hres]
  clear hres
  try simp only [go_sem, qA, qB, qC, qD, qE, qF, qG, qH, hw, hs', cores_getD .bw m.cores who.toNat hk, threads_getD .bw s.ths who.toNat hj]
  repeat refine K ?_
  generalize m.cores.getD who.toNat default = k at hr1
  generalize s.ths.getD who.toNat default = t at hr2
  have hpl := implPlaceOf_ok p who k.at_ hp
  try simp only
  generalize placeOf p who k.at_ = pl at hpl
  refine ⟨?_, ?_⟩
  all_goals
    try simp only [go_sem, qA, qB, qC, qD, qE, qF, qG, qH]
    repeat refine K ?_
    refine CA [] (hpl) ?_
    try simp only [go_sem, qA, qB, qC, qD, qE, qF, qG, qH]
    repeat refine K ?_
    by_cases c1 : pl.1 < 0
    · try simp only [go_sem, qA, qB, qC, qD, qE, qF, qG, qH, c1]
      repeat refine K ?_
      refine ⟨_, Sub.refl _, ?_⟩; simp [FinS, nilL, nilV, oneOr, -List.drop_one]
      try simp [c1]
    by_cases c2 : (k.regs.length : Int) < 4
    · try simp only [go_sem, qA, qB, qC, qD, qE, qF, qG, qH, c1, c2]
      repeat refine K ?_
      refine ⟨_, Sub.refl _, ?_⟩; simp [FinS, nilL, nilV, oneOr, -List.drop_one]
      try simp [c1]
      try omega
    by_cases c3 : (t.regs.length : Int) < 4
    · try simp only [go_sem, qA, qB, qC, qD, qE, qF, qG, qH, c1, c2, c3]
      repeat refine K ?_
      refine ⟨_, Sub.refl _, ?_⟩; simp [FinS, nilL, nilV, oneOr, -List.drop_one]
      try simp [c1]
      try omega
    have hn : ¬ (pl.1 < 0 ∨ k.regs.length < 4 ∨ t.regs.length < 4) := by omega
    rw [if_neg hn]
    by_cases c4 : k.st = 0
    case neg =>
      try simp only [go_sem, qA, qB, qC, qD, qE, qF, qG, qH, c1, c2, c3, c4]
      repeat refine K ?_
      refine ⟨_, Sub.refl _, ?_⟩; simp [FinS, nilL, nilV, oneOr, -List.drop_one]
      try simp [c4]
    cases c5 : pl.2
    · try simp only [go_sem, qA, qB, qC, qD, qE, qF, qG, qH, c1, c2, c3, c4, c5]
      repeat refine K ?_
      refine ⟨_, Sub.refl _, ?_⟩; simp [FinS, nilL, nilV, oneOr, -List.drop_one]
      try simp [c4]
    by_cases c6 : t.st = 0
    case neg =>
      try simp only [go_sem, qA, qB, qC, qD, qE, qF, qG, qH, c1, c2, c3, c4, c5, c6]
      repeat refine K ?_
      refine ⟨_, Sub.refl _, ?_⟩; simp [FinS, nilL, nilV, oneOr, -List.drop_one]
      try simp [c4, c6]
    by_cases c7 : t.at_ = pl.1
    case neg =>
      try simp only [go_sem, qA, qB, qC, qD, qE, qF, qG, qH, c1, c2, c3, c4, c5, c6, c7]
      repeat refine K ?_
      refine ⟨_, Sub.refl _, ?_⟩; simp [FinS, nilL, nilV, oneOr, -List.drop_one]
      try simp [c4, c7]
    try simp only [go_sem, qA, qB, qC, qD, qE, qF, qG, qH, c1, c2, c3, c4, c5, c6, c7]
    repeat refine K ?_
    refine DA [] (slicesEqual_ok (k.regs.take 4) (t.regs.take 4) (by simp; omega)) ?_
    try simp only [go_sem, qA, qB, qC, qD, qE, qF, qG, qH]
    repeat refine K ?_
    try simp only [go_sem, qA, qB, qC, qD, qE, qF, qG, qH]
    repeat refine K ?_
    refine ⟨_, Sub.refl _, ?_⟩; simp [FinS, nilL, nilV, oneOr, -List.drop_one]
    try simp [c4, c6, c7]
set_option maxHeartbeats 4000000 in
theorem specCoreSame_ok (p : Prog) (m : Machine) (s : Source) (who : Int) (hp : SmallP p) (hm : SmallM m) (hs : Small s) : CallOk Try.prog num 174 [.agg (progC .bw p), .agg (machineC .bw m), .agg (sourceC .bw s), .int .i64 who] [] (.bool (coreSame p m s who)) := by
  have hl := hm.cores
  have ht := hs.ths
  have w1 : IntKind.i64.wrap ((m.cores.length : Int) - 1) = m.cores.length - 1 := wrap64 (by omega) (by omega)
  refine enter (m := m174) (f := 174) (fn := Try.f44) Try.func44 (by kernel_rfl) rfl c174 rfl (by simp [Try.f44]) (by simp [bnds, bnd, nf_sl, nf_int, nf_bool, nf_str, ints_bnd]) (fun _ _ h => by simp [preH, look] at h) ?_
  unfold m174
  simp only [go_sem, qA, qB, qC, qD, qE, qF, qG, qH, w1]
  repeat refine K ?_
  refine CA [] (l1In_ok who 0 (m.cores.length - 1)) ?_
  try simp only [go_sem, qA, qB, qC, qD, qE, qF, qG, qH]
  repeat refine K ?_
  cases hw : within who 0 (m.cores.length - 1)
  · try simp only [go_sem, qA, qB, qC, qD, qE, qF, qG, qH, hw]
    repeat refine K ?_
    refine ⟨_, Sub.refl _, ?_⟩; simp [FinS, nilL, nilV, oneOr, -List.drop_one]
    simp [coreSame, hw]
  have hw' := within_iff.1 hw
  have hk : who.toNat < m.cores.length := by omega
  by_cases hs' : (s.ths.length : Int) ≤ who
  · try simp only [go_sem, qA, qB, qC, qD, qE, qF, qG, qH, hw, hs']
    repeat refine K ?_
    refine ⟨_, Sub.refl _, ?_⟩; simp [FinS, nilL, nilV, oneOr, -List.drop_one]
    have : ¬ who < s.ths.length := by omega
    simp [coreSame, this]
  have hj : who.toNat < s.ths.length := by omega
  have hlt : who < s.ths.length := by omega
  have hr1 := hm.regs _ (getD_mem m.cores who.toNat default hk)
  have hr2 := hs.regs _ (getD_mem s.ths who.toNat default hj)
  have hres : coreSame p m s who = (let k := m.cores.getD who.toNat default
    let t := s.ths.getD who.toNat default
    let pl := placeOf p who k.at_
    if pl.1 < 0 ∨ k.regs.length < 4 ∨ t.regs.length < 4 then false
    else if k.st ≠ 0 then decide (t.st = k.st)
    else if pl.2 then decide (t.st = 0) && decide (t.at_ = pl.1) && decide (k.regs.take 4 = t.regs.take 4)
    else true) := by simp only [coreSame, hw, hlt]; rfl
  have hbt : between p m who = (decide ((m.cores.getD who.toNat default).st = 0) && (placeOf p who (m.cores.getD who.toNat default).at_).2) := by simp only [between, hw, Bool.true_and]
  have hb := specBetween_ok p m who hp hl
  rw [hbt] at hb
  rw [hres]
  clear hres hbt
  try simp only [go_sem, qA, qB, qC, qD, qE, qF, qG, qH, hw, hs', cores_getD .bw m.cores who.toNat hk, threads_getD .bw s.ths who.toNat hj]
  repeat refine K ?_
  generalize m.cores.getD who.toNat default = k at hr1 hb
  generalize s.ths.getD who.toNat default = t at hr2
  have hpl := specPlaceOf_ok p who k.at_ hp
  try simp only
  generalize placeOf p who k.at_ = pl at hpl hb
  refine ⟨?_, ?_⟩
  · skip
    try simp only [go_sem, qA, qB, qC, qD, qE, qF, qG, qH]
    repeat refine K ?_
    refine CA [] (hpl) ?_
    try simp only [go_sem, qA, qB, qC, qD, qE, qF, qG, qH]
    repeat refine K ?_
    by_cases c1 : pl.1 < 0
    · try simp only [go_sem, qA, qB, qC, qD, qE, qF, qG, qH, c1]
      repeat refine K ?_
      refine ⟨_, Sub.refl _, ?_⟩; simp [FinS, nilL, nilV, oneOr, -List.drop_one]
      try simp [c1]
    by_cases c2 : (k.regs.length : Int) < 4
    · try simp only [go_sem, qA, qB, qC, qD, qE, qF, qG, qH, c1, c2]
      repeat refine K ?_
      refine ⟨_, Sub.refl _, ?_⟩; simp [FinS, nilL, nilV, oneOr, -List.drop_one]
      try simp [c1]
      try omega
    by_cases c3 : (t.regs.length : Int) < 4
    · try simp only [go_sem, qA, qB, qC, qD, qE, qF, qG, qH, c1, c2, c3]
      repeat refine K ?_
      refine ⟨_, Sub.refl _, ?_⟩; simp [FinS, nilL, nilV, oneOr, -List.drop_one]
      try simp [c1]
      try omega
    have hn : ¬ (pl.1 < 0 ∨ k.regs.length < 4 ∨ t.regs.length < 4) := by omega
    rw [if_neg hn]
    by_cases c4 : k.st = 0
    case neg =>
      try simp only [go_sem, qA, qB, qC, qD, qE, qF, qG, qH, c1, c2, c3, c4]
      repeat refine K ?_
      refine ⟨_, Sub.refl _, ?_⟩; simp [FinS, nilL, nilV, oneOr, -List.drop_one]
      try simp [c4]
      try exact eq_comm
    try simp only [go_sem, qA, qB, qC, qD, qE, qF, qG, qH, c1, c2, c3, c4]
    repeat refine K ?_
    refine CA [] (hb) ?_
    try simp only [go_sem, qA, qB, qC, qD, qE, qF, qG, qH]
    repeat refine K ?_
    cases c5 : pl.2
    · try simp only [go_sem, qA, qB, qC, qD, qE, qF, qG, qH, c4, c5]
      repeat refine K ?_
      refine ⟨_, Sub.refl _, ?_⟩; simp [FinS, nilL, nilV, oneOr, -List.drop_one]
      try simp [c4]
    try simp only [go_sem, qA, qB, qC, qD, qE, qF, qG, qH, c4, c5]
    repeat refine K ?_
    refine loop_intro (ι := Nat) (fun i => .mk [(9, .ptr 13 0 0), (10, .ptr 14 0 0), (11, .int .i64 pl.1), (13, .int .i64 i)] [(13, 4, [coreC .bw k]), (14, 3, [threadC .bw t])] 15) (fun i => i ≤ 4 ∧ k.regs.take i = t.regs.take i) (fun i => 4 - i) 0 (by simp) ?_ ?_
    · refine Sub.shape [] id (by omega) ?_ ?_ ?_ ?_ <;> simp [ints_rep]
      all_goals (first | exact c4.symm | skip)
    · rintro i ⟨hi, hq⟩
      simp only [go_sem, qA, qB, qC, qD, qE, qF, qG, qH]
      refine branch_intro (fun hc => ?_) (fun hc => ?_)
      · simp only [decide_eq_true_eq] at hc
        have ha : i < k.regs.length := by omega
        have hb : i < t.regs.length := by omega
        simp only [go_sem, qA, qB, qC, qD, qE, qF, qG, qH, ints_getD k.regs i ha, ints_getD t.regs i hb]
        repeat refine K ?_
        by_cases he : k.regs.getD i 0 = t.regs.getD i 0
        · try simp only [go_sem, qA, qB, qC, qD, qE, qF, qG, qH, he, wrap_succ (i := i) (by omega)]
          repeat refine K ?_
          refine back_intro (i + 1) (Sub.shape [] id (by omega) ?_ ?_ ?_ ?_) ?_ ?_
          any_goals (first | omega | (simp [ints_rep]; done))
          refine ⟨by omega, ?_⟩
          rw [take_snoc k.regs 0 i ha, take_snoc t.regs 0 i hb, hq, he]
        · try simp only [go_sem, qA, qB, qC, qD, qE, qF, qG, qH, he]
          repeat refine K ?_
          refine ⟨_, Sub.refl _, ?_⟩; simp [FinS, nilL, nilV, oneOr, -List.drop_one]
          have hne : k.regs.take 4 ≠ t.regs.take 4 := fun h => by
            apply he
            have e1 : (k.regs.take 4).getD i 0 = k.regs.getD i 0 := by simp [List.getD_eq_getElem?_getD, List.getElem?_take, show i < 4 by omega]
            have e2 : (t.regs.take 4).getD i 0 = t.regs.getD i 0 := by simp [List.getD_eq_getElem?_getD, List.getElem?_take, show i < 4 by omega]
            rw [← e1, ← e2, h]
          try simp [c4, hne]
      · simp only [decide_eq_false_iff_not] at hc
        have h4 : i = 4 := by omega
        subst h4
        simp only [go_sem, qA, qB, qC, qD, qE, qF, qG, qH]
        repeat refine K ?_
        by_cases c6 : t.st = 0
        case neg =>
          try simp only [go_sem, qA, qB, qC, qD, qE, qF, qG, qH, c6]
          repeat refine K ?_
          refine ⟨_, Sub.refl _, ?_⟩; simp [FinS, nilL, nilV, oneOr, -List.drop_one]
          try simp [c4, c6]
        try simp only [go_sem, qA, qB, qC, qD, qE, qF, qG, qH, c6]
        repeat refine K ?_
        refine ⟨_, Sub.refl _, ?_⟩; simp [FinS, nilL, nilV, oneOr, -List.drop_one]
        try simp [c4, c6, hq]
  · skip
    try simp only [go_sem, qA, qB, qC, qD, qE, qF, qG, qH]
    repeat refine K ?_
    refine CA [] (hpl) ?_
    try simp only [go_sem, qA, qB, qC, qD, qE, qF, qG, qH]
    repeat refine K ?_
    by_cases c1 : pl.1 < 0
    · try simp only [go_sem, qA, qB, qC, qD, qE, qF, qG, qH, c1]
      repeat refine K ?_
      refine ⟨_, Sub.refl _, ?_⟩; simp [FinS, nilL, nilV, oneOr, -List.drop_one]
      try simp [c1]
    by_cases c2 : (k.regs.length : Int) < 4
    · try simp only [go_sem, qA, qB, qC, qD, qE, qF, qG, qH, c1, c2]
      repeat refine K ?_
      refine ⟨_, Sub.refl _, ?_⟩; simp [FinS, nilL, nilV, oneOr, -List.drop_one]
      try simp [c1]
      try omega
    by_cases c3 : (t.regs.length : Int) < 4
    · try simp only [go_sem, qA, qB, qC, qD, qE, qF, qG, qH, c1, c2, c3]
      repeat refine K ?_
      refine ⟨_, Sub.refl _, ?_⟩; simp [FinS, nilL, nilV, oneOr, -List.drop_one]
      try simp [c1]
      try omega
    have hn : ¬ (pl.1 < 0 ∨ k.regs.length < 4 ∨ t.regs.length < 4) := by omega
    rw [if_neg hn]
    by_cases c4 : k.st = 0
    case neg =>
      try simp only [go_sem, qA, qB, qC, qD, qE, qF, qG, qH, c1, c2, c3, c4]
      repeat refine K ?_
      refine ⟨_, Sub.refl _, ?_⟩; simp [FinS, nilL, nilV, oneOr, -List.drop_one]
      try simp [c4]
      try exact eq_comm
    try simp only [go_sem, qA, qB, qC, qD, qE, qF, qG, qH, c1, c2, c3, c4]
    repeat refine K ?_
    refine CA [] (hb) ?_
    try simp only [go_sem, qA, qB, qC, qD, qE, qF, qG, qH]
    repeat refine K ?_
    cases c5 : pl.2
    · try simp only [go_sem, qA, qB, qC, qD, qE, qF, qG, qH, c4, c5]
      repeat refine K ?_
      refine ⟨_, Sub.refl _, ?_⟩; simp [FinS, nilL, nilV, oneOr, -List.drop_one]
      try simp [c4]
    try simp only [go_sem, qA, qB, qC, qD, qE, qF, qG, qH, c4, c5]
    repeat refine K ?_
    refine loop_intro (ι := Nat) (fun i => .mk [(9, .ptr 14 0 0), (10, .ptr 13 0 0), (11, .int .i64 pl.1), (13, .int .i64 i)] [(13, 3, [threadC .bw t]), (14, 4, [coreC .bw k])] 15) (fun i => i ≤ 4 ∧ k.regs.take i = t.regs.take i) (fun i => 4 - i) 0 (by simp) ?_ ?_
    · refine Sub.shape [] id (by omega) ?_ ?_ ?_ ?_ <;> simp [ints_rep]
      all_goals (first | exact c4.symm | skip)
    · rintro i ⟨hi, hq⟩
      simp only [go_sem, qA, qB, qC, qD, qE, qF, qG, qH]
      refine branch_intro (fun hc => ?_) (fun hc => ?_)
      · simp only [decide_eq_true_eq] at hc
        have ha : i < k.regs.length := by omega
        have hb : i < t.regs.length := by omega
        simp only [go_sem, qA, qB, qC, qD, qE, qF, qG, qH, ints_getD k.regs i ha, ints_getD t.regs i hb]
        repeat refine K ?_
        by_cases he : k.regs.getD i 0 = t.regs.getD i 0
        · try simp only [go_sem, qA, qB, qC, qD, qE, qF, qG, qH, he, wrap_succ (i := i) (by omega)]
          repeat refine K ?_
          refine back_intro (i + 1) (Sub.shape [] id (by omega) ?_ ?_ ?_ ?_) ?_ ?_
          any_goals (first | omega | (simp [ints_rep]; done))
          refine ⟨by omega, ?_⟩
          rw [take_snoc k.regs 0 i ha, take_snoc t.regs 0 i hb, hq, he]
        · try simp only [go_sem, qA, qB, qC, qD, qE, qF, qG, qH, he]
          repeat refine K ?_
          refine ⟨_, Sub.refl _, ?_⟩; simp [FinS, nilL, nilV, oneOr, -List.drop_one]
          have hne : k.regs.take 4 ≠ t.regs.take 4 := fun h => by
            apply he
            have e1 : (k.regs.take 4).getD i 0 = k.regs.getD i 0 := by simp [List.getD_eq_getElem?_getD, List.getElem?_take, show i < 4 by omega]
            have e2 : (t.regs.take 4).getD i 0 = t.regs.getD i 0 := by simp [List.getD_eq_getElem?_getD, List.getElem?_take, show i < 4 by omega]
            rw [← e1, ← e2, h]
          try simp [c4, hne]
      · simp only [decide_eq_false_iff_not] at hc
        have h4 : i = 4 := by omega
        subst h4
        simp only [go_sem, qA, qB, qC, qD, qE, qF, qG, qH]
        repeat refine K ?_
        by_cases c6 : t.st = 0
        case neg =>
          try simp only [go_sem, qA, qB, qC, qD, qE, qF, qG, qH, c6]
          repeat refine K ?_
          refine ⟨_, Sub.refl _, ?_⟩; simp [FinS, nilL, nilV, oneOr, -List.drop_one]
          try simp [c4, c6]
        try simp only [go_sem, qA, qB, qC, qD, qE, qF, qG, qH, c6]
        repeat refine K ?_
        refine ⟨_, Sub.refl _, ?_⟩; simp [FinS, nilL, nilV, oneOr, -List.drop_one]
        try simp [c4, c6, hq]

-- S2
set_option maxHeartbeats 8000000 in
theorem exactCoreSame_ok (p : Prog) (m : Machine) (s : Source) (who : Int) (h1 : p.caps.length < 2 ^ 63 ∧ p.bods.length < 2 ^ 63 ∧ ∀ b ∈ p.bods, b.length < 2 ^ 63) (hm0 : LongM m) (h2 : s.ths.length < 2 ^ 63 ∧ s.chs.length < 2 ^ 63 ∧ s.tr.length < 2 ^ 63 ∧ (∀ t ∈ s.ths, t.regs.length < 2 ^ 63) ∧ (∀ c ∈ s.chs, c.list.length < 2 ^ 63)) :
    CallOk Try.prog num 171 [.agg (progC .bw p), .agg (machineC .bw m), .agg (sourceC .bw s), .int .i64 who] [] (.bool true) := by
  refine enter (m := m171) (f := 171) (fn := Try.f7) Try.func7 (by kernel_rfl) rfl c171 rfl (by simp [Try.f7]) (by simp [bnds, bnd, nf_sl, nf_int, nf_bool, nf_str, ints_bnd]) (fun _ _ h => by simp [preH, look] at h) ?_
  unfold m171
  simp only [go_sem, qA, qB, qC, qD, qE, qF, qG, qH]
  repeat refine K ?_
  refine CA [] (szProg_ok p 1048576 h1.1 h1.2.1 h1.2.2 (by omega) (by omega)) ?_
  try simp only [go_sem, qA, qB, qC, qD, qE, qF, qG, qH]
  repeat refine K ?_
  rw [szProg_eq p _ (by omega)]
  have l1 := szL_le (k := wProg p) (n := 1048576) (by omega)
  refine branch_intro (fun hc => ?_) (fun hc => ?_)
  · simp only [go_sem, qA, qB, qC, qD, qE, qF, qG, qH]
    repeat refine K ?_
    refine ⟨_, Sub.refl _, ?_⟩; simp [FinS, nilL, nilV, oneOr, -List.drop_one]
  simp only [decide_eq_false_iff_not] at hc
  have hp := prgSz_of (p := p) (n := 1048576) (by have := szL_ge hc (by omega); omega)
  generalize szL (wProg p) 1048576 = n1 at *
  simp only [go_sem, qA, qB, qC, qD, qE, qF, qG, qH]
  repeat refine K ?_
  refine CA [] (szMachine_ok m n1 hm0 (by omega) (by omega)) ?_
  try simp only [go_sem, qA, qB, qC, qD, qE, qF, qG, qH]
  repeat refine K ?_
  have l2 := szL_le (k := zMachine m) (n := n1) (by omega)
  refine branch_intro (fun hc2 => ?_) (fun hc2 => ?_)
  · simp only [go_sem, qA, qB, qC, qD, qE, qF, qG, qH]
    repeat refine K ?_
    refine ⟨_, Sub.refl _, ?_⟩; simp [FinS, nilL, nilV, oneOr, -List.drop_one]
  simp only [decide_eq_false_iff_not] at hc2
  have hm := smallM_of (m := m) (n := 1048576) (by have := szL_ge hc2 (by omega); omega) (by omega)
  generalize szL (zMachine m) n1 = n2 at *
  simp only [go_sem, qA, qB, qC, qD, qE, qF, qG, qH]
  repeat refine K ?_
  refine CA [] (szSource_ok s n2 h2.1 h2.2.1 h2.2.2.1 h2.2.2.2.1 h2.2.2.2.2 (by omega) (by omega)) ?_
  try simp only [go_sem, qA, qB, qC, qD, qE, qF, qG, qH]
  repeat refine K ?_
  refine branch_intro (fun hc3 => ?_) (fun hc3 => ?_)
  · simp only [go_sem, qA, qB, qC, qD, qE, qF, qG, qH]
    repeat refine K ?_
    refine ⟨_, Sub.refl _, ?_⟩; simp [FinS, nilL, nilV, oneOr, -List.drop_one]
  simp only [decide_eq_false_iff_not] at hc3
  have hss := srcSz_of (s := s) (n := 1048576) (by have := szL_ge hc3 (by omega); omega)
  clear hc hc2 hc3 h1 h2 hm0 l1 l2
  obtain ⟨p1, p2, p3, p4⟩ := hp
  have q1 : ∀ b ∈ p.bods, 40 * b.length ≤ 2 ^ 47 := fun b hb => by have := p3 b hb; omega
  have q2 : ∀ b ∈ p.bods, b.length ≤ 2 ^ 47 := fun b hb => by have := p3 b hb; omega
  have hpp : SmallP p := ⟨by omega, by omega, fun b hb => by have := p3 b hb; omega⟩
  have hsm := hss.small (by omega)
  have tp := toProg_ok p (by omega) (by omega) q1
  have tm := toMachine_ok m hm
  have ts := toSource_ok s (by have := hsm.ths; omega) (by have := hsm.chs; omega) (by have := hsm.tr; omega) (fun t ht => by have := hsm.regs t ht; omega) (fun c hc => by have := hsm.list c hc; omega)
  have cs := specCoreSame_ok p m s who hpp hm hsm
  have ci := implCoreSame_ok p m s who hpp hm hsm
  have ep := eqProg_ok p p (by omega) (by omega) q2
  have em := eqMachine_ok m m hm
  have es := eqSource_ok s s (by have := hsm.ths; omega) (by have := hsm.chs; omega) (by have := hsm.tr; omega) (fun t ht => by have := hsm.regs t ht; omega) (fun c hc => by have := hsm.list c hc; omega)
  generalize coreSame p m s who = w at cs ci
  have eb : (w == w) = true := by simp
  simp only [go_sem, qA, qB, qC, qD, qE, qF, qG, qH]
  repeat refine K ?_
  refine DA [] (tp) ?_
  try simp only [go_sem, qA, qB, qC, qD, qE, qF, qG, qH]
  repeat refine K ?_
  refine DA [] (tm) ?_
  try simp only [go_sem, qA, qB, qC, qD, qE, qF, qG, qH]
  repeat refine K ?_
  refine DA [] (ts) ?_
  try simp only [go_sem, qA, qB, qC, qD, qE, qF, qG, qH]
  repeat refine K ?_
  refine DA [] (cs) ?_
  try simp only [go_sem, qA, qB, qC, qD, qE, qF, qG, qH]
  repeat refine K ?_
  try simp only [go_sem, qA, qB, qC, qD, qE, qF, qG, qH]
  repeat refine K ?_
  refine CA [] (tp) ?_
  try simp only [go_sem, qA, qB, qC, qD, qE, qF, qG, qH]
  repeat refine K ?_
  try simp only [go_sem, qA, qB, qC, qD, qE, qF, qG, qH]
  repeat refine K ?_
  refine CA [] (tm) ?_
  try simp only [go_sem, qA, qB, qC, qD, qE, qF, qG, qH]
  repeat refine K ?_
  try simp only [go_sem, qA, qB, qC, qD, qE, qF, qG, qH]
  repeat refine K ?_
  refine CA [] (ts) ?_
  try simp only [go_sem, qA, qB, qC, qD, qE, qF, qG, qH]
  repeat refine K ?_
  try simp only [go_sem, qA, qB, qC, qD, qE, qF, qG, qH]
  repeat refine K ?_
  refine CA [] (ci) ?_
  try simp only [go_sem, qA, qB, qC, qD, qE, qF, qG, qH]
  repeat refine K ?_
  try simp only [go_sem, qA, qB, qC, qD, qE, qF, qG, qH, eb]
  repeat refine K ?_
  refine DA [] (tp) ?_
  try simp only [go_sem, qA, qB, qC, qD, qE, qF, qG, qH]
  repeat refine K ?_
  refine DA [] (ep) ?_
  try simp only [go_sem, qA, qB, qC, qD, qE, qF, qG, qH]
  repeat refine K ?_
  try simp only [go_sem, qA, qB, qC, qD, qE, qF, qG, qH]
  repeat refine K ?_
  refine DA [] (tm) ?_
  try simp only [go_sem, qA, qB, qC, qD, qE, qF, qG, qH]
  repeat refine K ?_
  refine DA [] (em) ?_
  try simp only [go_sem, qA, qB, qC, qD, qE, qF, qG, qH]
  repeat refine K ?_
  try simp only [go_sem, qA, qB, qC, qD, qE, qF, qG, qH]
  repeat refine K ?_
  refine DA [] (ts) ?_
  try simp only [go_sem, qA, qB, qC, qD, qE, qF, qG, qH]
  repeat refine K ?_
  refine DA [] (es) ?_
  try simp only [go_sem, qA, qB, qC, qD, qE, qF, qG, qH]
  repeat refine K ?_
  try simp only [go_sem, qA, qB, qC, qD, qE, qF, qG, qH]
  repeat refine K ?_
  refine ⟨_, Sub.refl _, ?_⟩; simp [FinS, nilL, nilV, oneOr, -List.drop_one]


end Go.Sep
