/- Contracts of functions. -/
import Derived.Test.YtoijhndfkfliiaaCone
import Derived.Test.YtoijhndfkfliiaaConf
namespace Go.Sep
open Go.Proofs
set_option linter.unusedSimpArgs false
set_option linter.unusedVariables false
set_option maxRecDepth 100000
def m66 : MFn := ⟨164, [.cell 6 3 true, .t 7], .seq (xr [xo 3 (.box (.t 0)), xo 4 (.box (.t 1)), xo 6 (.alloc [.nil, .nil, .nil]), xo 7 (.mv (xi 0))]) (.seq (xr [xo 14 (.fad 0 (.t 4)), xo 15 (.load 1 false (.t 14)), xv 16 2, xo 17 (.iad 3 (.t 15) (.t 16)), xo 18 (.fad 0 (.t 17)), xo 19 (.load 1 false (.t 18)), xv 8 19]) (.seq (xr [xo 20 (.fad 1 (.t 3)), xo 21 (.load 1 false (.t 20)), xv 22 2, xo 23 (.iad 1 (.t 21) (.t 22)), xo 24 (.load 1 false (.t 23)), xv 25 8, xo 26 (.iad 5 (.t 24) (.t 25)), xo 27 (.load 5 true (.t 26)), xo 9 (.alloc [xz, xz, xz, xz, xz]), ⟨none, .store 5 (.t 9) (.t 27), none⟩]) (.seq (xr [xo 28 (.fad 0 (.t 4)), xo 29 (.load 1 false (.t 28)), xv 30 2, xo 31 (.iad 3 (.t 29) (.t 30)), xo 32 (.fad 1 (.t 31)), xo 33 (.load 1 false (.t 32)), xv 10 33]) (.seq (xr [xv 34 8, xo 35 (.bin .add (.t 34) (xi 1)), xv 11 35]) (.seq (.seq (xr [xo 36 (.fad 0 (.t 9)), xo 37 (.load 1 false (.t 36))]) (.blk 0 (.seq (xr [xo 59 (.bin .eql (.t 37) (xi 1)), xv 58 59]) (.cond 58 (xr [xv 60 10, xo 61 (.fad 1 (.t 9)), xo 62 (.load 1 false (.t 61)), xo 63 (.fad 4 (.t 9)), xo 64 (.load 1 false (.t 63)), xo 65 (.iad 1 (.t 60) (.t 62)), ⟨none, .store 1 (.t 65) (.t 64), none⟩]) (.seq (xr [xo 67 (.bin .eql (.t 37) (xi 2)), xv 66 67]) (.cond 66 (.dreg (.take 0 (xv 68 10) (.take 1 (xo 69 (.fad 1 (.t 9))) (.take 2 (xo 70 (.load 1 false (.t 69))) (.take 3 (xv 71 10) (.take 4 (xo 72 (.fad 2 (.t 9))) (.take 5 (xo 73 (.load 1 false (.t 72))) (.take 6 (xo 74 (.iad 1 (.t 71) (.t 73))) (.take 7 (xo 75 (.load 1 false (.t 74))) (.take 8 (xv 76 10) (.only 9 [] (xo 77 (.fad 3 (.t 9))) (.only 10 [] (xo 78 (.load 1 false (.t 77))) (.only 11 [8] (xo 79 (.iad 1 (.t 76) (.t 78))) (.only 12 [] (xo 80 (.load 1 false (.t 79))) (.only 13 [7] (xo 81 (.bin .add (.t 75) (.t 80))) (.only 14 [0, 1, 2, 3, 4, 5, 6, 7, 8] (xo 82 (.iad 1 (.t 68) (.t 70))) (.only 15 [0, 1, 2, 3, 4, 5, 6, 7, 8] ⟨none, .store 1 (.t 82) (.t 81), none⟩ (.done)))))))))))))))))) (.seq (xr [xo 84 (.bin .eql (.t 37) (xi 3)), xv 83 84]) (.cond 83 (.dreg (.take 0 (xv 85 10) (.take 1 (xo 86 (.fad 1 (.t 9))) (.take 2 (xo 87 (.load 1 false (.t 86))) (.take 3 (xv 88 10) (.take 4 (xo 89 (.fad 2 (.t 9))) (.take 5 (xo 90 (.load 1 false (.t 89))) (.take 6 (xo 91 (.iad 1 (.t 88) (.t 90))) (.take 7 (xo 92 (.load 1 false (.t 91))) (.take 8 (xv 93 10) (.only 9 [] (xo 94 (.fad 3 (.t 9))) (.only 10 [] (xo 95 (.load 1 false (.t 94))) (.only 11 [8] (xo 96 (.iad 1 (.t 93) (.t 95))) (.only 12 [] (xo 97 (.load 1 false (.t 96))) (.only 13 [7] (xo 98 (.bin .sub (.t 92) (.t 97))) (.only 14 [0, 1, 2, 3, 4, 5, 6, 7, 8] (xo 99 (.iad 1 (.t 85) (.t 87))) (.only 15 [0, 1, 2, 3, 4, 5, 6, 7, 8] ⟨none, .store 1 (.t 99) (.t 98), none⟩ (.done)))))))))))))))))) (.seq (xr [xo 101 (.bin .eql (.t 37) (xi 4)), xv 100 101]) (.cond 100 (.dreg (.take 0 (xv 102 10) (.take 1 (xo 103 (.fad 1 (.t 9))) (.take 2 (xo 104 (.load 1 false (.t 103))) (.take 3 (xv 105 10) (.take 4 (xo 106 (.fad 2 (.t 9))) (.take 5 (xo 107 (.load 1 false (.t 106))) (.take 6 (xo 108 (.iad 1 (.t 105) (.t 107))) (.take 7 (xo 109 (.load 1 false (.t 108))) (.take 8 (xv 110 10) (.only 9 [] (xo 111 (.fad 3 (.t 9))) (.only 10 [] (xo 112 (.load 1 false (.t 111))) (.only 11 [8] (xo 113 (.iad 1 (.t 110) (.t 112))) (.only 12 [] (xo 114 (.load 1 false (.t 113))) (.only 13 [7] (xo 115 (.bin .lss (.t 109) (.t 114))) (.only 14 [] (xo 116 (.call 85 [false] [.t 115])) (.only 15 [0, 1, 2, 3, 4, 5, 6, 7, 8] (xo 117 (.iad 1 (.t 102) (.t 104))) (.only 16 [0, 1, 2, 3, 4, 5, 6, 7, 8] ⟨none, .store 1 (.t 117) (.t 116), none⟩ (.done))))))))))))))))))) (.seq (xr [xo 119 (.bin .eql (.t 37) (xi 10)), xv 118 119]) (.cond 118 (.seq (.seq (xr [xo 120 (.fad 2 (.t 4)), xo 121 (.load 1 false (.t 120)), xo 122 (.len (.t 121)), xo 123 (.bin .eql (.t 122) (xi 4000))]) (.cond 123 (.seq (xr [xo 124 (.load 3 true (.t 4)), ⟨none, .store 3 (.t 6) (.t 124), none⟩, xo 7 (.mv (xi 3))]) (.ret)) (.skip))) (.dreg (.take 0 (xo 125 (.fad 2 (.t 4))) (.take 1 (xo 126 (.load 1 false (.t 125))) (.take 2 (xv 127 2) (.take 3 (xv 128 10) (.only 4 [] (xo 129 (.fad 2 (.t 9))) (.only 5 [] (xo 130 (.load 1 false (.t 129))) (.only 6 [3] (xo 131 (.iad 1 (.t 128) (.t 130))) (.only 7 [] (xo 132 (.load 1 false (.t 131))) (.only 8 [2] (xo 133 (.build [xz, xz] [(0, 1, .t 127), (1, 1, .t 132)])) (.only 9 [] (xo 134 (.mkSl [xz, xz] 1 [(0, .t 133)])) (.only 10 [1] (xo 135 (.app 2 16 (.t 126) (.t 134))) (.only 11 [0, 1, 2, 3] (xo 136 (.fad 2 (.t 4))) (.only 12 [0, 1, 2, 3] ⟨none, .store 1 (.t 136) (.t 135), none⟩ (.done)))))))))))))))) (.seq (xr [xo 138 (.bin .eql (.t 37) (xi 11)), xv 137 138]) (.cond 137 (xr [xo 139 (.fad 4 (.t 9)), xo 140 (.load 1 false (.t 139)), xv 11 140]) (.seq (xr [xo 142 (.bin .eql (.t 37) (xi 12)), xv 141 142]) (.cond 141 (.seq (xr [xv 143 10, xo 144 (.fad 2 (.t 9)), xo 145 (.load 1 false (.t 144)), xo 146 (.iad 1 (.t 143) (.t 145)), xo 147 (.load 1 false (.t 146)), xo 148 (.bin .eql (.t 147) (xi 0))]) (.cond 148 (xr [xo 149 (.fad 4 (.t 9)), xo 150 (.load 1 false (.t 149)), xv 11 150]) (.skip))) (.seq (xr [xo 152 (.bin .eql (.t 37) (xi 13)), xv 151 152]) (.cond 151 (.seq (xr [xo 153 (.fad 0 (.t 4)), xo 154 (.load 1 false (.t 153)), xv 155 2, xo 156 (.iad 3 (.t 154) (.t 155)), xo 157 (.fad 2 (.t 156)), ⟨none, .store 1 (.t 157) (xi 1), none⟩]) (.seq (xr [xo 158 (.load 3 true (.t 4)), ⟨none, .store 3 (.t 6) (.t 158), none⟩, xo 7 (.mv (xi 0))]) (.ret))) (.seq (xr [xo 39 (.load 3 true (.t 4)), xv 40 2, xo 41 (.load 5 true (.t 9)), xo 42 (.call 86 [true, false, false] [.t 39, .t 40, .t 41]), xv 38 42, xo 43 (.ext (.t 38) 0), xo 44 (.ext (.t 38) 1), xo 12 (.alloc [.nil, .nil, .nil]), ⟨none, .store 3 (.t 12) (.t 43), none⟩, xv 13 44]) (.seq (.seq (xr [xv 45 13]) (.blk 1 (.seq (xr [xo 47 (.bin .eql (.t 45) (xi 1)), xv 46 47]) (.cond 46 (.seq (xr [xo 48 (.load 3 true (.t 12)), ⟨none, .store 3 (.t 6) (.t 48), none⟩, xo 7 (.mv (xi 4))]) (.ret)) (.seq (xr [xo 50 (.bin .eql (.t 45) (xi 2)), xv 49 50]) (.cond 49 (.seq (xr [xo 51 (.fad 0 (.t 12)), xo 52 (.load 1 false (.t 51)), xv 53 2, xo 54 (.iad 3 (.t 52) (.t 53)), xo 55 (.fad 2 (.t 54)), ⟨none, .store 1 (.t 55) (xi 2), none⟩]) (.seq (xr [xo 56 (.load 3 true (.t 12)), ⟨none, .store 3 (.t 6) (.t 56), none⟩, xo 7 (.mv (xi 0))]) (.ret))) (.skip))))))) (xr [xo 57 (.load 3 true (.t 12)), ⟨none, .store 3 (.t 4) (.t 57), none⟩]))))))))))))))))))))) (.seq (xr [xo 159 (.load 2 true (.t 3)), xo 160 (.load 3 true (.t 4)), xv 161 2, xv 162 11, xo 163 (.call 87 [false, true, false, false] [.t 159, .t 160, .t 161, .t 162]), ⟨none, .store 3 (.t 6) (.t 163), none⟩, xo 7 (.mv (xi 0))]) (.ret)))))))⟩
theorem c66 : chkC Try.prog num Try.f150.ntmps m66.body ((Try.f150.body).getD .skip) = true := by kernel_rfl
def m86 : MFn := ⟨115, [.cell 6 3 true, .t 7], .seq (xr [xo 3 (.box (.t 0)), xo 5 (.box (.t 2)), xo 6 (.alloc [.nil, .nil, .nil]), xo 7 (.mv (xi 0))]) (.seq (xr [xo 12 (.fad 0 (.t 3)), xo 13 (.load 1 false (.t 12)), xv 14 1, xo 15 (.iad 3 (.t 13) (.t 14)), xo 16 (.fad 1 (.t 15)), xo 17 (.load 1 false (.t 16)), xv 8 17]) (.seq (xr [xo 18 (.fad 1 (.t 3)), xo 19 (.load 1 false (.t 18)), xo 20 (.fad 4 (.t 5)), xo 21 (.load 1 false (.t 20)), xo 22 (.iad 3 (.t 19) (.t 21)), xo 23 (.load 3 true (.t 22)), xo 9 (.alloc [.int .i64 0, .nil, .bool false]), ⟨none, .store 3 (.t 9) (.t 23), none⟩]) (.seq (xr [xo 10 (.mv (xi 0)), xo 11 (.mv (xi 0))]) (.seq (.seq (xr [xo 24 (.fad 0 (.t 5)), xo 25 (.load 1 false (.t 24))]) (.blk 0 (.seq (xr [xo 46 (.bin .eql (.t 25) (xi 5)), xv 45 46]) (.cond 45 (.dreg (.take 0 (xo 48 (.load 3 true (.t 9))) (.take 1 (xv 49 8) (.only 2 [] (xo 50 (.fad 2 (.t 5))) (.only 3 [] (xo 51 (.load 1 false (.t 50))) (.only 4 [1] (xo 52 (.iad 1 (.t 49) (.t 51))) (.only 5 [] (xo 53 (.load 1 false (.t 52))) (.only 6 [0] (xo 54 (.call 93 [false, false] [.t 48, .t 53])) (.only 7 [] (xv 47 54) (.take 8 (xo 55 (.ext (.t 47) 0)) (.take 9 (xo 56 (.ext (.t 47) 1)) (.only 10 [0, 1, 8] ⟨none, .store 3 (.t 9) (.t 55), none⟩ (.only 11 [0, 1, 8, 9] (xv 11 56) (.done)))))))))))))) (.seq (xr [xo 58 (.bin .eql (.t 25) (xi 7)), xv 57 58]) (.cond 57 (.seq (.dreg (.take 0 (xo 60 (.load 3 true (.t 9))) (.take 1 (xv 61 8) (.only 2 [] (xo 62 (.fad 2 (.t 5))) (.only 3 [] (xo 63 (.load 1 false (.t 62))) (.only 4 [1] (xo 64 (.iad 1 (.t 61) (.t 63))) (.only 5 [] (xo 65 (.load 1 false (.t 64))) (.only 6 [0] (xo 66 (.call 93 [false, false] [.t 60, .t 65])) (.only 7 [] (xv 59 66) (.take 8 (xo 67 (.ext (.t 59) 0)) (.take 9 (xo 68 (.ext (.t 59) 1)) (.only 10 [0, 1, 8] ⟨none, .store 3 (.t 9) (.t 67), none⟩ (.only 11 [0, 1, 8, 9] (xv 11 68) (.done)))))))))))))) (.seq (xr [xv 69 11, xo 70 (.bin .neq (.t 69) (xi 2))]) (.cond 70 (.seq (.dreg (.take 0 (xv 71 8) (.take 1 (xo 72 (.fad 1 (.t 5))) (.take 2 (xo 73 (.load 1 false (.t 72))) (.only 3 [] (xv 74 11) (.only 4 [] (xo 75 (.bin .eql (.t 74) (xi 0))) (.only 5 [] (xo 76 (.call 85 [false] [.t 75])) (.only 6 [0, 1, 2] (xo 77 (.iad 1 (.t 71) (.t 73))) (.only 7 [0, 1, 2] ⟨none, .store 1 (.t 77) (.t 76), none⟩ (.done)))))))))) (xr [xo 11 (.mv (xi 0))])) (.skip)))) (.seq (xr [xo 79 (.bin .eql (.t 25) (xi 9)), xv 78 79]) (.cond 78 (xr [xo 81 (.load 3 true (.t 9)), xo 82 (.call 94 [false] [.t 81]), xv 80 82, xo 83 (.ext (.t 80) 0), xo 84 (.ext (.t 80) 1), ⟨none, .store 3 (.t 9) (.t 83), none⟩, xv 11 84]) (.seq (xr [xo 86 (.bin .eql (.t 25) (xi 6)), xv 85 86]) (.cond 85 (.seq (xr [xo 88 (.load 3 true (.t 9)), xo 89 (.call 95 [false] [.t 88]), xv 87 89, xo 90 (.ext (.t 87) 0), xo 91 (.ext (.t 87) 1), xo 92 (.ext (.t 87) 2), ⟨none, .store 3 (.t 9) (.t 90), none⟩, xv 10 91, xv 11 92]) (.seq (xr [xv 93 11, xo 94 (.bin .neq (.t 93) (xi 1))]) (.cond 94 (.seq (xr [xv 95 8, xo 96 (.fad 1 (.t 5)), xo 97 (.load 1 false (.t 96)), xv 98 10, xo 99 (.iad 1 (.t 95) (.t 97)), ⟨none, .store 1 (.t 99) (.t 98), none⟩]) (.seq (.dreg (.take 0 (xv 100 8) (.take 1 (xo 101 (.fad 3 (.t 5))) (.take 2 (xo 102 (.load 1 false (.t 101))) (.only 3 [] (xv 103 11) (.only 4 [] (xo 104 (.bin .eql (.t 103) (xi 0))) (.only 5 [] (xo 105 (.call 85 [false] [.t 104])) (.only 6 [0, 1, 2] (xo 106 (.iad 1 (.t 100) (.t 102))) (.only 7 [0, 1, 2] ⟨none, .store 1 (.t 106) (.t 105), none⟩ (.done)))))))))) (xr [xo 11 (.mv (xi 0))]))) (.skip)))) (.seq (xr [xo 27 (.load 3 true (.t 9)), xo 28 (.call 95 [false] [.t 27]), xv 26 28, xo 29 (.ext (.t 26) 0), xo 30 (.ext (.t 26) 1), xo 31 (.ext (.t 26) 2), ⟨none, .store 3 (.t 9) (.t 29), none⟩, xv 10 30, xv 11 31]) (.seq (xr [xv 32 8, xo 33 (.fad 1 (.t 5)), xo 34 (.load 1 false (.t 33)), xv 35 10, xo 36 (.iad 1 (.t 32) (.t 34)), ⟨none, .store 1 (.t 36) (.t 35), none⟩]) (.seq (.dreg (.take 0 (xv 37 8) (.take 1 (xo 38 (.fad 3 (.t 5))) (.take 2 (xo 39 (.load 1 false (.t 38))) (.take 4 (xv 41 11) (.only 3 [] (xo 40 (.mkSl [xz] 4 [(0, xi 1), (1, xi 0), (2, xi 0), (3, xi 2)])) (.only 5 [4] (xo 42 (.iad 1 (.t 40) (.t 41))) (.only 6 [] (xo 43 (.load 1 false (.t 42))) (.only 7 [0, 1, 2, 4] (xo 44 (.iad 1 (.t 37) (.t 39))) (.only 8 [0, 1, 2, 4] ⟨none, .store 1 (.t 44) (.t 43), none⟩ (.done))))))))))) (xr [xo 11 (.mv (xi 0))])))))))))))))) (.seq (xr [xo 107 (.fad 1 (.t 3)), xo 108 (.load 1 false (.t 107)), xo 109 (.fad 4 (.t 5)), xo 110 (.load 1 false (.t 109)), xo 111 (.load 3 true (.t 9)), xo 112 (.iad 3 (.t 108) (.t 110)), ⟨none, .store 3 (.t 112) (.t 111), none⟩]) (.seq (xr [xo 113 (.load 3 true (.t 3)), xv 114 11, ⟨none, .store 3 (.t 6) (.t 113), none⟩, xv 7 114]) (.ret)))))))⟩
theorem c86 : chkC Try.prog num Try.f234.ntmps m86.body ((Try.f234.body).getD .skip) = true := by kernel_rfl
def m87 : MFn := ⟨32, [.cell 8 3 true], .seq (xr [xo 4 (.box (.t 0)), xo 5 (.box (.t 1)), xo 8 (.alloc [.nil, .nil, .nil])]) (.seq (.seq (xr [xv 9 3, xo 10 (.fad 1 (.t 4)), xo 11 (.load 1 false (.t 10)), xv 12 2, xo 13 (.iad 1 (.t 11) (.t 12)), xo 14 (.load 1 false (.t 13)), xo 15 (.len (.t 14)), xo 16 (.bin .sub (.t 15) (xi 1)), xo 17 (.call 64 [false, false, false] [.t 9, xi 0, .t 16]), xo 18 (.un .«not» (.t 17))]) (.cond 18 (.seq (xr [xo 19 (.fad 0 (.t 5)), xo 20 (.load 1 false (.t 19)), xv 21 2, xo 22 (.iad 3 (.t 20) (.t 21)), xo 23 (.fad 2 (.t 22)), ⟨none, .store 1 (.t 23) (xi 2), none⟩]) (.seq (xr [xo 24 (.load 3 true (.t 5)), ⟨none, .store 3 (.t 8) (.t 24), none⟩]) (.ret))) (.skip))) (.seq (xr [xo 25 (.fad 0 (.t 5)), xo 26 (.load 1 false (.t 25)), xv 27 2, xv 28 3, xo 29 (.iad 3 (.t 26) (.t 27)), xo 30 (.fad 0 (.t 29)), ⟨none, .store 1 (.t 30) (.t 28), none⟩]) (.seq (xr [xo 31 (.load 3 true (.t 5)), ⟨none, .store 3 (.t 8) (.t 31), none⟩]) (.ret))))⟩
theorem c87 : chkC Try.prog num Try.f235.ntmps m87.body ((Try.f235.body).getD .skip) = true := by kernel_rfl
open Nat renaming reduceAdd → qA, reduceMul → qB, reduceEqDiff → qC, reduceBEq → qD
open Int renaming reduceToNat → qE, reduceEq → qF, reduceLT → qG, reduceLE → qH
open List renaming getD_eq_getElem?_getD → gD

/-- A source that is handed over whole: its rows, by name. -/
@[simp] def srcV (s : Source) : AV := .agg [.ns 0 0 s.ths.length, .ns 1 0 s.chs.length, .ns 2 0 s.tr.length]
@[simp] def srcF (s : Source) : FP := [(0, some (3, threads .own s.ths), none), (1, some (3, chans .own s.chs), none), (2, some (2, notes s.tr), none)]

def l4GoF (p : Prog) (s : Source) (i : Nat) (at_ : Int) : Source :=
  if within at_ 0 ((p.bods.getD i []).length - 1) = false then ⟨s.ths.set i ⟨(s.ths.getD i default).at_, (s.ths.getD i default).regs, 2⟩, s.chs, s.tr⟩
  else ⟨s.ths.set i ⟨at_, (s.ths.getD i default).regs, (s.ths.getD i default).st⟩, s.chs, s.tr⟩

theorem srcF_hb (s : Source) : HB (preH (srcF s)) 10 := by
  refine hb_cons _ _ _ _ (hb_cons _ _ _ _ (hb_cons _ _ _ _ ((hb_nil _).2 trivial) (by decide) ?_) (by decide) ?_) (by decide) ?_ <;> simp

theorem l4Go_ok (p : Prog) (s : Source) (i : Nat) (at_ : Int) (hi : i < s.ths.length) (hb : i < p.bods.length) (hl : (p.bods.getD i []).length < 2 ^ 40) :
    CallOk Try.prog num 87 [.agg (progC .bw p), srcV s, .int .i64 i, .int .i64 at_] (srcF s) (.agg (sourceC .own (l4GoF p s i at_))) := by
  refine enter (m := m87) (f := 87) (fn := Try.f235) Try.func235 (by kernel_rfl) rfl c87 rfl (by simp [Try.f235]) (by simp [bnds, bnd, nf_sl, nf_int, nf_bool, nf_str, ints_bnd]) (srcF_hb s) ?_
  unfold m87
  have hw1 : IntKind.i64.wrap (((p.bods.getD i []).length : Int) - 1) = ((p.bods.getD i []).length : Int) - 1 := wrap64 (by omega) (by omega)
  have gt : ∀ r, ((threads .own s.ths).set i r).getD i [] = r := fun r => getD_set_self _ _ _ _ (by rw [threads_length]; exact hi)
  simp only [go_sem, qA, qB, qC, qD, qE, qF, qG, qH, srcF, srcV, bodies_getD .bw p.bods i hb, Int.toNat_natCast, hw1]
  repeat refine K ?_
  refine CA [] (l1In_ok at_ 0 ((p.bods.getD i []).length - 1)) ?_
  try simp only [go_sem, qA, qB, qC, qD, qE, qF, qG, qH]
  repeat refine K ?_
  cases hw : within at_ 0 ((p.bods.getD i []).length - 1)
  · simp only [go_sem, qA, qB, qC, qD, qE, qF, qG, qH, hw, threads_getD .own s.ths i hi, Int.toNat_natCast, gt]
    repeat refine K ?_
    apply fin_one
    · exact Sub.refl _
    · simp [-List.drop_one, -gD, threads_set, l4GoF, hw, srcF] <;> (first | rfl | exact ⟨rfl, rfl⟩ | exact ⟨rfl, rfl, rfl⟩ | skip)
  · simp only [go_sem, qA, qB, qC, qD, qE, qF, qG, qH, hw, threads_getD .own s.ths i hi, Int.toNat_natCast, gt]
    repeat refine K ?_
    apply fin_one
    · exact Sub.refl _
    · simp [-List.drop_one, -gD, threads_set, l4GoF, hw, srcF] <;> (first | rfl | exact ⟨rfl, rfl⟩ | exact ⟨rfl, rfl, rfl⟩ | skip)

/-- A place of a channel, as the reference does it. -/
def l4ChanF (t : Thread) (c : Chan) (x : Ins) : Thread × Chan × Int :=
  if x.op = 5 then (t, (chanSend c (reg t x.a)).1, (chanSend c (reg t x.a)).2)
  else if x.op = 7 then
    if (chanSend c (reg t x.a)).2 = 2 then (t, (chanSend c (reg t x.a)).1, 2) else (setReg t x.r (numb (decide ((chanSend c (reg t x.a)).2 = 0))), (chanSend c (reg t x.a)).1, 0)
  else if x.op = 9 then (t, (chanClose c).1, (chanClose c).2)
  else if x.op = 6 then
    if (chanTake c).2.2 = 1 then (t, (chanTake c).1, 1) else (setReg (setReg t x.r (chanTake c).2.1) x.b (numb (decide ((chanTake c).2.2 = 0))), (chanTake c).1, 0)
  else (setReg (setReg t x.r (chanTake c).2.1) x.b ([1, 0, 0, 2].getD (chanTake c).2.2.toNat 0), (chanTake c).1, 0)

theorem chanTake_code (c : Chan) : 0 ≤ (chanTake c).2.2 ∧ (chanTake c).2.2 < 4 := by
  unfold chanTake
  split
  · simp
  · split
    · simp
    · split <;> simp

set_option maxHeartbeats 4000000 in
theorem l4Chan_ok (s : Source) (i : Nat) (x : Ins) (hi : i < s.ths.length) (n0 : 0 ≤ x.n) (hj : x.n.toNat < s.chs.length) (hr : (s.ths.getD i default).regs.length = 4) (hc : (s.chs.getD x.n.toNat default).list.length < 2 ^ 40)
    (r0 : 0 ≤ x.r) (r1 : x.r.toNat < 4) (a0 : 0 ≤ x.a) (a1 : x.a.toNat < 4) (b0 : 0 ≤ x.b) (b1 : x.b.toNat < 4) :
    CallOk Try.prog num 86 [srcV s, .int .i64 i, .agg (insC x)] (srcF s) (.tup [.agg (sourceC .own ⟨s.ths.set i (l4ChanF (s.ths.getD i default) (s.chs.getD x.n.toNat default) x).1, s.chs.set x.n.toNat (l4ChanF (s.ths.getD i default) (s.chs.getD x.n.toNat default) x).2.1, s.tr⟩),
      .int .i64 (l4ChanF (s.ths.getD i default) (s.chs.getD x.n.toNat default) x).2.2]) := by
  refine enter (m := m86) (f := 86) (fn := Try.f234) Try.func234 (by kernel_rfl) rfl c86 rfl (by simp [Try.f234]) (by simp [bnds, bnd, nf_sl, nf_int, nf_bool, nf_str, ints_bnd]) (srcF_hb s) ?_
  unfold m86
  have gt : ∀ r, ((threads .own s.ths).set i r).getD i [] = r := fun r => getD_set_self _ _ _ _ (by rw [threads_length]; exact hi)
  have gc : ∀ r, ((chans .own s.chs).set x.n.toNat r).getD x.n.toNat [] = r := fun r => getD_set_self _ _ _ _ (by rw [chans_length]; exact hj)
  have ra : x.a.toNat < (s.ths.getD i default).regs.length := by omega
  have rr : x.r.toNat < (s.ths.getD i default).regs.length := by omega
  have rb : x.b.toNat < (s.ths.getD i default).regs.length := by omega
  have rbs : ∀ v, x.b.toNat < ((s.ths.getD i default).regs.set x.r.toNat v).length := fun v => by rw [List.length_set]; exact rb
  simp only [go_sem, qA, qB, qC, qD, qE, qF, qG, qH, srcF, srcV, threads_getD .own s.ths i hi, chans_getD .own s.chs x.n.toNat hj, gt, gc, Int.toNat_natCast, ints_getD (s.ths.getD i default).regs x.a.toNat ra]
  repeat refine K ?_
  by_cases h5 : x.op = 5
  · simp only [go_sem, qA, qB, qC, qD, qE, qF, qG, qH, h5, gt, gc, Int.toNat_natCast, ints_getD (s.ths.getD i default).regs x.a.toNat ra, ints_getD (s.ths.getD i default).regs x.r.toNat rr]
    repeat refine K ?_
    refine DA [] (specChanSend_ok (s.chs.getD x.n.toNat default) ((s.ths.getD i default).regs.getD x.a.toNat 0) (by omega)) ?_
    try simp only [go_sem, qA, qB, qC, qD, qE, qF, qG, qH]
    repeat refine K ?_
    try simp only [go_sem, qA, qB, qC, qD, qE, qF, qG, qH, h5, gt, gc, Int.toNat_natCast, ints_getD (s.ths.getD i default).regs x.a.toNat ra, ints_getD (s.ths.getD i default).regs x.r.toNat rr]
    repeat refine K ?_
    apply fin_tup (by simp)
    · refine Sub.trans (Sub.foldAt 0 1 13 rfl (by simp [-gD] <;> omega) rfl (by decide) (by decide) rfl (by simp <;> omega)) ?_
      simp only [fS, qA, qC]
      refine Sub.trans (Sub.foldAt 1 1 16 rfl (by simp [-gD] <;> omega) rfl (by decide) (by decide) rfl (by simp <;> omega)) ?_
      simp only [fS, qA, qC]
      exact Sub.refl _
    · simp [-List.drop_one, -gD, threads_set, chans_set, l4ChanF, reg, setReg, h5] <;> (first | rfl | exact ⟨rfl, rfl⟩ | exact ⟨rfl, rfl, rfl⟩ | skip)
  by_cases h7 : x.op = 7
  · simp only [go_sem, qA, qB, qC, qD, qE, qF, qG, qH, h7, gt, gc, Int.toNat_natCast, ints_getD (s.ths.getD i default).regs x.a.toNat ra, ints_getD (s.ths.getD i default).regs x.r.toNat rr]
    repeat refine K ?_
    refine DA [] (specChanSend_ok (s.chs.getD x.n.toNat default) ((s.ths.getD i default).regs.getD x.a.toNat 0) (by omega)) ?_
    try simp only [go_sem, qA, qB, qC, qD, qE, qF, qG, qH]
    repeat refine K ?_
    try simp only [go_sem, qA, qB, qC, qD, qE, qF, qG, qH, h7, gt, gc, Int.toNat_natCast, ints_getD (s.ths.getD i default).regs x.a.toNat ra, ints_getD (s.ths.getD i default).regs x.r.toNat rr]
    repeat refine K ?_
    by_cases hk : (chanSend (s.chs.getD x.n.toNat default) ((s.ths.getD i default).regs.getD x.a.toNat 0)).2 = 2
    · simp only [go_sem, qA, qB, qC, qD, qE, qF, qG, qH, h7, hk, gt, gc, Int.toNat_natCast, ints_getD (s.ths.getD i default).regs x.a.toNat ra, ints_getD (s.ths.getD i default).regs x.r.toNat rr]
      repeat refine K ?_
      apply fin_tup (by simp)
      · refine Sub.trans (Sub.foldAt 0 1 13 rfl (by simp [-gD] <;> omega) rfl (by decide) (by decide) rfl (by simp <;> omega)) ?_
        simp only [fS, qA, qC]
        refine Sub.trans (Sub.foldAt 1 1 16 rfl (by simp [-gD] <;> omega) rfl (by decide) (by decide) rfl (by simp <;> omega)) ?_
        simp only [fS, qA, qC]
        exact Sub.refl _
      · simp [-List.drop_one, -gD, threads_set, chans_set, l4ChanF, reg, setReg, h7, hk] <;> (first | rfl | exact ⟨rfl, rfl⟩ | exact ⟨rfl, rfl, rfl⟩ | skip)
    · simp only [go_sem, qA, qB, qC, qD, qE, qF, qG, qH, h7, hk, gt, gc, Int.toNat_natCast, ints_getD (s.ths.getD i default).regs x.a.toNat ra, ints_getD (s.ths.getD i default).regs x.r.toNat rr]
      repeat refine K ?_
      refine DA [] (l4Bit_ok (decide ((chanSend (s.chs.getD x.n.toNat default) ((s.ths.getD i default).regs.getD x.a.toNat 0)).2 = 0))) ?_
      try simp only [go_sem, qA, qB, qC, qD, qE, qF, qG, qH]
      repeat refine K ?_
      try simp only [go_sem, qA, qB, qC, qD, qE, qF, qG, qH, h7, hk, gt, gc, Int.toNat_natCast, ints_getD (s.ths.getD i default).regs x.a.toNat ra, ints_getD (s.ths.getD i default).regs x.r.toNat rr]
      repeat refine K ?_
      apply fin_tup (by simp)
      · refine Sub.trans (Sub.foldAt 0 1 13 rfl (by simp [-gD] <;> omega) rfl (by decide) (by decide) rfl (by simp <;> omega)) ?_
        simp only [fS, qA, qC]
        refine Sub.trans (Sub.foldAt 1 1 16 rfl (by simp [-gD] <;> omega) rfl (by decide) (by decide) rfl (by simp <;> omega)) ?_
        simp only [fS, qA, qC]
        exact Sub.refl _
      · simp [-List.drop_one, -gD, threads_set, chans_set, l4ChanF, reg, setReg, h7, hk] <;> (first | rfl | exact ⟨rfl, rfl⟩ | exact ⟨rfl, rfl, rfl⟩ | skip)
  by_cases h9 : x.op = 9
  · simp only [go_sem, qA, qB, qC, qD, qE, qF, qG, qH, h9, gt, gc, Int.toNat_natCast, ints_getD (s.ths.getD i default).regs x.a.toNat ra, ints_getD (s.ths.getD i default).regs x.r.toNat rr]
    repeat refine K ?_
    refine CA [] (specChanClose_ok (s.chs.getD x.n.toNat default) (by omega)) ?_
    try simp only [go_sem, qA, qB, qC, qD, qE, qF, qG, qH]
    repeat refine K ?_
    try simp only [go_sem, qA, qB, qC, qD, qE, qF, qG, qH, h9, gt, gc, Int.toNat_natCast, ints_getD (s.ths.getD i default).regs x.a.toNat ra, ints_getD (s.ths.getD i default).regs x.r.toNat rr]
    repeat refine K ?_
    apply fin_tup (by simp)
    · refine Sub.trans (Sub.foldAt 0 1 13 rfl (by simp [-gD] <;> omega) rfl (by decide) (by decide) rfl (by simp <;> omega)) ?_
      simp only [fS, qA, qC]
      refine Sub.trans (Sub.foldAt 1 1 16 rfl (by simp [-gD] <;> omega) rfl (by decide) (by decide) rfl (by simp <;> omega)) ?_
      simp only [fS, qA, qC]
      exact Sub.refl _
    · simp [-List.drop_one, -gD, threads_set, chans_set, l4ChanF, reg, setReg, h9] <;> (first | rfl | exact ⟨rfl, rfl⟩ | exact ⟨rfl, rfl, rfl⟩ | skip)
  by_cases h6 : x.op = 6
  · simp only [go_sem, qA, qB, qC, qD, qE, qF, qG, qH, h6, gt, gc, Int.toNat_natCast, ints_getD (s.ths.getD i default).regs x.a.toNat ra, ints_getD (s.ths.getD i default).regs x.r.toNat rr]
    repeat refine K ?_
    refine CA [] (specChanTake_ok (s.chs.getD x.n.toNat default) (by omega)) ?_
    try simp only [go_sem, qA, qB, qC, qD, qE, qF, qG, qH]
    repeat refine K ?_
    try simp only [go_sem, qA, qB, qC, qD, qE, qF, qG, qH, h6, gt, gc, Int.toNat_natCast, ints_getD (s.ths.getD i default).regs x.a.toNat ra, ints_getD (s.ths.getD i default).regs x.r.toNat rr]
    repeat refine K ?_
    by_cases hk : (chanTake (s.chs.getD x.n.toNat default)).2.2 = 1
    · simp only [go_sem, qA, qB, qC, qD, qE, qF, qG, qH, h6, hk, gt, gc, Int.toNat_natCast, ints_getD (s.ths.getD i default).regs x.a.toNat ra, ints_getD (s.ths.getD i default).regs x.r.toNat rr]
      repeat refine K ?_
      apply fin_tup (by simp)
      · refine Sub.trans (Sub.foldAt 0 1 13 rfl (by simp [-gD] <;> omega) rfl (by decide) (by decide) rfl (by simp <;> omega)) ?_
        simp only [fS, qA, qC]
        refine Sub.trans (Sub.foldAt 1 1 16 rfl (by simp [-gD] <;> omega) rfl (by decide) (by decide) rfl (by simp <;> omega)) ?_
        simp only [fS, qA, qC]
        exact Sub.refl _
      · simp [-List.drop_one, -gD, threads_set, chans_set, l4ChanF, reg, setReg, h6, hk] <;> (first | rfl | exact ⟨rfl, rfl⟩ | exact ⟨rfl, rfl, rfl⟩ | skip)
    · simp only [go_sem, qA, qB, qC, qD, qE, qF, qG, qH, h6, hk, gt, gc, Int.toNat_natCast, ints_getD (s.ths.getD i default).regs x.a.toNat ra, ints_getD (s.ths.getD i default).regs x.r.toNat rr]
      repeat refine K ?_
      refine DA [] (l4Bit_ok (decide ((chanTake (s.chs.getD x.n.toNat default)).2.2 = 0))) ?_
      try simp only [go_sem, qA, qB, qC, qD, qE, qF, qG, qH]
      repeat refine K ?_
      try simp only [go_sem, qA, qB, qC, qD, qE, qF, qG, qH, h6, hk, gt, gc, Int.toNat_natCast, ints_getD (s.ths.getD i default).regs x.a.toNat ra, ints_getD (s.ths.getD i default).regs x.r.toNat rr, ints_getD _ x.b.toNat (rbs _)]
      repeat refine K ?_
      apply fin_tup (by simp)
      · refine Sub.trans (Sub.foldAt 0 1 13 rfl (by simp [-gD] <;> omega) rfl (by decide) (by decide) rfl (by simp <;> omega)) ?_
        simp only [fS, qA, qC]
        refine Sub.trans (Sub.foldAt 1 1 16 rfl (by simp [-gD] <;> omega) rfl (by decide) (by decide) rfl (by simp <;> omega)) ?_
        simp only [fS, qA, qC]
        exact Sub.refl _
      · simp [-List.drop_one, -gD, threads_set, chans_set, l4ChanF, reg, setReg, h6, hk] <;> (first | rfl | exact ⟨rfl, rfl⟩ | exact ⟨rfl, rfl, rfl⟩ | skip)
  simp only [go_sem, qA, qB, qC, qD, qE, qF, qG, qH, h5, h6, h7, h9, gt, gc, Int.toNat_natCast, ints_getD (s.ths.getD i default).regs x.a.toNat ra, ints_getD (s.ths.getD i default).regs x.r.toNat rr]
  repeat refine K ?_
  refine CA [] (specChanTake_ok (s.chs.getD x.n.toNat default) (by omega)) ?_
  try simp only [go_sem, qA, qB, qC, qD, qE, qF, qG, qH]
  repeat refine K ?_
  obtain ⟨c0, c1⟩ := chanTake_code (s.chs.getD x.n.toNat default)
  have hk : (chanTake (s.chs.getD x.n.toNat default)).2.2.toNat < 4 := by omega
  have hl4 : ints [1, 0, 0, 2] = [[AV.int .i64 1], [.int .i64 0], [.int .i64 0], [.int .i64 2]] := rfl
  have hg : ([[AV.int .i64 1], [.int .i64 0], [.int .i64 0], [.int .i64 2]] : List (List AV)).getD (chanTake (s.chs.getD x.n.toNat default)).2.2.toNat [] = [.int .i64 ([1, 0, 0, 2].getD (chanTake (s.chs.getD x.n.toNat default)).2.2.toNat 0)] := by
    rw [← hl4]
    exact ints_getD _ _ hk
  try simp only [go_sem, qA, qB, qC, qD, qE, qF, qG, qH, h5, h6, h7, h9, gt, gc, Int.toNat_natCast, ints_getD (s.ths.getD i default).regs x.a.toNat ra, ints_getD (s.ths.getD i default).regs x.r.toNat rr, ints_getD _ x.b.toNat (rbs _), hg]
  repeat refine K ?_
  apply fin_tup (by simp)
  · refine Sub.trans (Sub.foldAt 0 1 13 rfl (by simp [-gD] <;> omega) rfl (by decide) (by decide) rfl (by simp <;> omega)) ?_
    simp only [fS, qA, qC]
    refine Sub.trans (Sub.foldAt 1 1 16 rfl (by simp [-gD] <;> omega) rfl (by decide) (by decide) rfl (by simp <;> omega)) ?_
    simp only [fS, qA, qC]
    exact Sub.refl _
  · simp [-List.drop_one, -gD, threads_set, chans_set, l4ChanF, reg, setReg, h5, h6, h7, h9] <;> (first | rfl | exact ⟨rfl, rfl⟩ | exact ⟨rfl, rfl, rfl⟩ | skip)

def l4StepF (p : Prog) (s : Source) (i : Nat) : Source × Int :=
  if (ins p s i).op = 1 then (l4GoF p ⟨s.ths.set i (setReg (s.ths.getD i default) (ins p s i).r (ins p s i).n), s.chs, s.tr⟩ i ((s.ths.getD i default).at_ + 1), 0)
  else if (ins p s i).op = 2 ∨ (ins p s i).op = 3 ∨ (ins p s i).op = 4 then
    (l4GoF p ⟨s.ths.set i (setReg (s.ths.getD i default) (ins p s i).r (compute (ins p s i).op (reg (s.ths.getD i default) (ins p s i).a) (reg (s.ths.getD i default) (ins p s i).b))), s.chs, s.tr⟩ i ((s.ths.getD i default).at_ + 1), 0)
  else if (ins p s i).op = 10 then if (s.tr.length : Int) = 4000 then (s, 3) else (l4GoF p ⟨s.ths, s.chs, s.tr ++ [⟨i, reg (s.ths.getD i default) (ins p s i).a⟩]⟩ i ((s.ths.getD i default).at_ + 1), 0)
  else if (ins p s i).op = 11 then (l4GoF p s i (ins p s i).n, 0)
  else if (ins p s i).op = 12 then (l4GoF p s i (if reg (s.ths.getD i default) (ins p s i).a = 0 then (ins p s i).n else (s.ths.getD i default).at_ + 1), 0)
  else if (ins p s i).op = 13 then (⟨s.ths.set i ⟨(s.ths.getD i default).at_, (s.ths.getD i default).regs, 1⟩, s.chs, s.tr⟩, 0)
  else if (l4ChanF (s.ths.getD i default) (s.chs.getD (ins p s i).n.toNat default) (ins p s i)).2.2 = 1 then
    (⟨s.ths.set i (l4ChanF (s.ths.getD i default) (s.chs.getD (ins p s i).n.toNat default) (ins p s i)).1, s.chs.set (ins p s i).n.toNat (l4ChanF (s.ths.getD i default) (s.chs.getD (ins p s i).n.toNat default) (ins p s i)).2.1, s.tr⟩, 4)
  else if (l4ChanF (s.ths.getD i default) (s.chs.getD (ins p s i).n.toNat default) (ins p s i)).2.2 = 2 then
    (⟨s.ths.set i ⟨(l4ChanF (s.ths.getD i default) (s.chs.getD (ins p s i).n.toNat default) (ins p s i)).1.at_, (l4ChanF (s.ths.getD i default) (s.chs.getD (ins p s i).n.toNat default) (ins p s i)).1.regs, 2⟩, s.chs.set (ins p s i).n.toNat (l4ChanF (s.ths.getD i default) (s.chs.getD (ins p s i).n.toNat default) (ins p s i)).2.1, s.tr⟩, 0)
  else (l4GoF p ⟨s.ths.set i (l4ChanF (s.ths.getD i default) (s.chs.getD (ins p s i).n.toNat default) (ins p s i)).1, s.chs.set (ins p s i).n.toNat (l4ChanF (s.ths.getD i default) (s.chs.getD (ins p s i).n.toNat default) (ins p s i)).2.1, s.tr⟩ i ((s.ths.getD i default).at_ + 1), 0)

set_option maxHeartbeats 4000000 in
theorem l4Step_ok (p : Prog) (s : Source) (i : Nat) (hp : SmallP p) (hs : Small s) (h : sourceOk p s = true) (hi : i < s.ths.length) (htr : s.tr.length ≤ 4000) : CallOk Try.prog num 66 [.agg (progC .bw p), srcV s, .int .i64 i] (srcF s) (.tup [.agg (sourceC .own (l4StepF p s i).1), .int .i64 (l4StepF p s i).2]) := by
  have w1 := hi
  obtain ⟨hs1, hs2, hs3, hs4, hs5⟩ := hs
  refine enter (m := m66) (f := 66) (fn := Try.f150) Try.func150 (by kernel_rfl) rfl c66 rfl (by simp [Try.f150]) (by simp [bnds, bnd, nf_sl, nf_int, nf_bool, nf_str, ints_bnd]) (srcF_hb s) ?_
  unfold m66
  have ha := at_of h hi
  have e1 := ha.at0
  have e2 := ha.at1
  have e3 := ha.hb
  have e4 := ha.regs
  have e5 := ha.len
  have r0 := ha.r0
  have r1 := ha.r1
  have a0 := ha.a0
  have a1 := ha.a1
  have b0 := ha.b0
  have b1 := ha.b1
  have hx : (p.bods.getD i []).getD (s.ths.getD i default).at_.toNat default = ins p s i := rfl
  have gt : ∀ r, ((threads .own s.ths).set i r).getD i [] = r := fun r => getD_set_self _ _ _ _ (by rw [threads_length]; exact w1)
  have ra : (ins p s i).a.toNat < (s.ths.getD i default).regs.length := by omega
  have rr : (ins p s i).r.toNat < (s.ths.getD i default).regs.length := by omega
  have rb : (ins p s i).b.toNat < (s.ths.getD i default).regs.length := by omega
  have hw1 : IntKind.i64.wrap ((s.ths.getD i default).at_ + 1) = (s.ths.getD i default).at_ + 1 := wrap64 (by omega) (by omega)
  simp only [go_sem, qA, qB, qC, qD, qE, qF, qG, qH, srcF, srcV, gt, threads_getD .own s.ths i w1, bodies_getD .bw p.bods i ha.hb, Int.toNat_natCast, hw1, inss_getD (p.bods.getD i []) (s.ths.getD i default).at_.toNat ha.at1, hx]
  repeat refine K ?_
  have hself : s.ths.set i ⟨(s.ths.getD i default).at_, (s.ths.getD i default).regs, (s.ths.getD i default).st⟩ = s.ths := set_getD_self s.ths i default w1
  by_cases h1 : (ins p s i).op = 1
  · simp only [go_sem, qA, qB, qC, qD, qE, qF, qG, qH, h1, srcF, gt, threads_getD .own s.ths i w1, bodies_getD .bw p.bods i ha.hb, Int.toNat_natCast, ints_getD (s.ths.getD i default).regs (ins p s i).r.toNat rr, ints_getD (s.ths.getD i default).regs (ins p s i).a.toNat ra, ints_getD (s.ths.getD i default).regs (ins p s i).b.toNat rb, hw1]
    repeat refine K ?_
    apply calls_mk
    · refine Sub.trans (Sub.foldAt 0 1 14 rfl (by simp [-gD] <;> omega) rfl (by decide) (by decide) rfl (by simp <;> omega)) ?_
      simp only [fS, qA, qC, threads_set]
      exact Sub.refl _
    refine CA [(0, 0), (1, 1), (2, 2)] (l4Go_ok p ⟨s.ths.set i ⟨(s.ths.getD i default).at_, (s.ths.getD i default).regs.set (ins p s i).r.toNat (ins p s i).n, (s.ths.getD i default).st⟩, s.chs, s.tr⟩ i ((s.ths.getD i default).at_ + 1) (by simp; exact w1) e3 (by omega)) ?_
    try simp only [go_sem, qA, qB, qC, qD, qE, qF, qG, qH]
    repeat refine K ?_
    try simp only [go_sem, qA, qB, qC, qD, qE, qF, qG, qH, h1, srcF, gt, threads_getD .own s.ths i w1, bodies_getD .bw p.bods i ha.hb, Int.toNat_natCast, ints_getD (s.ths.getD i default).regs (ins p s i).r.toNat rr, ints_getD (s.ths.getD i default).regs (ins p s i).a.toNat ra, ints_getD (s.ths.getD i default).regs (ins p s i).b.toNat rb, hw1]
    repeat refine K ?_
    apply fin_tup (by simp)
    · exact Sub.refl _
    · simp [-List.drop_one, -gD, threads_set, chans_set, l4StepF, setReg, reg, compute, h1] <;> (first | rfl | exact ⟨rfl, rfl⟩ | exact ⟨rfl, rfl, rfl⟩ | skip)
  by_cases h2 : (ins p s i).op = 2
  · simp only [go_sem, qA, qB, qC, qD, qE, qF, qG, qH, h2, srcF, gt, threads_getD .own s.ths i w1, bodies_getD .bw p.bods i ha.hb, Int.toNat_natCast, ints_getD (s.ths.getD i default).regs (ins p s i).r.toNat rr, ints_getD (s.ths.getD i default).regs (ins p s i).a.toNat ra, ints_getD (s.ths.getD i default).regs (ins p s i).b.toNat rb, hw1]
    repeat refine K ?_
    apply calls_mk
    · refine Sub.trans (Sub.foldAt 0 1 14 rfl (by simp [-gD] <;> omega) rfl (by decide) (by decide) rfl (by simp <;> omega)) ?_
      simp only [fS, qA, qC, threads_set]
      exact Sub.refl _
    refine CA [(0, 0), (1, 1), (2, 2)] (l4Go_ok p ⟨s.ths.set i ⟨(s.ths.getD i default).at_, (s.ths.getD i default).regs.set (ins p s i).r.toNat (IntKind.i64.wrap ((s.ths.getD i default).regs.getD (ins p s i).a.toNat 0 + (s.ths.getD i default).regs.getD (ins p s i).b.toNat 0)), (s.ths.getD i default).st⟩, s.chs, s.tr⟩ i ((s.ths.getD i default).at_ + 1) (by simp; exact w1) e3 (by omega)) ?_
    try simp only [go_sem, qA, qB, qC, qD, qE, qF, qG, qH]
    repeat refine K ?_
    try simp only [go_sem, qA, qB, qC, qD, qE, qF, qG, qH, h2, srcF, gt, threads_getD .own s.ths i w1, bodies_getD .bw p.bods i ha.hb, Int.toNat_natCast, ints_getD (s.ths.getD i default).regs (ins p s i).r.toNat rr, ints_getD (s.ths.getD i default).regs (ins p s i).a.toNat ra, ints_getD (s.ths.getD i default).regs (ins p s i).b.toNat rb, hw1]
    repeat refine K ?_
    apply fin_tup (by simp)
    · exact Sub.refl _
    · simp [-List.drop_one, -gD, threads_set, chans_set, l4StepF, setReg, reg, compute, h2] <;> (first | rfl | exact ⟨rfl, rfl⟩ | exact ⟨rfl, rfl, rfl⟩ | skip)
  by_cases h3 : (ins p s i).op = 3
  · simp only [go_sem, qA, qB, qC, qD, qE, qF, qG, qH, h3, srcF, gt, threads_getD .own s.ths i w1, bodies_getD .bw p.bods i ha.hb, Int.toNat_natCast, ints_getD (s.ths.getD i default).regs (ins p s i).r.toNat rr, ints_getD (s.ths.getD i default).regs (ins p s i).a.toNat ra, ints_getD (s.ths.getD i default).regs (ins p s i).b.toNat rb, hw1]
    repeat refine K ?_
    apply calls_mk
    · refine Sub.trans (Sub.foldAt 0 1 14 rfl (by simp [-gD] <;> omega) rfl (by decide) (by decide) rfl (by simp <;> omega)) ?_
      simp only [fS, qA, qC, threads_set]
      exact Sub.refl _
    refine CA [(0, 0), (1, 1), (2, 2)] (l4Go_ok p ⟨s.ths.set i ⟨(s.ths.getD i default).at_, (s.ths.getD i default).regs.set (ins p s i).r.toNat (IntKind.i64.wrap ((s.ths.getD i default).regs.getD (ins p s i).a.toNat 0 - (s.ths.getD i default).regs.getD (ins p s i).b.toNat 0)), (s.ths.getD i default).st⟩, s.chs, s.tr⟩ i ((s.ths.getD i default).at_ + 1) (by simp; exact w1) e3 (by omega)) ?_
    try simp only [go_sem, qA, qB, qC, qD, qE, qF, qG, qH]
    repeat refine K ?_
    try simp only [go_sem, qA, qB, qC, qD, qE, qF, qG, qH, h3, srcF, gt, threads_getD .own s.ths i w1, bodies_getD .bw p.bods i ha.hb, Int.toNat_natCast, ints_getD (s.ths.getD i default).regs (ins p s i).r.toNat rr, ints_getD (s.ths.getD i default).regs (ins p s i).a.toNat ra, ints_getD (s.ths.getD i default).regs (ins p s i).b.toNat rb, hw1]
    repeat refine K ?_
    apply fin_tup (by simp)
    · exact Sub.refl _
    · simp [-List.drop_one, -gD, threads_set, chans_set, l4StepF, setReg, reg, compute, h3] <;> (first | rfl | exact ⟨rfl, rfl⟩ | exact ⟨rfl, rfl, rfl⟩ | skip)
  by_cases h4 : (ins p s i).op = 4
  · simp only [go_sem, qA, qB, qC, qD, qE, qF, qG, qH, h4, srcF, gt, threads_getD .own s.ths i w1, bodies_getD .bw p.bods i ha.hb, Int.toNat_natCast, ints_getD (s.ths.getD i default).regs (ins p s i).r.toNat rr, ints_getD (s.ths.getD i default).regs (ins p s i).a.toNat ra, ints_getD (s.ths.getD i default).regs (ins p s i).b.toNat rb, hw1]
    repeat refine K ?_
    refine DA [] (l4Bit_ok (decide ((s.ths.getD i default).regs.getD (ins p s i).a.toNat 0 < (s.ths.getD i default).regs.getD (ins p s i).b.toNat 0))) ?_
    try simp only [go_sem, qA, qB, qC, qD, qE, qF, qG, qH]
    repeat refine K ?_
    try simp only [go_sem, qA, qB, qC, qD, qE, qF, qG, qH, h4, srcF, gt, threads_getD .own s.ths i w1, bodies_getD .bw p.bods i ha.hb, Int.toNat_natCast, ints_getD (s.ths.getD i default).regs (ins p s i).r.toNat rr, ints_getD (s.ths.getD i default).regs (ins p s i).a.toNat ra, ints_getD (s.ths.getD i default).regs (ins p s i).b.toNat rb, hw1]
    repeat refine K ?_
    apply calls_mk
    · refine Sub.trans (Sub.foldAt 0 1 14 rfl (by simp [-gD] <;> omega) rfl (by decide) (by decide) rfl (by simp <;> omega)) ?_
      simp only [fS, qA, qC, threads_set]
      exact Sub.refl _
    refine CA [(0, 0), (1, 1), (2, 2)] (l4Go_ok p ⟨s.ths.set i ⟨(s.ths.getD i default).at_, (s.ths.getD i default).regs.set (ins p s i).r.toNat (numb (decide ((s.ths.getD i default).regs.getD (ins p s i).a.toNat 0 < (s.ths.getD i default).regs.getD (ins p s i).b.toNat 0))), (s.ths.getD i default).st⟩, s.chs, s.tr⟩ i ((s.ths.getD i default).at_ + 1) (by simp; exact w1) e3 (by omega)) ?_
    try simp only [go_sem, qA, qB, qC, qD, qE, qF, qG, qH]
    repeat refine K ?_
    try simp only [go_sem, qA, qB, qC, qD, qE, qF, qG, qH, h4, srcF, gt, threads_getD .own s.ths i w1, bodies_getD .bw p.bods i ha.hb, Int.toNat_natCast, ints_getD (s.ths.getD i default).regs (ins p s i).r.toNat rr, ints_getD (s.ths.getD i default).regs (ins p s i).a.toNat ra, ints_getD (s.ths.getD i default).regs (ins p s i).b.toNat rb, hw1]
    repeat refine K ?_
    apply fin_tup (by simp)
    · exact Sub.refl _
    · simp [-List.drop_one, -gD, threads_set, chans_set, l4StepF, setReg, reg, compute, h4] <;> (first | rfl | exact ⟨rfl, rfl⟩ | exact ⟨rfl, rfl, rfl⟩ | skip)
  by_cases h10 : (ins p s i).op = 10
  · simp only [go_sem, qA, qB, qC, qD, qE, qF, qG, qH, h10, srcF, gt, threads_getD .own s.ths i w1, bodies_getD .bw p.bods i ha.hb, Int.toNat_natCast, ints_getD (s.ths.getD i default).regs (ins p s i).r.toNat rr, ints_getD (s.ths.getD i default).regs (ins p s i).a.toNat ra, ints_getD (s.ths.getD i default).regs (ins p s i).b.toNat rb, hw1]
    repeat refine K ?_
    by_cases hn : (s.tr.length : Int) = 4000
    · simp only [go_sem, qA, qB, qC, qD, qE, qF, qG, qH, h10, hn, srcF, gt, threads_getD .own s.ths i w1, bodies_getD .bw p.bods i ha.hb, Int.toNat_natCast, ints_getD (s.ths.getD i default).regs (ins p s i).r.toNat rr, ints_getD (s.ths.getD i default).regs (ins p s i).a.toNat ra, ints_getD (s.ths.getD i default).regs (ins p s i).b.toNat rb, hw1]
      repeat refine K ?_
      apply fin_tup (by simp)
      · refine Sub.trans (Sub.foldAt 0 1 14 rfl (by simp [-gD] <;> omega) rfl (by decide) (by decide) rfl (by simp <;> omega)) ?_
        simp only [fS, qA, qC, threads_set]
        exact Sub.refl _
      · simp [-List.drop_one, -gD, threads_set, chans_set, l4StepF, setReg, reg, compute, h10, hn, hself] <;> (first | rfl | exact ⟨rfl, rfl⟩ | exact ⟨rfl, rfl, rfl⟩ | skip)
    · simp only [go_sem, qA, qB, qC, qD, qE, qF, qG, qH, h10, hn, srcF, gt, threads_getD .own s.ths i w1, bodies_getD .bw p.bods i ha.hb, Int.toNat_natCast, ints_getD (s.ths.getD i default).regs (ins p s i).r.toNat rr, ints_getD (s.ths.getD i default).regs (ins p s i).a.toNat ra, ints_getD (s.ths.getD i default).regs (ins p s i).b.toNat rb, hw1]
      repeat refine K ?_
      apply calls_mk
      · refine Sub.trans (Sub.foldAt 0 1 14 rfl (by simp [-gD] <;> omega) rfl (by decide) (by decide) rfl (by simp <;> omega)) ?_
        simp only [fS, qA, qC, threads_set, hself, notes_one, notes_append]
        exact Sub.refl _
      refine CA [(0, 0), (1, 1), (2, 16)] (l4Go_ok p ⟨s.ths, s.chs, s.tr ++ [⟨i, (s.ths.getD i default).regs.getD (ins p s i).a.toNat 0⟩]⟩ i ((s.ths.getD i default).at_ + 1) w1 e3 (by omega)) ?_
      try simp only [go_sem, qA, qB, qC, qD, qE, qF, qG, qH]
      repeat refine K ?_
      try simp only [go_sem, qA, qB, qC, qD, qE, qF, qG, qH, h10, hn, srcF, gt, threads_getD .own s.ths i w1, bodies_getD .bw p.bods i ha.hb, Int.toNat_natCast, ints_getD (s.ths.getD i default).regs (ins p s i).r.toNat rr, ints_getD (s.ths.getD i default).regs (ins p s i).a.toNat ra, ints_getD (s.ths.getD i default).regs (ins p s i).b.toNat rb, hw1]
      repeat refine K ?_
      apply fin_tup (by simp)
      · exact Sub.refl _
      · simp [-List.drop_one, -gD, threads_set, chans_set, l4StepF, setReg, reg, compute, h10, hn] <;> (first | rfl | exact ⟨rfl, rfl⟩ | exact ⟨rfl, rfl, rfl⟩ | skip)
  by_cases h11 : (ins p s i).op = 11
  · simp only [go_sem, qA, qB, qC, qD, qE, qF, qG, qH, h11, srcF, gt, threads_getD .own s.ths i w1, bodies_getD .bw p.bods i ha.hb, Int.toNat_natCast, ints_getD (s.ths.getD i default).regs (ins p s i).r.toNat rr, ints_getD (s.ths.getD i default).regs (ins p s i).a.toNat ra, ints_getD (s.ths.getD i default).regs (ins p s i).b.toNat rb, hw1]
    repeat refine K ?_
    apply calls_mk
    · refine Sub.trans (Sub.foldAt 0 1 14 rfl (by simp [-gD] <;> omega) rfl (by decide) (by decide) rfl (by simp <;> omega)) ?_
      simp only [fS, qA, qC, threads_set, hself]
      exact Sub.refl _
    refine CA [(0, 0), (1, 1), (2, 2)] (l4Go_ok p s i ((ins p s i).n) w1 e3 (by omega)) ?_
    try simp only [go_sem, qA, qB, qC, qD, qE, qF, qG, qH]
    repeat refine K ?_
    try simp only [go_sem, qA, qB, qC, qD, qE, qF, qG, qH, h11, srcF, gt, threads_getD .own s.ths i w1, bodies_getD .bw p.bods i ha.hb, Int.toNat_natCast, ints_getD (s.ths.getD i default).regs (ins p s i).r.toNat rr, ints_getD (s.ths.getD i default).regs (ins p s i).a.toNat ra, ints_getD (s.ths.getD i default).regs (ins p s i).b.toNat rb, hw1]
    repeat refine K ?_
    apply fin_tup (by simp)
    · exact Sub.refl _
    · simp [-List.drop_one, -gD, threads_set, chans_set, l4StepF, setReg, reg, compute, h11] <;> (first | rfl | exact ⟨rfl, rfl⟩ | exact ⟨rfl, rfl, rfl⟩ | skip)
  by_cases h12 : (ins p s i).op = 12
  · simp only [go_sem, qA, qB, qC, qD, qE, qF, qG, qH, h12, srcF, gt, threads_getD .own s.ths i w1, bodies_getD .bw p.bods i ha.hb, Int.toNat_natCast, ints_getD (s.ths.getD i default).regs (ins p s i).r.toNat rr, ints_getD (s.ths.getD i default).regs (ins p s i).a.toNat ra, ints_getD (s.ths.getD i default).regs (ins p s i).b.toNat rb, hw1]
    repeat refine K ?_
    by_cases hz : (s.ths.getD i default).regs.getD (ins p s i).a.toNat 0 = 0
    · simp only [go_sem, qA, qB, qC, qD, qE, qF, qG, qH, h12, hz, srcF, gt, threads_getD .own s.ths i w1, bodies_getD .bw p.bods i ha.hb, Int.toNat_natCast, ints_getD (s.ths.getD i default).regs (ins p s i).r.toNat rr, ints_getD (s.ths.getD i default).regs (ins p s i).a.toNat ra, ints_getD (s.ths.getD i default).regs (ins p s i).b.toNat rb, hw1]
      repeat refine K ?_
      apply calls_mk
      · refine Sub.trans (Sub.foldAt 0 1 14 rfl (by simp [-gD] <;> omega) rfl (by decide) (by decide) rfl (by simp <;> omega)) ?_
        simp only [fS, qA, qC, threads_set, hself]
        exact Sub.refl _
      refine CA [(0, 0), (1, 1), (2, 2)] (l4Go_ok p s i ((ins p s i).n) w1 e3 (by omega)) ?_
      try simp only [go_sem, qA, qB, qC, qD, qE, qF, qG, qH]
      repeat refine K ?_
      try simp only [go_sem, qA, qB, qC, qD, qE, qF, qG, qH, h12, hz, srcF, gt, threads_getD .own s.ths i w1, bodies_getD .bw p.bods i ha.hb, Int.toNat_natCast, ints_getD (s.ths.getD i default).regs (ins p s i).r.toNat rr, ints_getD (s.ths.getD i default).regs (ins p s i).a.toNat ra, ints_getD (s.ths.getD i default).regs (ins p s i).b.toNat rb, hw1]
      repeat refine K ?_
      apply fin_tup (by simp)
      · exact Sub.refl _
      · simp [-List.drop_one, -gD, threads_set, chans_set, l4StepF, setReg, reg, compute, h12, hz] <;> (first | rfl | exact ⟨rfl, rfl⟩ | exact ⟨rfl, rfl, rfl⟩ | skip)
    · simp only [go_sem, qA, qB, qC, qD, qE, qF, qG, qH, h12, hz, srcF, gt, threads_getD .own s.ths i w1, bodies_getD .bw p.bods i ha.hb, Int.toNat_natCast, ints_getD (s.ths.getD i default).regs (ins p s i).r.toNat rr, ints_getD (s.ths.getD i default).regs (ins p s i).a.toNat ra, ints_getD (s.ths.getD i default).regs (ins p s i).b.toNat rb, hw1]
      repeat refine K ?_
      apply calls_mk
      · refine Sub.trans (Sub.foldAt 0 1 14 rfl (by simp [-gD] <;> omega) rfl (by decide) (by decide) rfl (by simp <;> omega)) ?_
        simp only [fS, qA, qC, threads_set, hself]
        exact Sub.refl _
      refine CA [(0, 0), (1, 1), (2, 2)] (l4Go_ok p s i ((s.ths.getD i default).at_ + 1) w1 e3 (by omega)) ?_
      try simp only [go_sem, qA, qB, qC, qD, qE, qF, qG, qH]
      repeat refine K ?_
      try simp only [go_sem, qA, qB, qC, qD, qE, qF, qG, qH, h12, hz, srcF, gt, threads_getD .own s.ths i w1, bodies_getD .bw p.bods i ha.hb, Int.toNat_natCast, ints_getD (s.ths.getD i default).regs (ins p s i).r.toNat rr, ints_getD (s.ths.getD i default).regs (ins p s i).a.toNat ra, ints_getD (s.ths.getD i default).regs (ins p s i).b.toNat rb, hw1]
      repeat refine K ?_
      apply fin_tup (by simp)
      · exact Sub.refl _
      · simp [-List.drop_one, -gD, threads_set, chans_set, l4StepF, setReg, reg, compute, h12, hz] <;> (first | rfl | exact ⟨rfl, rfl⟩ | exact ⟨rfl, rfl, rfl⟩ | skip)
  by_cases h13 : (ins p s i).op = 13
  · simp only [go_sem, qA, qB, qC, qD, qE, qF, qG, qH, h13, srcF, gt, threads_getD .own s.ths i w1, bodies_getD .bw p.bods i ha.hb, Int.toNat_natCast, ints_getD (s.ths.getD i default).regs (ins p s i).r.toNat rr, ints_getD (s.ths.getD i default).regs (ins p s i).a.toNat ra, ints_getD (s.ths.getD i default).regs (ins p s i).b.toNat rb, hw1]
    repeat refine K ?_
    apply fin_tup (by simp)
    · refine Sub.trans (Sub.foldAt 0 1 14 rfl (by simp [-gD] <;> omega) rfl (by decide) (by decide) rfl (by simp <;> omega)) ?_
      simp only [fS, qA, qC, threads_set]
      exact Sub.refl _
    · simp [-List.drop_one, -gD, threads_set, chans_set, l4StepF, setReg, reg, compute, h13] <;> (first | rfl | exact ⟨rfl, rfl⟩ | exact ⟨rfl, rfl, rfl⟩ | skip)
  obtain ⟨n0, n1⟩ := ha.ch (by have := ha.op; omega) (by have := ha.op; omega)
  simp only [go_sem, qA, qB, qC, qD, qE, qF, qG, qH, h1, h2, h3, h4, h10, h11, h12, h13, srcF, gt, threads_getD .own s.ths i w1, bodies_getD .bw p.bods i ha.hb, Int.toNat_natCast, ints_getD (s.ths.getD i default).regs (ins p s i).r.toNat rr, ints_getD (s.ths.getD i default).regs (ins p s i).a.toNat ra, ints_getD (s.ths.getD i default).regs (ins p s i).b.toNat rb, hw1]
  repeat refine K ?_
  apply calls_mk
  · refine Sub.trans (Sub.foldAt 0 1 14 rfl (by simp [-gD] <;> omega) rfl (by decide) (by decide) rfl (by simp <;> omega)) ?_
    simp only [fS, qA, qC, threads_set, hself]
    exact Sub.refl _
  refine CA [(0, 0), (1, 1), (2, 2)] (l4Chan_ok s i (ins p s i) w1 n0 n1 e4 (hs5 _ (getD_mem s.chs _ default n1)) r0 r1 a0 a1 b0 b1) ?_
  try simp only [go_sem, qA, qB, qC, qD, qE, qF, qG, qH]
  repeat refine K ?_
  have g3 : i < (s.ths.set i (l4ChanF (s.ths.getD i default) (s.chs.getD (ins p s i).n.toNat default) (ins p s i)).1).length := by rw [List.length_set]; exact w1
  have g4 : ∀ t : Thread, (s.ths.set i t).getD i default = t := fun t => getD_set_self _ _ _ _ w1
  try simp only [go_sem, qA, qB, qC, qD, qE, qF, qG, qH, h1, h2, h3, h4, h10, h11, h12, h13, srcF, gt, threads_getD .own s.ths i w1, bodies_getD .bw p.bods i ha.hb, Int.toNat_natCast, ints_getD (s.ths.getD i default).regs (ins p s i).r.toNat rr, ints_getD (s.ths.getD i default).regs (ins p s i).a.toNat ra, ints_getD (s.ths.getD i default).regs (ins p s i).b.toNat rb, hw1]
  repeat refine K ?_
  by_cases k1 : (l4ChanF (s.ths.getD i default) (s.chs.getD (ins p s i).n.toNat default) (ins p s i)).2.2 = 1
  · simp only [go_sem, qA, qB, qC, qD, qE, qF, qG, qH, k1, srcF, gt, threads_getD .own s.ths i w1, bodies_getD .bw p.bods i ha.hb, Int.toNat_natCast, ints_getD (s.ths.getD i default).regs (ins p s i).r.toNat rr, ints_getD (s.ths.getD i default).regs (ins p s i).a.toNat ra, ints_getD (s.ths.getD i default).regs (ins p s i).b.toNat rb, hw1]
    repeat refine K ?_
    apply fin_tup (by simp)
    · exact Sub.refl _
    · simp [-List.drop_one, -gD, threads_set, chans_set, l4StepF, setReg, reg, compute, h1, h2, h3, h4, h10, h11, h12, h13, k1] <;> (first | rfl | exact ⟨rfl, rfl⟩ | exact ⟨rfl, rfl, rfl⟩ | skip)
  by_cases k2 : (l4ChanF (s.ths.getD i default) (s.chs.getD (ins p s i).n.toNat default) (ins p s i)).2.2 = 2
  · simp only [go_sem, qA, qB, qC, qD, qE, qF, qG, qH, k2, srcF, gt, threads_getD .own s.ths i w1, bodies_getD .bw p.bods i ha.hb, Int.toNat_natCast, ints_getD (s.ths.getD i default).regs (ins p s i).r.toNat rr, ints_getD (s.ths.getD i default).regs (ins p s i).a.toNat ra, ints_getD (s.ths.getD i default).regs (ins p s i).b.toNat rb, hw1, threads_getD .own _ i g3, g4]
    repeat refine K ?_
    apply fin_tup (by simp)
    · exact Sub.refl _
    · simp [-List.drop_one, -gD, threads_set, chans_set, l4StepF, setReg, reg, compute, h1, h2, h3, h4, h10, h11, h12, h13, k2] <;> (first | rfl | exact ⟨rfl, rfl⟩ | exact ⟨rfl, rfl, rfl⟩ | skip)
  simp only [go_sem, qA, qB, qC, qD, qE, qF, qG, qH, k1, k2, srcF, gt, threads_getD .own s.ths i w1, bodies_getD .bw p.bods i ha.hb, Int.toNat_natCast, ints_getD (s.ths.getD i default).regs (ins p s i).r.toNat rr, ints_getD (s.ths.getD i default).regs (ins p s i).a.toNat ra, ints_getD (s.ths.getD i default).regs (ins p s i).b.toNat rb, hw1]
  repeat refine K ?_
  refine CA [(0, 15), (1, 16), (2, 17)] (l4Go_ok p ⟨s.ths.set i (l4ChanF (s.ths.getD i default) (s.chs.getD (ins p s i).n.toNat default) (ins p s i)).1, s.chs.set (ins p s i).n.toNat (l4ChanF (s.ths.getD i default) (s.chs.getD (ins p s i).n.toNat default) (ins p s i)).2.1, s.tr⟩ i ((s.ths.getD i default).at_ + 1) (by simp; exact w1) e3 (by omega)) ?_
  try simp only [go_sem, qA, qB, qC, qD, qE, qF, qG, qH]
  repeat refine K ?_
  try simp only [go_sem, qA, qB, qC, qD, qE, qF, qG, qH, h1, h2, h3, h4, h10, h11, h12, h13, k1, k2, srcF, gt, threads_getD .own s.ths i w1, bodies_getD .bw p.bods i ha.hb, Int.toNat_natCast, ints_getD (s.ths.getD i default).regs (ins p s i).r.toNat rr, ints_getD (s.ths.getD i default).regs (ins p s i).a.toNat ra, ints_getD (s.ths.getD i default).regs (ins p s i).b.toNat rb, hw1]
  repeat refine K ?_
  apply fin_tup (by simp)
  · exact Sub.refl _
  · simp [-List.drop_one, -gD, threads_set, chans_set, l4StepF, setReg, reg, compute, h1, h2, h3, h4, h10, h11, h12, h13, k1, k2] <;> (first | rfl | exact ⟨rfl, rfl⟩ | exact ⟨rfl, rfl, rfl⟩ | skip)


end Go.Sep
