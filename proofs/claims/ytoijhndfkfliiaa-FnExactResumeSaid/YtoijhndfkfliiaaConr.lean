/- Contracts of functions. -/
import Derived.Test.YtoijhndfkfliiaaConq
namespace Go.Sep
open Go.Proofs
set_option linter.unusedSimpArgs false
set_option linter.unusedVariables false
set_option maxRecDepth 100000
def m151 : MFn := ⟨117, [.t 4], .seq (xr [xo 2 (.box (.t 0)), xo 4 (.mv (.c (.bool false)))]) (.seq (.seq (xr [xv 17 1, xo 18 (.len (.t 17)), xo 19 (.bin .gtr (.t 18) (xi 1048576))]) (.cond 19 (.seq (xr [xo 4 (.mv (.c (.bool true)))]) (.ret)) (.skip))) (.seq (xr [xo 5 (.mv (xi 1048576))]) (.seq (xr [xo 20 (.load 2 true (.t 2)), xv 21 5, xo 22 (.call 27 [false, false] [.t 20, .t 21]), xv 5 22]) (.seq (.seq (xr [xv 23 5, xo 24 (.bin .lss (.t 23) (xi 0))]) (.cond 24 (.seq (xr [xo 4 (.mv (.c (.bool true)))]) (.ret)) (.skip))) (.seq (xr [xo 26 (.load 2 true (.t 2)), xo 27 (.call 28 [false] [.t 26]), xv 28 1, xo 29 (.call 152 [false] [.t 28]), xo 30 (.call 153 [false, false] [.t 27, .t 29]), xv 25 30, xo 31 (.ext (.t 25) 0), xo 32 (.ext (.t 25) 1), xo 6 (.alloc [.nil, .nil, .nil]), ⟨none, .store 3 (.t 6) (.t 31), none⟩, xv 7 32]) (.seq (xr [xo 33 (.load 2 true (.t 2)), xo 34 (.call 28 [false] [.t 33]), xo 8 (.alloc [.nil, .nil]), ⟨none, .store 2 (.t 8) (.t 34), none⟩]) (.seq (xr [xv 35 1, xo 36 (.call 152 [false] [.t 35]), xv 9 36]) (.seq (xr [xo 38 (.load 2 true (.t 8)), xv 39 9, xo 40 (.call 154 [false, false] [.t 38, .t 39]), xv 37 40, xo 41 (.ext (.t 37) 0), xo 42 (.ext (.t 37) 1), xo 10 (.alloc [.nil, .nil, .nil]), ⟨none, .store 3 (.t 10) (.t 41), none⟩, xv 11 42]) (.seq (.seq (xr [xo 43 (.load 3 true (.t 10)), xo 44 (.load 3 true (.t 6)), xo 45 (.call 140 [false, false] [.t 43, .t 44]), xo 46 (.un .«not» (.t 45)), xv 47 46, xg 48 (.mv (.t 11)) 47 false, xg 49 (.mv (.t 7)) 47 false, xg 50 (.eqB true (.t 48) (.t 49)) 47 false, xo 51 (.pick (.t 47) (.c (.bool true)) (.t 50))]) (.cond 51 (.seq (xr [xo 4 (.mv (.c (.bool false)))]) (.ret)) (.skip))) (.seq (.seq (.dreg (.take 0 (xo 52 (.load 2 true (.t 8))) (.only 1 [] (xo 53 (.load 2 true (.t 2))) (.only 2 [] (xo 54 (.call 28 [false] [.t 53])) (.only 3 [0] (xo 55 (.call 30 [false, false] [.t 52, .t 54])) (.only 4 [] (xo 56 (.un .«not» (.t 55))) (.done))))))) (.cond 56 (.seq (xr [xo 4 (.mv (.c (.bool false)))]) (.ret)) (.skip))) (.seq (.seq (xr [xv 57 9, xv 58 1, xo 59 (.call 152 [false] [.t 58]), xo 60 (.call 155 [false, false] [.t 57, .t 59]), xo 61 (.un .«not» (.t 60))]) (.cond 61 (.seq (xr [xo 4 (.mv (.c (.bool false)))]) (.ret)) (.skip))) (.seq (xr [xo 12 (.mv (xi 1))]) (.seq (xr [xo 62 (.load 2 true (.t 8)), xv 63 12, xo 64 (.call 31 [true, false] [.t 62, .t 63]), xv 12 64]) (.seq (xr [xv 65 9, xv 66 12, xo 67 (.call 156 [true, false] [.t 65, .t 66]), xv 12 67]) (.seq (.seq (xr [xv 68 12, xo 69 (.bin .lss (.t 68) (xi 0)), xv 70 69, xg 71 (.load 3 true (.t 10)) 70 false, xg 72 (.load 3 true (.t 6)) 70 false, xg 73 (.call 140 [false, false] [.t 71, .t 72]) 70 false, xg 74 (.un .«not» (.t 73)) 70 false, xo 75 (.pick (.t 70) (.c (.bool true)) (.t 74)), xv 76 75, xg 77 (.mv (.t 11)) 76 false, xg 78 (.mv (.t 7)) 76 false, xg 79 (.eqB true (.t 77) (.t 78)) 76 false, xo 80 (.pick (.t 76) (.c (.bool true)) (.t 79))]) (.cond 80 (.seq (xr [xo 4 (.mv (.c (.bool false)))]) (.ret)) (.skip))) (.seq (xr [xo 13 (.mv (xi 1))]) (.seq (xr [xo 81 (.load 3 true (.t 10)), xv 82 13, xo 83 (.call 141 [true, false] [.t 81, .t 82]), xv 13 83]) (.seq (xr [xo 14 (.mv (xi 1))]) (.seq (xr [xo 84 (.load 3 true (.t 10)), xv 85 14, xo 86 (.call 142 [false, false] [.t 84, .t 85]), xv 14 86]) (.seq (.seq (xr [xv 87 14, xo 88 (.bin .lss (.t 87) (xi 0))]) (.cond 88 (.seq (xr [xo 4 (.mv (.c (.bool false)))]) (.ret)) (.skip))) (.seq (.seq (xr [xv 89 14, xv 90 13, xo 91 (.bin .neq (.t 89) (.t 90))]) (.cond 91 (.seq (xr [xo 4 (.mv (.c (.bool false)))]) (.ret)) (.skip))) (.seq (xr [xo 93 (.load 2 true (.t 2)), xo 94 (.call 28 [false] [.t 93]), xv 95 1, xo 96 (.call 152 [false] [.t 95]), xo 97 (.call 154 [false, false] [.t 94, .t 96]), xv 92 97, xo 98 (.ext (.t 92) 0), xo 99 (.ext (.t 92) 1), xo 15 (.alloc [.nil, .nil, .nil]), ⟨none, .store 3 (.t 15) (.t 98), none⟩, xv 16 99]) (.seq (.seq (xr [xo 100 (.load 3 true (.t 15)), xo 101 (.load 3 true (.t 6)), xo 102 (.call 140 [false, false] [.t 100, .t 101]), xo 103 (.un .«not» (.t 102)), xv 104 103, xg 105 (.mv (.t 16)) 104 false, xg 106 (.mv (.t 7)) 104 false, xg 107 (.eqB true (.t 105) (.t 106)) 104 false, xo 108 (.pick (.t 104) (.c (.bool true)) (.t 107))]) (.cond 108 (.seq (xr [xo 4 (.mv (.c (.bool false)))]) (.ret)) (.skip))) (.seq (xr [xo 14 (.mv (xi 1))]) (.seq (xr [xo 109 (.load 3 true (.t 10)), xv 110 14, xo 111 (.call 142 [false, false] [.t 109, .t 110]), xv 14 111]) (.seq (.seq (xr [xv 112 14, xo 113 (.bin .lss (.t 112) (xi 0))]) (.cond 113 (.seq (xr [xo 4 (.mv (.c (.bool false)))]) (.ret)) (.skip))) (.seq (.seq (xr [xv 114 14, xv 115 13, xo 116 (.bin .neq (.t 114) (.t 115))]) (.cond 116 (.seq (xr [xo 4 (.mv (.c (.bool false)))]) (.ret)) (.skip))) (.seq (xr [xo 4 (.mv (.c (.bool true)))]) (.ret)))))))))))))))))))))))))))))⟩
theorem c151 : chkC Try.prog num Try.f3.ntmps m151.body ((Try.f3.body).getD .skip) = true := by kernel_rfl
def m182 : MFn := ⟨28, [.t 6, .t 7], .seq (xr [xo 3 (.box (.t 0)), xo 6 (.mv (.c (.nil))), xo 7 (.mv (.c (.bool false)))]) (.seq (xr [xo 13 (.load 2 true (.t 3)), xv 14 1, xo 15 (.call 154 [false, false] [.t 13, .t 14]), xv 12 15, xo 16 (.ext (.t 12) 0), xo 17 (.ext (.t 12) 1), xo 8 (.alloc [.nil, .nil, .nil]), ⟨none, .store 3 (.t 8) (.t 16), none⟩, xv 9 17]) (.seq (.seq (xr [xv 18 9, xo 19 (.un .«not» (.t 18))]) (.cond 19 (.seq (xr [xo 6 (.mv (.c (.nil))), xo 7 (.mv (.c (.bool false)))]) (.ret)) (.skip))) (.seq (xr [xo 21 (.load 2 true (.t 3)), xo 22 (.load 3 true (.t 8)), xv 23 2, xo 24 (.call 25 [false, false, false] [.t 21, .t 22, .t 23]), xv 20 24, xo 25 (.ext (.t 20) 0), xo 26 (.ext (.t 20) 1), xo 10 (.alloc [.nil, .nil, .nil]), ⟨none, .store 3 (.t 10) (.t 25), none⟩, xv 11 26]) (.seq (xr [xo 27 (.call 198 [false] [.t 10]), xv 6 27, xo 7 (.mv (.c (.bool true)))]) (.ret)))))⟩
theorem c182 : chkC Try.prog num Try.f52.ntmps m182.body ((Try.f52.body).getD .skip) = true := by kernel_rfl
def m183 : MFn := ⟨31, [.t 6, .t 7], .seq (xr [xo 3 (.box (.t 0)), xo 6 (.mv (.c (.nil))), xo 7 (.mv (.c (.bool false)))]) (.seq (xr [xo 13 (.load 2 true (.t 3)), xv 14 1, xo 15 (.call 153 [false, false] [.t 13, .t 14]), xv 12 15, xo 16 (.ext (.t 12) 0), xo 17 (.ext (.t 12) 1), xo 8 (.alloc [.nil, .nil, .nil]), ⟨none, .store 3 (.t 8) (.t 16), none⟩, xv 9 17]) (.seq (.seq (xr [xv 18 9, xo 19 (.un .«not» (.t 18))]) (.cond 19 (.seq (xr [xo 20 (.mkSl [.int .u8 0] 0 []), xv 6 20, xo 7 (.mv (.c (.bool false)))]) (.ret)) (.skip))) (.seq (xr [xo 22 (.load 2 true (.t 3)), xo 23 (.load 3 true (.t 8)), xv 24 2, xo 25 (.call 145 [false, false, false] [.t 22, .t 23, .t 24]), xv 21 25, xo 26 (.ext (.t 21) 0), xo 27 (.ext (.t 21) 1), xo 10 (.alloc [.nil, .nil, .nil]), ⟨none, .store 3 (.t 10) (.t 26), none⟩, xv 11 27]) (.seq (xr [xo 28 (.load 2 true (.t 3)), xo 29 (.load 3 true (.t 10)), xo 30 (.call 194 [false, false] [.t 28, .t 29]), xv 6 30, xo 7 (.mv (.c (.bool true)))]) (.ret)))))⟩
theorem c183 : chkC Try.prog num Try.f53.ntmps m183.body ((Try.f53.body).getD .skip) = true := by kernel_rfl
def m185 : MFn := ⟨10, [.t 4], .seq (xr [xo 2 (.box (.t 0)), xo 3 (.box (.t 1)), xo 4 (.mv (.c (.nil)))]) (.seq (.seq (xr [xo 5 (.load 2 true (.t 2)), xo 6 (.load 3 true (.t 3)), xo 7 (.call 50 [false, false] [.t 5, .t 6]), xo 8 (.un .«not» (.t 7))]) (.cond 8 (.seq (xr [xo 4 (.mv (.c (.nil)))]) (.ret)) (.skip))) (.seq (xr [xo 9 (.call 198 [false] [.t 3]), xv 4 9]) (.ret)))⟩
theorem c185 : chkC Try.prog num Try.f55.ntmps m185.body ((Try.f55.body).getD .skip) = true := by kernel_rfl
def m186 : MFn := ⟨138, [.t 6], .seq (xr [xo 3 (.box (.t 0)), xo 6 (.mv (.c (.bool false)))]) (.seq (.seq (xr [xv 20 1, xo 21 (.len (.t 20)), xo 22 (.bin .gtr (.t 21) (xi 1048576))]) (.cond 22 (.seq (xr [xo 6 (.mv (.c (.bool true)))]) (.ret)) (.skip))) (.seq (.seq (xr [xv 23 2, xo 24 (.len (.t 23)), xo 25 (.bin .gtr (.t 24) (xi 1048576))]) (.cond 25 (.seq (xr [xo 6 (.mv (.c (.bool true)))]) (.ret)) (.skip))) (.seq (xr [xo 7 (.mv (xi 1048576))]) (.seq (xr [xo 26 (.load 2 true (.t 3)), xv 27 7, xo 28 (.call 27 [false, false] [.t 26, .t 27]), xv 7 28]) (.seq (.seq (xr [xv 29 7, xo 30 (.bin .lss (.t 29) (xi 0))]) (.cond 30 (.seq (xr [xo 6 (.mv (.c (.bool true)))]) (.ret)) (.skip))) (.seq (xr [xo 32 (.load 2 true (.t 3)), xo 33 (.call 28 [false] [.t 32]), xv 34 1, xo 35 (.call 152 [false] [.t 34]), xv 36 2, xo 37 (.call 5 [false] [.t 36]), xo 38 (.call 183 [false, false, false] [.t 33, .t 35, .t 37]), xv 31 38, xo 39 (.ext (.t 31) 0), xo 40 (.ext (.t 31) 1), xv 8 39, xv 9 40]) (.seq (xr [xo 41 (.load 2 true (.t 3)), xo 42 (.call 28 [false] [.t 41]), xo 10 (.alloc [.nil, .nil]), ⟨none, .store 2 (.t 10) (.t 42), none⟩]) (.seq (xr [xv 43 1, xo 44 (.call 152 [false] [.t 43]), xv 11 44]) (.seq (xr [xv 45 2, xo 46 (.call 5 [false] [.t 45]), xv 12 46]) (.seq (xr [xo 48 (.load 2 true (.t 10)), xv 49 11, xv 50 12, xo 51 (.call 182 [false, false, false] [.t 48, .t 49, .t 50]), xv 47 51, xo 52 (.ext (.t 47) 0), xo 53 (.ext (.t 47) 1), xv 13 52, xv 14 53]) (.seq (.seq (xr [xv 54 13, xv 55 8, xo 56 (.call 155 [false, false] [.t 54, .t 55]), xo 57 (.un .«not» (.t 56)), xv 58 57, xg 59 (.mv (.t 14)) 58 false, xg 60 (.mv (.t 9)) 58 false, xg 61 (.eqB true (.t 59) (.t 60)) 58 false, xo 62 (.pick (.t 58) (.c (.bool true)) (.t 61))]) (.cond 62 (.seq (xr [xo 6 (.mv (.c (.bool false)))]) (.ret)) (.skip))) (.seq (.seq (.dreg (.take 0 (xo 63 (.load 2 true (.t 10))) (.only 1 [] (xo 64 (.load 2 true (.t 3))) (.only 2 [] (xo 65 (.call 28 [false] [.t 64])) (.only 3 [0] (xo 66 (.call 30 [false, false] [.t 63, .t 65])) (.only 4 [] (xo 67 (.un .«not» (.t 66))) (.done))))))) (.cond 67 (.seq (xr [xo 6 (.mv (.c (.bool false)))]) (.ret)) (.skip))) (.seq (.seq (xr [xv 68 11, xv 69 1, xo 70 (.call 152 [false] [.t 69]), xo 71 (.call 155 [false, false] [.t 68, .t 70]), xo 72 (.un .«not» (.t 71))]) (.cond 72 (.seq (xr [xo 6 (.mv (.c (.bool false)))]) (.ret)) (.skip))) (.seq (.seq (xr [xv 73 12, xv 74 2, xo 75 (.call 5 [false] [.t 74]), xo 76 (.call 8 [false, false] [.t 73, .t 75]), xo 77 (.un .«not» (.t 76))]) (.cond 77 (.seq (xr [xo 6 (.mv (.c (.bool false)))]) (.ret)) (.skip))) (.seq (xr [xo 15 (.mv (xi 1))]) (.seq (xr [xo 78 (.load 2 true (.t 10)), xv 79 15, xo 80 (.call 31 [true, false] [.t 78, .t 79]), xv 15 80]) (.seq (xr [xv 81 11, xv 82 15, xo 83 (.call 156 [true, false] [.t 81, .t 82]), xv 15 83]) (.seq (xr [xv 84 12, xv 85 15, xo 86 (.call 16 [true, false] [.t 84, .t 85]), xv 15 86]) (.seq (.seq (xr [xv 87 15, xo 88 (.bin .lss (.t 87) (xi 0)), xv 89 88, xg 90 (.mv (.t 13)) 89 false, xg 91 (.mv (.t 8)) 89 false, xg 92 (.call 155 [false, false] [.t 90, .t 91]) 89 false, xg 93 (.un .«not» (.t 92)) 89 false, xo 94 (.pick (.t 89) (.c (.bool true)) (.t 93)), xv 95 94, xg 96 (.mv (.t 14)) 95 false, xg 97 (.mv (.t 9)) 95 false, xg 98 (.eqB true (.t 96) (.t 97)) 95 false, xo 99 (.pick (.t 95) (.c (.bool true)) (.t 98))]) (.cond 99 (.seq (xr [xo 6 (.mv (.c (.bool false)))]) (.ret)) (.skip))) (.seq (xr [xo 16 (.mv (xi 1))]) (.seq (xr [xv 100 13, xv 101 16, xo 102 (.call 156 [true, false] [.t 100, .t 101]), xv 16 102]) (.seq (xr [xo 17 (.mv (xi 1))]) (.seq (xr [xv 103 13, xv 104 17, xo 105 (.call 187 [false, false] [.t 103, .t 104]), xv 17 105]) (.seq (.seq (xr [xv 106 17, xo 107 (.bin .lss (.t 106) (xi 0))]) (.cond 107 (.seq (xr [xo 6 (.mv (.c (.bool false)))]) (.ret)) (.skip))) (.seq (.seq (xr [xv 108 17, xv 109 16, xo 110 (.bin .neq (.t 108) (.t 109))]) (.cond 110 (.seq (xr [xo 6 (.mv (.c (.bool false)))]) (.ret)) (.skip))) (.seq (xr [xo 112 (.load 2 true (.t 3)), xo 113 (.call 28 [false] [.t 112]), xv 114 1, xo 115 (.call 152 [false] [.t 114]), xv 116 2, xo 117 (.call 5 [false] [.t 116]), xo 118 (.call 182 [false, false, false] [.t 113, .t 115, .t 117]), xv 111 118, xo 119 (.ext (.t 111) 0), xo 120 (.ext (.t 111) 1), xv 18 119, xv 19 120]) (.seq (.seq (xr [xv 121 18, xv 122 8, xo 123 (.call 155 [false, false] [.t 121, .t 122]), xo 124 (.un .«not» (.t 123)), xv 125 124, xg 126 (.mv (.t 19)) 125 false, xg 127 (.mv (.t 9)) 125 false, xg 128 (.eqB true (.t 126) (.t 127)) 125 false, xo 129 (.pick (.t 125) (.c (.bool true)) (.t 128))]) (.cond 129 (.seq (xr [xo 6 (.mv (.c (.bool false)))]) (.ret)) (.skip))) (.seq (xr [xo 17 (.mv (xi 1))]) (.seq (xr [xv 130 13, xv 131 17, xo 132 (.call 187 [false, false] [.t 130, .t 131]), xv 17 132]) (.seq (.seq (xr [xv 133 17, xo 134 (.bin .lss (.t 133) (xi 0))]) (.cond 134 (.seq (xr [xo 6 (.mv (.c (.bool false)))]) (.ret)) (.skip))) (.seq (.seq (xr [xv 135 17, xv 136 16, xo 137 (.bin .neq (.t 135) (.t 136))]) (.cond 137 (.seq (xr [xo 6 (.mv (.c (.bool false)))]) (.ret)) (.skip))) (.seq (xr [xo 6 (.mv (.c (.bool true)))]) (.ret)))))))))))))))))))))))))))))))))⟩
theorem c186 : chkC Try.prog num Try.f11.ntmps m186.body ((Try.f11.body).getD .skip) = true := by kernel_rfl
open Nat renaming reduceAdd → qA, reduceMul → qB, reduceEqDiff → qC, reduceBEq → qD
open Int renaming reduceToNat → qE, reduceEq → qF, reduceLT → qG, reduceLE → qH
open List renaming getD_eq_getElem?_getD → gD

theorem getFold_in {l : List Int} (hl : l.length = 8) (hb : ∀ x ∈ l, isByte x) (h0 : l.getD 0 0 ≤ 127) : 0 ≤ getFold l ∧ getFold l < 2 ^ 63 := by
  match l, hl with
  | [x1, x2, x3, x4, x5, x6, x7, x8], _ =>
    simp only [List.getD_cons_zero] at h0
    have b1 := hb x1 (by simp)
    have b2 := hb x2 (by simp)
    have b3 := hb x3 (by simp)
    have b4 := hb x4 (by simp)
    have b5 := hb x5 (by simp)
    have b6 := hb x6 (by simp)
    have b7 := hb x7 (by simp)
    have b8 := hb x8 (by simp)
    unfold getFold
    simp only [List.foldl_cons, List.foldl_nil]
    unfold isByte at b1 b2 b3 b4 b5 b6 b7 b8
    rw [addByte_eq (n := 0) (by omega) (by omega) b1]
    rw [addByte_eq (n := 0 * 256 + x1) (by omega) (by omega) b2]
    rw [addByte_eq (n := (0 * 256 + x1) * 256 + x2) (by omega) (by omega) b3]
    rw [addByte_eq (n := ((0 * 256 + x1) * 256 + x2) * 256 + x3) (by omega) (by omega) b4]
    rw [addByte_eq (n := (((0 * 256 + x1) * 256 + x2) * 256 + x3) * 256 + x4) (by omega) (by omega) b5]
    rw [addByte_eq (n := ((((0 * 256 + x1) * 256 + x2) * 256 + x3) * 256 + x4) * 256 + x5) (by omega) (by omega) b6]
    rw [addByte_eq (n := (((((0 * 256 + x1) * 256 + x2) * 256 + x3) * 256 + x4) * 256 + x5) * 256 + x6) (by omega) (by omega) b7]
    rw [addByte_eq (n := ((((((0 * 256 + x1) * 256 + x2) * 256 + x3) * 256 + x4) * 256 + x5) * 256 + x6) * 256 + x7) (by omega) (by omega) b8]
    omega
theorem rdNum_i64 {b : List Int} (hb : ∀ x ∈ b, isByte x) (r : Rd) : i64 (rdNum b r).1 := by
  unfold rdNum
  split
  · exact ⟨by simp only; omega, by simp only; omega⟩
  · unfold getInt
    split
    · exact ⟨by simp only; omega, by simp only; omega⟩
    · rename_i hbad
      obtain ⟨h0, h1, h2, h3⟩ := getBad_iff.1 (by simpa using hbad)
      have hl : ((b.drop (r.a + 1).toNat).take 8).length = 8 := by rw [List.length_take, List.length_drop]; omega
      have hg : ((b.drop (r.a + 1).toNat).take 8).getD 0 0 = b.getD (r.a + 1).toNat 0 := by simp [List.getD_eq_getElem?_getD]
      obtain ⟨f0, f1⟩ := getFold_in hl (fun x hx => hb x (List.mem_of_mem_drop (List.mem_of_mem_take hx))) (by rw [hg]; exact h3)
      unfold i64
      simp only
      split
      · rw [wrap64 (by omega) (by omega)]; omega
      · omega

/-- Once bad, bad for ever. -/
theorem rdNum_bad {b : List Int} {r : Rd} (h : r.bad = true) : (rdNum b r).2.bad = true := by
  unfold rdNum
  rw [if_pos (.inl h)]
theorem rdNum_good {b : List Int} {r : Rd} (h : (rdNum b r).2.bad = false) : r.bad = false := by
  cases hr : r.bad with
  | false => rfl
  | true => rw [rdNum_bad hr] at h; simp at h
theorem rdMany_good {b : List Int} {r : Rd} : ∀ n, (rdMany b n r).2.bad = false → r.bad = false
  | 0, h => h
  | n + 1, h => rdMany_good n (rdNum_good h)
theorem rdCount_good {b : List Int} {r : Rd} {most : Int} (h : (rdCount b r most).2.bad = false) : rdCount b r most = rdNum b r ∧ r.bad = false ∧ 0 ≤ (rdNum b r).1 ∧ (rdNum b r).1 ≤ most := by
  unfold rdCount at h ⊢
  split at h
  · rename_i hw
    rw [if_pos hw]
    rw [within_iff] at hw
    exact ⟨rfl, rdNum_good h, hw.1, hw.2⟩
  · simp at h
theorem rdSome_snoc {b : List Int} : ∀ (n : Nat) (r : Rd), (rdMany b (n + 1) r).2.bad = false → rdMany b (n + 1) r = ((rdNum b r).1 :: (rdMany b n (rdNum b r).2).1, (rdMany b n (rdNum b r).2).2)
  | 0, r, _ => by simp [rdMany]
  | n + 1, r, h => by
    have h1 : (rdMany b (n + 1) r).2.bad = false := rdNum_good h
    have ih := rdSome_snoc n r h1
    have e : rdMany b (n + 1 + 1) r = ((rdMany b (n + 1) r).1 ++ [(rdNum b (rdMany b (n + 1) r).2).1], (rdNum b (rdMany b (n + 1) r).2).2) := rfl
    rw [e, ih]
    simp only [rdMany, List.cons_append]
theorem rdSome_eq {b : List Int} : ∀ (n : Nat) (r : Rd), (rdMany b n r).2.bad = false → rdSome b n r = rdMany b n r
  | 0, r, _ => rfl
  | n + 1, r, h => by
    have hr := rdMany_good (n + 1) h
    have e := rdSome_snoc n r h
    rw [e] at h ⊢
    simp only [rdSome, hr, Bool.false_eq_true, if_false]
    rw [rdSome_eq n _ h]
theorem rdSeq_good {α : Type} {f : Nat → Rd → α × Rd} (hf : ∀ i r, (f i r).2.bad = false → r.bad = false) {r : Rd} : ∀ n, (rdSeq f n r).2.bad = false → r.bad = false
  | 0, h => h
  | n + 1, h => rdSeq_good hf n (hf n _ h)
theorem rdSeq_congr {α : Type} {f g : Nat → Rd → α × Rd} (hf : ∀ i r, (f i r).2.bad = false → r.bad = false) {N : Nat} (hg : ∀ i r, i < N → (f i r).2.bad = false → g i r = f i r) {r : Rd} : ∀ n, n ≤ N → (rdSeq f n r).2.bad = false → rdSeq g n r = rdSeq f n r
  | 0, _, _ => rfl
  | n + 1, hn, h => by
    have h1 := hf n _ h
    have ih := rdSeq_congr hf hg n (by omega) h1
    simp only [rdSeq] at h ⊢
    rw [ih, hg n _ (by omega) h]
theorem rdThread_good {b : List Int} {r : Rd} (h : (rdThread b r).2.bad = false) : r.bad = false := rdNum_good (rdNum_good (rdMany_good 4 h))
theorem rdThread_eq {b : List Int} {r : Rd} (h : (rdThread b r).2.bad = false) : rdThreadS b r = rdThread b r := by
  unfold rdThreadS rdThread
  rw [rdSome_eq 4 _ h]
theorem rdChan_good {b : List Int} {cap : Int} {r : Rd} (h : (rdChan b cap r).2.bad = false) : r.bad = false := (rdCount_good (rdMany_good _ (rdCount_good h).2.1)).2.1
theorem rdChan_eq {b : List Int} {cap : Int} {r : Rd} (h : (rdChan b cap r).2.bad = false) : rdChanS b cap r = rdChan b cap r := by
  obtain ⟨c1, c2, c3, c4⟩ := rdCount_good h
  obtain ⟨d1, d2, d3, d4⟩ := rdCount_good (rdMany_good _ c2)
  unfold rdChanS rdChan
  rw [d1] at c1 c2 ⊢
  rw [if_pos (by omega), rdSome_eq _ _ c2, c1]
theorem rdNote_good {b : List Int} {r : Rd} (h : (rdNote b r).2.bad = false) : r.bad = false := rdNum_good (rdNum_good h)
theorem rdSeq_cons {α : Type} {f : Rd → α × Rd} : ∀ (n : Nat) (r : Rd), rdSeq (fun _ => f) (n + 1) r = ((f r).1 :: (rdSeq (fun _ => f) n (f r).2).1, (rdSeq (fun _ => f) n (f r).2).2)
  | 0, r => by simp [rdSeq]
  | n + 1, r => by
    have ih := rdSeq_cons (f := f) n r
    have e : rdSeq (fun _ => f) (n + 1 + 1) r = ((rdSeq (fun _ => f) (n + 1) r).1 ++ [(f (rdSeq (fun _ => f) (n + 1) r).2).1], (f (rdSeq (fun _ => f) (n + 1) r).2).2) := rfl
    rw [e, ih]
    simp only [rdSeq, List.cons_append]
theorem rdNotesS_eq {b : List Int} : ∀ (n : Nat) (r : Rd), (rdSeq (fun _ => rdNote b) n r).2.bad = false → rdNotesS b n r = rdSeq (fun _ => rdNote b) n r
  | 0, r, _ => rfl
  | n + 1, r, h => by
    have hr := rdSeq_good (f := fun _ => rdNote b) (fun _ _ h => rdNote_good h) (n + 1) h
    rw [rdSeq_cons] at h ⊢
    simp only [rdNotesS, hr, Bool.false_eq_true, if_false]
    rw [rdNotesS_eq n _ h]

theorem spec_of_impl {p : Prog} {b : List Int} (hok : progOk p = true) (h : (implParse p b).2.bad = false) : specParse p b = implParse p b := by
  have hn : sourceNew p = (⟨List.replicate p.bods.length thread0, p.caps.map chan0, []⟩, true) := by unfold sourceNew; rw [if_pos hok]; rfl
  change (parseN p b).2.bad = false at h
  have h2 : (rdCount b (parseC p b).2 4000).2.bad = false := rdSeq_good (f := fun _ => rdNote b) (fun _ _ h => rdNote_good h) _ h
  obtain ⟨c1, c2, c3, c4⟩ := rdCount_good h2
  have h3 : (parseT p b).2.bad = false := rdSeq_good (f := fun i => rdChan b (p.caps.getD i 0)) (fun _ _ h => rdChan_good h) _ c2
  have eT : parseTS p b = parseT p b := by
    unfold parseTS parseT
    rw [hn]
    simp only [List.length_replicate, Bool.not_true]
    exact rdSeq_congr (f := fun _ => rdThread b) (g := fun _ => rdThreadS b) (N := p.bods.length) (fun _ _ h => rdThread_good h) (fun _ _ _ h => rdThread_eq h) _ (Nat.le_refl _) h3
  have eC : parseCS p b = parseC p b := by
    unfold parseCS parseC
    rw [hn, eT]
    simp only [List.length_map]
    refine rdSeq_congr (f := fun i => rdChan b (p.caps.getD i 0)) (N := p.caps.length) (fun _ _ h => rdChan_good h) (fun i r hi h => ?_) _ (Nat.le_refl _) c2
    have : (p.caps.map chan0).getD i default = chan0 (p.caps.getD i 0) := by simp [List.getD_eq_getElem?_getD, hi]
    rw [this]
    exact rdChan_eq h
  have eN : parseNS p b = parseN p b := by
    unfold parseNS parseN
    rw [eC, c1, if_pos (by omega)]
    unfold parseN at h
    rw [c1] at h
    exact rdNotesS_eq _ _ h
  unfold specParse implParse
  rw [eT, eC, eN]

/-- A reader f reads x off these bytes. -/
def Rds {α : Type} (f : List Int → Rd → α × Rd) (B : List Int) (x : α) : Prop := ∀ b pre rest, b = pre ++ (B ++ rest) → f b ⟨pre.length, false⟩ = (x, ⟨((pre.length + B.length : Nat) : Int), false⟩)
theorem rds_num {n : Int} (h : i64 n) : Rds rdNum (putInt n) n := by
  intro b pre rest hb
  have hg := getInt_put pre rest h
  unfold rdNum
  rw [hb, hg]
  simp
theorem rds_many {l : List Int} (h : ∀ x ∈ l, i64 x) : ∀ n, n ≤ l.length → Rds (fun b => rdMany b n) (putAll (l.take n)) (l.take n)
  | 0, _ => fun b pre rest hb => by simp [rdMany, putAll]
  | n + 1, hn => fun b pre rest hb => by
    have hx := h _ (getD_mem l n 0 (by omega))
    have e := putAll_next l n (by omega)
    have h1 := rds_many h n (by omega) b pre (putInt (l.getD n 0) ++ rest) (by rw [hb, e]; simp)
    have h2 := rds_num hx b (pre ++ putAll (l.take n)) rest (by rw [hb, e]; simp)
    simp only [rdMany]
    simp only at h1
    rw [h1]
    simp only
    rw [List.length_append] at h2
    rw [h2, take_snoc l 0 n (by omega), ← take_snoc l 0 n (by omega), e]
    simp [take_snoc l 0 n (by omega), Nat.add_assoc]
theorem rds_all {l : List Int} (h : ∀ x ∈ l, i64 x) {n : Nat} (hn : n = l.length) : Rds (fun b => rdMany b n) (putAll l) l := by
  have := rds_many h l.length (Nat.le_refl _)
  rw [List.take_length] at this
  rw [hn]
  exact this
theorem rds_count {n most : Int} (h : i64 n) (h0 : 0 ≤ n) (h1 : n ≤ most) : Rds (fun b r => rdCount b r most) (putInt n) n := by
  intro b pre rest hb
  have := rds_num h b pre rest hb
  simp only [rdCount]
  rw [this]
  rw [if_pos (by rw [within_iff]; exact ⟨h0, h1⟩)]
theorem rds_note {n : Note} (h1 : i64 n.who) (h2 : i64 n.v) : Rds rdNote (ntBytes n) n := by
  intro b pre rest hb
  have e : ntBytes n = putInt n.who ++ putInt n.v := by simp [ntBytes, putAll]
  have g1 := rds_num h1 b pre (putInt n.v ++ rest) (by rw [hb, e]; simp)
  have g2 := rds_num h2 b (pre ++ putInt n.who) rest (by rw [hb, e]; simp)
  rw [List.length_append] at g2
  unfold rdNote
  rw [g1]
  simp only
  rw [g2, e]
  simp [Nat.add_assoc]
theorem rds_thread {t : Thread} (h1 : i64 t.at_) (h2 : i64 t.st) (h3 : ∀ x ∈ t.regs, i64 x) (h4 : t.regs.length = 4) : Rds rdThread (thBytes t) t := by
  intro b pre rest hb
  have e : thBytes t = putInt t.at_ ++ (putInt t.st ++ putAll t.regs) := by simp [thBytes, putAll]
  have g1 := rds_num h1 b pre (putInt t.st ++ (putAll t.regs ++ rest)) (by rw [hb, e]; simp)
  have g2 := rds_num h2 b (pre ++ putInt t.at_) (putAll t.regs ++ rest) (by rw [hb, e]; simp)
  have g3 := rds_all h3 h4.symm b (pre ++ (putInt t.at_ ++ putInt t.st)) rest (by rw [hb, e]; simp)
  simp only [List.length_append, putInt_length] at g1 g2 g3
  unfold rdThread
  rw [g1]
  simp only
  rw [g2]
  simp only
  rw [show pre.length + 9 + 9 = pre.length + (9 + 9) from rfl, g3, e]
  simp [putAll_length, Nat.add_assoc]
  omega
theorem rds_chan {c : Chan} (h1 : ∀ x ∈ c.list, i64 x) (h2 : c.list.length ≤ 4) : Rds (fun b => rdChan b c.cap) (chBytes c) c := by
  intro b pre rest hb
  have e : chBytes c = putInt (c.list.length : Int) ++ (putAll c.list ++ putInt (numb c.closed)) := by simp [chBytes, putAll]
  have n1 : i64 (c.list.length : Int) := ⟨by omega, by omega⟩
  have n2 : i64 (numb c.closed) ∧ 0 ≤ numb c.closed ∧ numb c.closed ≤ 1 := by unfold numb; split <;> exact ⟨⟨by omega, by omega⟩, by omega, by omega⟩
  have g1 := rds_count n1 (by omega) (show (c.list.length : Int) ≤ 4 by omega) b pre (putAll c.list ++ (putInt (numb c.closed) ++ rest)) (by rw [hb, e]; simp)
  have g2 := rds_all h1 (n := c.list.length) rfl b (pre ++ putInt (c.list.length : Int)) (putInt (numb c.closed) ++ rest) (by rw [hb, e]; simp)
  have g3 := rds_count n2.1 n2.2.1 n2.2.2 b (pre ++ (putInt (c.list.length : Int) ++ putAll c.list)) rest (by rw [hb, e]; simp)
  simp only [List.length_append, putInt_length, putAll_length] at g1 g2 g3
  have hn : decide (numb c.closed = 1) = c.closed := by unfold numb; cases c.closed <;> rfl
  rw [← Nat.add_assoc] at g3
  simp only [rdChan, g1, Int.toNat_natCast, g2, g3, hn, e, List.length_append, putInt_length, putAll_length]
  refine Prod.ext rfl (congrArg (fun n => Rd.mk n false) ?_)
  omega
theorem rds_seq {α : Type} {f : List Int → Nat → Rd → α × Rd} {g : α → List Int} (d : α) {l : List α} (h : ∀ i, i < l.length → Rds (fun b => f b i) (g (l.getD i d)) (l.getD i d)) : ∀ n, n ≤ l.length → Rds (fun b => rdSeq (f b) n) ((l.take n).flatMap g) (l.take n)
  | 0, _ => fun b pre rest hb => by simp [rdSeq]
  | n + 1, hn => fun b pre rest hb => by
    have e := flat_take g d l n (by omega)
    have h1 := rds_seq d h n (by omega) b pre (g (l.getD n d) ++ rest) (by rw [hb, e]; simp)
    have h2 := h n (by omega) b (pre ++ (l.take n).flatMap g) rest (by rw [hb, e]; simp)
    simp only [rdSeq]
    simp only at h1 h2
    rw [h1]
    simp only
    rw [List.length_append] at h2
    rw [h2, e]
    simp [take_snoc l d n (by omega), Nat.add_assoc]
theorem rds_list {α : Type} {f : List Int → Nat → Rd → α × Rd} {g : α → List Int} (d : α) {l : List α} {n : Nat} (hn : n = l.length) (h : ∀ i, i < l.length → Rds (fun b => f b i) (g (l.getD i d)) (l.getD i d)) : Rds (fun b => rdSeq (f b) n) (l.flatMap g) l := by
  have := rds_seq d h l.length (Nat.le_refl _)
  rw [List.take_length] at this
  rw [hn]
  exact this

/-- All numbers of a source are whole numbers of 64 bits. -/
structure SrcIn (s : Source) : Prop where
  ths : ∀ t ∈ s.ths, i64 t.at_ ∧ i64 t.st ∧ ∀ x ∈ t.regs, i64 x
  chs : ∀ c ∈ s.chs, ∀ x ∈ c.list, i64 x
  tr : ∀ n ∈ s.tr, i64 n.who ∧ i64 n.v
theorem rdSome_i64 {b : List Int} (hb : ∀ x ∈ b, isByte x) : ∀ (n : Nat) (r : Rd), ∀ x ∈ (rdSome b n r).1, i64 x
  | 0, r, x, hx => by simp [rdSome] at hx
  | n + 1, r, x, hx => by
    unfold rdSome at hx
    split at hx
    · simp at hx
    · simp only [List.mem_cons] at hx
      rcases hx with rfl | hx
      · exact rdNum_i64 hb r
      · exact rdSome_i64 hb n _ x hx
theorem rdNotesS_i64 {b : List Int} (hb : ∀ x ∈ b, isByte x) : ∀ (n : Nat) (r : Rd), ∀ x ∈ (rdNotesS b n r).1, i64 x.who ∧ i64 x.v
  | 0, r, x, hx => by simp [rdNotesS] at hx
  | n + 1, r, x, hx => by
    unfold rdNotesS at hx
    split at hx
    · simp at hx
    · simp only [List.mem_cons] at hx
      rcases hx with rfl | hx
      · exact ⟨rdNum_i64 hb r, rdNum_i64 hb _⟩
      · exact rdNotesS_i64 hb n _ x hx
theorem rdSeq_every {α : Type} {f : Nat → Rd → α × Rd} {Q : α → Prop} (hq : ∀ i r, Q (f i r).1) (r : Rd) : ∀ n, ∀ x ∈ (rdSeq f n r).1, Q x
  | 0, x, hx => by simp [rdSeq] at hx
  | n + 1, x, hx => by
    simp only [rdSeq, List.mem_append, List.mem_singleton] at hx
    rcases hx with hx | rfl
    · exact rdSeq_every hq r n x hx
    · exact hq n _
theorem specParse_in (p : Prog) {b : List Int} (hb : ∀ x ∈ b, isByte x) : SrcIn (specParse p b).1 :=
  ⟨rdSeq_every (Q := fun t : Thread => i64 t.at_ ∧ i64 t.st ∧ ∀ x ∈ t.regs, i64 x) (fun _ r => ⟨rdNum_i64 hb _, rdNum_i64 hb _, rdSome_i64 hb _ _⟩) _ _,
   rdSeq_every (Q := fun c : Chan => ∀ x ∈ c.list, i64 x) (fun _ r => rdSome_i64 hb _ _) _ _,
   rdNotesS_i64 hb _ _⟩
/-- What is told of a right source is read back. -/
theorem parse_back {p : Prog} {s : Source} (hok : sourceOk p s = true) (hi : SrcIn s) : implParse p (srcBytes s) = (s, ⟨((srcBytes s).length : Int), false⟩) := by
  have hn := notesOk_len hok
  obtain ⟨hp, h1, h2, h3, h4, h5⟩ := (sourceOk_iff p s).1 hok
  have hp' := hp
  simp only [progOk, Bool.and_eq_true, decide_eq_true_eq, within_iff] at hp'
  have gT := rds_list (f := fun b _ => rdThread b) (g := thBytes) default h1.symm (fun i hi' => by
    have hm := getD_mem s.ths i default hi'
    obtain ⟨a1, a2, a3⟩ := hi.ths _ hm
    have a4 := h4 i hi'
    simp only [threadOk, Bool.and_eq_true, decide_eq_true_eq] at a4
    exact rds_thread a1 a2 a3 (by omega)) (srcBytes s) [] (s.chs.flatMap chBytes ++ (putAll [(s.tr.length : Int)] ++ s.tr.flatMap ntBytes)) (by simp [srcBytes])
  have gC := rds_list (f := fun b i => rdChan b (p.caps.getD i 0)) (g := chBytes) default h2.symm (fun i hi' => by
    have hm := getD_mem s.chs i default hi'
    obtain ⟨a4, a5⟩ := h5 i hi'
    simp only [chanOk, Bool.and_eq_true, decide_eq_true_eq, within_iff] at a4
    show Rds (fun b => rdChan b (p.caps.getD i 0)) _ _
    rw [← a5]
    exact rds_chan (hi.chs _ hm) (by omega)) (srcBytes s) (s.ths.flatMap thBytes) (putAll [(s.tr.length : Int)] ++ s.tr.flatMap ntBytes) (by simp [srcBytes])
  have gN := rds_count (n := (s.tr.length : Int)) (most := 4000) ⟨by omega, by omega⟩ (by omega) (by omega) (srcBytes s) (s.ths.flatMap thBytes ++ s.chs.flatMap chBytes) (s.tr.flatMap ntBytes) (by simp [srcBytes, putAll])
  have gS := rds_list (f := fun b _ => rdNote b) (g := ntBytes) (n := s.tr.length) (l := s.tr) default rfl (fun i hi' => by
    have hm := getD_mem s.tr i default hi'
    exact rds_note (hi.tr _ hm).1 (hi.tr _ hm).2) (srcBytes s) (s.ths.flatMap thBytes ++ (s.chs.flatMap chBytes ++ putInt s.tr.length)) [] (by simp [srcBytes, putAll])
  simp only [List.length_nil, Nat.zero_add, List.length_append, putInt_length] at gT gC gN gS
  have eT : parseT p (srcBytes s) = _ := gT
  have eC : parseC p (srcBytes s) = (s.chs, ⟨((s.ths.flatMap thBytes).length + (s.chs.flatMap chBytes).length : Nat), false⟩) := by
    unfold parseC
    rw [eT]
    exact gC
  have eN : parseN p (srcBytes s) = (s.tr, ⟨((s.ths.flatMap thBytes).length + ((s.chs.flatMap chBytes).length + 9) + (s.tr.flatMap ntBytes).length : Nat), false⟩) := by
    unfold parseN
    rw [eC]
    simp only
    rw [gN]
    simp only [Int.toNat_natCast]
    rw [Nat.add_assoc (List.flatMap thBytes s.ths).length _ 9]
    exact gS
  unfold implParse
  rw [eN, eC, eT]
  refine Prod.ext rfl (congrArg (fun n => Rd.mk n false) ?_)
  have : srcBytes s = s.ths.flatMap thBytes ++ (s.chs.flatMap chBytes ++ (putInt s.tr.length ++ s.tr.flatMap ntBytes)) := by simp [srcBytes, putAll]
  rw [this]
  simp only [List.length_append, putInt_length]
  omega
/-- Both read the same. -/
theorem implOf_eq (p : Prog) {b : List Int} (hb : ∀ x ∈ b, isByte x) : implOf p b = specOf p b := by
  by_cases hs : (specParse p b).2.bad = false ∧ sourceOk p (specParse p b).1 = true ∧ srcBytes (specParse p b).1 = b
  · have hp := ((sourceOk_iff p _).1 hs.2.1).1
    have e := parse_back hs.2.1 (specParse_in p hb)
    rw [hs.2.2] at e
    have e2 := spec_of_impl hp (by rw [e])
    unfold implOf specOf
    rw [if_pos hs]
    rw [e2] at hs ⊢
    rw [if_pos ⟨hp, hs⟩]
  · have : ¬ (progOk p = true ∧ (implParse p b).2.bad = false ∧ sourceOk p (implParse p b).1 = true ∧ srcBytes (implParse p b).1 = b) := fun h => by
      rw [← spec_of_impl h.1 h.2.1] at h
      exact hs h.2
    unfold implOf specOf
    rw [if_neg hs, if_neg this]

theorem okMr_map {α : Type} {M : Mode → Prop} {f : α → List AV} (h : ∀ x, okMs M (f x)) : ∀ (l : List α), okMr M (l.map f)
  | [] => trivial
  | a :: l => ⟨h a, okMr_map h l⟩
theorem okMr_ints {M : Mode → Prop} (l : List Int) : okMr M (ints l) := okMr_map (fun _ => by simp only [okMs, okM, and_true]) l
theorem okMr_bys {M : Mode → Prop} (l : List Int) : okMr M (bys l) := okMr_map (fun _ => by simp only [okMs, okM, and_true]) l
theorem okM_source (s : Source) (b : Bool) : okM (fun m => m = .own) (.tup [.agg (sourceC .own s), .bool b]) := by
  simp only [okM, okMs, sourceC, and_true, true_and]
  exact ⟨okMr_map (fun t => by simp only [threadC, okMs, okM, true_and, and_true]; exact okMr_ints _) _, okMr_map (fun t => by simp only [chanC, okMs, okM, true_and, and_true]; exact okMr_ints _) _, okMr_map (fun t => by simp only [noteC, okMs, okM, and_true]) _⟩
theorem lend_prog (p : Prog) (b : List Int) (e : Env) (cs : List Value) (hB : ∀ b, ¬ e.Bo b) (h : RVs e [.agg (progC .bw p), .sl .bw 1 (bys b)] cs []) : RVs e [.agg (progC .bw p), .sl .fz 1 (bys b)] cs [] := by
  simp only [RVs] at h ⊢
  obtain ⟨v, vs, L1, L2, h1, h2, ⟨v', vs', L3, L4, h3, h4, h5, h6⟩, h7⟩ := h
  exact ⟨v, vs, L1, L2, h1, h2, ⟨v', vs', L3, L4, h3, lend_sl hB h4, h5, h6⟩, h7⟩
theorem implSourceOf_ok (p : Prog) (b : List Int) (hp : SmallP p) (hb : b.length < 2 ^ 40) (hby : ∀ x ∈ b, isByte x) : CallOk Try.prog num 154 [.agg (progC .bw p), .sl .bw 1 (bys b)] [] (.tup [.agg (sourceC .own (implOf p b).1), .bool (implOf p b).2]) :=
  (implSourceOf_fz p b hp hb hby).lend (lend_prog p b) (okM_source _ _)
theorem specSourceOf_ok (p : Prog) (b : List Int) (hp : SmallP p) (hb : b.length < 2 ^ 40) (hby : ∀ x ∈ b, isByte x) : CallOk Try.prog num 153 [.agg (progC .bw p), .sl .bw 1 (bys b)] [] (.tup [.agg (sourceC .own (implOf p b).1), .bool (implOf p b).2]) := by
  rw [implOf_eq p hby]
  exact (specSourceOf_fz p b hp hb hby).lend (lend_prog p b) (okM_source _ _)
theorem implOf_ok (p : Prog) (b : List Int) : SrcSz (implOf p b).1 5000 ∧ ((implOf p b).2 = true → sourceOk p (implOf p b).1 = true ∧ srcBytes (implOf p b).1 = b) := by
  unfold implOf
  split
  · rename_i h
    exact ⟨srcSz_ok h.2.2.1, fun _ => ⟨h.2.2.1, h.2.2.2⟩⟩
  · exact ⟨⟨by simp, by simp, by simp, by simp, by simp, by simp [wSource, tots]⟩, by simp⟩

attribute [local simp] sourceMarks
set_option maxHeartbeats 8000000 in
theorem exactSourceOf_ok (p : Prog) (b : List Int) (h1 : p.caps.length < 2 ^ 63 ∧ p.bods.length < 2 ^ 63 ∧ ∀ b ∈ p.bods, b.length < 2 ^ 63) (hby : ∀ x ∈ b, isByte x) :
    CallOk Try.prog num 151 [.agg (progC .bw p), .sl .bw 1 (bys b)] [] (.bool true) := by
  refine enter (m := m151) (f := 151) (fn := Try.f3) Try.func3 (by kernel_rfl) rfl c151 rfl (by simp [Try.f3]) (by simp [bnds, bnd, nf_sl, nf_int, nf_bool, nf_str, ints_bnd]) (fun _ _ h => by simp [preH, look] at h) ?_
  unfold m151
  by_cases hpk : (1048576 : Int) < b.length
  · simp only [go_sem, qA, qB, qC, qD, qE, qF, qG, qH, hpk]
    repeat refine K ?_
    refine ⟨_, Sub.refl _, ?_⟩; simp [FinS, nilL, nilV, oneOr, -List.drop_one]
  simp only [go_sem, qA, qB, qC, qD, qE, qF, qG, qH, hpk]
  repeat refine K ?_
  refine CA [] (szProg_ok p 1048576 h1.1 h1.2.1 h1.2.2 (by omega) (by omega)) ?_
  try simp only [go_sem, qA, qB, qC, qD, qE, qF, qG, qH]
  repeat refine K ?_
  rw [szProg_eq p _ (by omega)]
  refine branch_intro (fun hc => ?_) (fun hc => ?_)
  · simp only [go_sem, qA, qB, qC, qD, qE, qF, qG, qH]
    repeat refine K ?_
    refine ⟨_, Sub.refl _, ?_⟩; simp [FinS, nilL, nilV, oneOr, -List.drop_one]
  simp only [decide_eq_false_iff_not] at hc
  have hp := prgSz_of (p := p) (n := 1048576) (by have := szL_ge hc (by omega); omega)
  clear hc h1
  obtain ⟨p1, p2, p3, p4⟩ := hp
  have q1 : ∀ b ∈ p.bods, 40 * b.length ≤ 2 ^ 47 := fun b hb => by have := p3 b hb; omega
  have q2 : ∀ b ∈ p.bods, b.length ≤ 2 ^ 47 := fun b hb => by have := p3 b hb; omega
  have hpp : SmallP p := ⟨by omega, by omega, fun b hb => by have := p3 b hb; omega⟩
  have tp := toProg_ok p (by omega) (by omega) q1
  have tb := toByteS_ok b (by omega)
  have cs := specSourceOf_ok p b hpp (by omega) hby
  have ci := implSourceOf_ok p b hpp (by omega) hby
  have hsz := (implOf_ok p b).1
  generalize hw : implOf p b = w at hsz cs ci
  obtain ⟨w1, w2, w3, w4, w5, w6⟩ := hsz
  have q7 : ∀ t ∈ w.1.ths, t.regs.length ≤ 2 ^ 47 := fun t ht => by have := w4 t ht; omega
  have q8 : ∀ c ∈ w.1.chs, c.list.length ≤ 2 ^ 47 := fun t ht => by have := w5 t ht; omega
  have ew := eqSource_ok w.1 w.1 (by omega) (by omega) (by omega) q7 q8
  have eb := eqByteS_ok b b (by omega)
  have ep := eqProg_ok p p (by omega) (by omega) q2
  have d1 : decide ((1 : Int) + wSource w.1 < 0) = false := by simp; omega
  have d2 : decide ((1 : Int) + p.caps.length + 5 * tot p.bods + b.length < 0) = false := by simp; omega
  simp only [go_sem, qA, qB, qC, qD, qE, qF, qG, qH]
  repeat refine K ?_
  refine CA [] (tp) ?_
  try simp only [go_sem, qA, qB, qC, qD, qE, qF, qG, qH]
  repeat refine K ?_
  refine CA [] (tb) ?_
  try simp only [go_sem, qA, qB, qC, qD, qE, qF, qG, qH]
  repeat refine K ?_
  refine CA [] (cs) ?_
  try simp only [go_sem, qA, qB, qC, qD, qE, qF, qG, qH]
  repeat refine K ?_
  try simp only [go_sem, qA, qB, qC, qD, qE, qF, qG, qH]
  repeat refine K ?_
  refine CA [] (tp) ?_
  try simp only [go_sem, qA, qB, qC, qD, qE, qF, qG, qH]
  repeat refine K ?_
  refine CA [] (tb) ?_
  try simp only [go_sem, qA, qB, qC, qD, qE, qF, qG, qH]
  repeat refine K ?_
  refine CA [] (ci) ?_
  try simp only [go_sem, qA, qB, qC, qD, qE, qF, qG, qH]
  repeat refine K ?_
  try simp only [go_sem, qA, qB, qC, qD, qE, qF, qG, qH]
  repeat refine K ?_
  refine CA [] (ew) ?_
  try simp only [go_sem, qA, qB, qC, qD, qE, qF, qG, qH]
  repeat refine K ?_
  try simp only [go_sem, qA, qB, qC, qD, qE, qF, qG, qH]
  repeat refine K ?_
  refine DA [] (tp) ?_
  try simp only [go_sem, qA, qB, qC, qD, qE, qF, qG, qH]
  repeat refine K ?_
  refine DA [] (ep) ?_
  try simp only [go_sem, qA, qB, qC, qD, qE, qF, qG, qH]
  repeat refine K ?_
  try simp only [go_sem, qA, qB, qC, qD, qE, qF, qG, qH]
  repeat refine K ?_
  refine CA [] (tb) ?_
  try simp only [go_sem, qA, qB, qC, qD, qE, qF, qG, qH]
  repeat refine K ?_
  refine CA [] (eb) ?_
  try simp only [go_sem, qA, qB, qC, qD, qE, qF, qG, qH]
  repeat refine K ?_
  try simp only [go_sem, qA, qB, qC, qD, qE, qF, qG, qH]
  repeat refine K ?_
  refine CA [(0, 18), (1, 19)] (markProg_ok p 1 (by omega) (by omega) (by omega)) ?_
  try simp only [go_sem, qA, qB, qC, qD, qE, qF, qG, qH]
  repeat refine K ?_
  refine CA [(0, 21)] (markByteS_ok b (1 + p.caps.length + 5 * tot p.bods) (by omega) (by omega)) ?_
  try simp only [go_sem, qA, qB, qC, qD, qE, qF, qG, qH]
  repeat refine K ?_
  try simp only [go_sem, qA, qB, qC, qD, qE, qF, qG, qH, d2]
  repeat refine K ?_
  refine CA [] (ew) ?_
  try simp only [go_sem, qA, qB, qC, qD, qE, qF, qG, qH]
  repeat refine K ?_
  try simp only [go_sem, qA, qB, qC, qD, qE, qF, qG, qH]
  repeat refine K ?_
  refine CA [(0, 22), (1, 23), (2, 24)] (markSource_ok w.1 1 (by omega) (by omega) (by omega) (by omega) (by omega)) ?_
  try simp only [go_sem, qA, qB, qC, qD, qE, qF, qG, qH]
  repeat refine K ?_
  try simp only [go_sem, qA, qB, qC, qD, qE, qF, qG, qH]
  repeat refine K ?_
  refine CA [] (heldSource_ok w.1 1 (by omega) (by omega) (by omega) (by omega) (by omega)) ?_
  try simp only [go_sem, qA, qB, qC, qD, qE, qF, qG, qH]
  repeat refine K ?_
  try simp only [go_sem, qA, qB, qC, qD, qE, qF, qG, qH, d1]
  repeat refine K ?_
  refine CA [] (tp) ?_
  try simp only [go_sem, qA, qB, qC, qD, qE, qF, qG, qH]
  repeat refine K ?_
  refine CA [] (tb) ?_
  try simp only [go_sem, qA, qB, qC, qD, qE, qF, qG, qH]
  repeat refine K ?_
  refine CA [] (ci) ?_
  try simp only [go_sem, qA, qB, qC, qD, qE, qF, qG, qH]
  repeat refine K ?_
  try simp only [go_sem, qA, qB, qC, qD, qE, qF, qG, qH]
  repeat refine K ?_
  refine CA [] (ew) ?_
  try simp only [go_sem, qA, qB, qC, qD, qE, qF, qG, qH]
  repeat refine K ?_
  try simp only [go_sem, qA, qB, qC, qD, qE, qF, qG, qH]
  repeat refine K ?_
  refine CA [] (heldSource_ok w.1 1 (by omega) (by omega) (by omega) (by omega) (by omega)) ?_
  try simp only [go_sem, qA, qB, qC, qD, qE, qF, qG, qH]
  repeat refine K ?_
  try simp only [go_sem, qA, qB, qC, qD, qE, qF, qG, qH, d1]
  repeat refine K ?_
  refine ⟨_, Sub.refl _, ?_⟩; simp [FinS, nilL, nilV, oneOr, -List.drop_one]

def resume (p : Prog) (b : List Int) (picks : List Int) : List Int × Bool := if (implOf p b).2 then (srcBytes (sourceRun p (implOf p b).1 picks).1, true) else ([], false)
theorem sourceRun_keeps {p : Prog} {s : Source} (picks : List Int) (h : sourceOk p s = true) : sourceOk p (sourceRun p s picks).1 = true := by
  unfold sourceRun
  split
  · have := runFold_ok h picks picks.length (Nat.le_refl _)
    rw [List.take_length] at this
    exact this.1
  · exact h
set_option maxHeartbeats 2000000 in
theorem implResume_ok (p : Prog) (b picks : List Int) (hp : SmallP p) (hb : b.length < 2 ^ 40) (hby : ∀ x ∈ b, isByte x) (hk : picks.length < 2 ^ 40) :
    CallOk Try.prog num 182 [.agg (progC .bw p), .sl .bw 1 (bys b), .sl .bw 1 (ints picks)] [] (.tup [.sl .own 1 (bys (resume p b picks).1), .bool (resume p b picks).2]) := by
  have ci := implSourceOf_ok p b hp hb hby
  obtain ⟨hsz, hok⟩ := implOf_ok p b
  unfold resume
  generalize implOf p b = w at hsz ci hok
  obtain ⟨s, ok⟩ := w
  simp only at hsz ci hok
  refine enter (m := m182) (f := 182) (fn := Try.f52) Try.func52 (by kernel_rfl) rfl c182 rfl (by simp [Try.f52]) (by simp [bnds, bnd, nf_sl, nf_int, nf_bool, nf_str, ints_bnd]) (fun _ _ h => by simp [preH, look] at h) ?_
  unfold m182
  simp only [go_sem, qA, qB, qC, qD, qE, qF, qG, qH]
  repeat refine K ?_
  cases ok with
  | false =>
    refine CA [] (ci) ?_
    try simp only [go_sem, qA, qB, qC, qD, qE, qF, qG, qH]
    repeat refine K ?_
    try simp only [go_sem, qA, qB, qC, qD, qE, qF, qG, qH]
    repeat refine K ?_
    refine ⟨_, Sub.refl _, FinS_tup (by simp) ?_⟩; simp [-List.drop_one]
  | true =>
    refine CA [] (ci) ?_
    try simp only [go_sem, qA, qB, qC, qD, qE, qF, qG, qH]
    repeat refine K ?_
    have hs := (hok rfl).1
    have cr := implSourceRun_ok p s picks hp (hsz.small (by omega)) hk
    have hz := srcSz_ok (sourceRun_keeps picks hs)
    have cb := implSourceBytes_ok (sourceRun p s picks).1 (hz.mono (by omega))
    try simp only [go_sem, qA, qB, qC, qD, qE, qF, qG, qH]
    repeat refine K ?_
    refine CA [] (cr) ?_
    try simp only [go_sem, qA, qB, qC, qD, qE, qF, qG, qH]
    repeat refine K ?_
    try simp only [go_sem, qA, qB, qC, qD, qE, qF, qG, qH]
    repeat refine K ?_
    apply calls_mk
    · refine Sub.trans (Sub.fold1 19 0 15 rfl (by simp [-gD] <;> omega) rfl (by decide) (by decide) rfl) ?_
      simp only [fS, qA, qC]
      refine Sub.trans (Sub.fold1 19 1 16 rfl (by simp [-gD] <;> omega) rfl (by decide) (by decide) rfl) ?_
      simp only [fS, qA, qC]
      refine Sub.trans (Sub.fold1 19 2 17 rfl (by simp [-gD] <;> omega) rfl (by decide) (by decide) rfl) ?_
      simp only [fS, qA, qC]
      exact Sub.refl _
    refine CA [] (cb) ?_
    try simp only [go_sem, qA, qB, qC, qD, qE, qF, qG, qH]
    repeat refine K ?_
    try simp only [go_sem, qA, qB, qC, qD, qE, qF, qG, qH]
    repeat refine K ?_
    refine ⟨_, Sub.refl _, FinS_tup (by simp) ?_⟩; simp [-List.drop_one]
set_option maxHeartbeats 2000000 in
theorem specResume_ok (p : Prog) (b picks : List Int) (hp : SmallP p) (hb : b.length < 2 ^ 40) (hby : ∀ x ∈ b, isByte x) (hk : picks.length < 2 ^ 40) :
    CallOk Try.prog num 183 [.agg (progC .bw p), .sl .bw 1 (bys b), .sl .bw 1 (ints picks)] [] (.tup [.sl .own 1 (bys (resume p b picks).1), .bool (resume p b picks).2]) := by
  have ci := specSourceOf_ok p b hp hb hby
  obtain ⟨hsz, hok⟩ := implOf_ok p b
  unfold resume
  generalize implOf p b = w at hsz ci hok
  obtain ⟨s, ok⟩ := w
  simp only at hsz ci hok
  refine enter (m := m183) (f := 183) (fn := Try.f53) Try.func53 (by kernel_rfl) rfl c183 rfl (by simp [Try.f53]) (by simp [bnds, bnd, nf_sl, nf_int, nf_bool, nf_str, ints_bnd]) (fun _ _ h => by simp [preH, look] at h) ?_
  unfold m183
  simp only [go_sem, qA, qB, qC, qD, qE, qF, qG, qH]
  repeat refine K ?_
  cases ok with
  | false =>
    refine CA [] (ci) ?_
    try simp only [go_sem, qA, qB, qC, qD, qE, qF, qG, qH]
    repeat refine K ?_
    try simp only [go_sem, qA, qB, qC, qD, qE, qF, qG, qH]
    repeat refine K ?_
    refine ⟨_, Sub.refl _, FinS_tup (by simp) ?_⟩; simp [-List.drop_one]
  | true =>
    refine CA [] (ci) ?_
    try simp only [go_sem, qA, qB, qC, qD, qE, qF, qG, qH]
    repeat refine K ?_
    have hs := (hok rfl).1
    have cr := specSourceRun_ok p s picks hp (hsz.small (by omega)) hk
    have hz := srcSz_ok (sourceRun_keeps picks hs)
    have cb := specSourceBytes_ok p (sourceRun p s picks).1 hp (hz.mono (by omega))
    rw [if_pos (sourceRun_keeps picks hs)] at cb
    try simp only [go_sem, qA, qB, qC, qD, qE, qF, qG, qH]
    repeat refine K ?_
    refine CA [] (cr) ?_
    try simp only [go_sem, qA, qB, qC, qD, qE, qF, qG, qH]
    repeat refine K ?_
    try simp only [go_sem, qA, qB, qC, qD, qE, qF, qG, qH]
    repeat refine K ?_
    refine CA [] (cb) ?_
    try simp only [go_sem, qA, qB, qC, qD, qE, qF, qG, qH]
    repeat refine K ?_
    try simp only [go_sem, qA, qB, qC, qD, qE, qF, qG, qH]
    repeat refine K ?_
    refine ⟨_, Sub.refl _, FinS_tup (by simp) ?_⟩; simp [-List.drop_one]
theorem implSaved_ok (p : Prog) (s : Source) (hp : SmallP p) (hs : SrcSz s 2097152) : CallOk Try.prog num 185 [.agg (progC .bw p), .agg (sourceC .bw s)] [] (.sl .own 1 (bys (if sourceOk p s then srcBytes s else []))) := by
  have co := implSourceOk_ok p s hp (hs.small (by omega))
  have cb := implSourceBytes_ok s hs
  refine enter (m := m185) (f := 185) (fn := Try.f55) Try.func55 (by kernel_rfl) rfl c185 rfl (by simp [Try.f55]) (by simp [bnds, bnd, nf_sl, nf_int, nf_bool, nf_str, ints_bnd]) (fun _ _ h => by simp [preH, look] at h) ?_
  unfold m185
  simp only [go_sem, qA, qB, qC, qD, qE, qF, qG, qH]
  repeat refine K ?_
  refine CA [] (co) ?_
  try simp only [go_sem, qA, qB, qC, qD, qE, qF, qG, qH]
  repeat refine K ?_
  cases sourceOk p s with
  | false =>
    try simp only [go_sem, qA, qB, qC, qD, qE, qF, qG, qH]
    repeat refine K ?_
    refine ⟨_, Sub.refl _, FinS_one ?_⟩; simp [-List.drop_one]
  | true =>
    try simp only [go_sem, qA, qB, qC, qD, qE, qF, qG, qH]
    repeat refine K ?_
    refine CA [] (cb) ?_
    try simp only [go_sem, qA, qB, qC, qD, qE, qF, qG, qH]
    repeat refine K ?_
    try simp only [go_sem, qA, qB, qC, qD, qE, qF, qG, qH]
    repeat refine K ?_
    refine ⟨_, Sub.refl _, FinS_one ?_⟩; simp [-List.drop_one]

theorem resume_len (p : Prog) (b picks : List Int) : (resume p b picks).1.length ≤ 100000 := by
  unfold resume
  split
  · rename_i h
    have hz := srcSz_ok (sourceRun_keeps picks ((implOf_ok p b).2 h).1)
    have hw := hz.w
    simp only [srcBytes, List.length_append, flat_len wThread thBytes thBytes_len, flat_len wChan chBytes chBytes_len, flat_len wNote ntBytes ntBytes_len, putAll_length, List.length_cons, List.length_nil]
    unfold wSource at hw
    omega
  · simp
set_option maxHeartbeats 8000000 in
theorem exactResume_ok (p : Prog) (b picks : List Int) (h1 : p.caps.length < 2 ^ 63 ∧ p.bods.length < 2 ^ 63 ∧ ∀ b ∈ p.bods, b.length < 2 ^ 63) (hby : ∀ x ∈ b, isByte x) :
    CallOk Try.prog num 186 [.agg (progC .bw p), .sl .bw 1 (bys b), .sl .bw 1 (ints picks)] [] (.bool true) := by
  refine enter (m := m186) (f := 186) (fn := Try.f11) Try.func11 (by kernel_rfl) rfl c186 rfl (by simp [Try.f11]) (by simp [bnds, bnd, nf_sl, nf_int, nf_bool, nf_str, ints_bnd]) (fun _ _ h => by simp [preH, look] at h) ?_
  unfold m186
  by_cases hpb : (1048576 : Int) < b.length
  · simp only [go_sem, qA, qB, qC, qD, qE, qF, qG, qH, hpb]
    repeat refine K ?_
    refine ⟨_, Sub.refl _, ?_⟩; simp [FinS, nilL, nilV, oneOr, -List.drop_one]
  by_cases hpk : (1048576 : Int) < picks.length
  · simp only [go_sem, qA, qB, qC, qD, qE, qF, qG, qH, hpb, hpk]
    repeat refine K ?_
    refine ⟨_, Sub.refl _, ?_⟩; simp [FinS, nilL, nilV, oneOr, -List.drop_one]
  simp only [go_sem, qA, qB, qC, qD, qE, qF, qG, qH, hpb, hpk]
  repeat refine K ?_
  refine CA [] (szProg_ok p 1048576 h1.1 h1.2.1 h1.2.2 (by omega) (by omega)) ?_
  try simp only [go_sem, qA, qB, qC, qD, qE, qF, qG, qH]
  repeat refine K ?_
  rw [szProg_eq p _ (by omega)]
  refine branch_intro (fun hc => ?_) (fun hc => ?_)
  · simp only [go_sem, qA, qB, qC, qD, qE, qF, qG, qH]
    repeat refine K ?_
    refine ⟨_, Sub.refl _, ?_⟩; simp [FinS, nilL, nilV, oneOr, -List.drop_one]
  simp only [decide_eq_false_iff_not] at hc
  have hp := prgSz_of (p := p) (n := 1048576) (by have := szL_ge hc (by omega); omega)
  clear hc h1
  obtain ⟨p1, p2, p3, p4⟩ := hp
  have q1 : ∀ b ∈ p.bods, 40 * b.length ≤ 2 ^ 47 := fun b hb => by have := p3 b hb; omega
  have q2 : ∀ b ∈ p.bods, b.length ≤ 2 ^ 47 := fun b hb => by have := p3 b hb; omega
  have hpp : SmallP p := ⟨by omega, by omega, fun b hb => by have := p3 b hb; omega⟩
  have tp := toProg_ok p (by omega) (by omega) q1
  have tb := toByteS_ok b (by omega)
  have ti := toIntS_ok picks (by omega)
  have cs := specResume_ok p b picks hpp (by omega) hby (by omega)
  have ci := implResume_ok p b picks hpp (by omega) hby (by omega)
  have hl := resume_len p b picks
  generalize hw : resume p b picks = w at hl cs ci
  have ew := eqByteS_ok w.1 w.1 (by omega)
  have eb := eqByteS_ok b b (by omega)
  have ei := eqIntS_ok picks picks (by omega)
  have ep := eqProg_ok p p (by omega) (by omega) q2
  have d1 : decide ((1 : Int) + w.1.length < 0) = false := by simp; omega
  have d2 : decide ((1 : Int) + p.caps.length + 5 * tot p.bods + b.length + picks.length < 0) = false := by simp; omega
  simp only [go_sem, qA, qB, qC, qD, qE, qF, qG, qH]
  repeat refine K ?_
  refine CA [] (tp) ?_
  try simp only [go_sem, qA, qB, qC, qD, qE, qF, qG, qH]
  repeat refine K ?_
  refine CA [] (tb) ?_
  try simp only [go_sem, qA, qB, qC, qD, qE, qF, qG, qH]
  repeat refine K ?_
  refine CA [] (ti) ?_
  try simp only [go_sem, qA, qB, qC, qD, qE, qF, qG, qH]
  repeat refine K ?_
  refine CA [] (cs) ?_
  try simp only [go_sem, qA, qB, qC, qD, qE, qF, qG, qH]
  repeat refine K ?_
  try simp only [go_sem, qA, qB, qC, qD, qE, qF, qG, qH]
  repeat refine K ?_
  refine CA [] (tp) ?_
  try simp only [go_sem, qA, qB, qC, qD, qE, qF, qG, qH]
  repeat refine K ?_
  refine CA [] (tb) ?_
  try simp only [go_sem, qA, qB, qC, qD, qE, qF, qG, qH]
  repeat refine K ?_
  refine CA [] (ti) ?_
  try simp only [go_sem, qA, qB, qC, qD, qE, qF, qG, qH]
  repeat refine K ?_
  refine CA [] (ci) ?_
  try simp only [go_sem, qA, qB, qC, qD, qE, qF, qG, qH]
  repeat refine K ?_
  try simp only [go_sem, qA, qB, qC, qD, qE, qF, qG, qH]
  repeat refine K ?_
  refine CA [] (ew) ?_
  try simp only [go_sem, qA, qB, qC, qD, qE, qF, qG, qH]
  repeat refine K ?_
  try simp only [go_sem, qA, qB, qC, qD, qE, qF, qG, qH]
  repeat refine K ?_
  refine DA [] (tp) ?_
  try simp only [go_sem, qA, qB, qC, qD, qE, qF, qG, qH]
  repeat refine K ?_
  refine DA [] (ep) ?_
  try simp only [go_sem, qA, qB, qC, qD, qE, qF, qG, qH]
  repeat refine K ?_
  try simp only [go_sem, qA, qB, qC, qD, qE, qF, qG, qH]
  repeat refine K ?_
  refine CA [] (tb) ?_
  try simp only [go_sem, qA, qB, qC, qD, qE, qF, qG, qH]
  repeat refine K ?_
  refine CA [] (eb) ?_
  try simp only [go_sem, qA, qB, qC, qD, qE, qF, qG, qH]
  repeat refine K ?_
  try simp only [go_sem, qA, qB, qC, qD, qE, qF, qG, qH]
  repeat refine K ?_
  refine CA [] (ti) ?_
  try simp only [go_sem, qA, qB, qC, qD, qE, qF, qG, qH]
  repeat refine K ?_
  refine CA [] (ei) ?_
  try simp only [go_sem, qA, qB, qC, qD, qE, qF, qG, qH]
  repeat refine K ?_
  try simp only [go_sem, qA, qB, qC, qD, qE, qF, qG, qH]
  repeat refine K ?_
  refine CA [(0, 16), (1, 17)] (markProg_ok p 1 (by omega) (by omega) (by omega)) ?_
  try simp only [go_sem, qA, qB, qC, qD, qE, qF, qG, qH]
  repeat refine K ?_
  refine CA [(0, 19)] (markByteS_ok b (1 + p.caps.length + 5 * tot p.bods) (by omega) (by omega)) ?_
  try simp only [go_sem, qA, qB, qC, qD, qE, qF, qG, qH]
  repeat refine K ?_
  try simp only [go_sem, qA, qB, qC, qD, qE, qF, qG, qH]
  repeat refine K ?_
  refine CA [(0, 20)] (markIntS_ok picks (1 + p.caps.length + 5 * tot p.bods + b.length) (by omega) (by omega)) ?_
  try simp only [go_sem, qA, qB, qC, qD, qE, qF, qG, qH]
  repeat refine K ?_
  try simp only [go_sem, qA, qB, qC, qD, qE, qF, qG, qH, d2]
  repeat refine K ?_
  refine CA [] (ew) ?_
  try simp only [go_sem, qA, qB, qC, qD, qE, qF, qG, qH]
  repeat refine K ?_
  try simp only [go_sem, qA, qB, qC, qD, qE, qF, qG, qH]
  repeat refine K ?_
  refine CA [(0, 21)] (markByteS_ok w.1 1 (by omega) (by omega)) ?_
  try simp only [go_sem, qA, qB, qC, qD, qE, qF, qG, qH]
  repeat refine K ?_
  try simp only [go_sem, qA, qB, qC, qD, qE, qF, qG, qH]
  repeat refine K ?_
  refine CA [] (heldByteS_ok w.1.length 1 (by omega) (by omega)) ?_
  try simp only [go_sem, qA, qB, qC, qD, qE, qF, qG, qH]
  repeat refine K ?_
  try simp only [go_sem, qA, qB, qC, qD, qE, qF, qG, qH, d1]
  repeat refine K ?_
  refine CA [] (tp) ?_
  try simp only [go_sem, qA, qB, qC, qD, qE, qF, qG, qH]
  repeat refine K ?_
  refine CA [] (tb) ?_
  try simp only [go_sem, qA, qB, qC, qD, qE, qF, qG, qH]
  repeat refine K ?_
  refine CA [] (ti) ?_
  try simp only [go_sem, qA, qB, qC, qD, qE, qF, qG, qH]
  repeat refine K ?_
  refine CA [] (ci) ?_
  try simp only [go_sem, qA, qB, qC, qD, qE, qF, qG, qH]
  repeat refine K ?_
  try simp only [go_sem, qA, qB, qC, qD, qE, qF, qG, qH]
  repeat refine K ?_
  refine CA [] (ew) ?_
  try simp only [go_sem, qA, qB, qC, qD, qE, qF, qG, qH]
  repeat refine K ?_
  try simp only [go_sem, qA, qB, qC, qD, qE, qF, qG, qH]
  repeat refine K ?_
  refine CA [] (heldByteS_ok w.1.length 1 (by omega) (by omega)) ?_
  try simp only [go_sem, qA, qB, qC, qD, qE, qF, qG, qH]
  repeat refine K ?_
  try simp only [go_sem, qA, qB, qC, qD, qE, qF, qG, qH, d1]
  repeat refine K ?_
  refine ⟨_, Sub.refl _, ?_⟩; simp [FinS, nilL, nilV, oneOr, -List.drop_one]


end Go.Sep
