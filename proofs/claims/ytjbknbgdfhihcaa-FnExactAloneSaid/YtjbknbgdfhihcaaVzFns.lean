/- The numbers of the program's functions. -/
import Derived.Test.YtjbknbgdfhihcaaVzRead
import Derived.Test.YtjbknbgdfhihcaaProg
namespace Go.Sep
open Go.Proofs
set_option maxRecDepth 100000
def nums : List Nat := [0, 0, 1, 2, 0, 117, 0, 0, 124, 0, 0, 0, 0, 0, 0, 0, 92, 95, 0, 16, 0, 0, 0, 0, 19, 0, 0, 0, 0, 0, 0, 0, 0, 0, 0, 111, 81, 52, 0, 98, 145, 108, 0, 58, 148, 0, 0, 0, 55, 57, 56, 0, 0, 0, 0, 51, 130, 0, 128, 74, 109, 110, 0, 0, 27, 0, 0, 101, 105, 80, 107, 76, 106, 0, 0, 0, 0, 99, 83, 134, 135, 136, 0, 0, 0, 68, 0, 0, 131, 0, 0, 129, 0, 0, 0, 0, 146, 147, 139, 171, 172, 173, 174, 175, 176, 177, 178, 179, 180, 181, 182, 183, 184, 185, 186, 73, 33, 25, 90, 40, 44, 48, 0, 0, 0, 0, 0, 0, 0, 0, 0, 0, 0, 0, 0, 0, 0, 0, 0, 0, 0, 0, 0, 0, 20, 0, 0, 97, 0, 0, 0, 0, 0, 0, 0, 0, 0, 5, 17, 18, 21, 0, 0, 0, 37, 41, 45, 0, 0, 0, 0, 0, 6, 8, 0, 0, 11, 0, 0, 0, 0, 0, 0, 0, 0, 0, 0, 0, 0, 0, 0, 0, 0, 0, 0, 0, 0, 0, 0, 0, 53, 54, 0, 0, 0, 63, 0, 0, 0, 77, 87, 91, 94, 0, 0, 0, 133, 0, 0, 149, 150, 22, 23, 24, 0, 0, 30, 31, 32, 82, 0, 38, 39, 26, 0, 34, 0, 0, 0, 0, 0, 0, 0, 0, 0, 0, 0, 100, 102, 103, 104, 0, 0, 0, 0, 0, 0, 0, 0, 0, 0, 113, 0, 0, 0, 0, 0, 0, 119, 123, 0, 0, 152, 151, 59, 60, 61, 70, 71, 72, 0, 88, 89, 62, 64, 0, 75, 78, 0, 0, 0, 0, 0, 0, 0, 132, 0, 0, 0, 0, 0, 138, 0, 0, 0, 0, 0, 0, 0, 0, 142, 120, 153, 154, 155, 156, 157, 158, 159, 160, 161, 112, 116, 118, 125, 0, 0, 0, 0, 0, 0, 0, 0, 164, 165, 166, 167, 168, 169, 162, 163, 137, 141, 144, 0, 170, 50, 3, 9, 7, 10, 12, 13, 4, 14, 15, 28, 29, 35, 36, 42, 43, 46, 47, 49, 69, 79, 84, 85, 86, 93, 96, 65, 66, 67, 114, 115, 121, 122, 126, 127, 140, 143]
def num (n : Nat) : Nat := nums.getD n 0
theorem EN (m : MFn) {f : Nat} {fn : Go.Func} {args : List AV} {res : AV} (hf : Try.prog.funcs[num f]? = some fn)
  (hv : vc Try.prog num (Fin m.results [] res) [.code m.body] (.mk (paramT 0 args) (preH []) 10)) (hc : chkC Try.prog num fn.ntmps m.body ((fn.body).getD .skip) = true := by kernel_rfl) (hn : Nat.ble args.length fn.ntmps = true := by kernel_rfl) (hnm : (fn.name == "runtime.NumGoroutine") = false := by kernel_rfl) (hbd : fn.body = some ((fn.body).getD .skip) := by rfl)
  (hr : chkRes Try.prog fn.results.toList m.results = true := by rfl) (hb : bnds (· < 10) args := by simp [bnds, bnd, nf_sl, nf_int, nf_bool, nf_str, qAh]) : CallOk Try.prog num f args [] res :=
 enter hf hnm hbd hc hr (Nat.le_of_ble_eq_true hn) hb (fun _ _ h => by simp [preH, look] at h) hv
theorem EH (m : MFn) {f : Nat} {fn : Go.Func} {args : List AV} {fp : FP} {res : AV} (hf : Try.prog.funcs[num f]? = some fn)
  (hv : vc Try.prog num (Fin m.results fp res) [.code m.body] (.mk (paramT 0 args) (preH fp) 10)) (hc : chkC Try.prog num fn.ntmps m.body ((fn.body).getD .skip) = true := by kernel_rfl) (hn : Nat.ble args.length fn.ntmps = true := by kernel_rfl) (hnm : (fn.name == "runtime.NumGoroutine") = false := by kernel_rfl) (hbd : fn.body = some ((fn.body).getD .skip) := by rfl)
  (hr : chkRes Try.prog fn.results.toList m.results = true := by rfl) (hb : bnds (· < 10) args := by simp [bnds, bnd, nf_sl, nf_int, nf_bool, nf_str, qAh])
  (hh : HB (preH fp) 10 := by first | (simp [preH, hb_nil, qB2, qAh]; done) | exact qB2 _ _ _ _ ((hb_nil _).2 trivial) (by decide) (by simp [qAh, bndr, bnds, bnd])) : CallOk Try.prog num f args fp res :=
 enter hf hnm hbd hc hr (Nat.le_of_ble_eq_true hn) hb hh hv
theorem fz {rs : List MRes} {fp : FP} {v : AV} {s : AS} (h : FinS rs fp v s) : Fin rs fp v s := ⟨_, Sub.refl _, h⟩
def xa (d f n : Nat) : MOper := ⟨some d, .fad f (.t n), none⟩
def xl (d n : Nat) : MOper := ⟨some d, .load 1 false (.t n), none⟩
def xm (d n k : Nat) : MOper := ⟨some d, .load n true (.t k), none⟩
def xF (d : Nat) : MOper := ⟨some d, .mv (.c (.bool false)), none⟩
def xT (d : Nat) : MOper := ⟨some d, .mv (.c (.bool true)), none⟩
def xe (d k : Nat) : MOper := ⟨some d, .len (.t k), none⟩
def xk (d k : Nat) : MOper := ⟨some d, .nilck (.t k), none⟩
def xb (d k : Nat) : MOper := ⟨some d, .box (.t k), none⟩
def xc1 (d f : Nat) (a : Arg) : MOper := ⟨some d, .call f [false] [a], none⟩
def xc2 (d f : Nat) (a b : Arg) : MOper := ⟨some d, .call f [false, false] [a, b], none⟩
def xc3 (d f : Nat) (a b c : Arg) : MOper := ⟨some d, .call f [false, false, false] [a, b, c], none⟩
attribute [go_sem] xa xl xm xF xT xe xk xb xc1 xc2 xc3
end Go.Sep
