/- Go functions, told on plain data. No statement is proved here. -/
import Derived.Test.YtppcdaliielpgaaM1

section
set_option linter.unusedVariables false
set_option synthInstance.maxSize 4096
namespace Go.Vsi
abbrev tBar : Type := Int × Int × Int × List (Int)
instance : DecidableEq tBar := inferInstance
abbrev tGraph : Type := List (Int) × List (tBar)
instance : DecidableEq tGraph := inferInstance
abbrev tBits : Type := Int × List (Int)
instance : DecidableEq tBits := inferInstance
abbrev trivals : Type := List (Int) × List (tBits)
instance : DecidableEq trivals := inferInstance
abbrev tpainter : Type := List (Int) × List (tBar) × List (trivals) × List (Int) × List (tBits) × Int × Int
instance : DecidableEq tpainter := inferInstance
def Z62.l4.b (n : Nat) (x18 : Int) (x19 : List Int) (x20 : Int) (x21 : List Int) (again4 : Int -> Prop) (x17 : Int) (Kx0w4 : Prop) (Kr4 : Bool -> Prop) : Prop :=
 if (decide (x17 < (x19.length : Int))) = true then (grd (decide (0 <= x17) && decide (x17 < (x19.length : Int))) (grd (decide (0 <= x17) && decide (x17 < (x21.length : Int))) (let t25 : Bool := !(decide (rd x19 (Int.toNat x17) = rd x21 (Int.toNat x17))); if t25 = true then (Kr4 false) else (again4 (IntKind.wrap .i64 (x17 + 1)))))) else (Kx0w4)
def Z62.l4 : Nat -> Int -> List Int -> Int -> List Int -> Int -> Prop -> (Bool -> Prop) -> Prop
 | 0, _, _, _, _, _, _, _ => False
 | n + 1, x18, x19, x20, x21, x17, Kx0w4, Kr4 => Z62.l4.b n  x18 x19 x20 x21 (fun x17q => Z62.l4 n x18 x19 x20 x21 x17q Kx0w4 Kr4) x17 Kx0w4 Kr4
def Z62.w (n : Nat) (lp4 : Int -> List Int -> Int -> List Int -> Int -> Prop -> (Bool -> Prop) -> Prop) (a1 : Int) (a2 : List Int) (a3 : Int) (a4 : List Int) (K : Bool -> Prop) : Prop :=
 if (!(decide (a1 = a3))) = false then (let t32 : Bool := !(decide ((a2.length : Int) = (a4.length : Int))); if t32 = true then (K false) else (lp4 a1 a2 a3 a4 0 (K true) (fun y34 => K y34))) else (K false)
def Z62.c : Nat -> Int -> List Int -> Int -> List Int -> (Bool -> Prop) -> Prop
 | 0, _, _, _, _, _ => False
 | n + 1, a1, a2, a3, a4, K => Z62.w n (Z62.l4 n) a1 a2 a3 a4 K
def Z66.w (n : Nat) (a1 : Int) (a2 : Int) (a3 : Int) (a4 : List Int) (a5 : Int) (a6 : Int) (a7 : Int) (a8 : List Int) (K : Bool -> Prop) : Prop :=
 if (decide (a1 = a5)) = true then (if (decide (a2 = a6)) = true then (Z62.c n a3 a4 a7 a8 (fun r11 => K r11)) else (K false)) else (K false)
def Z66.c : Nat -> Int -> Int -> Int -> List Int -> Int -> Int -> Int -> List Int -> (Bool -> Prop) -> Prop
 | 0, _, _, _, _, _, _, _, _, _ => False
 | n + 1, a1, a2, a3, a4, a5, a6, a7, a8, K => Z66.w n  a1 a2 a3 a4 a5 a6 a7 a8 K
def Z64.w (n : Nat) (a1 : Int) (a2 : List Int) (K : Int -> List Int -> Prop) : Prop :=
 let p7 : Prop := (let p4 : Prop := (grd (decide (([] : List (Int)).length + a2.length <= 7818749353073)) (K a1 (([] : List (Int)) ++ a2))); (p4 /\ p4)); (p7 /\ p7 /\ ((grd (decide (([] : List (Int)).length + a2.length <= 7818749353073)) (K a1 (([] : List (Int)) ++ a2))) /\ (let p6 : Prop := (grd (decide (([] : List (Int)).length + a2.length <= 7818749353073)) (K a1 (([] : List (Int)) ++ a2))); (p6 /\ p6))))
def Z64.c : Nat -> Int -> List Int -> (Int -> List Int -> Prop) -> Prop
 | 0, _, _, _ => False
 | n + 1, a1, a2, K => Z64.w n  a1 a2 K
def Z65.l2.b (n : Nat) (x17 : List (tBar)) (x18 : Int) (x19 : Int) (x20 : Int) (x21 : List Int) (again2 : Int -> Prop) (x16 : Int) (Kx0w2 : List (tBar) -> Int -> Int -> Int -> List Int -> Prop) (Kr2 : List (tBar) -> Prop) : Prop :=
 if (decide (x16 < (x17.length : Int))) = true then (grd (decide (0 <= x16) && decide (x16 < (x17.length : Int))) (Z66.c n ((rd x17 (Int.toNat x16)).1) (((rd x17 (Int.toNat x16)).2).1) ((((rd x17 (Int.toNat x16)).2).2).1) ((((rd x17 (Int.toNat x16)).2).2).2) x18 x19 x20 x21 (fun r25 => if r25 = true then (Kr2 x17) else (again2 (IntKind.wrap .i64 (x16 + 1)))))) else (Kx0w2 x17 x18 x19 x20 x21)
def Z65.l2 : Nat -> List (tBar) -> Int -> Int -> Int -> List Int -> Int -> (List (tBar) -> Int -> Int -> Int -> List Int -> Prop) -> (List (tBar) -> Prop) -> Prop
 | 0, _, _, _, _, _, _, _, _ => False
 | n + 1, x17, x18, x19, x20, x21, x16, Kx0w2, Kr2 => Z65.l2.b n  x17 x18 x19 x20 x21 (fun x16q => Z65.l2 n x17 x18 x19 x20 x21 x16q Kx0w2 Kr2) x16 Kx0w2 Kr2
def Z65.w (n : Nat) (lp2 : List (tBar) -> Int -> Int -> Int -> List Int -> Int -> (List (tBar) -> Int -> Int -> Int -> List Int -> Prop) -> (List (tBar) -> Prop) -> Prop) (a1 : List (tBar)) (a2 : Int) (a3 : Int) (a4 : Int) (a5 : List Int) (K : List (tBar) -> Prop) : Prop :=
 lp2 a1 a2 a3 a4 a5 0 (fun y32 y33 y34 y35 y36 => let p73 : Prop := (let p62 : Prop := (Z64.c n y35 y36 (fun r56 r57 => let t58 : List (tBar) := ([(y33, y34, r56, r57)] : List (tBar)); grd (decide (y32.length + t58.length <= 1436096819952)) (K (y32 ++ t58)))); (p62 /\ p62)); (p73 /\ p73 /\ (Z64.c n y35 y36 (fun r70 r71 => let t72 : List (tBar) := ([(y33, y34, r70, r71)] : List (tBar)); grd (decide (y32.length + t72.length <= 1436096819952)) (K (y32 ++ t72)))))) (fun y74 => K y74)
def Z65.c : Nat -> List (tBar) -> Int -> Int -> Int -> List Int -> (List (tBar) -> Prop) -> Prop
 | 0, _, _, _, _, _, _ => False
 | n + 1, a1, a2, a3, a4, a5, K => Z65.w n (Z65.l2 n) a1 a2 a3 a4 a5 K
def Z31.l4.b (n : Nat) (x13 : List Int) (x14 : List Int) (x15 : Int) (again4 : Int -> Prop) (x16 : Int) (Kx0w4 : Prop) (Kr4 : Bool -> Prop) : Prop :=
 if (decide (x16 < x15)) = true then (grd (decide (0 <= x16) && decide (x16 < (x13.length : Int))) (grd (decide (0 <= x16) && decide (x16 < (x14.length : Int))) (let t20 : Bool := !(decide (rd x13 (Int.toNat x16) = rd x14 (Int.toNat x16))); if t20 = true then (Kr4 false) else (again4 (IntKind.wrap .i64 (x16 + 1)))))) else (Kx0w4)
def Z31.l4 : Nat -> List Int -> List Int -> Int -> Int -> Prop -> (Bool -> Prop) -> Prop
 | 0, _, _, _, _, _, _ => False
 | n + 1, x13, x14, x15, x16, Kx0w4, Kr4 => Z31.l4.b n  x13 x14 x15 (fun x16q => Z31.l4 n x13 x14 x15 x16q Kx0w4 Kr4) x16 Kx0w4 Kr4
def Z31.w (n : Nat) (lp4 : List Int -> List Int -> Int -> Int -> Prop -> (Bool -> Prop) -> Prop) (a1 : List Int) (a2 : List Int) (K : Bool -> Prop) : Prop :=
 let t4 : Bool := !(decide ((a1.length : Int) = (a2.length : Int))); if t4 = true then (K false) else (lp4 a1 a2 (a1.length : Int) 0 (K true) (fun y22 => K y22))
def Z31.c : Nat -> List Int -> List Int -> (Bool -> Prop) -> Prop
 | 0, _, _, _ => False
 | n + 1, a1, a2, K => Z31.w n (Z31.l4 n) a1 a2 K
def Z2.w (n : Nat) (a1 : Int) (a2 : List Int) (a3 : Int) (a4 : List Int) (K : Bool -> Prop) : Prop :=
 if (decide (a1 = a3)) = true then (Z31.c n a2 a4 (fun r7 => K r7)) else (K false)
def Z2.c : Nat -> Int -> List Int -> Int -> List Int -> (Bool -> Prop) -> Prop
 | 0, _, _, _, _, _ => False
 | n + 1, a1, a2, a3, a4, K => Z2.w n  a1 a2 a3 a4 K
def Z25.w (n : Nat) (a1 : List Int) (K : List Int -> Prop) : Prop :=
 (a1.length = 0 -> (K ([] : List (Int)))) /\ (grd (decide (([] : List (Int)).length + a1.length <= 7818749353073)) (K (([] : List (Int)) ++ a1)))
def Z25.c : Nat -> List Int -> (List Int -> Prop) -> Prop
 | 0, _, _ => False
 | n + 1, a1, K => Z25.w n  a1 K
def Z11.w (n : Nat) (a1 : Int) (a2 : List Int) (K : Int -> List Int -> Prop) : Prop :=
 (Z25.c n a2 (fun r6 => K a1 r6)) /\ (Z25.c n a2 (fun r7 => K a1 r7))
def Z11.c : Nat -> Int -> List Int -> (Int -> List Int -> Prop) -> Prop
 | 0, _, _, _ => False
 | n + 1, a1, a2, K => Z11.w n  a1 a2 K
def Z49.w (n : Nat) (a1 : Int) (a2 : Int) (a3 : Int) (K : Bool -> Prop) : Prop :=
 if (decide (a1 >= a2)) = true then (K (decide (a1 <= a3))) else (K false)
def Z49.c : Nat -> Int -> Int -> Int -> (Bool -> Prop) -> Prop
 | 0, _, _, _, _ => False
 | n + 1, a1, a2, a3, K => Z49.w n  a1 a2 a3 K
def Z61.w (n : Nat) (a1 : Int) (a2 : List Int) (K : Bool -> Prop) : Prop :=
 if (decide (a1 = 0)) = true then (K (decide ((a2.length : Int) = 0))) else (K false)
def Z61.c : Nat -> Int -> List Int -> (Bool -> Prop) -> Prop
 | 0, _, _, _ => False
 | n + 1, a1, a2, K => Z61.w n  a1 a2 K
def Z46.w (n : Nat) (a1 : Int) (a2 : List Int) (a3 : Int) (K : Int -> Prop) : Prop :=
 grd (decide (0 <= IntKind.wrap .i64 (Int.tdiv a3 64)) && decide (IntKind.wrap .i64 (Int.tdiv a3 64) < (a2.length : Int))) (let t4 : Int := rd a2 (Int.toNat (IntKind.wrap .i64 (Int.tdiv a3 64))); grd (decide (0 <= IntKind.wrap .u64 (Int.tmod a3 64))) (let t5 : Int := Int.fdiv t4 (2 ^ (Nat.min (Int.toNat (IntKind.wrap .u64 (Int.tmod a3 64))) 64)); K (IntKind.wrap .u8 (ibits .and .u64 t5 1))))
def Z46.c : Nat -> Int -> List Int -> Int -> (Int -> Prop) -> Prop
 | 0, _, _, _, _ => False
 | n + 1, a1, a2, a3, K => Z46.w n  a1 a2 a3 K
def Z38.l4.b (n : Nat) (x16 : Int) (x17 : List Int) (again4 : Int -> Prop) (x15 : Int) (Kx0w4 : Prop) (Kr4 : Bool -> Prop) : Prop :=
 let t19 : Bool := decide (x15 < IntKind.wrap .i64 (64 * (x17.length : Int))); if t19 = true then (Z46.c n x16 x17 x15 (fun r21 => if (!(decide (r21 = 0))) = true then (Kr4 false) else (again4 (IntKind.wrap .i64 (x15 + 1))))) else (Kx0w4)
def Z38.l4 : Nat -> Int -> List Int -> Int -> Prop -> (Bool -> Prop) -> Prop
 | 0, _, _, _, _, _ => False
 | n + 1, x16, x17, x15, Kx0w4, Kr4 => Z38.l4.b n  x16 x17 (fun x15q => Z38.l4 n x16 x17 x15q Kx0w4 Kr4) x15 Kx0w4 Kr4
def Z38.w (n : Nat) (lp4 : Int -> List Int -> Int -> Prop -> (Bool -> Prop) -> Prop) (a1 : Int) (a2 : List Int) (K : Bool -> Prop) : Prop :=
 Z49.c n a1 1 4096 (fun r29 => if (!r29) = false then (let t30 : Int := IntKind.wrap .i64 (Int.tdiv (IntKind.wrap .i64 (a1 + 63)) 64); if (!(decide ((a2.length : Int) = t30))) = true then (K false) else (lp4 a1 a2 a1 (K true) (fun y32 => K y32))) else (K false))
def Z38.c : Nat -> Int -> List Int -> (Bool -> Prop) -> Prop
 | 0, _, _, _ => False
 | n + 1, a1, a2, K => Z38.w n (Z38.l4 n) a1 a2 K
def Z41.l5.b (n : Nat) (x10 : Int) (x12 : List Int) (x13 : List (tBar)) (again5 : Int -> Prop) (x11 : Int) (Kx0w5 : Int -> List Int -> List (tBar) -> Prop) (Kr5 : Bool -> Prop) : Prop :=
 if (decide (x11 < x10)) = true then (grd (decide (0 <= x11) && decide (x11 < (x12.length : Int))) (Z49.c n (rd x12 (Int.toNat x11)) 1 4096 (fun r15 => if (!r15) = true then (Kr5 false) else (again5 (IntKind.wrap .i64 (x11 + 1)))))) else (Kx0w5 x10 x12 x13)
def Z41.l5 : Nat -> Int -> List Int -> List (tBar) -> Int -> (Int -> List Int -> List (tBar) -> Prop) -> (Bool -> Prop) -> Prop
 | 0, _, _, _, _, _, _ => False
 | n + 1, x10, x12, x13, x11, Kx0w5, Kr5 => Z41.l5.b n  x10 x12 x13 (fun x11q => Z41.l5 n x10 x12 x13 x11q Kx0w5 Kr5) x11 Kx0w5 Kr5
def Z41.q14.b (n : Nat) (x30 : Int) (x31 : Int) (x32 : Bool) (x33 : List Int) (x34 : List (tBar)) (x35 : Int) (x36 : Int) (x37 : Int) (x38 : List Int) (Kc14w0 : Bool -> Prop) (Kc14w1 : Int -> Int -> List Int -> List (tBar) -> Int -> Int -> Int -> List Int -> Prop) : Prop :=
 if x32 = true then (Kc14w0 false) else (Kc14w1 x30 x31 x33 x34 x35 x36 x37 x38)
def Z41.q14 : Nat -> Int -> Int -> Bool -> List Int -> List (tBar) -> Int -> Int -> Int -> List Int -> (Bool -> Prop) -> (Int -> Int -> List Int -> List (tBar) -> Int -> Int -> Int -> List Int -> Prop) -> Prop
 | 0, _, _, _, _, _, _, _, _, _, _, _ => False
 | n + 1, x30, x31, x32, x33, x34, x35, x36, x37, x38, Kc14w0, Kc14w1 => Z41.q14.b n  x30 x31 x32 x33 x34 x35 x36 x37 x38  Kc14w0 Kc14w1
def Z41.j0 (Kc15w0 : Bool -> Prop) (Kc15w1 : Int -> Int -> List Int -> List (tBar) -> Prop) (n : Nat) (x48 : Int) (x49 : Int) (x50 : List Int) (x51 : List (tBar)) (x52 : Int) (x53 : Int) (x54 : Int) (x55 : List Int) : Prop :=
 if (decide (x53 < 0)) = true then (Z38.c n x54 x55 (fun r63 => if (!r63) = false then (grd (decide (0 <= x52) && decide (x52 < (x50.length : Int))) (if (!(decide (x54 = rd x50 (Int.toNat x52)))) = true then (Kc15w0 false) else (Kc15w1 x48 x49 x50 x51))) else (Kc15w0 false))) else (Kc15w1 x48 x49 x50 x51)
def Z41.q15.b (n : Nat) (x48 : Int) (x49 : Int) (x50 : List Int) (x51 : List (tBar)) (x52 : Int) (x53 : Int) (x54 : Int) (x55 : List Int) (Kc15w0 : Bool -> Prop) (Kc15w1 : Int -> Int -> List Int -> List (tBar) -> Prop) : Prop :=
 if (decide (x53 >= 0)) = true then (grd (decide (0 <= x53) && decide (x53 < (x50.length : Int))) (grd (decide (0 <= x52) && decide (x52 < (x50.length : Int))) (let t67 : Bool := !(decide (rd x50 (Int.toNat x53) = rd x50 (Int.toNat x52))); if t67 = false then (Z61.c n x54 x55 (fun r68 => if (!r68) = true then (Kc15w0 false) else (Z41.j0 Kc15w0 Kc15w1 n x48 x49 x50 x51 x52 x53 x54 x55))) else (Kc15w0 false)))) else (Z41.j0 Kc15w0 Kc15w1 n x48 x49 x50 x51 x52 x53 x54 x55)
def Z41.q15 : Nat -> Int -> Int -> List Int -> List (tBar) -> Int -> Int -> Int -> List Int -> (Bool -> Prop) -> (Int -> Int -> List Int -> List (tBar) -> Prop) -> Prop
 | 0, _, _, _, _, _, _, _, _, _, _ => False
 | n + 1, x48, x49, x50, x51, x52, x53, x54, x55, Kc15w0, Kc15w1 => Z41.q15.b n  x48 x49 x50 x51 x52 x53 x54 x55  Kc15w0 Kc15w1
def Z41.l10.b (n : Nat) (lpq14 : Int -> Int -> Bool -> List Int -> List (tBar) -> Int -> Int -> Int -> List Int -> (Bool -> Prop) -> (Int -> Int -> List Int -> List (tBar) -> Int -> Int -> Int -> List Int -> Prop) -> Prop) (lpq15 : Int -> Int -> List Int -> List (tBar) -> Int -> Int -> Int -> List Int -> (Bool -> Prop) -> (Int -> Int -> List Int -> List (tBar) -> Prop) -> Prop) (again10 : Int -> Int -> List Int -> List (tBar) -> Prop) (x151 : Int) (x152 : Int) (x153 : List Int) (x154 : List (tBar)) (Kx2w10 : Prop) (Kr10 : Bool -> Prop) : Prop :=
 if (decide (x152 < (x154.length : Int))) = true then (grd (decide (0 <= x152) && decide (x152 < (x154.length : Int))) (Z49.c n ((rd x154 (Int.toNat x152)).1) 0 (IntKind.wrap .i64 (x151 - 1)) (fun r204 => if (!r204) = false then (Z49.c n (((rd x154 (Int.toNat x152)).2).1) (-1) (IntKind.wrap .i64 (x151 - 1)) (fun r205 => if (!r205) = false then (let t206 : Bool := decide ((rd x154 (Int.toNat x152)).1 = ((rd x154 (Int.toNat x152)).2).1); lpq14 x151 x152 t206 x153 x154 ((rd x154 (Int.toNat x152)).1) (((rd x154 (Int.toNat x152)).2).1) ((((rd x154 (Int.toNat x152)).2).2).1) ((((rd x154 (Int.toNat x152)).2).2).2) (fun y207 => Kr10 y207) (fun y208 y209 y210 y211 y212 y213 y214 y215 => lpq15 y208 y209 y210 y211 y212 y213 y214 y215 (fun y216 => Kr10 y216) (fun y217 y218 y219 y220 => again10 y217 (IntKind.wrap .i64 (y218 + 1)) y219 y220))) else (lpq14 x151 x152 true x153 x154 ((rd x154 (Int.toNat x152)).1) (((rd x154 (Int.toNat x152)).2).1) ((((rd x154 (Int.toNat x152)).2).2).1) ((((rd x154 (Int.toNat x152)).2).2).2) (fun y221 => Kr10 y221) (fun y222 y223 y224 y225 y226 y227 y228 y229 => lpq15 y222 y223 y224 y225 y226 y227 y228 y229 (fun y230 => Kr10 y230) (fun y231 y232 y233 y234 => again10 y231 (IntKind.wrap .i64 (y232 + 1)) y233 y234))))) else (lpq14 x151 x152 true x153 x154 ((rd x154 (Int.toNat x152)).1) (((rd x154 (Int.toNat x152)).2).1) ((((rd x154 (Int.toNat x152)).2).2).1) ((((rd x154 (Int.toNat x152)).2).2).2) (fun y235 => Kr10 y235) (fun y236 y237 y238 y239 y240 y241 y242 y243 => lpq15 y236 y237 y238 y239 y240 y241 y242 y243 (fun y244 => Kr10 y244) (fun y245 y246 y247 y248 => again10 y245 (IntKind.wrap .i64 (y246 + 1)) y247 y248)))))) else (Kx2w10)
def Z41.l10 : Nat -> Int -> Int -> List Int -> List (tBar) -> Prop -> (Bool -> Prop) -> Prop
 | 0, _, _, _, _, _, _ => False
 | n + 1, x151, x152, x153, x154, Kx2w10, Kr10 => Z41.l10.b n (Z41.q14 n) (Z41.q15 n)  (fun x151q x152q x153q x154q => Z41.l10 n x151q x152q x153q x154q Kx2w10 Kr10) x151 x152 x153 x154 Kx2w10 Kr10
def Z41.j1 (K : Bool -> Prop) (a1 : List Int) (a2 : List (tBar)) (lp5 : Int -> List Int -> List (tBar) -> Int -> (Int -> List Int -> List (tBar) -> Prop) -> (Bool -> Prop) -> Prop) (lp10 : Int -> Int -> List Int -> List (tBar) -> Prop -> (Bool -> Prop) -> Prop) (j252 : Bool) : Prop :=
 if j252 = true then (K false) else (lp5 (a1.length : Int) a1 a2 0 (fun y257 y258 y259 => lp10 y257 0 y258 y259 (K true) (fun y261 => K y261)) (fun y262 => K y262))
def Z41.w (n : Nat) (lp5 : Int -> List Int -> List (tBar) -> Int -> (Int -> List Int -> List (tBar) -> Prop) -> (Bool -> Prop) -> Prop) (lp10 : Int -> Int -> List Int -> List (tBar) -> Prop -> (Bool -> Prop) -> Prop) (a1 : List Int) (a2 : List (tBar)) (K : Bool -> Prop) : Prop :=
 if (decide ((a1.length : Int) > 200)) = false then (Z41.j1 K a1 a2 lp5 lp10 (decide ((a2.length : Int) > 1000))) else (Z41.j1 K a1 a2 lp5 lp10 true)
def Z41.c : Nat -> List Int -> List (tBar) -> (Bool -> Prop) -> Prop
 | 0, _, _, _ => False
 | n + 1, a1, a2, K => Z41.w n (Z41.l5 n) (Z41.l10 n) a1 a2 K
def Z13.w (n : Nat) (a1 : Int) (a2 : Int) (a3 : Int) (K : Bool -> Prop) : Prop :=
 if (decide (a1 >= a2)) = true then (K (decide (a1 <= a3))) else (K false)
def Z13.c : Nat -> Int -> Int -> Int -> (Bool -> Prop) -> Prop
 | 0, _, _, _, _ => False
 | n + 1, a1, a2, a3, K => Z13.w n  a1 a2 a3 K
def Z21.w (n : Nat) (a1 : Int) (K : Int -> Prop) : Prop :=
 let t2 : Int := IntKind.wrap .i64 (Int.tdiv (IntKind.wrap .i64 (a1 + 63)) 64); K t2
def Z21.c : Nat -> Int -> (Int -> Prop) -> Prop
 | 0, _, _ => False
 | n + 1, a1, K => Z21.w n  a1 K
def Z1.j0 (K : Bool -> Prop) (a1 : Int) (a2 : List Int) : Prop :=
 if (decide (Int.tmod a1 64 = 0)) = false then (grd (decide (0 <= IntKind.wrap .i64 ((a2.length : Int) - 1)) && decide (IntKind.wrap .i64 ((a2.length : Int) - 1) < (a2.length : Int))) (let t14 : Int := rd a2 (Int.toNat (IntKind.wrap .i64 ((a2.length : Int) - 1))); grd (decide (0 <= Int.tmod a1 64)) (let t15 : Int := Int.fdiv t14 (2 ^ (Nat.min (Int.toNat (Int.tmod a1 64)) 64)); K (decide (t15 = 0))))) else (K true)
def Z1.w (n : Nat) (a1 : Int) (a2 : List Int) (K : Bool -> Prop) : Prop :=
 Z13.c n a1 1 4096 (fun r20 => if (!r20) = false then (let p23 : Prop := (Z21.c n a1 (fun r21 => if (!(decide ((a2.length : Int) = r21))) = true then (K false) else (Z1.j0 K a1 a2))); (p23 /\ p23)) else ((K false) /\ (K false)))
def Z1.c : Nat -> Int -> List Int -> (Bool -> Prop) -> Prop
 | 0, _, _, _ => False
 | n + 1, a1, a2, K => Z1.w n  a1 a2 K
def Z10.w (n : Nat) (a1 : List Int) (a2 : Int) (a3 : Int) (a4 : Int) (a5 : List Int) (K : Bool -> Prop) : Prop :=
 Z13.c n a2 0 (IntKind.wrap .i64 ((a1.length : Int) - 1)) (fun r7 => if (!r7) = true then (K false) else (if (decide (a3 = (-1))) = true then (Z1.c n a4 a5 (fun r13 => if r13 = true then (grd (decide (0 <= a2) && decide (a2 < (a1.length : Int))) (K (decide (a4 = rd a1 (Int.toNat a2))))) else (K false))) else (Z13.c n a3 0 (IntKind.wrap .i64 ((a1.length : Int) - 1)) (fun r17 => if r17 = true then (if (!(decide (a3 = a2))) = true then (grd (decide (0 <= a3) && decide (a3 < (a1.length : Int))) (grd (decide (0 <= a2) && decide (a2 < (a1.length : Int))) (let t18 : Bool := decide (rd a1 (Int.toNat a3) = rd a1 (Int.toNat a2)); if t18 = true then (if (decide (a4 = 0)) = true then (K (decide ((a5.length : Int) = 0))) else (K false)) else (K false)))) else (K false)) else (K false)))))
def Z10.c : Nat -> List Int -> Int -> Int -> Int -> List Int -> (Bool -> Prop) -> Prop
 | 0, _, _, _, _, _, _ => False
 | n + 1, a1, a2, a3, a4, a5, K => Z10.w n  a1 a2 a3 a4 a5 K
def Z8.w (n : Nat) (a1 : Int) (a2 : Int) (a3 : Int) (a4 : List Int) (a5 : tGraph) (K : Bool -> Prop) : Prop :=
 Z10.c n a5.1 a1 a2 a3 a4 (fun r6 => K (!r6))
def Z8.c : Nat -> Int -> Int -> Int -> List Int -> tGraph -> (Bool -> Prop) -> Prop
 | 0, _, _, _, _, _, _ => False
 | n + 1, a1, a2, a3, a4, a5, K => Z8.w n  a1 a2 a3 a4 a5 K
def Z33.l2.b (n : Nat) (x9 : List (tBar)) (x10 : tGraph) (x11 : Int) (again2 : Int -> Prop) (x12 : Int) (Kx0w2 : Prop) (Kr2 : Int -> Prop) : Prop :=
 if (decide (x12 < x11)) = true then (grd (decide (0 <= x12) && decide (x12 < (x9.length : Int))) (Z8.c n ((rd x9 (Int.toNat x12)).1) (((rd x9 (Int.toNat x12)).2).1) ((((rd x9 (Int.toNat x12)).2).2).1) ((((rd x9 (Int.toNat x12)).2).2).2) x10 (fun r14 => if r14 = true then (Kr2 x12) else (again2 (IntKind.wrap .i64 (x12 + 1)))))) else (Kx0w2)
def Z33.l2 : Nat -> List (tBar) -> tGraph -> Int -> Int -> Prop -> (Int -> Prop) -> Prop
 | 0, _, _, _, _, _, _ => False
 | n + 1, x9, x10, x11, x12, Kx0w2, Kr2 => Z33.l2.b n  x9 x10 x11 (fun x12q => Z33.l2 n x9 x10 x11 x12q Kx0w2 Kr2) x12 Kx0w2 Kr2
def Z33.w (n : Nat) (lp2 : List (tBar) -> tGraph -> Int -> Int -> Prop -> (Int -> Prop) -> Prop) (a1 : List (tBar)) (a2 : tGraph) (K : Int -> Prop) : Prop :=
 lp2 a1 a2 (a1.length : Int) 0 (K (-1)) (fun y16 => K y16)
def Z33.c : Nat -> List (tBar) -> tGraph -> (Int -> Prop) -> Prop
 | 0, _, _, _ => False
 | n + 1, a1, a2, K => Z33.w n (Z33.l2 n) a1 a2 K
def Z27.w (n : Nat) (a1 : List (tBar)) (a2 : tGraph) (K : Bool -> Prop) : Prop :=
 Z33.c n a1 a2 (fun r3 => K (decide (r3 >= 0)))
def Z27.c : Nat -> List (tBar) -> tGraph -> (Bool -> Prop) -> Prop
 | 0, _, _, _ => False
 | n + 1, a1, a2, K => Z27.w n  a1 a2 K
def Z7.l4.b (n : Nat) (x11 : List Int) (x12 : Int) (x14 : List Int) (x15 : List (tBar)) (again4 : Int -> Prop) (x13 : Int) (Kx0w4 : List Int -> List (tBar) -> Prop) (Kr4 : Bool -> Prop) : Prop :=
 if (decide (x13 < x12)) = true then (grd (decide (0 <= x13) && decide (x13 < (x11.length : Int))) (Z13.c n (rd x11 (Int.toNat x13)) 1 4096 (fun r17 => if (!r17) = true then (Kr4 false) else (again4 (IntKind.wrap .i64 (x13 + 1)))))) else (Kx0w4 x14 x15)
def Z7.l4 : Nat -> List Int -> Int -> List Int -> List (tBar) -> Int -> (List Int -> List (tBar) -> Prop) -> (Bool -> Prop) -> Prop
 | 0, _, _, _, _, _, _, _ => False
 | n + 1, x11, x12, x14, x15, x13, Kx0w4, Kr4 => Z7.l4.b n  x11 x12 x14 x15 (fun x13q => Z7.l4 n x11 x12 x14 x15 x13q Kx0w4 Kr4) x13 Kx0w4 Kr4
def Z7.j0 (K : Bool -> Prop) (a1 : List Int) (a2 : List (tBar)) (lp4 : List Int -> Int -> List Int -> List (tBar) -> Int -> (List Int -> List (tBar) -> Prop) -> (Bool -> Prop) -> Prop) (n : Nat) (j25 : Bool) : Prop :=
 if j25 = true then (K false) else (lp4 a1 (a1.length : Int) a1 a2 0 (fun y29 y30 => Z27.c n y30 (y29, y30) (fun r31 => K (!r31))) (fun y32 => K y32))
def Z7.w (n : Nat) (lp4 : List Int -> Int -> List Int -> List (tBar) -> Int -> (List Int -> List (tBar) -> Prop) -> (Bool -> Prop) -> Prop) (a1 : List Int) (a2 : List (tBar)) (K : Bool -> Prop) : Prop :=
 if (decide ((a1.length : Int) > 200)) = false then (Z7.j0 K a1 a2 lp4 n (decide ((a2.length : Int) > 1000))) else (Z7.j0 K a1 a2 lp4 n true)
def Z7.c : Nat -> List Int -> List (tBar) -> (Bool -> Prop) -> Prop
 | 0, _, _, _ => False
 | n + 1, a1, a2, K => Z7.w n (Z7.l4 n) a1 a2 K
def Z5.w (n : Nat) (a1 : Int) (a2 : Int) (a3 : Int) (a4 : List Int) (a5 : List (tBits)) (K : Bool -> Prop) : Prop :=
 if (decide (a2 = (-1))) = true then (grd (decide (0 <= a1) && decide (a1 < (a5.length : Int))) (Z2.c n ((rd a5 (Int.toNat a1)).1) ((rd a5 (Int.toNat a1)).2) a3 a4 (fun r9 => K r9))) else (grd (decide (0 <= a1) && decide (a1 < (a5.length : Int))) (grd (decide (0 <= a2) && decide (a2 < (a5.length : Int))) (Z2.c n ((rd a5 (Int.toNat a1)).1) ((rd a5 (Int.toNat a1)).2) ((rd a5 (Int.toNat a2)).1) ((rd a5 (Int.toNat a2)).2) (fun r11 => K r11))))
def Z5.c : Nat -> Int -> Int -> Int -> List Int -> List (tBits) -> (Bool -> Prop) -> Prop
 | 0, _, _, _, _, _, _ => False
 | n + 1, a1, a2, a3, a4, a5, K => Z5.w n  a1 a2 a3 a4 a5 K
def Z32.l2.b (n : Nat) (x9 : List (tBar)) (x10 : List (tBits)) (x11 : Int) (again2 : Int -> Prop) (x12 : Int) (Kx0w2 : Prop) (Kr2 : Int -> Prop) : Prop :=
 if (decide (x12 < x11)) = true then (grd (decide (0 <= x12) && decide (x12 < (x9.length : Int))) (Z5.c n ((rd x9 (Int.toNat x12)).1) (((rd x9 (Int.toNat x12)).2).1) ((((rd x9 (Int.toNat x12)).2).2).1) ((((rd x9 (Int.toNat x12)).2).2).2) x10 (fun r14 => if r14 = true then (Kr2 x12) else (again2 (IntKind.wrap .i64 (x12 + 1)))))) else (Kx0w2)
def Z32.l2 : Nat -> List (tBar) -> List (tBits) -> Int -> Int -> Prop -> (Int -> Prop) -> Prop
 | 0, _, _, _, _, _, _ => False
 | n + 1, x9, x10, x11, x12, Kx0w2, Kr2 => Z32.l2.b n  x9 x10 x11 (fun x12q => Z32.l2 n x9 x10 x11 x12q Kx0w2 Kr2) x12 Kx0w2 Kr2
def Z32.w (n : Nat) (lp2 : List (tBar) -> List (tBits) -> Int -> Int -> Prop -> (Int -> Prop) -> Prop) (a1 : List (tBar)) (a2 : List (tBits)) (K : Int -> Prop) : Prop :=
 lp2 a1 a2 (a1.length : Int) 0 (K (-1)) (fun y16 => K y16)
def Z32.c : Nat -> List (tBar) -> List (tBits) -> (Int -> Prop) -> Prop
 | 0, _, _, _ => False
 | n + 1, a1, a2, K => Z32.w n (Z32.l2 n) a1 a2 K
def Z26.w (n : Nat) (a1 : List (tBar)) (a2 : List (tBits)) (K : Bool -> Prop) : Prop :=
 Z32.c n a1 a2 (fun r3 => K (decide (r3 >= 0)))
def Z26.c : Nat -> List (tBar) -> List (tBits) -> (Bool -> Prop) -> Prop
 | 0, _, _, _ => False
 | n + 1, a1, a2, K => Z26.w n  a1 a2 K
def Z4.l4.b (n : Nat) (x25 : List (tBits)) (x26 : Int) (x28 : List Int) (x29 : List (tBar)) (x30 : List (tBits)) (again4 : Int -> Prop) (x27 : Int) (Kx0w4 : List Int -> List (tBar) -> List (tBits) -> Prop) (Kr4 : Bool -> Prop) : Prop :=
 if (decide (x27 < x26)) = true then (grd (decide (0 <= x27) && decide (x27 < (x25.length : Int))) (Z1.c n ((rd x25 (Int.toNat x27)).1) ((rd x25 (Int.toNat x27)).2) (fun r39 => if (!r39) = false then (grd (decide (0 <= x27) && decide (x27 < (x28.length : Int))) (let t40 : Bool := !(decide ((rd x25 (Int.toNat x27)).1 = rd x28 (Int.toNat x27))); if t40 = true then (Kr4 false) else (again4 (IntKind.wrap .i64 (x27 + 1))))) else (Kr4 false)))) else (Kx0w4 x28 x29 x30)
def Z4.l4 : Nat -> List (tBits) -> Int -> List Int -> List (tBar) -> List (tBits) -> Int -> (List Int -> List (tBar) -> List (tBits) -> Prop) -> (Bool -> Prop) -> Prop
 | 0, _, _, _, _, _, _, _, _ => False
 | n + 1, x25, x26, x28, x29, x30, x27, Kx0w4, Kr4 => Z4.l4.b n  x25 x26 x28 x29 x30 (fun x27q => Z4.l4 n x25 x26 x28 x29 x30 x27q Kx0w4 Kr4) x27 Kx0w4 Kr4
def Z4.j0 (K : Bool -> Prop) (a1 : List Int) (a2 : List (tBar)) (a3 : List (tBits)) (lp4 : List (tBits) -> Int -> List Int -> List (tBar) -> List (tBits) -> Int -> (List Int -> List (tBar) -> List (tBits) -> Prop) -> (Bool -> Prop) -> Prop) (n : Nat) (j52 : Bool) : Prop :=
 if j52 = true then (K false) else (lp4 a3 (a3.length : Int) a1 a2 a3 0 (fun y57 y58 y59 => Z26.c n y58 y59 (fun r60 => K (!r60))) (fun y61 => K y61))
def Z4.w (n : Nat) (lp4 : List (tBits) -> Int -> List Int -> List (tBar) -> List (tBits) -> Int -> (List Int -> List (tBar) -> List (tBits) -> Prop) -> (Bool -> Prop) -> Prop) (a1 : List Int) (a2 : List (tBar)) (a3 : List (tBits)) (K : Bool -> Prop) : Prop :=
 Z7.c n a1 a2 (fun r62 => if (!r62) = false then (let t63 : Bool := !(decide ((a3.length : Int) = (a1.length : Int))); Z4.j0 K a1 a2 a3 lp4 n t63) else (Z4.j0 K a1 a2 a3 lp4 n true))
def Z4.c : Nat -> List Int -> List (tBar) -> List (tBits) -> (Bool -> Prop) -> Prop
 | 0, _, _, _, _ => False
 | n + 1, a1, a2, a3, K => Z4.w n (Z4.l4 n) a1 a2 a3 K
def Z48.l2.b (n : Nat) (x6 : List Int) (x7 : Int) (again2 : Int -> Prop) (x8 : Int) (Kx0w2 : Prop) (Kr2 : Bool -> Prop) : Prop :=
 if (decide (x8 < (x6.length : Int))) = true then (grd (decide (0 <= x8) && decide (x8 < (x6.length : Int))) (if (decide (rd x6 (Int.toNat x8) = x7)) = true then (Kr2 true) else (again2 (IntKind.wrap .i64 (x8 + 1))))) else (Kx0w2)
def Z48.l2 : Nat -> List Int -> Int -> Int -> Prop -> (Bool -> Prop) -> Prop
 | 0, _, _, _, _, _ => False
 | n + 1, x6, x7, x8, Kx0w2, Kr2 => Z48.l2.b n  x6 x7 (fun x8q => Z48.l2 n x6 x7 x8q Kx0w2 Kr2) x8 Kx0w2 Kr2
def Z48.w (n : Nat) (lp2 : List Int -> Int -> Int -> Prop -> (Bool -> Prop) -> Prop) (a1 : List Int) (a2 : Int) (K : Bool -> Prop) : Prop :=
 lp2 a1 a2 0 (K false) (fun y10 => K y10)
def Z48.c : Nat -> List Int -> Int -> (Bool -> Prop) -> Prop
 | 0, _, _, _ => False
 | n + 1, a1, a2, K => Z48.w n (Z48.l2 n) a1 a2 K
def Z63.j1 (again8 : Int -> List Int -> Prop) (x20 : Int) (x21 : List Int) : Prop :=
 grd (decide (0 <= IntKind.wrap .i64 (x20 - 1)) && decide (IntKind.wrap .i64 (x20 - 1) < (x21.length : Int))) (let t25 : Int := rd x21 (Int.toNat (IntKind.wrap .i64 (x20 - 1))); grd (decide (0 <= x20) && decide (x20 < (x21.length : Int))) (again8 (IntKind.wrap .i64 (x20 - 1)) (List.set x21 (Int.toNat x20) t25)))
def Z63.l8.b (n : Nat) (x18 : List Int) (x19 : Int) (again8 : Int -> List Int -> Prop) (x20 : Int) (x21 : List Int) (Kx2w8 : List Int -> Int -> Int -> List Int -> Prop) : Prop :=
 if (decide (x20 > 0)) = true then (grd (decide (0 <= IntKind.wrap .i64 (x20 - 1)) && decide (IntKind.wrap .i64 (x20 - 1) < (x21.length : Int))) (let t28 : Int := rd x21 (Int.toNat (IntKind.wrap .i64 (x20 - 1))); grd (decide (0 <= x19) && decide (x19 < (x18.length : Int))) (if (decide (t28 > rd x18 (Int.toNat x19))) = true then (Z63.j1 again8 x20 x21) else (Kx2w8 x18 x19 x20 x21)))) else (Kx2w8 x18 x19 x20 x21)
def Z63.l8 : Nat -> List Int -> Int -> Int -> List Int -> (List Int -> Int -> Int -> List Int -> Prop) -> Prop
 | 0, _, _, _, _, _ => False
 | n + 1, x18, x19, x20, x21, Kx2w8 => Z63.l8.b n  x18 x19 (fun x20q x21q => Z63.l8 n x18 x19 x20q x21q Kx2w8) x20 x21 Kx2w8
def Z63.l3.b (n : Nat) (lp8 : List Int -> Int -> Int -> List Int -> (List Int -> Int -> Int -> List Int -> Prop) -> Prop) (again3 : List Int -> Int -> List Int -> Prop) (x49 : List Int) (x50 : Int) (x51 : List Int) (Kx0w3 : List Int -> Prop) : Prop :=
 if (decide (x50 < (x49.length : Int))) = true then (grd (decide (0 <= x50) && decide (x50 < (x49.length : Int))) (Z48.c n x51 (rd x49 (Int.toNat x50)) (fun r65 => if r65 = true then (again3 x49 (IntKind.wrap .i64 (x50 + 1)) x51) else (grd (decide (0 <= x50) && decide (x50 < (x49.length : Int))) (grd (decide (x51.length + ([rd x49 (Int.toNat x50)] : List (Int)).length <= 7818749353073)) (let t66 : List Int := x51 ++ ([rd x49 (Int.toNat x50)] : List (Int)); lp8 x49 x50 (x51.length : Int) t66 (fun y71 y72 y73 y74 => grd (decide (0 <= y72) && decide (y72 < (y71.length : Int))) (grd (decide (0 <= y73) && decide (y73 < (y74.length : Int))) (let t75 : List Int := List.set y74 (Int.toNat y73) (rd y71 (Int.toNat y72)); again3 y71 (IntKind.wrap .i64 (y72 + 1)) t75))))))))) else (Kx0w3 x51)
def Z63.l3 : Nat -> List Int -> Int -> List Int -> (List Int -> Prop) -> Prop
 | 0, _, _, _, _ => False
 | n + 1, x49, x50, x51, Kx0w3 => Z63.l3.b n (Z63.l8 n)  (fun x49q x50q x51q => Z63.l3 n x49q x50q x51q Kx0w3) x49 x50 x51 Kx0w3
def Z63.w (n : Nat) (lp3 : List Int -> Int -> List Int -> (List Int -> Prop) -> Prop) (a1 : List Int) (K : List Int -> Prop) : Prop :=
 lp3 a1 0 ([] : List (Int)) (fun y77 => K y77)
def Z63.c : Nat -> List Int -> (List Int -> Prop) -> Prop
 | 0, _, _ => False
 | n + 1, a1, K => Z63.w n (Z63.l3 n) a1 K
def Z43.j3 (again4 : Int -> List Int -> List (tBar) -> Prop) (n : Nat) (x18 : Int) (x19 : Int) (x20 : List Int) (x21 : List (tBar)) (x23 : List (tBar)) (j29 : Bool) : Prop :=
 if j29 = true then (Z65.c n x21 ((rd x23 (Int.toNat x19)).1) (((rd x23 (Int.toNat x19)).2).1) ((((rd x23 (Int.toNat x19)).2).2).1) ((((rd x23 (Int.toNat x19)).2).2).2) (fun r30 => again4 (IntKind.wrap .i64 (x19 + 1)) x20 r30)) else (if (decide ((rd x23 (Int.toNat x19)).1 = x18)) = true then (let t31 : List Int := ([((rd x23 (Int.toNat x19)).2).1] : List (Int)); grd (decide (x20.length + t31.length <= 7818749353073)) (again4 (IntKind.wrap .i64 (x19 + 1)) (x20 ++ t31) x21)) else (let t32 : Bool := decide (((rd x23 (Int.toNat x19)).2).1 = x18); if t32 = true then (grd (decide (x20.length + ([(rd x23 (Int.toNat x19)).1] : List (Int)).length <= 7818749353073)) (let t33 : List Int := x20 ++ ([(rd x23 (Int.toNat x19)).1] : List (Int)); again4 (IntKind.wrap .i64 (x19 + 1)) t33 x21)) else (again4 (IntKind.wrap .i64 (x19 + 1)) x20 x21)))
def Z43.l4.b (n : Nat) (x18 : Int) (x22 : List Int) (x23 : List (tBar)) (again4 : Int -> List Int -> List (tBar) -> Prop) (x19 : Int) (x20 : List Int) (x21 : List (tBar)) (Kx0w4 : List Int -> List (tBar) -> Prop) : Prop :=
 if (decide (x19 < (x23.length : Int))) = true then (grd (decide (0 <= x19) && decide (x19 < (x23.length : Int))) (if (decide ((rd x23 (Int.toNat x19)).1 = x18)) = true then (Z43.j3 again4 n x18 x19 x20 x21 x23 (decide (((rd x23 (Int.toNat x19)).2).1 < 0))) else (Z43.j3 again4 n x18 x19 x20 x21 x23 false))) else (Kx0w4 x20 x21)
def Z43.l4 : Nat -> Int -> List Int -> List (tBar) -> Int -> List Int -> List (tBar) -> (List Int -> List (tBar) -> Prop) -> Prop
 | 0, _, _, _, _, _, _, _ => False
 | n + 1, x18, x22, x23, x19, x20, x21, Kx0w4 => Z43.l4.b n  x18 x22 x23 (fun x19q x20q x21q => Z43.l4 n x18 x22 x23 x19q x20q x21q Kx0w4) x19 x20 x21 Kx0w4
def Z43.w (n : Nat) (lp4 : Int -> List Int -> List (tBar) -> Int -> List Int -> List (tBar) -> (List Int -> List (tBar) -> Prop) -> Prop) (a1 : List Int) (a2 : List (tBar)) (a3 : Int) (K : Int -> Prop) : Prop :=
 lp4 a3 a1 a2 0 ([] : List (Int)) ([] : List (tBar)) (fun y36 y37 => Z63.c n y36 (fun r38 => let t39 : Int := IntKind.wrap .i64 ((r38.length : Int) + (y37.length : Int)); K t39))
def Z43.c : Nat -> List Int -> List (tBar) -> Int -> (Int -> Prop) -> Prop
 | 0, _, _, _, _ => False
 | n + 1, a1, a2, a3, K => Z43.w n (Z43.l4 n) a1 a2 a3 K
def Z36.l2.b (n : Nat) (x7 : List Int) (x8 : Int) (x9 : Int) (again2 : Int -> Prop) (x10 : Int) (Kx0w2 : Prop) (Kr2 : Int -> Prop) : Prop :=
 if (decide (x10 < x9)) = true then (grd (decide (0 <= x10) && decide (x10 < (x7.length : Int))) (if (decide (x8 = rd x7 (Int.toNat x10))) = true then (Kr2 x10) else (again2 (IntKind.wrap .i64 (x10 + 1))))) else (Kx0w2)
def Z36.l2 : Nat -> List Int -> Int -> Int -> Int -> Prop -> (Int -> Prop) -> Prop
 | 0, _, _, _, _, _, _ => False
 | n + 1, x7, x8, x9, x10, Kx0w2, Kr2 => Z36.l2.b n  x7 x8 x9 (fun x10q => Z36.l2 n x7 x8 x9 x10q Kx0w2 Kr2) x10 Kx0w2 Kr2
def Z36.w (n : Nat) (lp2 : List Int -> Int -> Int -> Int -> Prop -> (Int -> Prop) -> Prop) (a1 : List Int) (a2 : Int) (K : Int -> Prop) : Prop :=
 lp2 a1 a2 (a1.length : Int) 0 (K (-1)) (fun y12 => K y12)
def Z36.c : Nat -> List Int -> Int -> (Int -> Prop) -> Prop
 | 0, _, _, _ => False
 | n + 1, a1, a2, K => Z36.w n (Z36.l2 n) a1 a2 K
def Z30.w (n : Nat) (a1 : List Int) (a2 : Int) (K : Bool -> Prop) : Prop :=
 Z36.c n a1 a2 (fun r3 => K (decide (r3 >= 0)))
def Z30.c : Nat -> List Int -> Int -> (Bool -> Prop) -> Prop
 | 0, _, _, _ => False
 | n + 1, a1, a2, K => Z30.w n  a1 a2 K
def Z34.l2.b (n : Nat) (x11 : List (tBits)) (x12 : Int) (x13 : List Int) (x14 : Int) (again2 : Int -> Prop) (x15 : Int) (Kx0w2 : Prop) (Kr2 : Int -> Prop) : Prop :=
 if (decide (x15 < x14)) = true then (grd (decide (0 <= x15) && decide (x15 < (x11.length : Int))) (Z2.c n x12 x13 ((rd x11 (Int.toNat x15)).1) ((rd x11 (Int.toNat x15)).2) (fun r17 => if r17 = true then (Kr2 x15) else (again2 (IntKind.wrap .i64 (x15 + 1)))))) else (Kx0w2)
def Z34.l2 : Nat -> List (tBits) -> Int -> List Int -> Int -> Int -> Prop -> (Int -> Prop) -> Prop
 | 0, _, _, _, _, _, _, _ => False
 | n + 1, x11, x12, x13, x14, x15, Kx0w2, Kr2 => Z34.l2.b n  x11 x12 x13 x14 (fun x15q => Z34.l2 n x11 x12 x13 x14 x15q Kx0w2 Kr2) x15 Kx0w2 Kr2
def Z34.w (n : Nat) (lp2 : List (tBits) -> Int -> List Int -> Int -> Int -> Prop -> (Int -> Prop) -> Prop) (a1 : List (tBits)) (a2 : Int) (a3 : List Int) (K : Int -> Prop) : Prop :=
 lp2 a1 a2 a3 (a1.length : Int) 0 (K (-1)) (fun y19 => K y19)
def Z34.c : Nat -> List (tBits) -> Int -> List Int -> (Int -> Prop) -> Prop
 | 0, _, _, _, _ => False
 | n + 1, a1, a2, a3, K => Z34.w n (Z34.l2 n) a1 a2 a3 K
def Z28.w (n : Nat) (a1 : List (tBits)) (a2 : Int) (a3 : List Int) (K : Bool -> Prop) : Prop :=
 Z34.c n a1 a2 a3 (fun r4 => K (decide (r4 >= 0)))
def Z28.c : Nat -> List (tBits) -> Int -> List Int -> (Bool -> Prop) -> Prop
 | 0, _, _, _, _ => False
 | n + 1, a1, a2, a3, K => Z28.w n  a1 a2 a3 K
def Z19.w (n : Nat) (a1 : Int) (a2 : Int) (a3 : List (trivals)) (K : List (trivals) -> Prop) : Prop :=
 grd (decide (0 <= a1) && decide (a1 < (a3.length : Int))) (Z30.c n ((rd a3 (Int.toNat a1)).1) a2 (fun r4 => if (!r4) = true then (((grd (decide (0 <= a1) && decide (a1 < (a3.length : Int))) (let p9 : Prop := (grd (decide (((rd a3 (Int.toNat a1)).1).length + ([a2] : List (Int)).length <= 7818749353073)) (let t5 : List Int := ((rd a3 (Int.toNat a1)).1) ++ ([a2] : List (Int)); grd (decide (0 <= a1) && decide (a1 < (a3.length : Int))) (grd (decide (Int.toNat a1 = Int.toNat a1)) (let t6 : List (trivals) := List.set a3 (Int.toNat a1) (t5, (rd a3 (Int.toNat a1)).2); K t6)))); (p9 /\ p9))) /\ (grd (decide (0 <= a1) && decide (a1 < (a3.length : Int))) (grd (decide (((rd a3 (Int.toNat a1)).1).length + ([a2] : List (Int)).length <= 7818749353073)) (let t10 : List Int := ((rd a3 (Int.toNat a1)).1) ++ ([a2] : List (Int)); grd (decide (0 <= a1) && decide (a1 < (a3.length : Int))) (grd (decide (Int.toNat a1 = Int.toNat a1)) (let t11 : List (trivals) := List.set a3 (Int.toNat a1) (t10, (rd a3 (Int.toNat a1)).2); K t11)))))) /\ (grd (decide (0 <= a1) && decide (a1 < (a3.length : Int))) (let p29 : Prop := (let p16 : Prop := (grd (decide (((rd a3 (Int.toNat a1)).1).length + ([a2] : List (Int)).length <= 7818749353073)) (let t12 : List Int := ((rd a3 (Int.toNat a1)).1) ++ ([a2] : List (Int)); grd (decide (0 <= a1) && decide (a1 < (a3.length : Int))) (grd (decide (Int.toNat a1 = Int.toNat a1)) (let t13 : List (trivals) := List.set a3 (Int.toNat a1) (t12, (rd a3 (Int.toNat a1)).2); K t13)))); (p16 /\ p16)); (p29 /\ ((grd (decide (((rd a3 (Int.toNat a1)).1).length + ([a2] : List (Int)).length <= 7818749353073)) (let t17 : List Int := ((rd a3 (Int.toNat a1)).1) ++ ([a2] : List (Int)); grd (decide (0 <= a1) && decide (a1 < (a3.length : Int))) (grd (decide (Int.toNat a1 = Int.toNat a1)) (let t18 : List (trivals) := List.set a3 (Int.toNat a1) (t17, (rd a3 (Int.toNat a1)).2); K t18)))) /\ (let p23 : Prop := (grd (decide (((rd a3 (Int.toNat a1)).1).length + ([a2] : List (Int)).length <= 7818749353073)) (let t19 : List Int := ((rd a3 (Int.toNat a1)).1) ++ ([a2] : List (Int)); grd (decide (0 <= a1) && decide (a1 < (a3.length : Int))) (grd (decide (Int.toNat a1 = Int.toNat a1)) (let t20 : List (trivals) := List.set a3 (Int.toNat a1) (t19, (rd a3 (Int.toNat a1)).2); K t20)))); (p23 /\ p23))) /\ p29))) /\ (grd (decide (0 <= a1) && decide (a1 < (a3.length : Int))) (let p34 : Prop := (grd (decide (((rd a3 (Int.toNat a1)).1).length + ([a2] : List (Int)).length <= 7818749353073)) (let t30 : List Int := ((rd a3 (Int.toNat a1)).1) ++ ([a2] : List (Int)); grd (decide (0 <= a1) && decide (a1 < (a3.length : Int))) (grd (decide (Int.toNat a1 = Int.toNat a1)) (let t31 : List (trivals) := List.set a3 (Int.toNat a1) (t30, (rd a3 (Int.toNat a1)).2); K t31)))); (p34 /\ p34)))) else (K a3)))
def Z19.c : Nat -> Int -> Int -> List (trivals) -> (List (trivals) -> Prop) -> Prop
 | 0, _, _, _, _ => False
 | n + 1, a1, a2, a3, K => Z19.w n  a1 a2 a3 K
def Z18.l4.b (n : Nat) (x37 : List (tBar)) (x38 : Int) (again4 : Int -> List (trivals) -> Prop) (x39 : Int) (x40 : List (trivals)) (Kx0w4 : List (trivals) -> Prop) : Prop :=
 if (decide (x39 < x38)) = true then (grd (decide (0 <= x39) && decide (x39 < (x37.length : Int))) (if (decide (((rd x37 (Int.toNat x39)).2).1 >= 0)) = true then (Z19.c n ((rd x37 (Int.toNat x39)).1) (((rd x37 (Int.toNat x39)).2).1) x40 (fun r57 => Z19.c n (((rd x37 (Int.toNat x39)).2).1) ((rd x37 (Int.toNat x39)).1) r57 (fun r58 => again4 (IntKind.wrap .i64 (x39 + 1)) r58))) else (grd (decide (0 <= (rd x37 (Int.toNat x39)).1) && decide ((rd x37 (Int.toNat x39)).1 < (x40.length : Int))) (Z28.c n ((rd x40 (Int.toNat ((rd x37 (Int.toNat x39)).1))).2) ((((rd x37 (Int.toNat x39)).2).2).1) ((((rd x37 (Int.toNat x39)).2).2).2) (fun r60 => if (!r60) = true then (let p67 : Prop := (let t61 : List (tBits) := ([((((rd x37 (Int.toNat x39)).2).2).1, (((rd x37 (Int.toNat x39)).2).2).2)] : List (tBits)); grd (decide (((rd x40 (Int.toNat ((rd x37 (Int.toNat x39)).1))).2).length + t61.length <= 2132386187201)) (let t62 : List (tBits) := ((rd x40 (Int.toNat ((rd x37 (Int.toNat x39)).1))).2) ++ t61; grd (decide (Int.toNat ((rd x37 (Int.toNat x39)).1) = Int.toNat ((rd x37 (Int.toNat x39)).1))) (let t63 : List (trivals) := List.set x40 (Int.toNat ((rd x37 (Int.toNat x39)).1)) ((rd x40 (Int.toNat ((rd x37 (Int.toNat x39)).1))).1, t62); again4 (IntKind.wrap .i64 (x39 + 1)) t63))); (p67 /\ p67)) else (again4 (IntKind.wrap .i64 (x39 + 1)) x40)))))) else (Kx0w4 x40)
def Z18.l4 : Nat -> List (tBar) -> Int -> Int -> List (trivals) -> (List (trivals) -> Prop) -> Prop
 | 0, _, _, _, _, _ => False
 | n + 1, x37, x38, x39, x40, Kx0w4 => Z18.l4.b n  x37 x38 (fun x39q x40q => Z18.l4 n x37 x38 x39q x40q Kx0w4) x39 x40 Kx0w4
def Z18.w (n : Nat) (lp4 : List (tBar) -> Int -> Int -> List (trivals) -> (List (trivals) -> Prop) -> Prop) (a1 : List Int) (a2 : List (tBar)) (K : List (trivals) -> Prop) : Prop :=
 let t3 : List (trivals) := ([] : List (trivals)); grd ((decide (0 <= (a1.length : Int)) && decide ((a1.length : Int) <= 1436096819952)) && decide ((a1.length : Int) = (a1.length : Int))) (let t4 : List (trivals) := List.replicate (Int.toNat (a1.length : Int)) (([] : List (Int)), ([] : List (tBits))); let t5 : List (trivals) := ([] : List (trivals)); lp4 a2 (a2.length : Int) 0 t4 (fun y69 => K y69))
def Z18.c : Nat -> List Int -> List (tBar) -> (List (trivals) -> Prop) -> Prop
 | 0, _, _, _ => False
 | n + 1, a1, a2, K => Z18.w n (Z18.l4 n) a1 a2 K
def Z20.w (n : Nat) (a1 : trivals) (K : Int -> Prop) : Prop :=
 let t3 : Int := IntKind.wrap .i64 ((a1.1.length : Int) + (a1.2.length : Int)); K t3
def Z20.c : Nat -> trivals -> (Int -> Prop) -> Prop
 | 0, _, _ => False
 | n + 1, a1, K => Z20.w n  a1 K
def Z23.w (n : Nat) (a1 : List Int) (K : Bool -> Prop) : Prop :=
 K (decide ((a1.length : Int) > 1048576))
def Z23.c : Nat -> List Int -> (Bool -> Prop) -> Prop
 | 0, _, _ => False
 | n + 1, a1, K => Z23.w n  a1 K
def Z51.w (n : Nat) (a1 : List Int) (K : List Int -> Int -> Prop) : Prop :=
 K a1 0
def Z51.c : Nat -> List Int -> (List Int -> Int -> Prop) -> Prop
 | 0, _, _ => False
 | n + 1, a1, K => Z51.w n  a1 K
def Z56.w (n : Nat) (a1 : List Int) (a2 : Int) (K : Int -> List Int -> Int -> Prop) : Prop :=
 if (decide (a2 >= (a1.length : Int))) = true then (K 0 a1 a2) else (let t4 : Int := IntKind.wrap .i64 ((IntKind.wrap .i64 (a2 + 1)) - 1); grd (decide (0 <= t4) && decide (t4 < (a1.length : Int))) (K (IntKind.wrap .i64 (rd a1 (Int.toNat t4))) a1 (IntKind.wrap .i64 (a2 + 1))))
def Z56.c : Nat -> List Int -> Int -> (Int -> List Int -> Int -> Prop) -> Prop
 | 0, _, _, _ => False
 | n + 1, a1, a2, K => Z56.w n  a1 a2 K
def Z52.w (n : Nat) (a1 : List Int) (a2 : Int) (a3 : Int) (K : Int -> List Int -> Int -> Prop) : Prop :=
 if (decide (a3 <= 1)) = true then (K 0 a1 a2) else (if (decide (a3 <= 256)) = true then (Z56.c n a1 a2 (fun r7 r8 r9 => grd (!(decide (a3 = 0))) (K (Int.tmod r7 a3) r8 r9))) else (Z56.c n a1 a2 (fun r10 r11 r12 => Z56.c n r11 r12 (fun r13 r14 r15 => let t16 : Int := IntKind.wrap .i64 ((IntKind.wrap .i64 (r10 * 256)) + r13); grd (!(decide (a3 = 0))) (K (Int.tmod t16 a3) r14 r15)))))
def Z52.c : Nat -> List Int -> Int -> Int -> (Int -> List Int -> Int -> Prop) -> Prop
 | 0, _, _, _, _ => False
 | n + 1, a1, a2, a3, K => Z52.w n  a1 a2 a3 K
def Z58.w (n : Nat) (a1 : List Int) (a2 : Int) (a3 : Int) (K : Bool -> List Int -> Int -> Prop) : Prop :=
 Z52.c n a1 a2 a3 (fun r4 r5 r6 => K (decide (r4 = IntKind.wrap .i64 (a3 - 1))) r5 r6)
def Z58.c : Nat -> List Int -> Int -> Int -> (Bool -> List Int -> Int -> Prop) -> Prop
 | 0, _, _, _, _ => False
 | n + 1, a1, a2, a3, K => Z58.w n  a1 a2 a3 K
def Z59.w (n : Nat) (a1 : List Int) (a2 : Int) (K : Int -> List Int -> Int -> Prop) : Prop :=
 Z52.c n a1 a2 10 (fun r13 r14 r15 => if (decide (r13 = 0)) = true then (let t16 : List Int := ([63, 64, 65, 127, 128, 129, 200] : List (Int)); Z52.c n r14 r15 7 (fun r17 r18 r19 => grd (decide (0 <= r17) && decide (r17 < (t16.length : Int))) (K (rd t16 (Int.toNat r17)) r18 r19))) else (if (decide (r13 = 1)) = true then (Z52.c n r14 r15 40 (fun r20 r21 r22 => K (IntKind.wrap .i64 (1 + r20)) r21 r22)) else (Z52.c n r14 r15 12 (fun r23 r24 r25 => K (IntKind.wrap .i64 (1 + r23)) r24 r25))))
def Z59.c : Nat -> List Int -> Int -> (Int -> List Int -> Int -> Prop) -> Prop
 | 0, _, _, _ => False
 | n + 1, a1, a2, K => Z59.w n  a1 a2 K
def Z60.l3.b (n : Nat) (again3 : Int -> Int -> List Int -> Int -> Prop) (x15 : Int) (x16 : Int) (x17 : List Int) (x18 : Int) (Kx0w3 : Int -> List Int -> Int -> Prop) : Prop :=
 if (decide (x16 < 8)) = true then (Z56.c n x17 x18 (fun r23 r24 r25 => let t26 : Int := ibits .or .u64 (IntKind.wrap .u64 (x15 * 2 ^ 8)) (IntKind.wrap .u64 r23); again3 t26 (IntKind.wrap .i64 (x16 + 1)) r24 r25)) else (Kx0w3 x15 x17 x18)
def Z60.l3 : Nat -> Int -> Int -> List Int -> Int -> (Int -> List Int -> Int -> Prop) -> Prop
 | 0, _, _, _, _, _ => False
 | n + 1, x15, x16, x17, x18, Kx0w3 => Z60.l3.b n   (fun x15q x16q x17q x18q => Z60.l3 n x15q x16q x17q x18q Kx0w3) x15 x16 x17 x18 Kx0w3
def Z60.w (n : Nat) (lp3 : Int -> Int -> List Int -> Int -> (Int -> List Int -> Int -> Prop) -> Prop) (a1 : List Int) (a2 : Int) (K : Int -> List Int -> Int -> Prop) : Prop :=
 lp3 0 0 a1 a2 (fun y30 y31 y32 => K y30 y31 y32)
def Z60.c : Nat -> List Int -> Int -> (Int -> List Int -> Int -> Prop) -> Prop
 | 0, _, _, _ => False
 | n + 1, a1, a2, K => Z60.w n (Z60.l3 n) a1 a2 K
def Z55.w (n : Nat) (a1 : List Int) (a2 : Int) (a3 : Int) (a4 : Int) (K : Int -> List Int -> Int -> Prop) : Prop :=
 Z52.c n a1 a2 8 (fun r8 r9 r10 => if (decide (r8 = 0)) = true then (K a3 r9 r10) else (if (decide (r8 = 1)) = true then (K a4 r9 r10) else (if (decide (a4 < a3)) = true then (K a3 r9 r10) else (Z60.c n r9 r10 (fun r11 r12 r13 => let t14 : Int := IntKind.wrap .i64 ((IntKind.wrap .i64 (a4 - a3)) + 1); grd (!(decide (IntKind.wrap .u64 t14 = 0))) (let t15 : Int := Int.tmod (Int.fdiv r11 (2 ^ 1)) (IntKind.wrap .u64 t14); let t16 : Int := IntKind.wrap .i64 (a3 + (IntKind.wrap .i64 t15)); K t16 r12 r13))))))
def Z55.c : Nat -> List Int -> Int -> Int -> Int -> (Int -> List Int -> Int -> Prop) -> Prop
 | 0, _, _, _, _, _ => False
 | n + 1, a1, a2, a3, a4, K => Z55.w n  a1 a2 a3 a4 K
def Z57.w (n : Nat) (a1 : List Int) (a2 : Int) (a3 : Int) (a4 : Int) (K : Int -> List Int -> Int -> Prop) : Prop :=
 Z58.c n a1 a2 24 (fun r12 r13 r14 => if r12 = true then (let t15 : List Int := ([IntKind.wrap .i64 (a3 - 1), IntKind.wrap .i64 (a4 + 1), (-9223372036854775808), 9223372036854775807] : List (Int)); Z52.c n r13 r14 4 (fun r16 r17 r18 => grd (decide (0 <= r16) && decide (r16 < (t15.length : Int))) (K (rd t15 (Int.toNat r16)) r17 r18))) else (Z55.c n r13 r14 a3 a4 (fun r19 r20 r21 => K r19 r20 r21)))
def Z57.c : Nat -> List Int -> Int -> Int -> Int -> (Int -> List Int -> Int -> Prop) -> Prop
 | 0, _, _, _, _, _ => False
 | n + 1, a1, a2, a3, a4, K => Z57.w n  a1 a2 a3 a4 K
def Z47.l5.b (n : Nat) (x18 : List Int) (x21 : List Int) (x22 : Int) (x23 : Int) (again5 : Int -> List Int -> Prop) (x19 : Int) (x20 : List Int) (Kx0w5 : List Int -> List Int -> Int -> Int -> Prop) : Prop :=
 if (decide (x19 < (x18.length : Int))) = true then (grd (decide (0 <= IntKind.wrap .i64 (Int.tdiv x19 64)) && decide (IntKind.wrap .i64 (Int.tdiv x19 64) < (x20.length : Int))) (let t28 : Nat := Int.toNat (IntKind.wrap .i64 (Int.tdiv x19 64)); grd (decide (0 <= x19) && decide (x19 < (x18.length : Int))) (grd (decide (0 <= IntKind.wrap .u64 (Int.tmod x19 64))) (let t29 : Int := IntKind.wrap .u64 ((IntKind.wrap .u64 (rd x18 (Int.toNat x19))) * 2 ^ (Nat.min (Int.toNat (IntKind.wrap .u64 (Int.tmod x19 64))) 64)); grd (decide (0 <= IntKind.wrap .i64 (Int.tdiv x19 64)) && decide (IntKind.wrap .i64 (Int.tdiv x19 64) < (x20.length : Int))) (let t30 : Nat := Int.toNat (IntKind.wrap .i64 (Int.tdiv x19 64)); let t31 : List Int := List.set x20 t30 (ibits .or .u64 (rd x20 t28) t29); again5 (IntKind.wrap .i64 (x19 + 1)) t31))))) else (Kx0w5 x20 x21 x22 x23)
def Z47.l5 : Nat -> List Int -> List Int -> Int -> Int -> Int -> List Int -> (List Int -> List Int -> Int -> Int -> Prop) -> Prop
 | 0, _, _, _, _, _, _, _ => False
 | n + 1, x18, x21, x22, x23, x19, x20, Kx0w5 => Z47.l5.b n  x18 x21 x22 x23 (fun x19q x20q => Z47.l5 n x18 x21 x22 x23 x19q x20q Kx0w5) x19 x20 Kx0w5
def Z47.j0 (K : Int -> List Int -> Bool -> Prop) (a1 : List Int) (lp5 : List Int -> List Int -> Int -> Int -> Int -> List Int -> (List Int -> List Int -> Int -> Int -> Prop) -> Prop) : Prop :=
 let t3 : Int := IntKind.wrap .i64 (Int.tdiv (IntKind.wrap .i64 ((a1.length : Int) + 63)) 64); grd ((decide (0 <= t3) && decide (t3 <= 7818749353073)) && decide (t3 = t3)) (lp5 a1 ([] : List (Int)) 0 (a1.length : Int) 0 (List.replicate (Int.toNat t3) 0) (fun y36 y37 y38 y39 => K y39 y36 true))
def Z47.w (n : Nat) (lp5 : List Int -> List Int -> Int -> Int -> Int -> List Int -> (List Int -> List Int -> Int -> Int -> Prop) -> Prop) (a1 : List Int) (K : Int -> List Int -> Bool -> Prop) : Prop :=
 if (decide ((a1.length : Int) < 1)) = false then (if (decide ((a1.length : Int) > 4096)) = true then (K 0 ([] : List (Int)) false) else (Z47.j0 K a1 lp5)) else (K 0 ([] : List (Int)) false)
def Z47.c : Nat -> List Int -> (Int -> List Int -> Bool -> Prop) -> Prop
 | 0, _, _ => False
 | n + 1, a1, K => Z47.w n (Z47.l5 n) a1 K
def Z53.j4 (again5 : Int -> List Int -> Prop) (x30 : Int) (x31 : Int) (x32 : List Int) (j44 : Int) : Prop :=
 if (decide (x30 = 1)) = true then (grd (decide (x32.length + ([1] : List (Int)).length <= 35184372088832)) (again5 (IntKind.wrap .i64 (x31 + 1)) (x32 ++ ([1] : List (Int))))) else (grd (decide (x32.length + ([j44] : List (Int)).length <= 35184372088832)) (again5 (IntKind.wrap .i64 (x31 + 1)) (x32 ++ ([j44] : List (Int)))))
def Z53.l5.b (n : Nat) (x28 : Int) (x29 : Int) (x30 : Int) (x33 : List Int) (x34 : List Int) (x35 : Int) (x36 : Int) (again5 : Int -> List Int -> Prop) (x31 : Int) (x32 : List Int) (Kx0w5 : List Int -> List Int -> List Int -> Int -> Int -> Prop) : Prop :=
 if (decide (x31 < x28)) = true then (let t42 : Int := IntKind.wrap .u64 (Int.tmod (IntKind.wrap .i64 (x31 * 7)) 64); grd (decide (0 <= t42)) (let t43 : Int := Int.fdiv x29 (2 ^ (Nat.min (Int.toNat t42) 64)); if (decide (x30 = 0)) = true then (Z53.j4 again5 x30 x31 x32 0) else (Z53.j4 again5 x30 x31 x32 (IntKind.wrap .u8 (ibits .and .u64 t43 1))))) else (Kx0w5 x32 x33 x34 x35 x36)
def Z53.l5 : Nat -> Int -> Int -> Int -> List Int -> List Int -> Int -> Int -> Int -> List Int -> (List Int -> List Int -> List Int -> Int -> Int -> Prop) -> Prop
 | 0, _, _, _, _, _, _, _, _, _, _ => False
 | n + 1, x28, x29, x30, x33, x34, x35, x36, x31, x32, Kx0w5 => Z53.l5.b n  x28 x29 x30 x33 x34 x35 x36 (fun x31q x32q => Z53.l5 n x28 x29 x30 x33 x34 x35 x36 x31q x32q Kx0w5) x31 x32 Kx0w5
def Z53.w (n : Nat) (lp5 : Int -> Int -> Int -> List Int -> List Int -> Int -> Int -> Int -> List Int -> (List Int -> List Int -> List Int -> Int -> Int -> Prop) -> Prop) (a1 : List Int) (a2 : Int) (a3 : Int) (K : Int -> List Int -> List Int -> Int -> Prop) : Prop :=
 Z60.c n a1 a2 (fun r4 r5 r6 => Z52.c n r5 r6 4 (fun r7 r8 r9 => lp5 a3 r4 r7 ([] : List (Int)) r8 r9 0 0 ([] : List (Int)) (fun y51 y52 y53 y54 y55 => Z47.c n y51 (fun r56 r57 r58 => K r56 r57 y53 y54))))
def Z53.c : Nat -> List Int -> Int -> Int -> (Int -> List Int -> List Int -> Int -> Prop) -> Prop
 | 0, _, _, _, _ => False
 | n + 1, a1, a2, a3, K => Z53.w n (Z53.l5 n) a1 a2 a3 K
def Z22.w (n : Nat) (a1 : Int) (K : Int -> List Int -> Prop) : Prop :=
 Z21.c n a1 (fun r2 => grd ((decide (0 <= r2) && decide (r2 <= 7818749353073)) && decide (r2 = r2)) (K a1 (List.replicate (Int.toNat r2) 0)))
def Z22.c : Nat -> Int -> (Int -> List Int -> Prop) -> Prop
 | 0, _, _ => False
 | n + 1, a1, K => Z22.w n  a1 K
def Z37.l5.b (n : Nat) (x14 : Int) (x18 : List Int) (x19 : Int) (again5 : Int -> Int -> List Int -> Prop) (x15 : Int) (x16 : Int) (x17 : List Int) (Kx0w5 : Int -> List Int -> List Int -> Int -> Prop) : Prop :=
 if (decide (x16 < x14)) = true then (let t21 : List Int := ([IntKind.wrap .u8 (Int.tmod x15 2)] : List (Int)); grd (decide (x17.length + t21.length <= 35184372088832)) (again5 (IntKind.wrap .i64 (Int.tdiv x15 2)) (IntKind.wrap .i64 (x16 + 1)) (x17 ++ t21))) else (Kx0w5 x15 x17 x18 x19)
def Z37.l5 : Nat -> Int -> List Int -> Int -> Int -> Int -> List Int -> (Int -> List Int -> List Int -> Int -> Prop) -> Prop
 | 0, _, _, _, _, _, _, _ => False
 | n + 1, x14, x18, x19, x15, x16, x17, Kx0w5 => Z37.l5.b n  x14 x18 x19 (fun x15q x16q x17q => Z37.l5 n x14 x18 x19 x15q x16q x17q Kx0w5) x15 x16 x17 Kx0w5
def Z37.j0 (K : Int -> List Int -> Bool -> Prop) (a1 : Int) (a2 : Int) (lp5 : Int -> List Int -> Int -> Int -> Int -> List Int -> (Int -> List Int -> List Int -> Int -> Prop) -> Prop) (n : Nat) : Prop :=
 lp5 a1 ([] : List (Int)) 0 a2 0 ([] : List (Int)) (fun y26 y27 y28 y29 => if (decide (y26 > 0)) = true then (K 0 ([] : List (Int)) false) else (Z47.c n y27 (fun r30 r31 r32 => K r30 r31 r32)))
def Z37.w (n : Nat) (lp5 : Int -> List Int -> Int -> Int -> Int -> List Int -> (Int -> List Int -> List Int -> Int -> Prop) -> Prop) (a1 : Int) (a2 : Int) (K : Int -> List Int -> Bool -> Prop) : Prop :=
 Z49.c n a1 1 4096 (fun r35 => if (!r35) = false then (if (decide (a2 < 0)) = true then (K 0 ([] : List (Int)) false) else (Z37.j0 K a1 a2 lp5 n)) else (K 0 ([] : List (Int)) false))
def Z37.c : Nat -> Int -> Int -> (Int -> List Int -> Bool -> Prop) -> Prop
 | 0, _, _, _ => False
 | n + 1, a1, a2, K => Z37.w n (Z37.l5 n) a1 a2 K
def Z44.j7 (Kr2 : Bool -> Prop) (again2 : Int -> Prop) (n : Nat) (x40 : List (tBits)) (x41 : Int) (x42 : Int) (x44 : List (tBar)) (x45 : Int) (x46 : List Int) (j69 : Bool) : Prop :=
 if j69 = true then (Z62.c n ((((rd x44 (Int.toNat x42)).2).2).1) ((((rd x44 (Int.toNat x42)).2).2).2) x45 x46 (fun r70 => if r70 = true then (Kr2 false) else (again2 (IntKind.wrap .i64 (x42 + 1))))) else (if (decide ((rd x44 (Int.toNat x42)).1 = x41)) = true then (grd (decide (0 <= ((rd x44 (Int.toNat x42)).2).1) && decide (((rd x44 (Int.toNat x42)).2).1 < (x40.length : Int))) (let t71 : tBits := rd x40 (Int.toNat (((rd x44 (Int.toNat x42)).2).1)); Z62.c n t71.1 t71.2 x45 x46 (fun r72 => if r72 = true then (Kr2 false) else (again2 (IntKind.wrap .i64 (x42 + 1)))))) else (let t73 : Bool := decide (((rd x44 (Int.toNat x42)).2).1 = x41); if t73 = true then (grd (decide (0 <= (rd x44 (Int.toNat x42)).1) && decide ((rd x44 (Int.toNat x42)).1 < (x40.length : Int))) (let t74 : tBits := rd x40 (Int.toNat ((rd x44 (Int.toNat x42)).1)); Z62.c n t74.1 t74.2 x45 x46 (fun r75 => if r75 = true then (Kr2 false) else (again2 (IntKind.wrap .i64 (x42 + 1)))))) else (Z62.c n 0 ([] : List (Int)) x45 x46 (fun r76 => if r76 = true then (Kr2 false) else (again2 (IntKind.wrap .i64 (x42 + 1)))))))
def Z44.l2.b (n : Nat) (x40 : List (tBits)) (x41 : Int) (x43 : List Int) (x44 : List (tBar)) (x45 : Int) (x46 : List Int) (again2 : Int -> Prop) (x42 : Int) (Kx0w2 : Prop) (Kr2 : Bool -> Prop) : Prop :=
 if (decide (x42 < (x44.length : Int))) = true then (grd (decide (0 <= x42) && decide (x42 < (x44.length : Int))) (if (decide ((rd x44 (Int.toNat x42)).1 = x41)) = true then (Z44.j7 Kr2 again2 n x40 x41 x42 x44 x45 x46 (decide (((rd x44 (Int.toNat x42)).2).1 < 0))) else (Z44.j7 Kr2 again2 n x40 x41 x42 x44 x45 x46 false))) else (Kx0w2)
def Z44.l2 : Nat -> List (tBits) -> Int -> List Int -> List (tBar) -> Int -> List Int -> Int -> Prop -> (Bool -> Prop) -> Prop
 | 0, _, _, _, _, _, _, _, _, _ => False
 | n + 1, x40, x41, x43, x44, x45, x46, x42, Kx0w2, Kr2 => Z44.l2.b n  x40 x41 x43 x44 x45 x46 (fun x42q => Z44.l2 n x40 x41 x43 x44 x45 x46 x42q Kx0w2 Kr2) x42 Kx0w2 Kr2
def Z44.w (n : Nat) (lp2 : List (tBits) -> Int -> List Int -> List (tBar) -> Int -> List Int -> Int -> Prop -> (Bool -> Prop) -> Prop) (a1 : List Int) (a2 : List (tBar)) (a3 : List (tBits)) (a4 : Int) (a5 : Int) (a6 : List Int) (K : Bool -> Prop) : Prop :=
 lp2 a3 a4 a1 a2 a5 a6 0 (K true) (fun y78 => K y78)
def Z44.c : Nat -> List Int -> List (tBar) -> List (tBits) -> Int -> Int -> List Int -> (Bool -> Prop) -> Prop
 | 0, _, _, _, _, _, _, _ => False
 | n + 1, a1, a2, a3, a4, a5, a6, K => Z44.w n (Z44.l2 n) a1 a2 a3 a4 a5 a6 K
def Z45.l10.b (n : Nat) (self : List Int -> List (tBar) -> List (tBits) -> List Int -> Int -> Int -> Bool -> Int -> (Bool -> List Int -> List (tBar) -> List (tBits) -> List Int -> Int -> Int -> Bool -> Prop) -> Prop) (x77 : Int) (x78 : Int) (x79 : Int) (again10 : Int -> List (tBits) -> List Int -> List Int -> List (tBar) -> Int -> Int -> Bool -> Prop) (x80 : Int) (x81 : List (tBits)) (x82 : List Int) (x83 : List Int) (x84 : List (tBar)) (x85 : Int) (x86 : Int) (x87 : Bool) (Kx0w10 : List (tBits) -> List Int -> List Int -> List (tBar) -> Int -> Int -> Bool -> Prop) (Kr10 : Bool -> List (tBits) -> List Int -> List Int -> List (tBar) -> Int -> Int -> Bool -> Prop) : Prop :=
 grd (decide (0 <= IntKind.wrap .u64 x79)) (let t89 : Int := IntKind.wrap .i64 (1 * 2 ^ (Nat.min (Int.toNat (IntKind.wrap .u64 x79)) 64)); if (decide (x80 < t89)) = true then (Z37.c n x79 x80 (fun r121 r122 r123 => Z44.c n x83 x84 x81 x78 r121 r122 (fun r127 => if (!r127) = true then (again10 (IntKind.wrap .i64 (x80 + 1)) x81 x82 x83 x84 x85 x86 x87) else (grd (decide (0 <= x78) && decide (x78 < (x81.length : Int))) (self x83 x84 (List.set x81 (Int.toNat x78) (r121, r122)) x82 x85 x86 x87 (IntKind.wrap .i64 (x77 + 1)) (fun r136 r137 r138 r139 r140 r141 r142 r143 => if r136 = true then (Kr10 true r139 r140 r137 r138 r141 r142 r143) else (grd (decide (0 <= x78) && decide (x78 < (r139.length : Int))) (let t144 : List (tBits) := List.set r139 (Int.toNat x78) (0, ([] : List (Int))); if r143 = true then (Kr10 false t144 r140 r137 r138 r141 r142 r143) else (again10 (IntKind.wrap .i64 (x80 + 1)) t144 r140 r137 r138 r141 r142 r143))))))))) else (Kx0w10 x81 x82 x83 x84 x85 x86 x87))
def Z45.w (n : Nat) (lp10 : Int -> Int -> Int -> Int -> List (tBits) -> List Int -> List Int -> List (tBar) -> Int -> Int -> Bool -> (List (tBits) -> List Int -> List Int -> List (tBar) -> Int -> Int -> Bool -> Prop) -> (Bool -> List (tBits) -> List Int -> List Int -> List (tBar) -> Int -> Int -> Bool -> Prop) -> Prop) (a1 : List Int) (a2 : List (tBar)) (a3 : List (tBits)) (a4 : List Int) (a5 : Int) (a6 : Int) (a7 : Bool) (a8 : Int) (K : Bool -> List Int -> List (tBar) -> List (tBits) -> List Int -> Int -> Int -> Bool -> Prop) : Prop :=
 if (decide (a8 = (a4.length : Int))) = true then (K true a1 a2 a3 a4 a5 a6 a7) else (if (decide (a5 = a6)) = true then (K false a1 a2 a3 a4 a5 a6 true) else (grd (decide (0 <= a8) && decide (a8 < (a4.length : Int))) (grd (decide (0 <= rd a4 (Int.toNat a8)) && decide (rd a4 (Int.toNat a8) < (a1.length : Int))) (lp10 a8 (rd a4 (Int.toNat a8)) (rd a1 (Int.toNat (rd a4 (Int.toNat a8)))) 0 a3 a4 a1 a2 (IntKind.wrap .i64 (a5 + 1)) a6 a7 (fun y160 y161 y162 y163 y164 y165 y166 => K false y162 y163 y160 y161 y164 y165 y166) (fun y167 y168 y169 y170 y171 y172 y173 y174 => K y167 y170 y171 y168 y169 y172 y173 y174)))))
def Z45.m : Nat -> (List Int -> List (tBar) -> List (tBits) -> List Int -> Int -> Int -> Bool -> Int -> (Bool -> List Int -> List (tBar) -> List (tBits) -> List Int -> Int -> Int -> Bool -> Prop) -> Prop) × (Int -> Int -> Int -> Int -> List (tBits) -> List Int -> List Int -> List (tBar) -> Int -> Int -> Bool -> (List (tBits) -> List Int -> List Int -> List (tBar) -> Int -> Int -> Bool -> Prop) -> (Bool -> List (tBits) -> List Int -> List Int -> List (tBar) -> Int -> Int -> Bool -> Prop) -> Prop)
 | 0 => (fun _ _ _ _ _ _ _ _ _ => False, fun _ _ _ _ _ _ _ _ _ _ _ _ _ => False)
 | n + 1 => (fun a1 a2 a3 a4 a5 a6 a7 a8 K => Z45.w n (Z45.m n).2 a1 a2 a3 a4 a5 a6 a7 a8 K, fun x77 x78 x79 x80 x81 x82 x83 x84 x85 x86 x87 Kx0w10 Kr10 => Z45.l10.b n (Z45.m n).1 x77 x78 x79 (fun x80q x81q x82q x83q x84q x85q x86q x87q => (Z45.m n).2 x77 x78 x79 x80q x81q x82q x83q x84q x85q x86q x87q Kx0w10 Kr10) x80 x81 x82 x83 x84 x85 x86 x87 Kx0w10 Kr10)
def Z45.c (n : Nat) : List Int -> List (tBar) -> List (tBits) -> List Int -> Int -> Int -> Bool -> Int -> (Bool -> List Int -> List (tBar) -> List (tBits) -> List Int -> Int -> Int -> Bool -> Prop) -> Prop := (Z45.m n).1
def Z45.l10 (n : Nat) : Int -> Int -> Int -> Int -> List (tBits) -> List Int -> List Int -> List (tBar) -> Int -> Int -> Bool -> (List (tBits) -> List Int -> List Int -> List (tBar) -> Int -> Int -> Bool -> Prop) -> (Bool -> List (tBits) -> List Int -> List Int -> List (tBar) -> Int -> Int -> Bool -> Prop) -> Prop := (Z45.m n).2
theorem Z45.c_s (n : Nat) (a1 : List Int) (a2 : List (tBar)) (a3 : List (tBits)) (a4 : List Int) (a5 : Int) (a6 : Int) (a7 : Bool) (a8 : Int) (K : Bool -> List Int -> List (tBar) -> List (tBits) -> List Int -> Int -> Int -> Bool -> Prop) : Z45.c (n + 1) a1 a2 a3 a4 a5 a6 a7 a8 K = Z45.w n (Z45.l10 n) a1 a2 a3 a4 a5 a6 a7 a8 K := rfl
theorem Z45.l10_s (n : Nat) (x77 : Int) (x78 : Int) (x79 : Int) (x80 : Int) (x81 : List (tBits)) (x82 : List Int) (x83 : List Int) (x84 : List (tBar)) (x85 : Int) (x86 : Int) (x87 : Bool) (Kx0w10 : List (tBits) -> List Int -> List Int -> List (tBar) -> Int -> Int -> Bool -> Prop) (Kr10 : Bool -> List (tBits) -> List Int -> List Int -> List (tBar) -> Int -> Int -> Bool -> Prop) : Z45.l10 (n + 1) x77 x78 x79 x80 x81 x82 x83 x84 x85 x86 x87 Kx0w10 Kr10 = Z45.l10.b n (Z45.c n) x77 x78 x79 (fun x80q x81q x82q x83q x84q x85q x86q x87q => Z45.l10 n x77 x78 x79 x80q x81q x82q x83q x84q x85q x86q x87q Kx0w10 Kr10) x80 x81 x82 x83 x84 x85 x86 x87 Kx0w10 Kr10 := rfl
end Go.Vsi
end

section
set_option linter.unusedVariables false
set_option synthInstance.maxSize 4096
namespace Go.Vsi
def Z50.l3.b (n : Nat) (x11 : Int) (x12 : List Int) (again3 : Int -> List Int -> Prop) (x9 : Int) (x10 : List Int) (Kx0w3 : List Int -> Prop) : Prop :=
 if (decide (x9 < x11)) = true then (Z46.c n x11 x12 x9 (fun r14 => grd (decide (x10.length + ([r14] : List (Int)).length <= 35184372088832)) (again3 (IntKind.wrap .i64 (x9 + 1)) (x10 ++ ([r14] : List (Int)))))) else (Kx0w3 x10)
def Z50.l3 : Nat -> Int -> List Int -> Int -> List Int -> (List Int -> Prop) -> Prop
 | 0, _, _, _, _, _ => False
 | n + 1, x11, x12, x9, x10, Kx0w3 => Z50.l3.b n  x11 x12 (fun x9q x10q => Z50.l3 n x11 x12 x9q x10q Kx0w3) x9 x10 Kx0w3
def Z50.w (n : Nat) (lp3 : Int -> List Int -> Int -> List Int -> (List Int -> Prop) -> Prop) (a1 : Int) (a2 : List Int) (K : List Int -> Prop) : Prop :=
 lp3 a1 a2 0 ([] : List (Int)) (fun y16 => K y16)
def Z50.c : Nat -> Int -> List Int -> (List Int -> Prop) -> Prop
 | 0, _, _, _ => False
 | n + 1, a1, a2, K => Z50.w n (Z50.l3 n) a1 a2 K
def Z42.l5.b (n : Nat) (x22 : List Int) (x23 : Int) (again5 : Int -> List Int -> Prop) (x20 : Int) (x21 : List Int) (Kx0w5 : List Int -> Int -> Prop) (Kr5 : Bool -> List Int -> Int -> Prop) : Prop :=
 if (decide (x20 < (x21.length : Int))) = true then (grd (decide (0 <= x20) && decide (x20 < (x21.length : Int))) (let t29 : Int := IntKind.wrap .u8 (1 - (rd x21 (Int.toNat x20))); grd (decide (0 <= x20) && decide (x20 < (x21.length : Int))) (grd (decide (0 <= x20) && decide (x20 < ((List.set x21 (Int.toNat x20) t29).length : Int))) (let t30 : Int := rd (List.set x21 (Int.toNat x20) t29) (Int.toNat x20); if (decide (t30 = 1)) = true then (Z47.c n (List.set x21 (Int.toNat x20) t29) (fun r31 r32 r33 => Kr5 r33 r32 r31)) else (again5 (IntKind.wrap .i64 (x20 + 1)) (List.set x21 (Int.toNat x20) t29)))))) else (Kx0w5 x22 x23)
def Z42.l5 : Nat -> List Int -> Int -> Int -> List Int -> (List Int -> Int -> Prop) -> (Bool -> List Int -> Int -> Prop) -> Prop
 | 0, _, _, _, _, _, _ => False
 | n + 1, x22, x23, x20, x21, Kx0w5, Kr5 => Z42.l5.b n  x22 x23 (fun x20q x21q => Z42.l5 n x22 x23 x20q x21q Kx0w5 Kr5) x20 x21 Kx0w5 Kr5
def Z42.w (n : Nat) (lp5 : List Int -> Int -> Int -> List Int -> (List Int -> Int -> Prop) -> (Bool -> List Int -> Int -> Prop) -> Prop) (a1 : Int) (a2 : List Int) (K : Int -> List Int -> Bool -> Prop) : Prop :=
 Z38.c n a1 a2 (fun r4 => if (!r4) = true then (K 0 ([] : List (Int)) false) else (Z50.c n a1 a2 (fun r5 => lp5 ([] : List (Int)) 0 0 r5 (fun y39 y40 => K 0 ([] : List (Int)) false) (fun y41 y42 y43 => K y43 y42 y41))))
def Z42.c : Nat -> Int -> List Int -> (Int -> List Int -> Bool -> Prop) -> Prop
 | 0, _, _, _ => False
 | n + 1, a1, a2, K => Z42.w n (Z42.l5 n) a1 a2 K
def Z39.j1 (again6 : Int -> List Int -> Prop) (x52 : Int) (x55 : List Int) (j82 : Bool) : Prop :=
 if j82 = true then (grd (decide (x55.length + ([x52] : List (Int)).length <= 7818749353073)) (again6 (IntKind.wrap .i64 (x52 + 1)) (x55 ++ ([x52] : List (Int))))) else (again6 (IntKind.wrap .i64 (x52 + 1)) x55)
def Z39.l6.b (n : Nat) (x51 : Int) (x53 : List (tBits)) (x54 : List (tBits)) (x56 : List Int) (x57 : List (tBar)) (x58 : List Int) (x59 : List (tBar)) (x60 : Int) (x61 : Int) (x62 : Bool) (again6 : Int -> List Int -> Prop) (x52 : Int) (x55 : List Int) (Kx0w6 : Int -> List (tBits) -> List (tBits) -> List Int -> List Int -> List (tBar) -> List Int -> List (tBar) -> Int -> Int -> Bool -> Prop) : Prop :=
 if (decide (x52 < (x56.length : Int))) = true then (grd (decide (0 <= x52) && decide (x52 < (x56.length : Int))) (if (decide (rd x56 (Int.toNat x52) <= 10)) = true then ((Z43.c n x56 x57 x52 (fun r83 => grd (decide (0 <= x52) && decide (x52 < (x56.length : Int))) (grd (decide (0 <= IntKind.wrap .u64 (rd x56 (Int.toNat x52)))) (let t84 : Int := IntKind.wrap .i64 (1 * 2 ^ (Nat.min (Int.toNat (IntKind.wrap .u64 (rd x56 (Int.toNat x52)))) 64)); Z39.j1 again6 x52 x55 (decide (r83 >= t84)))))) /\ (grd (decide (0 <= x52) && decide (x52 < (x56.length : Int))) ((Z43.c n x56 x57 x52 (fun r85 => grd (decide (0 <= IntKind.wrap .u64 (rd x56 (Int.toNat x52)))) (let t86 : Int := IntKind.wrap .i64 (1 * 2 ^ (Nat.min (Int.toNat (IntKind.wrap .u64 (rd x56 (Int.toNat x52)))) 64)); Z39.j1 again6 x52 x55 (decide (r85 >= t86))))) /\ (grd (decide (0 <= IntKind.wrap .u64 (rd x56 (Int.toNat x52)))) (let t87 : Int := IntKind.wrap .i64 (1 * 2 ^ (Nat.min (Int.toNat (IntKind.wrap .u64 (rd x56 (Int.toNat x52)))) 64)); Z43.c n x56 x57 x52 (fun r88 => Z39.j1 again6 x52 x55 (decide (r88 >= t87)))))))) else ((Z39.j1 again6 x52 x55 false) /\ ((Z39.j1 again6 x52 x55 false) /\ (Z39.j1 again6 x52 x55 false))))) else (Kx0w6 x51 x53 x54 x55 x56 x57 x58 x59 x60 x61 x62)
def Z39.l6 : Nat -> Int -> List (tBits) -> List (tBits) -> List Int -> List (tBar) -> List Int -> List (tBar) -> Int -> Int -> Bool -> Int -> List Int -> (Int -> List (tBits) -> List (tBits) -> List Int -> List Int -> List (tBar) -> List Int -> List (tBar) -> Int -> Int -> Bool -> Prop) -> Prop
 | 0, _, _, _, _, _, _, _, _, _, _, _, _, _ => False
 | n + 1, x51, x53, x54, x56, x57, x58, x59, x60, x61, x62, x52, x55, Kx0w6 => Z39.l6.b n  x51 x53 x54 x56 x57 x58 x59 x60 x61 x62 (fun x52q x55q => Z39.l6 n x51 x53 x54 x56 x57 x58 x59 x60 x61 x62 x52q x55q Kx0w6) x52 x55 Kx0w6
def Z39.l20.b (n : Nat) (x151 : Int) (x153 : List (tBits)) (x154 : List Int) (x155 : List Int) (x156 : List (tBar)) (x158 : List Int) (x159 : List (tBar)) (x160 : Int) (x161 : Int) (x162 : Bool) (again20 : List Int -> Int -> Prop) (x152 : List Int) (x157 : Int) (Kx4w20 : Int -> List Int -> List (tBits) -> List Int -> List Int -> List (tBar) -> Int -> List Int -> List (tBar) -> Int -> Int -> Bool -> Prop) : Prop :=
 Z44.c n x155 x156 x153 x151 x157 x152 (fun r166 => if (!r166) = true then (Z42.c n x157 x152 (fun r167 r168 r169 => again20 r168 r167)) else (Kx4w20 x151 x152 x153 x154 x155 x156 x157 x158 x159 x160 x161 x162))
def Z39.l20 : Nat -> Int -> List (tBits) -> List Int -> List Int -> List (tBar) -> List Int -> List (tBar) -> Int -> Int -> Bool -> List Int -> Int -> (Int -> List Int -> List (tBits) -> List Int -> List Int -> List (tBar) -> Int -> List Int -> List (tBar) -> Int -> Int -> Bool -> Prop) -> Prop
 | 0, _, _, _, _, _, _, _, _, _, _, _, _, _ => False
 | n + 1, x151, x153, x154, x155, x156, x158, x159, x160, x161, x162, x152, x157, Kx4w20 => Z39.l20.b n  x151 x153 x154 x155 x156 x158 x159 x160 x161 x162 (fun x152q x157q => Z39.l20 n x151 x153 x154 x155 x156 x158 x159 x160 x161 x162 x152q x157q Kx4w20) x152 x157 Kx4w20
def Z39.l16.b (n : Nat) (lp20 : Int -> List (tBits) -> List Int -> List Int -> List (tBar) -> List Int -> List (tBar) -> Int -> Int -> Bool -> List Int -> Int -> (Int -> List Int -> List (tBits) -> List Int -> List Int -> List (tBar) -> Int -> List Int -> List (tBar) -> Int -> Int -> Bool -> Prop) -> Prop) (again16 : Int -> List (tBits) -> List Int -> List Int -> List (tBar) -> List Int -> List (tBar) -> Int -> Int -> Bool -> Prop) (x231 : Int) (x232 : List (tBits)) (x233 : List Int) (x234 : List Int) (x235 : List (tBar)) (x236 : List Int) (x237 : List (tBar)) (x238 : Int) (x239 : Int) (x240 : Bool) (Kx2w16 : List (tBits) -> List Int -> List Int -> List (tBar) -> Int -> Int -> Bool -> Prop) : Prop :=
 if (decide (x231 < (x234.length : Int))) = true then (grd (decide (0 <= x231) && decide (x231 < (x232.length : Int))) (if (decide ((rd x232 (Int.toNat x231)).1 > 0)) = true then (again16 (IntKind.wrap .i64 (x231 + 1)) x232 x233 x234 x235 x236 x237 x238 x239 x240) else (grd (decide (0 <= x231) && decide (x231 < (x234.length : Int))) (Z37.c n (rd x234 (Int.toNat x231)) 0 (fun r278 r279 r280 => lp20 x231 x232 x233 x234 x235 x236 x237 x238 x239 x240 r279 r278 (fun y293 y294 y295 y296 y297 y298 y299 y300 y301 y302 y303 y304 => grd (decide (0 <= y293) && decide (y293 < (y295.length : Int))) (again16 (IntKind.wrap .i64 (y293 + 1)) (List.set y295 (Int.toNat y293) (y299, y294)) y296 y297 y298 y300 y301 y302 y303 y304))))))) else (Kx2w16 x232 x233 x236 x237 x238 x239 x240)
def Z39.l16 : Nat -> Int -> List (tBits) -> List Int -> List Int -> List (tBar) -> List Int -> List (tBar) -> Int -> Int -> Bool -> (List (tBits) -> List Int -> List Int -> List (tBar) -> Int -> Int -> Bool -> Prop) -> Prop
 | 0, _, _, _, _, _, _, _, _, _, _, _ => False
 | n + 1, x231, x232, x233, x234, x235, x236, x237, x238, x239, x240, Kx2w16 => Z39.l16.b n (Z39.l20 n)  (fun x231q x232q x233q x234q x235q x236q x237q x238q x239q x240q => Z39.l16 n x231q x232q x233q x234q x235q x236q x237q x238q x239q x240q Kx2w16) x231 x232 x233 x234 x235 x236 x237 x238 x239 x240 Kx2w16
def Z39.j2 (K : List (tBits) -> Int -> Int -> Prop) (a1 : List Int) (a2 : List (tBar)) (a3 : Int) (lp6 : Int -> List (tBits) -> List (tBits) -> List Int -> List (tBar) -> List Int -> List (tBar) -> Int -> Int -> Bool -> Int -> List Int -> (Int -> List (tBits) -> List (tBits) -> List Int -> List Int -> List (tBar) -> List Int -> List (tBar) -> Int -> Int -> Bool -> Prop) -> Prop) (lp16 : Int -> List (tBits) -> List Int -> List Int -> List (tBar) -> List Int -> List (tBar) -> Int -> Int -> Bool -> (List (tBits) -> List Int -> List Int -> List (tBar) -> Int -> Int -> Bool -> Prop) -> Prop) (n : Nat) (j12 : List (tBits)) : Prop :=
 lp6 a3 ([] : List (tBits)) j12 a1 a2 a1 a2 0 a3 false 0 ([] : List (Int)) (fun y100 y101 y102 y103 y104 y105 y106 y107 y108 y109 y110 => Z45.c n y106 y107 y102 y103 y108 y109 y110 0 (fun r111 r112 r113 r114 r115 r116 r117 r118 => if r118 = true then (K y101 y100 3) else (if (!r111) = true then (K y101 r116 2) else (lp16 0 r114 r115 y104 y105 r112 r113 r116 r117 r118 (fun y312 y313 y314 y315 y316 y317 y318 => K y312 y316 0)))))
def Z39.j3 (K : List (tBits) -> Int -> Int -> Prop) (a1 : List Int) (a2 : List (tBar)) (a3 : Int) (lp6 : Int -> List (tBits) -> List (tBits) -> List Int -> List (tBar) -> List Int -> List (tBar) -> Int -> Int -> Bool -> Int -> List Int -> (Int -> List (tBits) -> List (tBits) -> List Int -> List Int -> List (tBar) -> List Int -> List (tBar) -> Int -> Int -> Bool -> Prop) -> Prop) (lp16 : Int -> List (tBits) -> List Int -> List Int -> List (tBar) -> List Int -> List (tBar) -> Int -> Int -> Bool -> (List (tBits) -> List Int -> List Int -> List (tBar) -> Int -> Int -> Bool -> Prop) -> Prop) (n : Nat) : Prop :=
 let p321 : Prop := (grd ((decide (0 <= (a1.length : Int)) && decide ((a1.length : Int) <= 2132386187201)) && decide ((a1.length : Int) = (a1.length : Int))) (let t319 : List (tBits) := List.replicate (Int.toNat (a1.length : Int)) (0, ([] : List (Int))); Z39.j2 K a1 a2 a3 lp6 lp16 n t319)); (p321 /\ p321)
def Z39.w (n : Nat) (lp6 : Int -> List (tBits) -> List (tBits) -> List Int -> List (tBar) -> List Int -> List (tBar) -> Int -> Int -> Bool -> Int -> List Int -> (Int -> List (tBits) -> List (tBits) -> List Int -> List Int -> List (tBar) -> List Int -> List (tBar) -> Int -> Int -> Bool -> Prop) -> Prop) (lp16 : Int -> List (tBits) -> List Int -> List Int -> List (tBar) -> List Int -> List (tBar) -> Int -> Int -> Bool -> (List (tBits) -> List Int -> List Int -> List (tBar) -> Int -> Int -> Bool -> Prop) -> Prop) (a1 : List Int) (a2 : List (tBar)) (a3 : Int) (K : List (tBits) -> Int -> Int -> Prop) : Prop :=
 Z41.c n a1 a2 (fun r325 => if (!r325) = false then (Z49.c n a3 0 20000 (fun r326 => if (!r326) = true then (K ([] : List (tBits)) (-1) 1) else (Z39.j3 K a1 a2 a3 lp6 lp16 n))) else (K ([] : List (tBits)) (-1) 1))
def Z39.c : Nat -> List Int -> List (tBar) -> Int -> (List (tBits) -> Int -> Int -> Prop) -> Prop
 | 0, _, _, _, _ => False
 | n + 1, a1, a2, a3, K => Z39.w n (Z39.l6 n) (Z39.l16 n) a1 a2 a3 K
def Z14.j1 (again3 : Int -> List Int -> Prop) (x81 : Int) (x84 : List Int) (j96 : Bool) : Prop :=
 if j96 = true then (grd (decide (x84.length + ([x81] : List (Int)).length <= 7818749353073)) (again3 (IntKind.wrap .i64 (x81 + 1)) (x84 ++ ([x81] : List (Int))))) else (again3 (IntKind.wrap .i64 (x81 + 1)) x84)
def Z14.l3.b (n : Nat) (x79 : List Int) (x80 : Int) (x82 : List (trivals)) (x83 : List (tBits)) (x85 : List Int) (x86 : List (tBar)) (x87 : Int) (x88 : Int) (again3 : Int -> List Int -> Prop) (x81 : Int) (x84 : List Int) (Kx0w3 : List (trivals) -> List (tBits) -> List Int -> List Int -> List (tBar) -> Int -> Int -> Prop) : Prop :=
 if (decide (x81 < x80)) = true then (grd (decide (0 <= x81) && decide (x81 < (x79.length : Int))) (if (decide (rd x79 (Int.toNat x81) <= 10)) = true then (grd (decide (0 <= x81) && decide (x81 < (x82.length : Int))) (grd (decide (0 <= rd x79 (Int.toNat x81))) (let t97 : Int := IntKind.wrap .i64 (1 * 2 ^ (Nat.min (Int.toNat (rd x79 (Int.toNat x81))) 64)); Z20.c n (rd x82 (Int.toNat x81)) (fun r98 => Z14.j1 again3 x81 x84 (decide (r98 >= t97)))))) else (Z14.j1 again3 x81 x84 false))) else (Kx0w3 x82 x83 x84 x85 x86 x87 x88)
def Z14.l3 : Nat -> List Int -> Int -> List (trivals) -> List (tBits) -> List Int -> List (tBar) -> Int -> Int -> Int -> List Int -> (List (trivals) -> List (tBits) -> List Int -> List Int -> List (tBar) -> Int -> Int -> Prop) -> Prop
 | 0, _, _, _, _, _, _, _, _, _, _, _ => False
 | n + 1, x79, x80, x82, x83, x85, x86, x87, x88, x81, x84, Kx0w3 => Z14.l3.b n  x79 x80 x82 x83 x85 x86 x87 x88 (fun x81q x84q => Z14.l3 n x79 x80 x82 x83 x85 x86 x87 x88 x81q x84q Kx0w3) x81 x84 Kx0w3
def Z14.w (n : Nat) (lp3 : List Int -> Int -> List (trivals) -> List (tBits) -> List Int -> List (tBar) -> Int -> Int -> Int -> List Int -> (List (trivals) -> List (tBits) -> List Int -> List Int -> List (tBar) -> Int -> Int -> Prop) -> Prop) (a1 : List Int) (a2 : List (tBar)) (a3 : Int) (K : List Int -> List (tBar) -> List (trivals) -> List Int -> List (tBits) -> Int -> Int -> Prop) : Prop :=
 (((Z18.c n a1 a2 (fun r113 => grd ((decide (0 <= (a1.length : Int)) && decide ((a1.length : Int) <= 2132386187201)) && decide ((a1.length : Int) = (a1.length : Int))) (let t114 : List (tBits) := List.replicate (Int.toNat (a1.length : Int)) (0, ([] : List (Int))); lp3 a1 (a1.length : Int) r113 t114 a1 a2 0 a3 0 ([] : List (Int)) (fun y122 y123 y124 y125 y126 y127 y128 => K y125 y126 y122 y124 y123 y127 y128)))) /\ ((Z18.c n a1 a2 (fun r129 => grd ((decide (0 <= (a1.length : Int)) && decide ((a1.length : Int) <= 2132386187201)) && decide ((a1.length : Int) = (a1.length : Int))) (let t130 : List (tBits) := List.replicate (Int.toNat (a1.length : Int)) (0, ([] : List (Int))); lp3 a1 (a1.length : Int) r129 t130 a1 a2 0 a3 0 ([] : List (Int)) (fun y138 y139 y140 y141 y142 y143 y144 => K y141 y142 y138 y140 y139 y143 y144)))) /\ (grd ((decide (0 <= (a1.length : Int)) && decide ((a1.length : Int) <= 2132386187201)) && decide ((a1.length : Int) = (a1.length : Int))) (let t145 : List (tBits) := List.replicate (Int.toNat (a1.length : Int)) (0, ([] : List (Int))); Z18.c n a1 a2 (fun r146 => lp3 a1 (a1.length : Int) r146 t145 a1 a2 0 a3 0 ([] : List (Int)) (fun y154 y155 y156 y157 y158 y159 y160 => K y157 y158 y154 y156 y155 y159 y160)))))) /\ (((Z18.c n a1 a2 (fun r161 => grd ((decide (0 <= (a1.length : Int)) && decide ((a1.length : Int) <= 2132386187201)) && decide ((a1.length : Int) = (a1.length : Int))) (let t162 : List (tBits) := List.replicate (Int.toNat (a1.length : Int)) (0, ([] : List (Int))); lp3 a1 (a1.length : Int) r161 t162 a1 a2 0 a3 0 ([] : List (Int)) (fun y170 y171 y172 y173 y174 y175 y176 => K y173 y174 y170 y172 y171 y175 y176)))) /\ (grd ((decide (0 <= (a1.length : Int)) && decide ((a1.length : Int) <= 2132386187201)) && decide ((a1.length : Int) = (a1.length : Int))) (let t177 : List (tBits) := List.replicate (Int.toNat (a1.length : Int)) (0, ([] : List (Int))); Z18.c n a1 a2 (fun r178 => lp3 a1 (a1.length : Int) r178 t177 a1 a2 0 a3 0 ([] : List (Int)) (fun y186 y187 y188 y189 y190 y191 y192 => K y189 y190 y186 y188 y187 y191 y192))))) /\ (grd ((decide (0 <= (a1.length : Int)) && decide ((a1.length : Int) <= 2132386187201)) && decide ((a1.length : Int) = (a1.length : Int))) (let t193 : List (tBits) := List.replicate (Int.toNat (a1.length : Int)) (0, ([] : List (Int))); Z18.c n a1 a2 (fun r194 => lp3 a1 (a1.length : Int) r194 t193 a1 a2 0 a3 0 ([] : List (Int)) (fun y202 y203 y204 y205 y206 y207 y208 => K y205 y206 y202 y204 y203 y207 y208)))))) /\ (((Z18.c n a1 a2 (fun r209 => grd ((decide (0 <= (a1.length : Int)) && decide ((a1.length : Int) <= 2132386187201)) && decide ((a1.length : Int) = (a1.length : Int))) (let t210 : List (tBits) := List.replicate (Int.toNat (a1.length : Int)) (0, ([] : List (Int))); lp3 a1 (a1.length : Int) r209 t210 a1 a2 0 a3 0 ([] : List (Int)) (fun y218 y219 y220 y221 y222 y223 y224 => K y221 y222 y218 y220 y219 y223 y224)))) /\ ((Z18.c n a1 a2 (fun r225 => grd ((decide (0 <= (a1.length : Int)) && decide ((a1.length : Int) <= 2132386187201)) && decide ((a1.length : Int) = (a1.length : Int))) (let t226 : List (tBits) := List.replicate (Int.toNat (a1.length : Int)) (0, ([] : List (Int))); lp3 a1 (a1.length : Int) r225 t226 a1 a2 0 a3 0 ([] : List (Int)) (fun y234 y235 y236 y237 y238 y239 y240 => K y237 y238 y234 y236 y235 y239 y240)))) /\ (grd ((decide (0 <= (a1.length : Int)) && decide ((a1.length : Int) <= 2132386187201)) && decide ((a1.length : Int) = (a1.length : Int))) (let t241 : List (tBits) := List.replicate (Int.toNat (a1.length : Int)) (0, ([] : List (Int))); Z18.c n a1 a2 (fun r242 => lp3 a1 (a1.length : Int) r242 t241 a1 a2 0 a3 0 ([] : List (Int)) (fun y250 y251 y252 y253 y254 y255 y256 => K y253 y254 y250 y252 y251 y255 y256)))))) /\ (Z18.c n a1 a2 (fun r257 => let p288 : Prop := (grd ((decide (0 <= (a1.length : Int)) && decide ((a1.length : Int) <= 2132386187201)) && decide ((a1.length : Int) = (a1.length : Int))) (let t258 : List (tBits) := List.replicate (Int.toNat (a1.length : Int)) (0, ([] : List (Int))); lp3 a1 (a1.length : Int) r257 t258 a1 a2 0 a3 0 ([] : List (Int)) (fun y266 y267 y268 y269 y270 y271 y272 => K y269 y270 y266 y268 y267 y271 y272))); (p288 /\ p288))) /\ (((Z18.c n a1 a2 (fun r289 => grd ((decide (0 <= (a1.length : Int)) && decide ((a1.length : Int) <= 2132386187201)) && decide ((a1.length : Int) = (a1.length : Int))) (let t290 : List (tBits) := List.replicate (Int.toNat (a1.length : Int)) (0, ([] : List (Int))); lp3 a1 (a1.length : Int) r289 t290 a1 a2 0 a3 0 ([] : List (Int)) (fun y298 y299 y300 y301 y302 y303 y304 => K y301 y302 y298 y300 y299 y303 y304)))) /\ (grd ((decide (0 <= (a1.length : Int)) && decide ((a1.length : Int) <= 2132386187201)) && decide ((a1.length : Int) = (a1.length : Int))) (let t305 : List (tBits) := List.replicate (Int.toNat (a1.length : Int)) (0, ([] : List (Int))); Z18.c n a1 a2 (fun r306 => lp3 a1 (a1.length : Int) r306 t305 a1 a2 0 a3 0 ([] : List (Int)) (fun y314 y315 y316 y317 y318 y319 y320 => K y317 y318 y314 y316 y315 y319 y320))))) /\ (Z18.c n a1 a2 (fun r321 => let p352 : Prop := (grd ((decide (0 <= (a1.length : Int)) && decide ((a1.length : Int) <= 2132386187201)) && decide ((a1.length : Int) = (a1.length : Int))) (let t322 : List (tBits) := List.replicate (Int.toNat (a1.length : Int)) (0, ([] : List (Int))); lp3 a1 (a1.length : Int) r321 t322 a1 a2 0 a3 0 ([] : List (Int)) (fun y330 y331 y332 y333 y334 y335 y336 => K y333 y334 y330 y332 y331 y335 y336))); (p352 /\ p352))) /\ (grd ((decide (0 <= (a1.length : Int)) && decide ((a1.length : Int) <= 2132386187201)) && decide ((a1.length : Int) = (a1.length : Int))) (let t353 : List (tBits) := List.replicate (Int.toNat (a1.length : Int)) (0, ([] : List (Int))); let p384 : Prop := (Z18.c n a1 a2 (fun r354 => lp3 a1 (a1.length : Int) r354 t353 a1 a2 0 a3 0 ([] : List (Int)) (fun y362 y363 y364 y365 y366 y367 y368 => K y365 y366 y362 y364 y363 y367 y368))); (p384 /\ p384))))) /\ ((((Z18.c n a1 a2 (fun r385 => grd ((decide (0 <= (a1.length : Int)) && decide ((a1.length : Int) <= 2132386187201)) && decide ((a1.length : Int) = (a1.length : Int))) (let t386 : List (tBits) := List.replicate (Int.toNat (a1.length : Int)) (0, ([] : List (Int))); lp3 a1 (a1.length : Int) r385 t386 a1 a2 0 a3 0 ([] : List (Int)) (fun y394 y395 y396 y397 y398 y399 y400 => K y397 y398 y394 y396 y395 y399 y400)))) /\ (grd ((decide (0 <= (a1.length : Int)) && decide ((a1.length : Int) <= 2132386187201)) && decide ((a1.length : Int) = (a1.length : Int))) (let t401 : List (tBits) := List.replicate (Int.toNat (a1.length : Int)) (0, ([] : List (Int))); Z18.c n a1 a2 (fun r402 => lp3 a1 (a1.length : Int) r402 t401 a1 a2 0 a3 0 ([] : List (Int)) (fun y410 y411 y412 y413 y414 y415 y416 => K y413 y414 y410 y412 y411 y415 y416))))) /\ (grd ((decide (0 <= (a1.length : Int)) && decide ((a1.length : Int) <= 2132386187201)) && decide ((a1.length : Int) = (a1.length : Int))) (let t417 : List (tBits) := List.replicate (Int.toNat (a1.length : Int)) (0, ([] : List (Int))); Z18.c n a1 a2 (fun r418 => lp3 a1 (a1.length : Int) r418 t417 a1 a2 0 a3 0 ([] : List (Int)) (fun y426 y427 y428 y429 y430 y431 y432 => K y429 y430 y426 y428 y427 y431 y432))))) /\ (((Z18.c n a1 a2 (fun r433 => grd ((decide (0 <= (a1.length : Int)) && decide ((a1.length : Int) <= 2132386187201)) && decide ((a1.length : Int) = (a1.length : Int))) (let t434 : List (tBits) := List.replicate (Int.toNat (a1.length : Int)) (0, ([] : List (Int))); lp3 a1 (a1.length : Int) r433 t434 a1 a2 0 a3 0 ([] : List (Int)) (fun y442 y443 y444 y445 y446 y447 y448 => K y445 y446 y442 y444 y443 y447 y448)))) /\ (grd ((decide (0 <= (a1.length : Int)) && decide ((a1.length : Int) <= 2132386187201)) && decide ((a1.length : Int) = (a1.length : Int))) (let t449 : List (tBits) := List.replicate (Int.toNat (a1.length : Int)) (0, ([] : List (Int))); Z18.c n a1 a2 (fun r450 => lp3 a1 (a1.length : Int) r450 t449 a1 a2 0 a3 0 ([] : List (Int)) (fun y458 y459 y460 y461 y462 y463 y464 => K y461 y462 y458 y460 y459 y463 y464))))) /\ (Z18.c n a1 a2 (fun r465 => let p496 : Prop := (grd ((decide (0 <= (a1.length : Int)) && decide ((a1.length : Int) <= 2132386187201)) && decide ((a1.length : Int) = (a1.length : Int))) (let t466 : List (tBits) := List.replicate (Int.toNat (a1.length : Int)) (0, ([] : List (Int))); lp3 a1 (a1.length : Int) r465 t466 a1 a2 0 a3 0 ([] : List (Int)) (fun y474 y475 y476 y477 y478 y479 y480 => K y477 y478 y474 y476 y475 y479 y480))); (p496 /\ p496))) /\ (grd ((decide (0 <= (a1.length : Int)) && decide ((a1.length : Int) <= 2132386187201)) && decide ((a1.length : Int) = (a1.length : Int))) (let t497 : List (tBits) := List.replicate (Int.toNat (a1.length : Int)) (0, ([] : List (Int))); let p528 : Prop := (Z18.c n a1 a2 (fun r498 => lp3 a1 (a1.length : Int) r498 t497 a1 a2 0 a3 0 ([] : List (Int)) (fun y506 y507 y508 y509 y510 y511 y512 => K y509 y510 y506 y508 y507 y511 y512))); (p528 /\ p528)))) /\ (grd ((decide (0 <= (a1.length : Int)) && decide ((a1.length : Int) <= 2132386187201)) && decide ((a1.length : Int) = (a1.length : Int))) (let t529 : List (tBits) := List.replicate (Int.toNat (a1.length : Int)) (0, ([] : List (Int))); let p560 : Prop := (Z18.c n a1 a2 (fun r530 => lp3 a1 (a1.length : Int) r530 t529 a1 a2 0 a3 0 ([] : List (Int)) (fun y538 y539 y540 y541 y542 y543 y544 => K y541 y542 y538 y540 y539 y543 y544))); (p560 /\ p560))))
def Z14.c : Nat -> List Int -> List (tBar) -> Int -> (List Int -> List (tBar) -> List (trivals) -> List Int -> List (tBits) -> Int -> Int -> Prop) -> Prop
 | 0, _, _, _, _ => False
 | n + 1, a1, a2, a3, K => Z14.w n (Z14.l3 n) a1 a2 a3 K
def Z0.j0 (K : Int -> List Int -> Bool -> Prop) (a1 : Int) (a2 : Int) (n : Nat) (j12 : Bool) : Prop :=
 if j12 = true then (K 0 ([] : List (Int)) false) else (Z22.c n a1 (fun r13 r14 => grd (decide (0 < (r14.length : Int))) (K r13 (List.set r14 0 (IntKind.wrap .u64 a2)) true)))
def Z0.w (n : Nat) (a1 : Int) (a2 : Int) (K : Int -> List Int -> Bool -> Prop) : Prop :=
 Z13.c n a1 1 4096 (fun r15 => if (!r15) = false then (if (decide (a2 < 0)) = false then (if (decide (a1 < 63)) = true then (grd (decide (0 <= a1)) (let t16 : Int := Int.fdiv a2 (2 ^ (Nat.min (Int.toNat a1) 64)); Z0.j0 K a1 a2 n (!(decide (t16 = 0))))) else (Z0.j0 K a1 a2 n false)) else (Z0.j0 K a1 a2 n true)) else (Z0.j0 K a1 a2 n true))
def Z0.c : Nat -> Int -> Int -> (Int -> List Int -> Bool -> Prop) -> Prop
 | 0, _, _, _ => False
 | n + 1, a1, a2, K => Z0.w n  a1 a2 K
def Z16.w (n : Nat) (a1 : Int) (a2 : tpainter) (a3 : tBits) (K : Bool -> Prop) : Prop :=
 grd (decide (0 <= a1) && decide (a1 < (a2.2.2.2.2.1.length : Int))) (Z2.c n ((rd a2.2.2.2.2.1 (Int.toNat a1)).1) ((rd a2.2.2.2.2.1 (Int.toNat a1)).2) a3.1 a3.2 (fun r5 => K r5))
def Z16.c : Nat -> Int -> tpainter -> tBits -> (Bool -> Prop) -> Prop
 | 0, _, _, _, _ => False
 | n + 1, a1, a2, a3, K => Z16.w n  a1 a2 a3 K
def Z35.l2.b (n : Nat) (x11 : List Int) (x12 : tpainter) (x13 : tBits) (x14 : Int) (again2 : Int -> Prop) (x15 : Int) (Kx0w2 : Prop) (Kr2 : Int -> Prop) : Prop :=
 if (decide (x15 < x14)) = true then (grd (decide (0 <= x15) && decide (x15 < (x11.length : Int))) (Z16.c n (rd x11 (Int.toNat x15)) x12 x13 (fun r17 => if r17 = true then (Kr2 x15) else (again2 (IntKind.wrap .i64 (x15 + 1)))))) else (Kx0w2)
def Z35.l2 : Nat -> List Int -> tpainter -> tBits -> Int -> Int -> Prop -> (Int -> Prop) -> Prop
 | 0, _, _, _, _, _, _, _ => False
 | n + 1, x11, x12, x13, x14, x15, Kx0w2, Kr2 => Z35.l2.b n  x11 x12 x13 x14 (fun x15q => Z35.l2 n x11 x12 x13 x14 x15q Kx0w2 Kr2) x15 Kx0w2 Kr2
def Z35.w (n : Nat) (lp2 : List Int -> tpainter -> tBits -> Int -> Int -> Prop -> (Int -> Prop) -> Prop) (a1 : List Int) (a2 : tpainter) (a3 : tBits) (K : Int -> Prop) : Prop :=
 lp2 a1 a2 a3 (a1.length : Int) 0 (K (-1)) (fun y19 => K y19)
def Z35.c : Nat -> List Int -> tpainter -> tBits -> (Int -> Prop) -> Prop
 | 0, _, _, _, _ => False
 | n + 1, a1, a2, a3, K => Z35.w n (Z35.l2 n) a1 a2 a3 K
def Z29.w (n : Nat) (a1 : List Int) (a2 : tpainter) (a3 : tBits) (K : Bool -> Prop) : Prop :=
 Z35.c n a1 a2 a3 (fun r4 => K (decide (r4 >= 0)))
def Z29.c : Nat -> List Int -> tpainter -> tBits -> (Bool -> Prop) -> Prop
 | 0, _, _, _, _ => False
 | n + 1, a1, a2, a3, K => Z29.w n  a1 a2 a3 K
def Z15.w (n : Nat) (a1 : tpainter) (a2 : Int) (a3 : Int) (a4 : List Int) (K : Bool -> Prop) : Prop :=
 grd (decide (0 <= a2) && decide (a2 < (a1.2.2.1.length : Int))) (Z28.c n ((rd a1.2.2.1 (Int.toNat a2)).2) a3 a4 (fun r8 => if (!r8) = true then (Z29.c n ((rd a1.2.2.1 (Int.toNat a2)).1) a1 (a3, a4) (fun r9 => K (!r9))) else (K false)))
def Z15.c : Nat -> tpainter -> Int -> Int -> List Int -> (Bool -> Prop) -> Prop
 | 0, _, _, _, _, _ => False
 | n + 1, a1, a2, a3, a4, K => Z15.w n  a1 a2 a3 a4 K
def Z17.l9.b (n : Nat) (self : List Int -> List (tBar) -> List (trivals) -> List Int -> List (tBits) -> Int -> Int -> Int -> (Int -> List Int -> List (tBar) -> List (trivals) -> List Int -> List (tBits) -> Int -> Int -> Prop) -> Prop) (x73 : Int) (x74 : Int) (x75 : Int) (x76 : Int) (again9 : Int -> List (trivals) -> List Int -> List (tBits) -> List Int -> List (tBar) -> Int -> Int -> Prop) (x77 : Int) (x78 : List (trivals)) (x79 : List Int) (x80 : List (tBits)) (x81 : List Int) (x82 : List (tBar)) (x83 : Int) (x84 : Int) (Kx0w9 : List (trivals) -> List Int -> List (tBits) -> List Int -> List (tBar) -> Int -> Int -> Prop) (Kr9 : Int -> List (trivals) -> List Int -> List (tBits) -> List Int -> List (tBar) -> Int -> Int -> Prop) : Prop :=
 if (decide (x77 < x76)) = true then (Z0.c n x75 x77 (fun r114 r115 r116 => Z15.c n (x81, x82, x78, x79, x80, x83, x84) x74 r114 r115 (fun r118 => if (!r118) = true then (again9 (IntKind.wrap .i64 (x77 + 1)) x78 x79 x80 x81 x82 x83 x84) else (grd (decide (0 <= x74) && decide (x74 < (x80.length : Int))) (self x81 x82 x78 x79 (List.set x80 (Int.toNat x74) (r114, r115)) x83 x84 (IntKind.wrap .i64 (x73 + 1)) (fun r127 r128 r129 r130 r131 r132 r133 r134 => if (!(decide (r127 = 2))) = true then (Kr9 r127 r130 r131 r132 r128 r129 r133 r134) else (grd (decide (0 <= x74) && decide (x74 < (r132.length : Int))) (let t135 : List (tBits) := List.set r132 (Int.toNat x74) (0, ([] : List (Int))); again9 (IntKind.wrap .i64 (x77 + 1)) r130 r131 t135 r128 r129 r133 r134)))))))) else (Kx0w9 x78 x79 x80 x81 x82 x83 x84)
def Z17.w (n : Nat) (lp9 : Int -> Int -> Int -> Int -> Int -> List (trivals) -> List Int -> List (tBits) -> List Int -> List (tBar) -> Int -> Int -> (List (trivals) -> List Int -> List (tBits) -> List Int -> List (tBar) -> Int -> Int -> Prop) -> (Int -> List (trivals) -> List Int -> List (tBits) -> List Int -> List (tBar) -> Int -> Int -> Prop) -> Prop) (a1 : List Int) (a2 : List (tBar)) (a3 : List (trivals)) (a4 : List Int) (a5 : List (tBits)) (a6 : Int) (a7 : Int) (a8 : Int) (K : Int -> List Int -> List (tBar) -> List (trivals) -> List Int -> List (tBits) -> Int -> Int -> Prop) : Prop :=
 if (decide (a8 = (a4.length : Int))) = true then (K 0 a1 a2 a3 a4 a5 a6 a7) else (if (decide (a6 = a7)) = true then (K 3 a1 a2 a3 a4 a5 a6 a7) else (grd (decide (0 <= a8) && decide (a8 < (a4.length : Int))) (grd (decide (0 <= rd a4 (Int.toNat a8)) && decide (rd a4 (Int.toNat a8) < (a1.length : Int))) (grd (decide (0 <= rd a1 (Int.toNat (rd a4 (Int.toNat a8))))) (let t151 : Int := IntKind.wrap .i64 (1 * 2 ^ (Nat.min (Int.toNat (rd a1 (Int.toNat (rd a4 (Int.toNat a8))))) 64)); lp9 a8 (rd a4 (Int.toNat a8)) (rd a1 (Int.toNat (rd a4 (Int.toNat a8)))) t151 0 a3 a4 a5 a1 a2 (IntKind.wrap .i64 (a6 + 1)) a7 (fun y152 y153 y154 y155 y156 y157 y158 => K 2 y155 y156 y152 y153 y154 y157 y158) (fun y159 y160 y161 y162 y163 y164 y165 y166 => K y159 y163 y164 y160 y161 y162 y165 y166))))))
def Z17.m : Nat -> (List Int -> List (tBar) -> List (trivals) -> List Int -> List (tBits) -> Int -> Int -> Int -> (Int -> List Int -> List (tBar) -> List (trivals) -> List Int -> List (tBits) -> Int -> Int -> Prop) -> Prop) × (Int -> Int -> Int -> Int -> Int -> List (trivals) -> List Int -> List (tBits) -> List Int -> List (tBar) -> Int -> Int -> (List (trivals) -> List Int -> List (tBits) -> List Int -> List (tBar) -> Int -> Int -> Prop) -> (Int -> List (trivals) -> List Int -> List (tBits) -> List Int -> List (tBar) -> Int -> Int -> Prop) -> Prop)
 | 0 => (fun _ _ _ _ _ _ _ _ _ => False, fun _ _ _ _ _ _ _ _ _ _ _ _ _ _ => False)
 | n + 1 => (fun a1 a2 a3 a4 a5 a6 a7 a8 K => Z17.w n (Z17.m n).2 a1 a2 a3 a4 a5 a6 a7 a8 K, fun x73 x74 x75 x76 x77 x78 x79 x80 x81 x82 x83 x84 Kx0w9 Kr9 => Z17.l9.b n (Z17.m n).1 x73 x74 x75 x76 (fun x77q x78q x79q x80q x81q x82q x83q x84q => (Z17.m n).2 x73 x74 x75 x76 x77q x78q x79q x80q x81q x82q x83q x84q Kx0w9 Kr9) x77 x78 x79 x80 x81 x82 x83 x84 Kx0w9 Kr9)
def Z17.c (n : Nat) : List Int -> List (tBar) -> List (trivals) -> List Int -> List (tBits) -> Int -> Int -> Int -> (Int -> List Int -> List (tBar) -> List (trivals) -> List Int -> List (tBits) -> Int -> Int -> Prop) -> Prop := (Z17.m n).1
def Z17.l9 (n : Nat) : Int -> Int -> Int -> Int -> Int -> List (trivals) -> List Int -> List (tBits) -> List Int -> List (tBar) -> Int -> Int -> (List (trivals) -> List Int -> List (tBits) -> List Int -> List (tBar) -> Int -> Int -> Prop) -> (Int -> List (trivals) -> List Int -> List (tBits) -> List Int -> List (tBar) -> Int -> Int -> Prop) -> Prop := (Z17.m n).2
theorem Z17.c_s (n : Nat) (a1 : List Int) (a2 : List (tBar)) (a3 : List (trivals)) (a4 : List Int) (a5 : List (tBits)) (a6 : Int) (a7 : Int) (a8 : Int) (K : Int -> List Int -> List (tBar) -> List (trivals) -> List Int -> List (tBits) -> Int -> Int -> Prop) : Z17.c (n + 1) a1 a2 a3 a4 a5 a6 a7 a8 K = Z17.w n (Z17.l9 n) a1 a2 a3 a4 a5 a6 a7 a8 K := rfl
theorem Z17.l9_s (n : Nat) (x73 : Int) (x74 : Int) (x75 : Int) (x76 : Int) (x77 : Int) (x78 : List (trivals)) (x79 : List Int) (x80 : List (tBits)) (x81 : List Int) (x82 : List (tBar)) (x83 : Int) (x84 : Int) (Kx0w9 : List (trivals) -> List Int -> List (tBits) -> List Int -> List (tBar) -> Int -> Int -> Prop) (Kr9 : Int -> List (trivals) -> List Int -> List (tBits) -> List Int -> List (tBar) -> Int -> Int -> Prop) : Z17.l9 (n + 1) x73 x74 x75 x76 x77 x78 x79 x80 x81 x82 x83 x84 Kx0w9 Kr9 = Z17.l9.b n (Z17.c n) x73 x74 x75 x76 (fun x77q x78q x79q x80q x81q x82q x83q x84q => Z17.l9 n x73 x74 x75 x76 x77q x78q x79q x80q x81q x82q x83q x84q Kx0w9 Kr9) x77 x78 x79 x80 x81 x82 x83 x84 Kx0w9 Kr9 := rfl
def Z24.w (n : Nat) (a1 : Int) (K : Int -> Prop) : Prop :=
 let t2 : Int := ibits .and .u64 (Int.fdiv a1 (2 ^ 1)) 6148914691236517205; let t3 : Int := IntKind.wrap .u64 (t2 + (ibits .and .u64 a1 6148914691236517205)); let t4 : Int := ibits .and .u64 (Int.fdiv t3 (2 ^ 2)) 3689348814741910323; let t5 : Int := IntKind.wrap .u64 (t4 + (ibits .and .u64 t3 3689348814741910323)); let t6 : Int := IntKind.wrap .u64 ((Int.fdiv t5 (2 ^ 4)) + t5); let t7 : Int := Int.fdiv (ibits .and .u64 t6 1085102592571150095) (2 ^ 8); let t8 : Int := IntKind.wrap .u64 ((ibits .and .u64 t6 1085102592571150095) + t7); let t9 : Int := IntKind.wrap .u64 (t8 + (Int.fdiv t8 (2 ^ 16))); let t10 : Int := IntKind.wrap .u64 (t9 + (Int.fdiv t9 (2 ^ 32))); K (ibits .and .i64 (IntKind.wrap .i64 t10) 127)
def Z24.c : Nat -> Int -> (Int -> Prop) -> Prop
 | 0, _, _ => False
 | n + 1, a1, K => Z24.w n  a1 K
def Z6.l5.b (n : Nat) (x12 : List Int) (x13 : Int) (again5 : Int -> Int -> Prop) (x11 : Int) (x14 : Int) (Kx0w5 : Int -> Prop) : Prop :=
 if (decide (x14 < x13)) = true then (grd (decide (0 <= x14) && decide (x14 < (x12.length : Int))) (Z24.c n (rd x12 (Int.toNat x14)) (fun r16 => again5 (IntKind.wrap .i64 (x11 + r16)) (IntKind.wrap .i64 (x14 + 1))))) else (Kx0w5 x11)
def Z6.l5 : Nat -> List Int -> Int -> Int -> Int -> (Int -> Prop) -> Prop
 | 0, _, _, _, _, _ => False
 | n + 1, x12, x13, x11, x14, Kx0w5 => Z6.l5.b n  x12 x13 (fun x11q x14q => Z6.l5 n x12 x13 x11q x14q Kx0w5) x11 x14 Kx0w5
def Z6.w (n : Nat) (lp5 : List Int -> Int -> Int -> Int -> (Int -> Prop) -> Prop) (a1 : Int) (a2 : List Int) (K : Int -> Prop) : Prop :=
 Z1.c n a1 a2 (fun r4 => if (!r4) = true then (K (-1)) else (lp5 a2 (a2.length : Int) 0 0 (fun y18 => K y18)))
def Z6.c : Nat -> Int -> List Int -> (Int -> Prop) -> Prop
 | 0, _, _, _ => False
 | n + 1, a1, a2, K => Z6.w n (Z6.l5 n) a1 a2 K
def Z9.l5.b (n : Nat) (x23 : Int) (x26 : List Int) (x27 : Int) (x28 : Int) (again5 : Int -> List Int -> Prop) (x24 : Int) (x25 : List Int) (Kx0w5 : List Int -> List Int -> Int -> Int -> Prop) : Prop :=
 if (decide (x24 < x23)) = true then (grd (decide (0 <= x24) && decide (x24 < (x25.length : Int))) (let t31 : Int := IntKind.wrap .u64 ((rd x25 (Int.toNat x24)) + 1); grd (decide (0 <= x24) && decide (x24 < (x25.length : Int))) (grd (decide (0 <= x24) && decide (x24 < ((List.set x25 (Int.toNat x24) t31).length : Int))) (let t32 : Int := rd (List.set x25 (Int.toNat x24) t31) (Int.toNat x24); if (!(decide (t32 = 0))) = true then (Kx0w5 (List.set x25 (Int.toNat x24) t31) x26 x27 x28) else (again5 (IntKind.wrap .i64 (x24 + 1)) (List.set x25 (Int.toNat x24) t31)))))) else (Kx0w5 x25 x26 x27 x28)
def Z9.l5 : Nat -> Int -> List Int -> Int -> Int -> Int -> List Int -> (List Int -> List Int -> Int -> Int -> Prop) -> Prop
 | 0, _, _, _, _, _, _, _ => False
 | n + 1, x23, x26, x27, x28, x24, x25, Kx0w5 => Z9.l5.b n  x23 x26 x27 x28 (fun x24q x25q => Z9.l5 n x23 x26 x27 x28 x24q x25q Kx0w5) x24 x25 Kx0w5
def Z9.j0 (K : Int -> List Int -> Bool -> Prop) (a1 : Int) (a2 : List Int) (lp5 : Int -> List Int -> Int -> Int -> Int -> List Int -> (List Int -> List Int -> Int -> Int -> Prop) -> Prop) (n : Nat) (j44 : Bool) : Prop :=
 if j44 = true then (K 0 ([] : List (Int)) false) else (Z11.c n a1 a2 (fun r45 r46 => lp5 (r46.length : Int) ([] : List (Int)) 0 r45 0 r46 (fun y51 y52 y53 y54 => K y54 y51 true)))
def Z9.w (n : Nat) (lp5 : Int -> List Int -> Int -> Int -> Int -> List Int -> (List Int -> List Int -> Int -> Int -> Prop) -> Prop) (a1 : Int) (a2 : List Int) (K : Int -> List Int -> Bool -> Prop) : Prop :=
 Z1.c n a1 a2 (fun r55 => if (!r55) = false then (let p58 : Prop := (Z6.c n a1 a2 (fun r56 => Z9.j0 K a1 a2 lp5 n (decide (r56 = a1)))); (p58 /\ p58)) else ((Z9.j0 K a1 a2 lp5 n true) /\ (Z9.j0 K a1 a2 lp5 n true)))
def Z9.c : Nat -> Int -> List Int -> (Int -> List Int -> Bool -> Prop) -> Prop
 | 0, _, _, _ => False
 | n + 1, a1, a2, K => Z9.w n (Z9.l5 n) a1 a2 K
def Z12.l12.b (n : Nat) (x57 : Int) (x58 : List Int) (x59 : Int) (x60 : Int) (x62 : List (trivals)) (x63 : List Int) (x64 : List (tBits)) (x66 : List Int) (x67 : List (tBar)) (x68 : Int) (x69 : Int) (again12 : List Int -> Int -> Prop) (x61 : List Int) (x65 : Int) (Kx3w12 : Int -> List Int -> Int -> Int -> List Int -> List (trivals) -> List Int -> List (tBits) -> Int -> List Int -> List (tBar) -> Int -> Int -> Prop) : Prop :=
 Z15.c n (x66, x67, x62, x63, x64, x68, x69) x57 x65 x61 (fun r71 => if (!r71) = true then (Z9.c n x65 x61 (fun r72 r73 r74 => again12 r73 r72)) else (Kx3w12 x57 x58 x59 x60 x61 x62 x63 x64 x65 x66 x67 x68 x69))
def Z12.l12 : Nat -> Int -> List Int -> Int -> Int -> List (trivals) -> List Int -> List (tBits) -> List Int -> List (tBar) -> Int -> Int -> List Int -> Int -> (Int -> List Int -> Int -> Int -> List Int -> List (trivals) -> List Int -> List (tBits) -> Int -> List Int -> List (tBar) -> Int -> Int -> Prop) -> Prop
 | 0, _, _, _, _, _, _, _, _, _, _, _, _, _, _ => False
 | n + 1, x57, x58, x59, x60, x62, x63, x64, x66, x67, x68, x69, x61, x65, Kx3w12 => Z12.l12.b n  x57 x58 x59 x60 x62 x63 x64 x66 x67 x68 x69 (fun x61q x65q => Z12.l12 n x57 x58 x59 x60 x62 x63 x64 x66 x67 x68 x69 x61q x65q Kx3w12) x61 x65 Kx3w12
def Z12.l8.b (n : Nat) (lp12 : Int -> List Int -> Int -> Int -> List (trivals) -> List Int -> List (tBits) -> List Int -> List (tBar) -> Int -> Int -> List Int -> Int -> (Int -> List Int -> Int -> Int -> List Int -> List (trivals) -> List Int -> List (tBits) -> Int -> List Int -> List (tBar) -> Int -> Int -> Prop) -> Prop) (again8 : List Int -> Int -> Int -> List (trivals) -> List Int -> List (tBits) -> List Int -> List (tBar) -> Int -> Int -> Prop) (x139 : List Int) (x140 : Int) (x141 : Int) (x142 : List (trivals)) (x143 : List Int) (x144 : List (tBits)) (x145 : List Int) (x146 : List (tBar)) (x147 : Int) (x148 : Int) (Kx1w8 : List (trivals) -> List Int -> List (tBits) -> List Int -> List (tBar) -> Int -> Int -> Prop) : Prop :=
 if (decide (x141 < x140)) = true then (grd (decide (0 <= x141) && decide (x141 < (x139.length : Int))) (grd (decide (0 <= x141) && decide (x141 < (x144.length : Int))) (if (decide ((rd x144 (Int.toNat x141)).1 > 0)) = true then (again8 x139 x140 (IntKind.wrap .i64 (x141 + 1)) x142 x143 x144 x145 x146 x147 x148) else (Z22.c n (rd x139 (Int.toNat x141)) (fun r187 r188 => lp12 x141 x139 x140 x141 x142 x143 x144 x145 x146 x147 x148 r188 r187 (fun y202 y203 y204 y205 y206 y207 y208 y209 y210 y211 y212 y213 y214 => grd (decide (0 <= y202) && decide (y202 < (y209.length : Int))) (again8 y203 y204 (IntKind.wrap .i64 (y205 + 1)) y207 y208 (List.set y209 (Int.toNat y202) (y210, y206)) y211 y212 y213 y214))))))) else (Kx1w8 x142 x143 x144 x145 x146 x147 x148)
def Z12.l8 : Nat -> List Int -> Int -> Int -> List (trivals) -> List Int -> List (tBits) -> List Int -> List (tBar) -> Int -> Int -> (List (trivals) -> List Int -> List (tBits) -> List Int -> List (tBar) -> Int -> Int -> Prop) -> Prop
 | 0, _, _, _, _, _, _, _, _, _, _, _ => False
 | n + 1, x139, x140, x141, x142, x143, x144, x145, x146, x147, x148, Kx1w8 => Z12.l8.b n (Z12.l12 n)  (fun x139q x140q x141q x142q x143q x144q x145q x146q x147q x148q => Z12.l8 n x139q x140q x141q x142q x143q x144q x145q x146q x147q x148q Kx1w8) x139 x140 x141 x142 x143 x144 x145 x146 x147 x148 Kx1w8
def Z12.w (n : Nat) (lp8 : List Int -> Int -> Int -> List (trivals) -> List Int -> List (tBits) -> List Int -> List (tBar) -> Int -> Int -> (List (trivals) -> List Int -> List (tBits) -> List Int -> List (tBar) -> Int -> Int -> Prop) -> Prop) (a1 : List Int) (a2 : List (tBar)) (a3 : Int) (K : List (tBits) -> Int -> Int -> Prop) : Prop :=
 Z14.c n a1 a2 a3 (fun r4 r5 r6 r7 r8 r9 r10 => Z17.c n r4 r5 r6 r7 r8 r9 r10 0 (fun r19 r20 r21 r22 r23 r24 r25 r26 => if (decide (r19 = 2)) = true then (K ([] : List (tBits)) r25 2) else (if (decide (r19 = 3)) = true then (K ([] : List (tBits)) a3 3) else (lp8 a1 (a1.length : Int) 0 r22 r23 r24 r20 r21 r25 r26 (fun y222 y223 y224 y225 y226 y227 y228 => K y224 y227 0)))))
def Z12.c : Nat -> List Int -> List (tBar) -> Int -> (List (tBits) -> Int -> Int -> Prop) -> Prop
 | 0, _, _, _, _ => False
 | n + 1, a1, a2, a3, K => Z12.w n (Z12.l8 n) a1 a2 a3 K
def Z3.w (n : Nat) (a1 : List Int) (a2 : List (tBar)) (a3 : Int) (K : List (tBits) -> Int -> Int -> Prop) : Prop :=
 Z7.c n a1 a2 (fun r18 => if (!r18) = false then (Z13.c n a3 0 20000 (fun r19 => if (!r19) = true then (K ([] : List (tBits)) (-1) 1) else (Z12.c n a1 a2 a3 (fun r20 r21 r22 => K r20 r21 r22)))) else (K ([] : List (tBits)) (-1) 1))
def Z3.c : Nat -> List Int -> List (tBar) -> Int -> (List (tBits) -> Int -> Int -> Prop) -> Prop
 | 0, _, _, _, _ => False
 | n + 1, a1, a2, a3, K => Z3.w n  a1 a2 a3 K
def Z54.j3 (again5 : Int -> Int -> List Int -> List Int -> Int -> Prop) (n : Nat) (x80 : Int) (x84 : List Int) (j124 : Int) (j125 : List Int) (j126 : Int) : Prop :=
 grd (decide (x84.length + ([j124] : List (Int)).length <= 7818749353073)) (Z58.c n j125 j126 16 (fun r127 r128 r129 => if r127 = true then (let p138 : Prop := (Z59.c n r128 r129 (fun r130 r131 r132 => grd (decide (0 <= x80) && decide (x80 < ((x84 ++ ([j124] : List (Int))).length : Int))) (let t133 : List Int := List.set (x84 ++ ([j124] : List (Int))) (Int.toNat x80) r130; again5 j124 (IntKind.wrap .i64 (x80 + 1)) t133 r131 r132))); (p138 /\ p138)) else (again5 j124 (IntKind.wrap .i64 (x80 + 1)) (x84 ++ ([j124] : List (Int))) r128 r129)))
def Z54.l5.b (n : Nat) (x79 : Int) (x81 : List (tBar)) (x82 : List Int) (x83 : List (tBar)) (again5 : Int -> Int -> List Int -> List Int -> Int -> Prop) (x78 : Int) (x80 : Int) (x84 : List Int) (x85 : List Int) (x86 : Int) (Kx0w5 : Int -> List (tBar) -> List Int -> List (tBar) -> List Int -> List Int -> Int -> Prop) : Prop :=
 if (decide (x80 < x79)) = true then (Z58.c n x85 x86 6 (fun r139 r140 r141 => if r139 = true then (Z52.c n r140 r141 3 (fun r142 r143 r144 => Z54.j3 again5 n x80 x84 (IntKind.wrap .i64 (1 + r142)) r143 r144)) else (Z54.j3 again5 n x80 x84 x78 r140 r141))) else (Kx0w5 x79 x81 x82 x83 x84 x85 x86)
def Z54.l5 : Nat -> Int -> List (tBar) -> List Int -> List (tBar) -> Int -> Int -> List Int -> List Int -> Int -> (Int -> List (tBar) -> List Int -> List (tBar) -> List Int -> List Int -> Int -> Prop) -> Prop
 | 0, _, _, _, _, _, _, _, _, _, _ => False
 | n + 1, x79, x81, x82, x83, x78, x80, x84, x85, x86, Kx0w5 => Z54.l5.b n  x79 x81 x82 x83 (fun x78q x80q x84q x85q x86q => Z54.l5 n x79 x81 x82 x83 x78q x80q x84q x85q x86q Kx0w5) x78 x80 x84 x85 x86 Kx0w5
def Z54.j7 (again13 : Int -> List (tBar) -> List Int -> Int -> Prop) (r261 : Int) (r264 : Int) (r268 : List Int) (r269 : Int) (x226 : Int) (x230 : List (tBar)) (j283 : Bool) : Prop :=
 if j283 = true then (let t284 : List (tBar) := ([(r261, r264, 0, ([] : List (Int)))] : List (tBar)); grd (decide (x230.length + t284.length <= 1436096819952)) (again13 (IntKind.wrap .i64 (x226 - 1)) (x230 ++ t284) r268 r269)) else (again13 (IntKind.wrap .i64 (x226 - 1)) x230 r268 r269)
def Z54.l13.b (n : Nat) (x225 : Int) (x227 : List Int) (x228 : List (tBar)) (x229 : List Int) (again13 : Int -> List (tBar) -> List Int -> Int -> Prop) (x226 : Int) (x230 : List (tBar)) (x231 : List Int) (x232 : Int) (Kx2w13 : Int -> List Int -> List (tBar) -> List Int -> List (tBar) -> List Int -> Int -> Prop) : Prop :=
 if (decide (x226 > 0)) = true then (Z52.c n x231 x232 x225 (fun r261 r262 r263 => Z52.c n r262 r263 x225 (fun r264 r265 r266 => Z58.c n r265 r266 4 (fun r267 r268 r269 => if r267 = true then (grd (decide (0 <= r261) && decide (r261 < (x229.length : Int))) ((Z53.c n r268 r269 (rd x229 (Int.toNat r261)) (fun r270 r271 r272 r273 => let t274 : List (tBar) := ([(r261, (-1), r270, r271)] : List (tBar)); grd (decide (x230.length + t274.length <= 1436096819952)) (again13 (IntKind.wrap .i64 (x226 - 1)) (x230 ++ t274) r272 r273))) /\ (Z53.c n r268 r269 (rd x229 (Int.toNat r261)) (fun r275 r276 r277 r278 => let p281 : Prop := (let t279 : List (tBar) := ([(r261, (-1), r275, r276)] : List (tBar)); grd (decide (x230.length + t279.length <= 1436096819952)) (again13 (IntKind.wrap .i64 (x226 - 1)) (x230 ++ t279) r277 r278)); (p281 /\ p281))))) else (if (!(decide (r261 = r264))) = true then (grd (decide (0 <= r261) && decide (r261 < (x229.length : Int))) (grd (decide (0 <= r264) && decide (r264 < (x229.length : Int))) (let t285 : Bool := decide (rd x229 (Int.toNat r261) = rd x229 (Int.toNat r264)); Z54.j7 again13 r261 r264 r268 r269 x226 x230 t285))) else (Z54.j7 again13 r261 r264 r268 r269 x226 x230 false)))))) else (Kx2w13 x225 x227 x228 x229 x230 x231 x232)
def Z54.l13 : Nat -> Int -> List Int -> List (tBar) -> List Int -> Int -> List (tBar) -> List Int -> Int -> (Int -> List Int -> List (tBar) -> List Int -> List (tBar) -> List Int -> Int -> Prop) -> Prop
 | 0, _, _, _, _, _, _, _, _, _ => False
 | n + 1, x225, x227, x228, x229, x226, x230, x231, x232, Kx2w13 => Z54.l13.b n  x225 x227 x228 x229 (fun x226q x230q x231q x232q => Z54.l13 n x225 x227 x228 x229 x226q x230q x231q x232q Kx2w13) x226 x230 x231 x232 Kx2w13
def Z54.l29.b (n : Nat) (x348 : List Int) (x349 : List (tBar)) (x350 : List (tBar)) (x351 : List Int) (x352 : Int) (again29 : Int -> List Int -> Prop) (x346 : Int) (x347 : List Int) (Kx5w29 : List Int -> List Int -> List (tBar) -> List (tBar) -> List Int -> Int -> Prop) : Prop :=
 if (decide (x346 < (x347.length : Int))) = true then (grd (decide (0 <= x346) && decide (x346 < (x347.length : Int))) (again29 (IntKind.wrap .i64 (x346 + 1)) (List.set x347 (Int.toNat x346) 1))) else (Kx5w29 x347 x348 x349 x350 x351 x352)
def Z54.l29 : Nat -> List Int -> List (tBar) -> List (tBar) -> List Int -> Int -> Int -> List Int -> (List Int -> List Int -> List (tBar) -> List (tBar) -> List Int -> Int -> Prop) -> Prop
 | 0, _, _, _, _, _, _, _, _ => False
 | n + 1, x348, x349, x350, x351, x352, x346, x347, Kx5w29 => Z54.l29.b n  x348 x349 x350 x351 x352 (fun x346q x347q => Z54.l29 n x348 x349 x350 x351 x352 x346q x347q Kx5w29) x346 x347 Kx5w29
def Z54.j9 (again34 : List (tBar) -> List Int -> Int -> Prop) (x421 : List (tBar)) (j445 : List Int) (j446 : Int) : Prop :=
 let t447 : List (tBar) := ([(0, 1, 0, ([] : List (Int)))] : List (tBar)); grd (decide (x421.length + t447.length <= 1436096819952)) (again34 (x421 ++ t447) j445 j446)
def Z54.l34.b (n : Nat) (x417 : Int) (x418 : List Int) (x419 : List (tBar)) (x420 : List Int) (again34 : List (tBar) -> List Int -> Int -> Prop) (x421 : List (tBar)) (x422 : List Int) (x423 : Int) (Kx7w34 : List Int -> List (tBar) -> List Int -> List (tBar) -> List Int -> Int -> Prop) : Prop :=
 let p468 : Prop := (Z52.c n x422 x423 2 (fun r460 r461 r462 => let t463 : Bool := decide ((x421.length : Int) < IntKind.wrap .i64 (1000 + r460)); if t463 = true then (if (decide (x417 > 1)) = true then (grd (decide (0 < (x420.length : Int))) (grd (decide (1 < (x420.length : Int))) (if (decide (rd x420 0 = rd x420 1)) = true then (Z54.j9 again34 x421 r461 r462) else (Kx7w34 x418 x419 x420 x421 r461 r462)))) else (Kx7w34 x418 x419 x420 x421 r461 r462)) else (Kx7w34 x418 x419 x420 x421 r461 r462))); (p468 /\ p468)
def Z54.l34 : Nat -> Int -> List Int -> List (tBar) -> List Int -> List (tBar) -> List Int -> Int -> (List Int -> List (tBar) -> List Int -> List (tBar) -> List Int -> Int -> Prop) -> Prop
 | 0, _, _, _, _, _, _, _, _ => False
 | n + 1, x417, x418, x419, x420, x421, x422, x423, Kx7w34 => Z54.l34.b n  x417 x418 x419 x420 (fun x421q x422q x423q => Z54.l34 n x417 x418 x419 x420 x421q x422q x423q Kx7w34) x421 x422 x423 Kx7w34
def Z54.w (n : Nat) (lp5 : Int -> List (tBar) -> List Int -> List (tBar) -> Int -> Int -> List Int -> List Int -> Int -> (Int -> List (tBar) -> List Int -> List (tBar) -> List Int -> List Int -> Int -> Prop) -> Prop) (lp13 : Int -> List Int -> List (tBar) -> List Int -> Int -> List (tBar) -> List Int -> Int -> (Int -> List Int -> List (tBar) -> List Int -> List (tBar) -> List Int -> Int -> Prop) -> Prop) (lp29 : List Int -> List (tBar) -> List (tBar) -> List Int -> Int -> Int -> List Int -> (List Int -> List Int -> List (tBar) -> List (tBar) -> List Int -> Int -> Prop) -> Prop) (lp34 : Int -> List Int -> List (tBar) -> List Int -> List (tBar) -> List Int -> Int -> (List Int -> List (tBar) -> List Int -> List (tBar) -> List Int -> Int -> Prop) -> Prop) (a1 : List Int) (a2 : Int) (K : List Int -> List (tBar) -> List Int -> Int -> Prop) : Prop :=
 Z52.c n a1 a2 3 (fun r3 r4 r5 => let t6 : Int := IntKind.wrap .i64 (Int.tdiv (r4.length : Int) 6); let t7 : Int := (if (IntKind.wrap .i64 (2 + t6)) < 7 then IntKind.wrap .i64 (2 + t6) else 7); Z52.c n r4 r5 t7 (fun r8 r9 r10 => lp5 (IntKind.wrap .i64 (1 + r8)) ([] : List (tBar)) ([] : List (Int)) ([] : List (tBar)) (IntKind.wrap .i64 (1 + r3)) 0 ([] : List (Int)) r9 r10 (fun y152 y153 y154 y155 y156 y157 y158 => let t293 : Int := IntKind.wrap .i64 (Int.tdiv (y157.length : Int) 3); let t294 : Int := (if (IntKind.wrap .i64 (2 + t293)) < 24 then IntKind.wrap .i64 (2 + t293) else 24); Z52.c n y157 y158 t294 (fun r295 r296 r297 => lp13 y152 y154 y155 y156 r295 y153 r296 r297 (fun y298 y299 y300 y301 y302 y303 y304 => Z52.c n y303 y304 30 (fun r484 r485 r486 => if (decide (r484 = 0)) = true then ((Z57.c n r485 r486 0 (IntKind.wrap .i64 (y298 - 1)) (fun r487 r488 r489 => Z57.c n r488 r489 (-1) (IntKind.wrap .i64 (y298 - 1)) (fun r490 r491 r492 => let t493 : List (tBar) := ([(r487, r490, 0, ([] : List (Int)))] : List (tBar)); grd (decide (y302.length + t493.length <= 1436096819952)) (K y301 (y302 ++ t493) r491 r492)))) /\ (Z57.c n r485 r486 0 (IntKind.wrap .i64 (y298 - 1)) (fun r494 r495 r496 => (Z57.c n r495 r496 (-1) (IntKind.wrap .i64 (y298 - 1)) (fun r497 r498 r499 => let t500 : List (tBar) := ([(r494, r497, 0, ([] : List (Int)))] : List (tBar)); grd (decide (y302.length + t500.length <= 1436096819952)) (K y301 (y302 ++ t500) r498 r499))) /\ (Z57.c n r495 r496 (-1) (IntKind.wrap .i64 (y298 - 1)) (fun r501 r502 r503 => let p506 : Prop := (let t504 : List (tBar) := ([(r494, r501, 0, ([] : List (Int)))] : List (tBar)); grd (decide (y302.length + t504.length <= 1436096819952)) (K y301 (y302 ++ t504) r502 r503)); (p506 /\ p506)))))) else (if (decide (r484 = 1)) = true then (let p513 : Prop := (Z57.c n r485 r486 1 4096 (fun r507 r508 r509 => grd (decide (0 < (y301.length : Int))) (K (List.set y301 0 r507) y302 r508 r509))); (p513 /\ p513)) else (if (decide (r484 = 2)) = true then (Z52.c n r485 r486 2 (fun r514 r515 r516 => grd ((decide (0 <= IntKind.wrap .i64 (200 + r514)) && decide (IntKind.wrap .i64 (200 + r514) <= 7818749353073)) && decide (IntKind.wrap .i64 (200 + r514) = IntKind.wrap .i64 (200 + r514))) (let t517 : List Int := List.replicate (Int.toNat (IntKind.wrap .i64 (200 + r514))) 0; lp29 y299 y300 y302 r515 r516 0 t517 (fun y524 y525 y526 y527 y528 y529 => K y524 ([] : List (tBar)) y528 y529)))) else (if (decide (r484 = 3)) = true then (lp34 y298 y299 y300 y301 y302 r485 r486 (fun y530 y531 y532 y533 y534 y535 => K y532 y533 y534 y535)) else (K y301 y302 r485 r486))))))))))
def Z54.c : Nat -> List Int -> Int -> (List Int -> List (tBar) -> List Int -> Int -> Prop) -> Prop
 | 0, _, _, _ => False
 | n + 1, a1, a2, K => Z54.w n (Z54.l5 n) (Z54.l13 n) (Z54.l29 n) (Z54.l34 n) a1 a2 K
def Z40.w (n : Nat) (a1 : List Int) (K : List Int -> List (tBar) -> Int -> Prop) : Prop :=
 Z51.c n a1 (fun r2 r3 => Z54.c n r2 r3 (fun r4 r5 r6 r7 => Z58.c n r6 r7 4 (fun r24 r25 r26 => if r24 = true then ((Z57.c n r25 r26 0 12 (fun r34 r35 r36 => K r4 r5 r34)) /\ (Z57.c n r25 r26 0 12 (fun r37 r38 r39 => K r4 r5 r37))) else ((Z57.c n r25 r26 0 400 (fun r47 r48 r49 => K r4 r5 r47)) /\ (Z57.c n r25 r26 0 400 (fun r50 r51 r52 => K r4 r5 r50))))))
def Z40.c : Nat -> List Int -> (List Int -> List (tBar) -> Int -> Prop) -> Prop
 | 0, _, _ => False
 | n + 1, a1, K => Z40.w n  a1 K
def laws_FnColoured.l14.b (n : Nat) (x28 : List Int) (x29 : List (tBar)) (again14 : Int -> Int -> Prop) (x26 : Int) (x27 : Int) (Kx0w14 : Int -> List Int -> List (tBar) -> Prop) : Prop :=
 if (decide (x27 < (x28.length : Int))) = true then (grd (decide (0 <= x27) && decide (x27 < (x28.length : Int))) (let t31 : Int := IntKind.wrap .i64 (x26 + (rd x28 (Int.toNat x27))); again14 t31 (IntKind.wrap .i64 (x27 + 1)))) else (Kx0w14 x26 x28 x29)
def laws_FnColoured.l14 : Nat -> List Int -> List (tBar) -> Int -> Int -> (Int -> List Int -> List (tBar) -> Prop) -> Prop
 | 0, _, _, _, _, _ => False
 | n + 1, x28, x29, x26, x27, Kx0w14 => laws_FnColoured.l14.b n  x28 x29 (fun x26q x27q => laws_FnColoured.l14 n x28 x29 x26q x27q Kx0w14) x26 x27 Kx0w14
def laws_FnColoured.j3 (again23 : Int -> Int -> List (tBits) -> Prop) (t113 : Int) (x90 : Int) (x91 : Int) (x92 : List (tBits)) (j121 : List Int) (j122 : Int) : Prop :=
 grd (!(decide (t113 = 0))) (grd (decide (x92.length + ([(j122, j121)] : List (tBits)).length <= 2132386187201)) (let t123 : List (tBits) := x92 ++ ([(j122, j121)] : List (tBits)); again23 (IntKind.wrap .i64 (Int.tdiv x90 t113)) (IntKind.wrap .i64 (x91 + 1)) t123))
def laws_FnColoured.l23.b (n : Nat) (x88 : Int) (x89 : Int) (x93 : List Int) (x94 : List (tBar)) (again23 : Int -> Int -> List (tBits) -> Prop) (x90 : Int) (x91 : Int) (x92 : List (tBits)) (Kx4w23 : Int -> Int -> List (tBits) -> List Int -> List (tBar) -> Prop) : Prop :=
 if (decide (x91 < (x93.length : Int))) = true then (grd (decide (0 <= x91) && decide (x91 < (x93.length : Int))) (grd (decide (0 <= IntKind.wrap .u64 (rd x93 (Int.toNat x91)))) (let t113 : Int := IntKind.wrap .i64 (1 * 2 ^ (Nat.min (Int.toNat (IntKind.wrap .u64 (rd x93 (Int.toNat x91)))) 64)); grd (decide (0 <= x91) && decide (x91 < (x93.length : Int))) (grd (!(decide (t113 = 0))) (let p130 : Prop := (Z37.c n (rd x93 (Int.toNat x91)) (Int.tmod x90 t113) (fun r124 r125 r126 => laws_FnColoured.j3 again23 t113 x90 x91 x92 r125 r124)); (p130 /\ p130)))))) else (Kx4w23 x88 x89 x92 x93 x94)
def laws_FnColoured.l23 : Nat -> Int -> Int -> List Int -> List (tBar) -> Int -> Int -> List (tBits) -> (Int -> Int -> List (tBits) -> List Int -> List (tBar) -> Prop) -> Prop
 | 0, _, _, _, _, _, _, _, _ => False
 | n + 1, x88, x89, x93, x94, x90, x91, x92, Kx4w23 => laws_FnColoured.l23.b n  x88 x89 x93 x94 (fun x90q x91q x92q => laws_FnColoured.l23 n x88 x89 x93 x94 x90q x91q x92q Kx4w23) x90 x91 x92 Kx4w23
def laws_FnColoured.j5 (Kr18 : Bool -> Prop) (again18 : Int -> Int -> List Int -> List (tBar) -> Prop) (lp23 : Int -> Int -> List Int -> List (tBar) -> Int -> Int -> List (tBits) -> (Int -> Int -> List (tBits) -> List Int -> List (tBar) -> Prop) -> Prop) (n : Nat) (x156 : Int) (x157 : Int) (x158 : List Int) (x159 : List (tBar)) : Prop :=
 lp23 x156 x157 x158 x159 x157 0 ([] : List (tBits)) (fun y179 y180 y181 y182 y183 => Z4.c n y182 y183 y181 (fun r184 => if r184 = true then (Kr18 false) else (again18 y179 (IntKind.wrap .i64 (y180 + 1)) y182 y183)))
def laws_FnColoured.l18.b (n : Nat) (lp23 : Int -> Int -> List Int -> List (tBar) -> Int -> Int -> List (tBits) -> (Int -> Int -> List (tBits) -> List Int -> List (tBar) -> Prop) -> Prop) (again18 : Int -> Int -> List Int -> List (tBar) -> Prop) (x156 : Int) (x157 : Int) (x158 : List Int) (x159 : List (tBar)) (Kx2w18 : Prop) (Kr18 : Bool -> Prop) : Prop :=
 grd (decide (0 <= IntKind.wrap .u64 x156)) (let t187 : Int := IntKind.wrap .i64 (1 * 2 ^ (Nat.min (Int.toNat (IntKind.wrap .u64 x156)) 64)); if (decide (x157 < t187)) = true then (if (decide (x156 <= 8)) = true then (laws_FnColoured.j5 Kr18 again18 lp23 n x156 x157 x158 x159) else (Kx2w18)) else (Kx2w18))
def laws_FnColoured.l18 : Nat -> Int -> Int -> List Int -> List (tBar) -> Prop -> (Bool -> Prop) -> Prop
 | 0, _, _, _, _, _, _ => False
 | n + 1, x156, x157, x158, x159, Kx2w18, Kr18 => laws_FnColoured.l18.b n (laws_FnColoured.l23 n)  (fun x156q x157q x158q x159q => laws_FnColoured.l18 n x156q x157q x158q x159q Kx2w18 Kr18) x156 x157 x158 x159 Kx2w18 Kr18
def laws_FnColoured.j6 (K : Bool -> Prop) (lp14 : List Int -> List (tBar) -> Int -> Int -> (Int -> List Int -> List (tBar) -> Prop) -> Prop) (lp18 : Int -> Int -> List Int -> List (tBar) -> Prop -> (Bool -> Prop) -> Prop) (n : Nat) (r4 : List Int) (r5 : List (tBar)) (r6 : Int) (r10 : List (tBits)) (r11 : Int) (r12 : Int) : Prop :=
 if (decide (r12 = 0)) = true then (Z4.c n r4 r5 r10 (fun r19 => if r19 = true then (K (decide (r11 <= r6))) else (K false))) else (if (!(decide (r12 = 2))) = true then (K (decide ((r10.length : Int) = 0))) else (lp14 r4 r5 0 0 (fun y35 y36 y37 => lp18 y35 0 y36 y37 (K true) (fun y189 => K y189))))
def laws_FnColoured.w (n : Nat) (lp14 : List Int -> List (tBar) -> Int -> Int -> (Int -> List Int -> List (tBar) -> Prop) -> Prop) (lp18 : Int -> Int -> List Int -> List (tBar) -> Prop -> (Bool -> Prop) -> Prop) (a1 : List Int) (K : Bool -> Prop) : Prop :=
 Z23.c n a1 (fun r3 => if r3 = true then (K true) else (Z40.c n a1 (fun r4 r5 r6 => Z39.c n r4 r5 r6 (fun r7 r8 r9 => Z3.c n r4 r5 r6 (fun r10 r11 r12 => if (!(decide (r12 = r9))) = false then (if (!(decide (r11 = r8))) = true then (K false) else (laws_FnColoured.j6 K lp14 lp18 n r4 r5 r6 r10 r11 r12)) else (K false))))))
def laws_FnColoured.c : Nat -> List Int -> (Bool -> Prop) -> Prop
 | 0, _, _ => False
 | n + 1, a1, K => laws_FnColoured.w n (laws_FnColoured.l14 n) (laws_FnColoured.l18 n) a1 K
end Go.Vsi
end
