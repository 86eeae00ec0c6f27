/- Go functions, told on plain data. No statement is proved here. -/
import Derived.Test.YtppcdaliielpgaaM1

section
set_option linter.unusedVariables false
set_option synthInstance.maxSize 4096
namespace Go.Vsi
abbrev tBar : Type := Int × Int × Int × List (Int)
instance : DecidableEq tBar := inferInstance
abbrev tGraph : Type := List (Int) × List (tBar)
instance : DecidableEq tGraph := inferInstance
abbrev tBits : Type := Int × List (Int)
instance : DecidableEq tBits := inferInstance
abbrev trivals : Type := List (Int) × List (tBits)
instance : DecidableEq trivals := inferInstance
def laws_szUint64S.w (n : Nat) (a1 : List Int) (a2 : Int) (K : Int → Prop) : Prop :=
 let t4 : Bool := decide (IntKind.wrap .i64 (a2 - (a1.length : Int)) < 0); if t4 = true then (K (-1)) else (K (IntKind.wrap .i64 (a2 - (a1.length : Int))))
def laws_szUint64S.c : Nat → List Int → Int → (Int → Prop) → Prop
 | 0, _, _, _ => False
 | n + 1, a1, a2, K => laws_szUint64S.w n  a1 a2 K
def laws_szBits.w (n : Nat) (a1 : Int) (a2 : List Int) (a3 : Int) (K : Int → Prop) : Prop :=
 laws_szUint64S.c n a2 a3 (fun r4 => if (decide (r4 < 0)) = true then (K (-1)) else (K r4))
def laws_szBits.c : Nat → Int → List Int → Int → (Int → Prop) → Prop
 | 0, _, _, _, _ => False
 | n + 1, a1, a2, a3, K => laws_szBits.w n  a1 a2 a3 K
def laws_szBar.w (n : Nat) (a1 : Int) (a2 : Int) (a3 : Int) (a4 : List Int) (a5 : Int) (K : Int → Prop) : Prop :=
 laws_szBits.c n a3 a4 a5 (fun r6 => if (decide (r6 < 0)) = true then (K (-1)) else (K r6))
def laws_szBar.c : Nat → Int → Int → Int → List Int → Int → (Int → Prop) → Prop
 | 0, _, _, _, _, _, _ => False
 | n + 1, a1, a2, a3, a4, a5, K => laws_szBar.w n  a1 a2 a3 a4 a5 K
def laws_szBarS.l5.b (n : Nat) (x10 : List (tBar)) (again5 : Int → Int → Prop) (x11 : Int) (x12 : Int) (Kx0w5 : Int → Prop) (Kr5 : Int → Prop) : Prop :=
 if (decide (x12 < (x10.length : Int))) = true then (grd (decide (0 ≤ x12) && decide (x12 < (x10.length : Int))) (laws_szBar.c n ((rd x10 (Int.toNat x12)).1) (((rd x10 (Int.toNat x12)).2).1) ((((rd x10 (Int.toNat x12)).2).2).1) ((((rd x10 (Int.toNat x12)).2).2).2) x11 (fun r14 => if (decide (r14 < 0)) = true then (Kr5 (-1)) else (again5 r14 (IntKind.wrap .i64 (x12 + 1)))))) else (Kx0w5 x11)
def laws_szBarS.l5 : Nat → List (tBar) → Int → Int → (Int → Prop) → (Int → Prop) → Prop
 | 0, _, _, _, _, _ => False
 | n + 1, x10, x11, x12, Kx0w5, Kr5 => laws_szBarS.l5.b n  x10 (fun x11q x12q => laws_szBarS.l5 n x10 x11q x12q Kx0w5 Kr5) x11 x12 Kx0w5 Kr5
def laws_szBarS.w (n : Nat) (lp5 : List (tBar) → Int → Int → (Int → Prop) → (Int → Prop) → Prop) (a1 : List (tBar)) (a2 : Int) (K : Int → Prop) : Prop :=
 let t4 : Bool := decide (IntKind.wrap .i64 (a2 - (a1.length : Int)) < 0); if t4 = true then (K (-1)) else (lp5 a1 (IntKind.wrap .i64 (a2 - (a1.length : Int))) 0 (fun y17 => K y17) (fun y18 => K y18))
def laws_szBarS.c : Nat → List (tBar) → Int → (Int → Prop) → Prop
 | 0, _, _, _ => False
 | n + 1, a1, a2, K => laws_szBarS.w n (laws_szBarS.l5 n) a1 a2 K
def laws_toUint64S.l3.b (n : Nat) (x8 : List Int) (again3 : Int → List Int → Prop) (x9 : Int) (x10 : List Int) (Kx0w3 : List Int → Prop) : Prop :=
 if (decide (x9 < (x8.length : Int))) = true then (grd (decide (0 ≤ x9) && decide (x9 < (x8.length : Int))) (grd (decide (0 ≤ x9) && decide (x9 < (x10.length : Int))) (let t12 : List Int := List.set x10 (Int.toNat x9) (rd x8 (Int.toNat x9)); again3 (IntKind.wrap .i64 (x9 + 1)) t12))) else (Kx0w3 x10)
def laws_toUint64S.l3 : Nat → List Int → Int → List Int → (List Int → Prop) → Prop
 | 0, _, _, _, _ => False
 | n + 1, x8, x9, x10, Kx0w3 => laws_toUint64S.l3.b n  x8 (fun x9q x10q => laws_toUint64S.l3 n x8 x9q x10q Kx0w3) x9 x10 Kx0w3
def laws_toUint64S.w (n : Nat) (lp3 : List Int → Int → List Int → (List Int → Prop) → Prop) (a1 : List Int) (K : List Int → Prop) : Prop :=
 grd ((decide (0 ≤ (a1.length : Int)) && decide ((a1.length : Int) ≤ 7818749353073)) && decide ((a1.length : Int) = (a1.length : Int))) (let t2 : List Int := List.replicate (Int.toNat (a1.length : Int)) 0; lp3 a1 0 t2 (fun y14 => K y14))
def laws_toUint64S.c : Nat → List Int → (List Int → Prop) → Prop
 | 0, _, _ => False
 | n + 1, a1, K => laws_toUint64S.w n (laws_toUint64S.l3 n) a1 K
def laws_toBits.w (n : Nat) (a1 : Int) (a2 : List Int) (K : Int → List Int → Prop) : Prop :=
 laws_toUint64S.c n a2 (fun r3 => K a1 r3)
def laws_toBits.c : Nat → Int → List Int → (Int → List Int → Prop) → Prop
 | 0, _, _, _ => False
 | n + 1, a1, a2, K => laws_toBits.w n  a1 a2 K
def laws_toBar.w (n : Nat) (a1 : Int) (a2 : Int) (a3 : Int) (a4 : List Int) (K : Int → Int → Int → List Int → Prop) : Prop :=
 laws_toBits.c n a3 a4 (fun r5 r6 => K a1 a2 r5 r6)
def laws_toBar.c : Nat → Int → Int → Int → List Int → (Int → Int → Int → List Int → Prop) → Prop
 | 0, _, _, _, _, _ => False
 | n + 1, a1, a2, a3, a4, K => laws_toBar.w n  a1 a2 a3 a4 K
def laws_toBarS.l3.b (n : Nat) (x15 : List (tBar)) (again3 : Int → List (tBar) → Prop) (x16 : Int) (x17 : List (tBar)) (Kx0w3 : List (tBar) → Prop) : Prop :=
 if (decide (x16 < (x15.length : Int))) = true then (grd (decide (0 ≤ x16) && decide (x16 < (x15.length : Int))) (laws_toBar.c n ((rd x15 (Int.toNat x16)).1) (((rd x15 (Int.toNat x16)).2).1) ((((rd x15 (Int.toNat x16)).2).2).1) ((((rd x15 (Int.toNat x16)).2).2).2) (fun r23 r24 r25 r26 => grd (decide (0 ≤ x16) && decide (x16 < (x17.length : Int))) (let t27 : List (tBar) := List.set x17 (Int.toNat x16) (r23, r24, r25, r26); again3 (IntKind.wrap .i64 (x16 + 1)) t27)))) else (Kx0w3 x17)
def laws_toBarS.l3 : Nat → List (tBar) → Int → List (tBar) → (List (tBar) → Prop) → Prop
 | 0, _, _, _, _ => False
 | n + 1, x15, x16, x17, Kx0w3 => laws_toBarS.l3.b n  x15 (fun x16q x17q => laws_toBarS.l3 n x15 x16q x17q Kx0w3) x16 x17 Kx0w3
def laws_toBarS.w (n : Nat) (lp3 : List (tBar) → Int → List (tBar) → (List (tBar) → Prop) → Prop) (a1 : List (tBar)) (K : List (tBar) → Prop) : Prop :=
 grd ((decide (0 ≤ (a1.length : Int)) && decide ((a1.length : Int) ≤ 1436096819952)) && decide ((a1.length : Int) = (a1.length : Int))) (let t2 : List (tBar) := List.replicate (Int.toNat (a1.length : Int)) (0, 0, 0, ([] : List (Int))); lp3 a1 0 t2 (fun y29 => K y29))
def laws_toBarS.c : Nat → List (tBar) → (List (tBar) → Prop) → Prop
 | 0, _, _ => False
 | n + 1, a1, K => laws_toBarS.w n (laws_toBarS.l3 n) a1 K
def spec_l3SameBits.l4.b (n : Nat) (x18 : Int) (x19 : List Int) (x20 : Int) (x21 : List Int) (again4 : Int → Prop) (x17 : Int) (Kx0w4 : Prop) (Kr4 : Bool → Prop) : Prop :=
 if (decide (x17 < (x19.length : Int))) = true then (grd (decide (0 ≤ x17) && decide (x17 < (x19.length : Int))) (grd (decide (0 ≤ x17) && decide (x17 < (x21.length : Int))) (let t25 : Bool := !(decide (rd x19 (Int.toNat x17) = rd x21 (Int.toNat x17))); if t25 = true then (Kr4 false) else (again4 (IntKind.wrap .i64 (x17 + 1)))))) else (Kx0w4)
def spec_l3SameBits.l4 : Nat → Int → List Int → Int → List Int → Int → Prop → (Bool → Prop) → Prop
 | 0, _, _, _, _, _, _, _ => False
 | n + 1, x18, x19, x20, x21, x17, Kx0w4, Kr4 => spec_l3SameBits.l4.b n  x18 x19 x20 x21 (fun x17q => spec_l3SameBits.l4 n x18 x19 x20 x21 x17q Kx0w4 Kr4) x17 Kx0w4 Kr4
def spec_l3SameBits.w (n : Nat) (lp4 : Int → List Int → Int → List Int → Int → Prop → (Bool → Prop) → Prop) (a1 : Int) (a2 : List Int) (a3 : Int) (a4 : List Int) (K : Bool → Prop) : Prop :=
 if (!(decide (a1 = a3))) = false then (let t32 : Bool := !(decide ((a2.length : Int) = (a4.length : Int))); if t32 = true then (K false) else (lp4 a1 a2 a3 a4 0 (K true) (fun y34 => K y34))) else (K false)
def spec_l3SameBits.c : Nat → Int → List Int → Int → List Int → (Bool → Prop) → Prop
 | 0, _, _, _, _, _ => False
 | n + 1, a1, a2, a3, a4, K => spec_l3SameBits.w n (spec_l3SameBits.l4 n) a1 a2 a3 a4 K
def spec_l9SameBar.w (n : Nat) (a1 : Int) (a2 : Int) (a3 : Int) (a4 : List Int) (a5 : Int) (a6 : Int) (a7 : Int) (a8 : List Int) (K : Bool → Prop) : Prop :=
 if (decide (a1 = a5)) = true then (if (decide (a2 = a6)) = true then (spec_l3SameBits.c n a3 a4 a7 a8 (fun r11 => K r11)) else (K false)) else (K false)
def spec_l9SameBar.c : Nat → Int → Int → Int → List Int → Int → Int → Int → List Int → (Bool → Prop) → Prop
 | 0, _, _, _, _, _, _, _, _, _ => False
 | n + 1, a1, a2, a3, a4, a5, a6, a7, a8, K => spec_l9SameBar.w n  a1 a2 a3 a4 a5 a6 a7 a8 K
def spec_l8CopyBits.w (n : Nat) (a1 : Int) (a2 : List Int) (K : Int → List Int → Prop) : Prop :=
 ((grd (decide (([] : List (Int)).length + a2.length ≤ 7818749353073)) (K a1 (([] : List (Int)) ++ a2))) ∧ (grd (decide (([] : List (Int)).length + a2.length ≤ 7818749353073)) (K a1 (([] : List (Int)) ++ a2)))) ∧ ((grd (decide (([] : List (Int)).length + a2.length ≤ 7818749353073)) (K a1 (([] : List (Int)) ++ a2))) ∧ (grd (decide (([] : List (Int)).length + a2.length ≤ 7818749353073)) (K a1 (([] : List (Int)) ++ a2)))) ∧ ((grd (decide (([] : List (Int)).length + a2.length ≤ 7818749353073)) (K a1 (([] : List (Int)) ++ a2))) ∧ ((grd (decide (([] : List (Int)).length + a2.length ≤ 7818749353073)) (K a1 (([] : List (Int)) ++ a2))) ∧ (grd (decide (([] : List (Int)).length + a2.length ≤ 7818749353073)) (K a1 (([] : List (Int)) ++ a2)))))
def spec_l8CopyBits.c : Nat → Int → List Int → (Int → List Int → Prop) → Prop
 | 0, _, _, _ => False
 | n + 1, a1, a2, K => spec_l8CopyBits.w n  a1 a2 K
def spec_l9Put.l2.b (n : Nat) (x17 : List (tBar)) (x18 : Int) (x19 : Int) (x20 : Int) (x21 : List Int) (again2 : Int → Prop) (x16 : Int) (Kx0w2 : List (tBar) → Int → Int → Int → List Int → Prop) (Kr2 : List (tBar) → Prop) : Prop :=
 if (decide (x16 < (x17.length : Int))) = true then (grd (decide (0 ≤ x16) && decide (x16 < (x17.length : Int))) (spec_l9SameBar.c n ((rd x17 (Int.toNat x16)).1) (((rd x17 (Int.toNat x16)).2).1) ((((rd x17 (Int.toNat x16)).2).2).1) ((((rd x17 (Int.toNat x16)).2).2).2) x18 x19 x20 x21 (fun r25 => if r25 = true then (Kr2 x17) else (again2 (IntKind.wrap .i64 (x16 + 1)))))) else (Kx0w2 x17 x18 x19 x20 x21)
def spec_l9Put.l2 : Nat → List (tBar) → Int → Int → Int → List Int → Int → (List (tBar) → Int → Int → Int → List Int → Prop) → (List (tBar) → Prop) → Prop
 | 0, _, _, _, _, _, _, _, _ => False
 | n + 1, x17, x18, x19, x20, x21, x16, Kx0w2, Kr2 => spec_l9Put.l2.b n  x17 x18 x19 x20 x21 (fun x16q => spec_l9Put.l2 n x17 x18 x19 x20 x21 x16q Kx0w2 Kr2) x16 Kx0w2 Kr2
def spec_l9Put.w (n : Nat) (lp2 : List (tBar) → Int → Int → Int → List Int → Int → (List (tBar) → Int → Int → Int → List Int → Prop) → (List (tBar) → Prop) → Prop) (a1 : List (tBar)) (a2 : Int) (a3 : Int) (a4 : Int) (a5 : List Int) (K : List (tBar) → Prop) : Prop :=
 lp2 a1 a2 a3 a4 a5 0 (fun y32 y33 y34 y35 y36 => ((spec_l8CopyBits.c n y35 y36 (fun r53 r54 => let t55 : List (tBar) := ([(y33, y34, r53, r54)] : List (tBar)); grd (decide (y32.length + t55.length ≤ 1436096819952)) (K (y32 ++ t55)))) ∧ (spec_l8CopyBits.c n y35 y36 (fun r56 r57 => let t58 : List (tBar) := ([(y33, y34, r56, r57)] : List (tBar)); grd (decide (y32.length + t58.length ≤ 1436096819952)) (K (y32 ++ t58))))) ∧ ((spec_l8CopyBits.c n y35 y36 (fun r59 r60 => let t61 : List (tBar) := ([(y33, y34, r59, r60)] : List (tBar)); grd (decide (y32.length + t61.length ≤ 1436096819952)) (K (y32 ++ t61)))) ∧ (spec_l8CopyBits.c n y35 y36 (fun r62 r63 => let t64 : List (tBar) := ([(y33, y34, r62, r63)] : List (tBar)); grd (decide (y32.length + t64.length ≤ 1436096819952)) (K (y32 ++ t64))))) ∧ (spec_l8CopyBits.c n y35 y36 (fun r65 r66 => let t67 : List (tBar) := ([(y33, y34, r65, r66)] : List (tBar)); grd (decide (y32.length + t67.length ≤ 1436096819952)) (K (y32 ++ t67))))) (fun y68 => K y68)
def spec_l9Put.c : Nat → List (tBar) → Int → Int → Int → List Int → (List (tBar) → Prop) → Prop
 | 0, _, _, _, _, _, _ => False
 | n + 1, a1, a2, a3, a4, a5, K => spec_l9Put.w n (spec_l9Put.l2 n) a1 a2 a3 a4 a5 K
def slices_Equal_uint64.l4.b (n : Nat) (x13 : List Int) (x14 : List Int) (x15 : Int) (again4 : Int → Prop) (x16 : Int) (Kx0w4 : Prop) (Kr4 : Bool → Prop) : Prop :=
 if (decide (x16 < x15)) = true then (grd (decide (0 ≤ x16) && decide (x16 < (x13.length : Int))) (grd (decide (0 ≤ x16) && decide (x16 < (x14.length : Int))) (let t20 : Bool := !(decide (rd x13 (Int.toNat x16) = rd x14 (Int.toNat x16))); if t20 = true then (Kr4 false) else (again4 (IntKind.wrap .i64 (x16 + 1)))))) else (Kx0w4)
def slices_Equal_uint64.l4 : Nat → List Int → List Int → Int → Int → Prop → (Bool → Prop) → Prop
 | 0, _, _, _, _, _, _ => False
 | n + 1, x13, x14, x15, x16, Kx0w4, Kr4 => slices_Equal_uint64.l4.b n  x13 x14 x15 (fun x16q => slices_Equal_uint64.l4 n x13 x14 x15 x16q Kx0w4 Kr4) x16 Kx0w4 Kr4
def slices_Equal_uint64.w (n : Nat) (lp4 : List Int → List Int → Int → Int → Prop → (Bool → Prop) → Prop) (a1 : List Int) (a2 : List Int) (K : Bool → Prop) : Prop :=
 let t4 : Bool := !(decide ((a1.length : Int) = (a2.length : Int))); if t4 = true then (K false) else (lp4 a1 a2 (a1.length : Int) 0 (K true) (fun y22 => K y22))
def slices_Equal_uint64.c : Nat → List Int → List Int → (Bool → Prop) → Prop
 | 0, _, _, _ => False
 | n + 1, a1, a2, K => slices_Equal_uint64.w n (slices_Equal_uint64.l4 n) a1 a2 K
def impl_Bits_same.w (n : Nat) (a1 : Int) (a2 : List Int) (a3 : Int) (a4 : List Int) (K : Bool → Prop) : Prop :=
 if (decide (a1 = a3)) = true then (slices_Equal_uint64.c n a2 a4 (fun r7 => K r7)) else (K false)
def impl_Bits_same.c : Nat → Int → List Int → Int → List Int → (Bool → Prop) → Prop
 | 0, _, _, _, _, _ => False
 | n + 1, a1, a2, a3, a4, K => impl_Bits_same.w n  a1 a2 a3 a4 K
def laws_eqUint64S.l4.b (n : Nat) (x12 : List Int) (x13 : List Int) (again4 : Int → Prop) (x14 : Int) (Kx0w4 : Prop) (Kr4 : Bool → Prop) : Prop :=
 if (decide (x14 < (x12.length : Int))) = true then (grd (decide (0 ≤ x14) && decide (x14 < (x12.length : Int))) (grd (decide (0 ≤ x14) && decide (x14 < (x13.length : Int))) (let t18 : Bool := !(decide (rd x12 (Int.toNat x14) = rd x13 (Int.toNat x14))); if t18 = true then (Kr4 false) else (again4 (IntKind.wrap .i64 (x14 + 1)))))) else (Kx0w4)
def laws_eqUint64S.l4 : Nat → List Int → List Int → Int → Prop → (Bool → Prop) → Prop
 | 0, _, _, _, _, _ => False
 | n + 1, x12, x13, x14, Kx0w4, Kr4 => laws_eqUint64S.l4.b n  x12 x13 (fun x14q => laws_eqUint64S.l4 n x12 x13 x14q Kx0w4 Kr4) x14 Kx0w4 Kr4
def laws_eqUint64S.w (n : Nat) (lp4 : List Int → List Int → Int → Prop → (Bool → Prop) → Prop) (a1 : List Int) (a2 : List Int) (K : Bool → Prop) : Prop :=
 let t4 : Bool := !(decide ((a1.length : Int) = (a2.length : Int))); if t4 = true then (K false) else (lp4 a1 a2 0 (K true) (fun y20 => K y20))
def laws_eqUint64S.c : Nat → List Int → List Int → (Bool → Prop) → Prop
 | 0, _, _, _ => False
 | n + 1, a1, a2, K => laws_eqUint64S.w n (laws_eqUint64S.l4 n) a1 a2 K
def laws_eqBits.w (n : Nat) (a1 : Int) (a2 : List Int) (a3 : Int) (a4 : List Int) (K : Bool → Prop) : Prop :=
 if (!(decide (a1 = a3))) = true then (K false) else (laws_eqUint64S.c n a2 a4 (fun r6 => if (!r6) = true then (K false) else (K true)))
def laws_eqBits.c : Nat → Int → List Int → Int → List Int → (Bool → Prop) → Prop
 | 0, _, _, _, _, _ => False
 | n + 1, a1, a2, a3, a4, K => laws_eqBits.w n  a1 a2 a3 a4 K
def laws_eqBar.w (n : Nat) (a1 : Int) (a2 : Int) (a3 : Int) (a4 : List Int) (a5 : Int) (a6 : Int) (a7 : Int) (a8 : List Int) (K : Bool → Prop) : Prop :=
 if (!(decide (a1 = a5))) = true then (K false) else (if (!(decide (a2 = a6))) = true then (K false) else (laws_eqBits.c n a3 a4 a7 a8 (fun r10 => if (!r10) = true then (K false) else (K true))))
def laws_eqBar.c : Nat → Int → Int → Int → List Int → Int → Int → Int → List Int → (Bool → Prop) → Prop
 | 0, _, _, _, _, _, _, _, _, _ => False
 | n + 1, a1, a2, a3, a4, a5, a6, a7, a8, K => laws_eqBar.w n  a1 a2 a3 a4 a5 a6 a7 a8 K
def laws_eqBarS.l4.b (n : Nat) (x12 : List (tBar)) (x13 : List (tBar)) (again4 : Int → Prop) (x14 : Int) (Kx0w4 : Prop) (Kr4 : Bool → Prop) : Prop :=
 if (decide (x14 < (x12.length : Int))) = true then (grd (decide (0 ≤ x14) && decide (x14 < (x12.length : Int))) (grd (decide (0 ≤ x14) && decide (x14 < (x13.length : Int))) (laws_eqBar.c n ((rd x12 (Int.toNat x14)).1) (((rd x12 (Int.toNat x14)).2).1) ((((rd x12 (Int.toNat x14)).2).2).1) ((((rd x12 (Int.toNat x14)).2).2).2) ((rd x13 (Int.toNat x14)).1) (((rd x13 (Int.toNat x14)).2).1) ((((rd x13 (Int.toNat x14)).2).2).1) ((((rd x13 (Int.toNat x14)).2).2).2) (fun r18 => if (!r18) = true then (Kr4 false) else (again4 (IntKind.wrap .i64 (x14 + 1))))))) else (Kx0w4)
def laws_eqBarS.l4 : Nat → List (tBar) → List (tBar) → Int → Prop → (Bool → Prop) → Prop
 | 0, _, _, _, _, _ => False
 | n + 1, x12, x13, x14, Kx0w4, Kr4 => laws_eqBarS.l4.b n  x12 x13 (fun x14q => laws_eqBarS.l4 n x12 x13 x14q Kx0w4 Kr4) x14 Kx0w4 Kr4
def laws_eqBarS.w (n : Nat) (lp4 : List (tBar) → List (tBar) → Int → Prop → (Bool → Prop) → Prop) (a1 : List (tBar)) (a2 : List (tBar)) (K : Bool → Prop) : Prop :=
 let t4 : Bool := !(decide ((a1.length : Int) = (a2.length : Int))); if t4 = true then (K false) else (lp4 a1 a2 0 (K true) (fun y20 => K y20))
def laws_eqBarS.c : Nat → List (tBar) → List (tBar) → (Bool → Prop) → Prop
 | 0, _, _, _ => False
 | n + 1, a1, a2, K => laws_eqBarS.w n (laws_eqBarS.l4 n) a1 a2 K
def laws_szInt64S.w (n : Nat) (a1 : List Int) (a2 : Int) (K : Int → Prop) : Prop :=
 let t4 : Bool := decide (IntKind.wrap .i64 (a2 - (a1.length : Int)) < 0); if t4 = true then (K (-1)) else (K (IntKind.wrap .i64 (a2 - (a1.length : Int))))
def laws_szInt64S.c : Nat → List Int → Int → (Int → Prop) → Prop
 | 0, _, _, _ => False
 | n + 1, a1, a2, K => laws_szInt64S.w n  a1 a2 K
def laws_szGraph.w (n : Nat) (a1 : List Int) (a2 : List (tBar)) (a3 : Int) (K : Int → Prop) : Prop :=
 laws_szInt64S.c n a1 a3 (fun r4 => if (decide (r4 < 0)) = true then (K (-1)) else (laws_szBarS.c n a2 r4 (fun r5 => if (decide (r5 < 0)) = true then (K (-1)) else (K r5))))
def laws_szGraph.c : Nat → List Int → List (tBar) → Int → (Int → Prop) → Prop
 | 0, _, _, _, _ => False
 | n + 1, a1, a2, a3, K => laws_szGraph.w n  a1 a2 a3 K
def laws_toInt64S.l3.b (n : Nat) (x8 : List Int) (again3 : Int → List Int → Prop) (x9 : Int) (x10 : List Int) (Kx0w3 : List Int → Prop) : Prop :=
 if (decide (x9 < (x8.length : Int))) = true then (grd (decide (0 ≤ x9) && decide (x9 < (x8.length : Int))) (grd (decide (0 ≤ x9) && decide (x9 < (x10.length : Int))) (let t12 : List Int := List.set x10 (Int.toNat x9) (rd x8 (Int.toNat x9)); again3 (IntKind.wrap .i64 (x9 + 1)) t12))) else (Kx0w3 x10)
def laws_toInt64S.l3 : Nat → List Int → Int → List Int → (List Int → Prop) → Prop
 | 0, _, _, _, _ => False
 | n + 1, x8, x9, x10, Kx0w3 => laws_toInt64S.l3.b n  x8 (fun x9q x10q => laws_toInt64S.l3 n x8 x9q x10q Kx0w3) x9 x10 Kx0w3
def laws_toInt64S.w (n : Nat) (lp3 : List Int → Int → List Int → (List Int → Prop) → Prop) (a1 : List Int) (K : List Int → Prop) : Prop :=
 grd ((decide (0 ≤ (a1.length : Int)) && decide ((a1.length : Int) ≤ 7818749353073)) && decide ((a1.length : Int) = (a1.length : Int))) (let t2 : List Int := List.replicate (Int.toNat (a1.length : Int)) 0; lp3 a1 0 t2 (fun y14 => K y14))
def laws_toInt64S.c : Nat → List Int → (List Int → Prop) → Prop
 | 0, _, _ => False
 | n + 1, a1, K => laws_toInt64S.w n (laws_toInt64S.l3 n) a1 K
def laws_toGraph.w (n : Nat) (a1 : List Int) (a2 : List (tBar)) (K : List Int → List (tBar) → Prop) : Prop :=
 laws_toInt64S.c n a1 (fun r3 => laws_toBarS.c n a2 (fun r4 => K r3 r4))
def laws_toGraph.c : Nat → List Int → List (tBar) → (List Int → List (tBar) → Prop) → Prop
 | 0, _, _, _ => False
 | n + 1, a1, a2, K => laws_toGraph.w n  a1 a2 K
def spec_l1In.w (n : Nat) (a1 : Int) (a2 : Int) (a3 : Int) (K : Bool → Prop) : Prop :=
 if (decide (a1 ≥ a2)) = true then (K (decide (a1 ≤ a3))) else (K false)
def spec_l1In.c : Nat → Int → Int → Int → (Bool → Prop) → Prop
 | 0, _, _, _, _ => False
 | n + 1, a1, a2, a3, K => spec_l1In.w n  a1 a2 a3 K
def spec_l3NoBits.w (n : Nat) (a1 : Int) (a2 : List Int) (K : Bool → Prop) : Prop :=
 if (decide (a1 = 0)) = true then (K (decide ((a2.length : Int) = 0))) else (K false)
def spec_l3NoBits.c : Nat → Int → List Int → (Bool → Prop) → Prop
 | 0, _, _, _ => False
 | n + 1, a1, a2, K => spec_l3NoBits.w n  a1 a2 K
def spec_l1Bit.w (n : Nat) (a1 : Int) (a2 : List Int) (a3 : Int) (K : Int → Prop) : Prop :=
 grd (decide (0 ≤ IntKind.wrap .i64 (Int.tdiv a3 64)) && decide (IntKind.wrap .i64 (Int.tdiv a3 64) < (a2.length : Int))) (let t4 : Int := rd a2 (Int.toNat (IntKind.wrap .i64 (Int.tdiv a3 64))); grd (decide (0 ≤ IntKind.wrap .u64 (Int.tmod a3 64))) (let t5 : Int := Int.fdiv t4 (2 ^ (Nat.min (Int.toNat (IntKind.wrap .u64 (Int.tmod a3 64))) 64)); K (IntKind.wrap .u8 (ibits .and .u64 t5 1))))
def spec_l1Bit.c : Nat → Int → List Int → Int → (Int → Prop) → Prop
 | 0, _, _, _, _ => False
 | n + 1, a1, a2, a3, K => spec_l1Bit.w n  a1 a2 a3 K
def spec_BitsOk.l4.b (n : Nat) (x16 : Int) (x17 : List Int) (again4 : Int → Prop) (x15 : Int) (Kx0w4 : Prop) (Kr4 : Bool → Prop) : Prop :=
 let t19 : Bool := decide (x15 < IntKind.wrap .i64 (64 * (x17.length : Int))); if t19 = true then (spec_l1Bit.c n x16 x17 x15 (fun r21 => if (!(decide (r21 = 0))) = true then (Kr4 false) else (again4 (IntKind.wrap .i64 (x15 + 1))))) else (Kx0w4)
def spec_BitsOk.l4 : Nat → Int → List Int → Int → Prop → (Bool → Prop) → Prop
 | 0, _, _, _, _, _ => False
 | n + 1, x16, x17, x15, Kx0w4, Kr4 => spec_BitsOk.l4.b n  x16 x17 (fun x15q => spec_BitsOk.l4 n x16 x17 x15q Kx0w4 Kr4) x15 Kx0w4 Kr4
def spec_BitsOk.w (n : Nat) (lp4 : Int → List Int → Int → Prop → (Bool → Prop) → Prop) (a1 : Int) (a2 : List Int) (K : Bool → Prop) : Prop :=
 spec_l1In.c n a1 1 4096 (fun r29 => if (!r29) = false then (let t30 : Int := IntKind.wrap .i64 (Int.tdiv (IntKind.wrap .i64 (a1 + 63)) 64); if (!(decide ((a2.length : Int) = t30))) = true then (K false) else (lp4 a1 a2 a1 (K true) (fun y32 => K y32))) else (K false))
def spec_BitsOk.c : Nat → Int → List Int → (Bool → Prop) → Prop
 | 0, _, _, _ => False
 | n + 1, a1, a2, K => spec_BitsOk.w n (spec_BitsOk.l4 n) a1 a2 K
def spec_GraphOk.l5.b (n : Nat) (x10 : Int) (x12 : List Int) (x13 : List (tBar)) (again5 : Int → Prop) (x11 : Int) (Kx0w5 : Int → List Int → List (tBar) → Prop) (Kr5 : Bool → Prop) : Prop :=
 if (decide (x11 < x10)) = true then (grd (decide (0 ≤ x11) && decide (x11 < (x12.length : Int))) (spec_l1In.c n (rd x12 (Int.toNat x11)) 1 4096 (fun r15 => if (!r15) = true then (Kr5 false) else (again5 (IntKind.wrap .i64 (x11 + 1)))))) else (Kx0w5 x10 x12 x13)
def spec_GraphOk.l5 : Nat → Int → List Int → List (tBar) → Int → (Int → List Int → List (tBar) → Prop) → (Bool → Prop) → Prop
 | 0, _, _, _, _, _, _ => False
 | n + 1, x10, x12, x13, x11, Kx0w5, Kr5 => spec_GraphOk.l5.b n  x10 x12 x13 (fun x11q => spec_GraphOk.l5 n x10 x12 x13 x11q Kx0w5 Kr5) x11 Kx0w5 Kr5
def spec_GraphOk.q14.b (n : Nat) (x30 : Int) (x31 : Int) (x32 : Bool) (x33 : List Int) (x34 : List (tBar)) (x35 : Int) (x36 : Int) (x37 : Int) (x38 : List Int) (Kc14w0 : Bool → Prop) (Kc14w1 : Int → Int → List Int → List (tBar) → Int → Int → Int → List Int → Prop) : Prop :=
 if x32 = true then (Kc14w0 false) else (Kc14w1 x30 x31 x33 x34 x35 x36 x37 x38)
def spec_GraphOk.q14 : Nat → Int → Int → Bool → List Int → List (tBar) → Int → Int → Int → List Int → (Bool → Prop) → (Int → Int → List Int → List (tBar) → Int → Int → Int → List Int → Prop) → Prop
 | 0, _, _, _, _, _, _, _, _, _, _, _ => False
 | n + 1, x30, x31, x32, x33, x34, x35, x36, x37, x38, Kc14w0, Kc14w1 => spec_GraphOk.q14.b n  x30 x31 x32 x33 x34 x35 x36 x37 x38  Kc14w0 Kc14w1
def spec_GraphOk.j0 (Kc15w0 : Bool → Prop) (Kc15w1 : Int → Int → List Int → List (tBar) → Prop) (n : Nat) (x48 : Int) (x49 : Int) (x50 : List Int) (x51 : List (tBar)) (x52 : Int) (x53 : Int) (x54 : Int) (x55 : List Int) : Prop :=
 if (decide (x53 < 0)) = true then (spec_BitsOk.c n x54 x55 (fun r63 => if (!r63) = false then (grd (decide (0 ≤ x52) && decide (x52 < (x50.length : Int))) (if (!(decide (x54 = rd x50 (Int.toNat x52)))) = true then (Kc15w0 false) else (Kc15w1 x48 x49 x50 x51))) else (Kc15w0 false))) else (Kc15w1 x48 x49 x50 x51)
def spec_GraphOk.q15.b (n : Nat) (x48 : Int) (x49 : Int) (x50 : List Int) (x51 : List (tBar)) (x52 : Int) (x53 : Int) (x54 : Int) (x55 : List Int) (Kc15w0 : Bool → Prop) (Kc15w1 : Int → Int → List Int → List (tBar) → Prop) : Prop :=
 if (decide (x53 ≥ 0)) = true then (grd (decide (0 ≤ x53) && decide (x53 < (x50.length : Int))) (grd (decide (0 ≤ x52) && decide (x52 < (x50.length : Int))) (let t67 : Bool := !(decide (rd x50 (Int.toNat x53) = rd x50 (Int.toNat x52))); if t67 = false then (spec_l3NoBits.c n x54 x55 (fun r68 => if (!r68) = true then (Kc15w0 false) else (spec_GraphOk.j0 Kc15w0 Kc15w1 n x48 x49 x50 x51 x52 x53 x54 x55))) else (Kc15w0 false)))) else (spec_GraphOk.j0 Kc15w0 Kc15w1 n x48 x49 x50 x51 x52 x53 x54 x55)
def spec_GraphOk.q15 : Nat → Int → Int → List Int → List (tBar) → Int → Int → Int → List Int → (Bool → Prop) → (Int → Int → List Int → List (tBar) → Prop) → Prop
 | 0, _, _, _, _, _, _, _, _, _, _ => False
 | n + 1, x48, x49, x50, x51, x52, x53, x54, x55, Kc15w0, Kc15w1 => spec_GraphOk.q15.b n  x48 x49 x50 x51 x52 x53 x54 x55  Kc15w0 Kc15w1
def spec_GraphOk.l10.b (n : Nat) (lpq14 : Int → Int → Bool → List Int → List (tBar) → Int → Int → Int → List Int → (Bool → Prop) → (Int → Int → List Int → List (tBar) → Int → Int → Int → List Int → Prop) → Prop) (lpq15 : Int → Int → List Int → List (tBar) → Int → Int → Int → List Int → (Bool → Prop) → (Int → Int → List Int → List (tBar) → Prop) → Prop) (again10 : Int → Int → List Int → List (tBar) → Prop) (x151 : Int) (x152 : Int) (x153 : List Int) (x154 : List (tBar)) (Kx2w10 : Prop) (Kr10 : Bool → Prop) : Prop :=
 if (decide (x152 < (x154.length : Int))) = true then (grd (decide (0 ≤ x152) && decide (x152 < (x154.length : Int))) (spec_l1In.c n ((rd x154 (Int.toNat x152)).1) 0 (IntKind.wrap .i64 (x151 - 1)) (fun r204 => if (!r204) = false then (spec_l1In.c n (((rd x154 (Int.toNat x152)).2).1) (-1) (IntKind.wrap .i64 (x151 - 1)) (fun r205 => if (!r205) = false then (let t206 : Bool := decide ((rd x154 (Int.toNat x152)).1 = ((rd x154 (Int.toNat x152)).2).1); lpq14 x151 x152 t206 x153 x154 ((rd x154 (Int.toNat x152)).1) (((rd x154 (Int.toNat x152)).2).1) ((((rd x154 (Int.toNat x152)).2).2).1) ((((rd x154 (Int.toNat x152)).2).2).2) (fun y207 => Kr10 y207) (fun y208 y209 y210 y211 y212 y213 y214 y215 => lpq15 y208 y209 y210 y211 y212 y213 y214 y215 (fun y216 => Kr10 y216) (fun y217 y218 y219 y220 => again10 y217 (IntKind.wrap .i64 (y218 + 1)) y219 y220))) else (lpq14 x151 x152 true x153 x154 ((rd x154 (Int.toNat x152)).1) (((rd x154 (Int.toNat x152)).2).1) ((((rd x154 (Int.toNat x152)).2).2).1) ((((rd x154 (Int.toNat x152)).2).2).2) (fun y221 => Kr10 y221) (fun y222 y223 y224 y225 y226 y227 y228 y229 => lpq15 y222 y223 y224 y225 y226 y227 y228 y229 (fun y230 => Kr10 y230) (fun y231 y232 y233 y234 => again10 y231 (IntKind.wrap .i64 (y232 + 1)) y233 y234))))) else (lpq14 x151 x152 true x153 x154 ((rd x154 (Int.toNat x152)).1) (((rd x154 (Int.toNat x152)).2).1) ((((rd x154 (Int.toNat x152)).2).2).1) ((((rd x154 (Int.toNat x152)).2).2).2) (fun y235 => Kr10 y235) (fun y236 y237 y238 y239 y240 y241 y242 y243 => lpq15 y236 y237 y238 y239 y240 y241 y242 y243 (fun y244 => Kr10 y244) (fun y245 y246 y247 y248 => again10 y245 (IntKind.wrap .i64 (y246 + 1)) y247 y248)))))) else (Kx2w10)
def spec_GraphOk.l10 : Nat → Int → Int → List Int → List (tBar) → Prop → (Bool → Prop) → Prop
 | 0, _, _, _, _, _, _ => False
 | n + 1, x151, x152, x153, x154, Kx2w10, Kr10 => spec_GraphOk.l10.b n (spec_GraphOk.q14 n) (spec_GraphOk.q15 n)  (fun x151q x152q x153q x154q => spec_GraphOk.l10 n x151q x152q x153q x154q Kx2w10 Kr10) x151 x152 x153 x154 Kx2w10 Kr10
def spec_GraphOk.j1 (K : Bool → Prop) (a1 : List Int) (a2 : List (tBar)) (lp5 : Int → List Int → List (tBar) → Int → (Int → List Int → List (tBar) → Prop) → (Bool → Prop) → Prop) (lp10 : Int → Int → List Int → List (tBar) → Prop → (Bool → Prop) → Prop) (j252 : Bool) : Prop :=
 if j252 = true then (K false) else (lp5 (a1.length : Int) a1 a2 0 (fun y257 y258 y259 => lp10 y257 0 y258 y259 (K true) (fun y261 => K y261)) (fun y262 => K y262))
def spec_GraphOk.w (n : Nat) (lp5 : Int → List Int → List (tBar) → Int → (Int → List Int → List (tBar) → Prop) → (Bool → Prop) → Prop) (lp10 : Int → Int → List Int → List (tBar) → Prop → (Bool → Prop) → Prop) (a1 : List Int) (a2 : List (tBar)) (K : Bool → Prop) : Prop :=
 if (decide ((a1.length : Int) > 200)) = false then (spec_GraphOk.j1 K a1 a2 lp5 lp10 (decide ((a2.length : Int) > 1000))) else (spec_GraphOk.j1 K a1 a2 lp5 lp10 true)
def spec_GraphOk.c : Nat → List Int → List (tBar) → (Bool → Prop) → Prop
 | 0, _, _, _ => False
 | n + 1, a1, a2, K => spec_GraphOk.w n (spec_GraphOk.l5 n) (spec_GraphOk.l10 n) a1 a2 K
def impl_inside.w (n : Nat) (a1 : Int) (a2 : Int) (a3 : Int) (K : Bool → Prop) : Prop :=
 if (decide (a1 ≥ a2)) = true then (K (decide (a1 ≤ a3))) else (K false)
def impl_inside.c : Nat → Int → Int → Int → (Bool → Prop) → Prop
 | 0, _, _, _, _ => False
 | n + 1, a1, a2, a3, K => impl_inside.w n  a1 a2 a3 K
def impl_wordsFor.w (n : Nat) (a1 : Int) (K : Int → Prop) : Prop :=
 let t2 : Int := IntKind.wrap .i64 (Int.tdiv (IntKind.wrap .i64 (a1 + 63)) 64); K t2
def impl_wordsFor.c : Nat → Int → (Int → Prop) → Prop
 | 0, _, _ => False
 | n + 1, a1, K => impl_wordsFor.w n  a1 K
def impl_BitsOk.j0 (K : Bool → Prop) (a1 : Int) (a2 : List Int) : Prop :=
 if (decide (Int.tmod a1 64 = 0)) = false then (grd (decide (0 ≤ IntKind.wrap .i64 ((a2.length : Int) - 1)) && decide (IntKind.wrap .i64 ((a2.length : Int) - 1) < (a2.length : Int))) (let t13 : Int := rd a2 (Int.toNat (IntKind.wrap .i64 ((a2.length : Int) - 1))); grd (decide (0 ≤ Int.tmod a1 64)) (let t14 : Int := Int.fdiv t13 (2 ^ (Nat.min (Int.toNat (Int.tmod a1 64)) 64)); K (decide (t14 = 0))))) else (K true)
def impl_BitsOk.w (n : Nat) (a1 : Int) (a2 : List Int) (K : Bool → Prop) : Prop :=
 impl_inside.c n a1 1 4096 (fun r19 => if (!r19) = false then ((impl_wordsFor.c n a1 (fun r20 => if (!(decide ((a2.length : Int) = r20))) = true then (K false) else (impl_BitsOk.j0 K a1 a2))) ∧ (impl_wordsFor.c n a1 (fun r21 => if (!(decide ((a2.length : Int) = r21))) = true then (K false) else (impl_BitsOk.j0 K a1 a2)))) else ((K false) ∧ (K false)))
def impl_BitsOk.c : Nat → Int → List Int → (Bool → Prop) → Prop
 | 0, _, _, _ => False
 | n + 1, a1, a2, K => impl_BitsOk.w n  a1 a2 K
def impl_barOk.w (n : Nat) (a1 : List Int) (a2 : Int) (a3 : Int) (a4 : Int) (a5 : List Int) (K : Bool → Prop) : Prop :=
 impl_inside.c n a2 0 (IntKind.wrap .i64 ((a1.length : Int) - 1)) (fun r7 => if (!r7) = true then (K false) else (if (decide (a3 = (-1))) = true then (impl_BitsOk.c n a4 a5 (fun r13 => if r13 = true then (grd (decide (0 ≤ a2) && decide (a2 < (a1.length : Int))) (K (decide (a4 = rd a1 (Int.toNat a2))))) else (K false))) else (impl_inside.c n a3 0 (IntKind.wrap .i64 ((a1.length : Int) - 1)) (fun r17 => if r17 = true then (if (!(decide (a3 = a2))) = true then (grd (decide (0 ≤ a3) && decide (a3 < (a1.length : Int))) (grd (decide (0 ≤ a2) && decide (a2 < (a1.length : Int))) (let t18 : Bool := decide (rd a1 (Int.toNat a3) = rd a1 (Int.toNat a2)); if t18 = true then (if (decide (a4 = 0)) = true then (K (decide ((a5.length : Int) = 0))) else (K false)) else (K false)))) else (K false)) else (K false)))))
def impl_barOk.c : Nat → List Int → Int → Int → Int → List Int → (Bool → Prop) → Prop
 | 0, _, _, _, _, _, _ => False
 | n + 1, a1, a2, a3, a4, a5, K => impl_barOk.w n  a1 a2 a3 a4 a5 K
def impl_GraphOk_1.w (n : Nat) (a1 : Int) (a2 : Int) (a3 : Int) (a4 : List Int) (a5 : tGraph) (K : Bool → Prop) : Prop :=
 impl_barOk.c n a5.1 a1 a2 a3 a4 (fun r6 => K (!r6))
def impl_GraphOk_1.c : Nat → Int → Int → Int → List Int → tGraph → (Bool → Prop) → Prop
 | 0, _, _, _, _, _, _ => False
 | n + 1, a1, a2, a3, a4, a5, K => impl_GraphOk_1.w n  a1 a2 a3 a4 a5 K
def slices_IndexFunc_Bar__impl_GraphOk_1.l2.b (n : Nat) (x9 : List (tBar)) (x10 : tGraph) (x11 : Int) (again2 : Int → Prop) (x12 : Int) (Kx0w2 : Prop) (Kr2 : Int → Prop) : Prop :=
 if (decide (x12 < x11)) = true then (grd (decide (0 ≤ x12) && decide (x12 < (x9.length : Int))) (impl_GraphOk_1.c n ((rd x9 (Int.toNat x12)).1) (((rd x9 (Int.toNat x12)).2).1) ((((rd x9 (Int.toNat x12)).2).2).1) ((((rd x9 (Int.toNat x12)).2).2).2) x10 (fun r14 => if r14 = true then (Kr2 x12) else (again2 (IntKind.wrap .i64 (x12 + 1)))))) else (Kx0w2)
def slices_IndexFunc_Bar__impl_GraphOk_1.l2 : Nat → List (tBar) → tGraph → Int → Int → Prop → (Int → Prop) → Prop
 | 0, _, _, _, _, _, _ => False
 | n + 1, x9, x10, x11, x12, Kx0w2, Kr2 => slices_IndexFunc_Bar__impl_GraphOk_1.l2.b n  x9 x10 x11 (fun x12q => slices_IndexFunc_Bar__impl_GraphOk_1.l2 n x9 x10 x11 x12q Kx0w2 Kr2) x12 Kx0w2 Kr2
def slices_IndexFunc_Bar__impl_GraphOk_1.w (n : Nat) (lp2 : List (tBar) → tGraph → Int → Int → Prop → (Int → Prop) → Prop) (a1 : List (tBar)) (a2 : tGraph) (K : Int → Prop) : Prop :=
 lp2 a1 a2 (a1.length : Int) 0 (K (-1)) (fun y16 => K y16)
def slices_IndexFunc_Bar__impl_GraphOk_1.c : Nat → List (tBar) → tGraph → (Int → Prop) → Prop
 | 0, _, _, _ => False
 | n + 1, a1, a2, K => slices_IndexFunc_Bar__impl_GraphOk_1.w n (slices_IndexFunc_Bar__impl_GraphOk_1.l2 n) a1 a2 K
def slices_ContainsFunc_Bar__impl_GraphOk_1.w (n : Nat) (a1 : List (tBar)) (a2 : tGraph) (K : Bool → Prop) : Prop :=
 slices_IndexFunc_Bar__impl_GraphOk_1.c n a1 a2 (fun r3 => K (decide (r3 ≥ 0)))
def slices_ContainsFunc_Bar__impl_GraphOk_1.c : Nat → List (tBar) → tGraph → (Bool → Prop) → Prop
 | 0, _, _, _ => False
 | n + 1, a1, a2, K => slices_ContainsFunc_Bar__impl_GraphOk_1.w n  a1 a2 K
def impl_GraphOk.l4.b (n : Nat) (x11 : List Int) (x12 : Int) (x14 : List Int) (x15 : List (tBar)) (again4 : Int → Prop) (x13 : Int) (Kx0w4 : List Int → List (tBar) → Prop) (Kr4 : Bool → Prop) : Prop :=
 if (decide (x13 < x12)) = true then (grd (decide (0 ≤ x13) && decide (x13 < (x11.length : Int))) (impl_inside.c n (rd x11 (Int.toNat x13)) 1 4096 (fun r17 => if (!r17) = true then (Kr4 false) else (again4 (IntKind.wrap .i64 (x13 + 1)))))) else (Kx0w4 x14 x15)
def impl_GraphOk.l4 : Nat → List Int → Int → List Int → List (tBar) → Int → (List Int → List (tBar) → Prop) → (Bool → Prop) → Prop
 | 0, _, _, _, _, _, _, _ => False
 | n + 1, x11, x12, x14, x15, x13, Kx0w4, Kr4 => impl_GraphOk.l4.b n  x11 x12 x14 x15 (fun x13q => impl_GraphOk.l4 n x11 x12 x14 x15 x13q Kx0w4 Kr4) x13 Kx0w4 Kr4
def impl_GraphOk.j0 (K : Bool → Prop) (a1 : List Int) (a2 : List (tBar)) (lp4 : List Int → Int → List Int → List (tBar) → Int → (List Int → List (tBar) → Prop) → (Bool → Prop) → Prop) (n : Nat) (j25 : Bool) : Prop :=
 if j25 = true then (K false) else (lp4 a1 (a1.length : Int) a1 a2 0 (fun y29 y30 => slices_ContainsFunc_Bar__impl_GraphOk_1.c n y30 (y29, y30) (fun r31 => K (!r31))) (fun y32 => K y32))
def impl_GraphOk.w (n : Nat) (lp4 : List Int → Int → List Int → List (tBar) → Int → (List Int → List (tBar) → Prop) → (Bool → Prop) → Prop) (a1 : List Int) (a2 : List (tBar)) (K : Bool → Prop) : Prop :=
 if (decide ((a1.length : Int) > 200)) = false then (impl_GraphOk.j0 K a1 a2 lp4 n (decide ((a2.length : Int) > 1000))) else (impl_GraphOk.j0 K a1 a2 lp4 n true)
def impl_GraphOk.c : Nat → List Int → List (tBar) → (Bool → Prop) → Prop
 | 0, _, _, _ => False
 | n + 1, a1, a2, K => impl_GraphOk.w n (impl_GraphOk.l4 n) a1 a2 K
def laws_eqInt64S.l4.b (n : Nat) (x12 : List Int) (x13 : List Int) (again4 : Int → Prop) (x14 : Int) (Kx0w4 : Prop) (Kr4 : Bool → Prop) : Prop :=
 if (decide (x14 < (x12.length : Int))) = true then (grd (decide (0 ≤ x14) && decide (x14 < (x12.length : Int))) (grd (decide (0 ≤ x14) && decide (x14 < (x13.length : Int))) (let t18 : Bool := !(decide (rd x12 (Int.toNat x14) = rd x13 (Int.toNat x14))); if t18 = true then (Kr4 false) else (again4 (IntKind.wrap .i64 (x14 + 1)))))) else (Kx0w4)
def laws_eqInt64S.l4 : Nat → List Int → List Int → Int → Prop → (Bool → Prop) → Prop
 | 0, _, _, _, _, _ => False
 | n + 1, x12, x13, x14, Kx0w4, Kr4 => laws_eqInt64S.l4.b n  x12 x13 (fun x14q => laws_eqInt64S.l4 n x12 x13 x14q Kx0w4 Kr4) x14 Kx0w4 Kr4
def laws_eqInt64S.w (n : Nat) (lp4 : List Int → List Int → Int → Prop → (Bool → Prop) → Prop) (a1 : List Int) (a2 : List Int) (K : Bool → Prop) : Prop :=
 let t4 : Bool := !(decide ((a1.length : Int) = (a2.length : Int))); if t4 = true then (K false) else (lp4 a1 a2 0 (K true) (fun y20 => K y20))
def laws_eqInt64S.c : Nat → List Int → List Int → (Bool → Prop) → Prop
 | 0, _, _, _ => False
 | n + 1, a1, a2, K => laws_eqInt64S.w n (laws_eqInt64S.l4 n) a1 a2 K
def laws_eqGraph.w (n : Nat) (a1 : List Int) (a2 : List (tBar)) (a3 : List Int) (a4 : List (tBar)) (K : Bool → Prop) : Prop :=
 laws_eqInt64S.c n a1 a3 (fun r6 => if (!r6) = true then (K false) else (laws_eqBarS.c n a2 a4 (fun r8 => if (!r8) = true then (K false) else (K true))))
def laws_eqGraph.c : Nat → List Int → List (tBar) → List Int → List (tBar) → (Bool → Prop) → Prop
 | 0, _, _, _, _, _ => False
 | n + 1, a1, a2, a3, a4, K => laws_eqGraph.w n  a1 a2 a3 a4 K
def spec_l1Has.l2.b (n : Nat) (x6 : List Int) (x7 : Int) (again2 : Int → Prop) (x8 : Int) (Kx0w2 : Prop) (Kr2 : Bool → Prop) : Prop :=
 if (decide (x8 < (x6.length : Int))) = true then (grd (decide (0 ≤ x8) && decide (x8 < (x6.length : Int))) (if (decide (rd x6 (Int.toNat x8) = x7)) = true then (Kr2 true) else (again2 (IntKind.wrap .i64 (x8 + 1))))) else (Kx0w2)
def spec_l1Has.l2 : Nat → List Int → Int → Int → Prop → (Bool → Prop) → Prop
 | 0, _, _, _, _, _ => False
 | n + 1, x6, x7, x8, Kx0w2, Kr2 => spec_l1Has.l2.b n  x6 x7 (fun x8q => spec_l1Has.l2 n x6 x7 x8q Kx0w2 Kr2) x8 Kx0w2 Kr2
def spec_l1Has.w (n : Nat) (lp2 : List Int → Int → Int → Prop → (Bool → Prop) → Prop) (a1 : List Int) (a2 : Int) (K : Bool → Prop) : Prop :=
 lp2 a1 a2 0 (K false) (fun y10 => K y10)
def spec_l1Has.c : Nat → List Int → Int → (Bool → Prop) → Prop
 | 0, _, _, _ => False
 | n + 1, a1, a2, K => spec_l1Has.w n (spec_l1Has.l2 n) a1 a2 K
def spec_l7Rising.j1 (again8 : Int → List Int → Prop) (x20 : Int) (x21 : List Int) : Prop :=
 grd (decide (0 ≤ IntKind.wrap .i64 (x20 - 1)) && decide (IntKind.wrap .i64 (x20 - 1) < (x21.length : Int))) (let t25 : Int := rd x21 (Int.toNat (IntKind.wrap .i64 (x20 - 1))); grd (decide (0 ≤ x20) && decide (x20 < (x21.length : Int))) (again8 (IntKind.wrap .i64 (x20 - 1)) (List.set x21 (Int.toNat x20) t25)))
def spec_l7Rising.l8.b (n : Nat) (x18 : List Int) (x19 : Int) (again8 : Int → List Int → Prop) (x20 : Int) (x21 : List Int) (Kx2w8 : List Int → Int → Int → List Int → Prop) : Prop :=
 if (decide (x20 > 0)) = true then (grd (decide (0 ≤ IntKind.wrap .i64 (x20 - 1)) && decide (IntKind.wrap .i64 (x20 - 1) < (x21.length : Int))) (let t28 : Int := rd x21 (Int.toNat (IntKind.wrap .i64 (x20 - 1))); grd (decide (0 ≤ x19) && decide (x19 < (x18.length : Int))) (if (decide (t28 > rd x18 (Int.toNat x19))) = true then (spec_l7Rising.j1 again8 x20 x21) else (Kx2w8 x18 x19 x20 x21)))) else (Kx2w8 x18 x19 x20 x21)
def spec_l7Rising.l8 : Nat → List Int → Int → Int → List Int → (List Int → Int → Int → List Int → Prop) → Prop
 | 0, _, _, _, _, _ => False
 | n + 1, x18, x19, x20, x21, Kx2w8 => spec_l7Rising.l8.b n  x18 x19 (fun x20q x21q => spec_l7Rising.l8 n x18 x19 x20q x21q Kx2w8) x20 x21 Kx2w8
def spec_l7Rising.l3.b (n : Nat) (lp8 : List Int → Int → Int → List Int → (List Int → Int → Int → List Int → Prop) → Prop) (again3 : List Int → Int → List Int → Prop) (x49 : List Int) (x50 : Int) (x51 : List Int) (Kx0w3 : List Int → Prop) : Prop :=
 if (decide (x50 < (x49.length : Int))) = true then (grd (decide (0 ≤ x50) && decide (x50 < (x49.length : Int))) (spec_l1Has.c n x51 (rd x49 (Int.toNat x50)) (fun r65 => if r65 = true then (again3 x49 (IntKind.wrap .i64 (x50 + 1)) x51) else (grd (decide (0 ≤ x50) && decide (x50 < (x49.length : Int))) (grd (decide (x51.length + ([rd x49 (Int.toNat x50)] : List (Int)).length ≤ 7818749353073)) (let t66 : List Int := x51 ++ ([rd x49 (Int.toNat x50)] : List (Int)); lp8 x49 x50 (x51.length : Int) t66 (fun y71 y72 y73 y74 => grd (decide (0 ≤ y72) && decide (y72 < (y71.length : Int))) (grd (decide (0 ≤ y73) && decide (y73 < (y74.length : Int))) (let t75 : List Int := List.set y74 (Int.toNat y73) (rd y71 (Int.toNat y72)); again3 y71 (IntKind.wrap .i64 (y72 + 1)) t75))))))))) else (Kx0w3 x51)
def spec_l7Rising.l3 : Nat → List Int → Int → List Int → (List Int → Prop) → Prop
 | 0, _, _, _, _ => False
 | n + 1, x49, x50, x51, Kx0w3 => spec_l7Rising.l3.b n (spec_l7Rising.l8 n)  (fun x49q x50q x51q => spec_l7Rising.l3 n x49q x50q x51q Kx0w3) x49 x50 x51 Kx0w3
def spec_l7Rising.w (n : Nat) (lp3 : List Int → Int → List Int → (List Int → Prop) → Prop) (a1 : List Int) (K : List Int → Prop) : Prop :=
 lp3 a1 0 ([] : List (Int)) (fun y77 => K y77)
def spec_l7Rising.c : Nat → List Int → (List Int → Prop) → Prop
 | 0, _, _ => False
 | n + 1, a1, K => spec_l7Rising.w n (spec_l7Rising.l3 n) a1 K
def spec_l10Crowd.j3 (again4 : Int → List Int → List (tBar) → Prop) (n : Nat) (x18 : Int) (x19 : Int) (x20 : List Int) (x21 : List (tBar)) (x23 : List (tBar)) (j29 : Bool) : Prop :=
 if j29 = true then (spec_l9Put.c n x21 ((rd x23 (Int.toNat x19)).1) (((rd x23 (Int.toNat x19)).2).1) ((((rd x23 (Int.toNat x19)).2).2).1) ((((rd x23 (Int.toNat x19)).2).2).2) (fun r30 => again4 (IntKind.wrap .i64 (x19 + 1)) x20 r30)) else (if (decide ((rd x23 (Int.toNat x19)).1 = x18)) = true then (let t31 : List Int := ([((rd x23 (Int.toNat x19)).2).1] : List (Int)); grd (decide (x20.length + t31.length ≤ 7818749353073)) (again4 (IntKind.wrap .i64 (x19 + 1)) (x20 ++ t31) x21)) else (let t32 : Bool := decide (((rd x23 (Int.toNat x19)).2).1 = x18); if t32 = true then (grd (decide (x20.length + ([(rd x23 (Int.toNat x19)).1] : List (Int)).length ≤ 7818749353073)) (let t33 : List Int := x20 ++ ([(rd x23 (Int.toNat x19)).1] : List (Int)); again4 (IntKind.wrap .i64 (x19 + 1)) t33 x21)) else (again4 (IntKind.wrap .i64 (x19 + 1)) x20 x21)))
def spec_l10Crowd.l4.b (n : Nat) (x18 : Int) (x22 : List Int) (x23 : List (tBar)) (again4 : Int → List Int → List (tBar) → Prop) (x19 : Int) (x20 : List Int) (x21 : List (tBar)) (Kx0w4 : List Int → List (tBar) → Prop) : Prop :=
 if (decide (x19 < (x23.length : Int))) = true then (grd (decide (0 ≤ x19) && decide (x19 < (x23.length : Int))) (if (decide ((rd x23 (Int.toNat x19)).1 = x18)) = true then (spec_l10Crowd.j3 again4 n x18 x19 x20 x21 x23 (decide (((rd x23 (Int.toNat x19)).2).1 < 0))) else (spec_l10Crowd.j3 again4 n x18 x19 x20 x21 x23 false))) else (Kx0w4 x20 x21)
def spec_l10Crowd.l4 : Nat → Int → List Int → List (tBar) → Int → List Int → List (tBar) → (List Int → List (tBar) → Prop) → Prop
 | 0, _, _, _, _, _, _, _ => False
 | n + 1, x18, x22, x23, x19, x20, x21, Kx0w4 => spec_l10Crowd.l4.b n  x18 x22 x23 (fun x19q x20q x21q => spec_l10Crowd.l4 n x18 x22 x23 x19q x20q x21q Kx0w4) x19 x20 x21 Kx0w4
def spec_l10Crowd.w (n : Nat) (lp4 : Int → List Int → List (tBar) → Int → List Int → List (tBar) → (List Int → List (tBar) → Prop) → Prop) (a1 : List Int) (a2 : List (tBar)) (a3 : Int) (K : Int → Prop) : Prop :=
 lp4 a3 a1 a2 0 ([] : List (Int)) ([] : List (tBar)) (fun y36 y37 => spec_l7Rising.c n y36 (fun r38 => let t39 : Int := IntKind.wrap .i64 ((r38.length : Int) + (y37.length : Int)); K t39))
def spec_l10Crowd.c : Nat → List Int → List (tBar) → Int → (Int → Prop) → Prop
 | 0, _, _, _, _ => False
 | n + 1, a1, a2, a3, K => spec_l10Crowd.w n (spec_l10Crowd.l4 n) a1 a2 a3 K
def spec_CrowdOf.w (n : Nat) (a1 : List Int) (a2 : List (tBar)) (a3 : Int) (K : Int → Prop) : Prop :=
 spec_GraphOk.c n a1 a2 (fun r14 => if (!r14) = false then (spec_l1In.c n a3 0 (IntKind.wrap .i64 ((a1.length : Int) - 1)) (fun r15 => if (!r15) = true then (K (-1)) else (spec_l10Crowd.c n a1 a2 a3 (fun r16 => K r16)))) else (K (-1)))
def spec_CrowdOf.c : Nat → List Int → List (tBar) → Int → (Int → Prop) → Prop
 | 0, _, _, _, _ => False
 | n + 1, a1, a2, a3, K => spec_CrowdOf.w n  a1 a2 a3 K
def slices_Index_int64.l2.b (n : Nat) (x7 : List Int) (x8 : Int) (x9 : Int) (again2 : Int → Prop) (x10 : Int) (Kx0w2 : Prop) (Kr2 : Int → Prop) : Prop :=
 if (decide (x10 < x9)) = true then (grd (decide (0 ≤ x10) && decide (x10 < (x7.length : Int))) (if (decide (x8 = rd x7 (Int.toNat x10))) = true then (Kr2 x10) else (again2 (IntKind.wrap .i64 (x10 + 1))))) else (Kx0w2)
def slices_Index_int64.l2 : Nat → List Int → Int → Int → Int → Prop → (Int → Prop) → Prop
 | 0, _, _, _, _, _, _ => False
 | n + 1, x7, x8, x9, x10, Kx0w2, Kr2 => slices_Index_int64.l2.b n  x7 x8 x9 (fun x10q => slices_Index_int64.l2 n x7 x8 x9 x10q Kx0w2 Kr2) x10 Kx0w2 Kr2
def slices_Index_int64.w (n : Nat) (lp2 : List Int → Int → Int → Int → Prop → (Int → Prop) → Prop) (a1 : List Int) (a2 : Int) (K : Int → Prop) : Prop :=
 lp2 a1 a2 (a1.length : Int) 0 (K (-1)) (fun y12 => K y12)
def slices_Index_int64.c : Nat → List Int → Int → (Int → Prop) → Prop
 | 0, _, _, _ => False
 | n + 1, a1, a2, K => slices_Index_int64.w n (slices_Index_int64.l2 n) a1 a2 K
def slices_Contains_int64.w (n : Nat) (a1 : List Int) (a2 : Int) (K : Bool → Prop) : Prop :=
 slices_Index_int64.c n a1 a2 (fun r3 => K (decide (r3 ≥ 0)))
def slices_Contains_int64.c : Nat → List Int → Int → (Bool → Prop) → Prop
 | 0, _, _, _ => False
 | n + 1, a1, a2, K => slices_Contains_int64.w n  a1 a2 K
def slices_IndexFunc_Bits__impl_Bits_same.l2.b (n : Nat) (x11 : List (tBits)) (x12 : Int) (x13 : List Int) (x14 : Int) (again2 : Int → Prop) (x15 : Int) (Kx0w2 : Prop) (Kr2 : Int → Prop) : Prop :=
 if (decide (x15 < x14)) = true then (grd (decide (0 ≤ x15) && decide (x15 < (x11.length : Int))) (impl_Bits_same.c n x12 x13 ((rd x11 (Int.toNat x15)).1) ((rd x11 (Int.toNat x15)).2) (fun r17 => if r17 = true then (Kr2 x15) else (again2 (IntKind.wrap .i64 (x15 + 1)))))) else (Kx0w2)
def slices_IndexFunc_Bits__impl_Bits_same.l2 : Nat → List (tBits) → Int → List Int → Int → Int → Prop → (Int → Prop) → Prop
 | 0, _, _, _, _, _, _, _ => False
 | n + 1, x11, x12, x13, x14, x15, Kx0w2, Kr2 => slices_IndexFunc_Bits__impl_Bits_same.l2.b n  x11 x12 x13 x14 (fun x15q => slices_IndexFunc_Bits__impl_Bits_same.l2 n x11 x12 x13 x14 x15q Kx0w2 Kr2) x15 Kx0w2 Kr2
def slices_IndexFunc_Bits__impl_Bits_same.w (n : Nat) (lp2 : List (tBits) → Int → List Int → Int → Int → Prop → (Int → Prop) → Prop) (a1 : List (tBits)) (a2 : Int) (a3 : List Int) (K : Int → Prop) : Prop :=
 lp2 a1 a2 a3 (a1.length : Int) 0 (K (-1)) (fun y19 => K y19)
def slices_IndexFunc_Bits__impl_Bits_same.c : Nat → List (tBits) → Int → List Int → (Int → Prop) → Prop
 | 0, _, _, _, _ => False
 | n + 1, a1, a2, a3, K => slices_IndexFunc_Bits__impl_Bits_same.w n (slices_IndexFunc_Bits__impl_Bits_same.l2 n) a1 a2 a3 K
def slices_ContainsFunc_Bits__impl_Bits_same.w (n : Nat) (a1 : List (tBits)) (a2 : Int) (a3 : List Int) (K : Bool → Prop) : Prop :=
 slices_IndexFunc_Bits__impl_Bits_same.c n a1 a2 a3 (fun r4 => K (decide (r4 ≥ 0)))
def slices_ContainsFunc_Bits__impl_Bits_same.c : Nat → List (tBits) → Int → List Int → (Bool → Prop) → Prop
 | 0, _, _, _, _ => False
 | n + 1, a1, a2, a3, K => slices_ContainsFunc_Bits__impl_Bits_same.w n  a1 a2 a3 K
def impl_rivalsOf_1_1.w (n : Nat) (a1 : Int) (a2 : Int) (a3 : List (trivals)) (K : List (trivals) → Prop) : Prop :=
 grd (decide (0 ≤ a1) && decide (a1 < (a3.length : Int))) (slices_Contains_int64.c n ((rd a3 (Int.toNat a1)).1) a2 (fun r4 => if (!r4) = true then (((grd (decide (0 ≤ a1) && decide (a1 < (a3.length : Int))) ((grd (decide (((rd a3 (Int.toNat a1)).1).length + ([a2] : List (Int)).length ≤ 7818749353073)) (let t5 : List Int := ((rd a3 (Int.toNat a1)).1) ++ ([a2] : List (Int)); grd (decide (0 ≤ a1) && decide (a1 < (a3.length : Int))) (grd (decide (Int.toNat a1 = Int.toNat a1)) (let t6 : List (trivals) := List.set a3 (Int.toNat a1) (t5, (rd a3 (Int.toNat a1)).2); K t6)))) ∧ (grd (decide (((rd a3 (Int.toNat a1)).1).length + ([a2] : List (Int)).length ≤ 7818749353073)) (let t7 : List Int := ((rd a3 (Int.toNat a1)).1) ++ ([a2] : List (Int)); grd (decide (0 ≤ a1) && decide (a1 < (a3.length : Int))) (grd (decide (Int.toNat a1 = Int.toNat a1)) (let t8 : List (trivals) := List.set a3 (Int.toNat a1) (t7, (rd a3 (Int.toNat a1)).2); K t8)))))) ∧ (grd (decide (0 ≤ a1) && decide (a1 < (a3.length : Int))) (grd (decide (((rd a3 (Int.toNat a1)).1).length + ([a2] : List (Int)).length ≤ 7818749353073)) (let t9 : List Int := ((rd a3 (Int.toNat a1)).1) ++ ([a2] : List (Int)); grd (decide (0 ≤ a1) && decide (a1 < (a3.length : Int))) (grd (decide (Int.toNat a1 = Int.toNat a1)) (let t10 : List (trivals) := List.set a3 (Int.toNat a1) (t9, (rd a3 (Int.toNat a1)).2); K t10)))))) ∧ (grd (decide (0 ≤ a1) && decide (a1 < (a3.length : Int))) (((grd (decide (((rd a3 (Int.toNat a1)).1).length + ([a2] : List (Int)).length ≤ 7818749353073)) (let t11 : List Int := ((rd a3 (Int.toNat a1)).1) ++ ([a2] : List (Int)); grd (decide (0 ≤ a1) && decide (a1 < (a3.length : Int))) (grd (decide (Int.toNat a1 = Int.toNat a1)) (let t12 : List (trivals) := List.set a3 (Int.toNat a1) (t11, (rd a3 (Int.toNat a1)).2); K t12)))) ∧ (grd (decide (((rd a3 (Int.toNat a1)).1).length + ([a2] : List (Int)).length ≤ 7818749353073)) (let t13 : List Int := ((rd a3 (Int.toNat a1)).1) ++ ([a2] : List (Int)); grd (decide (0 ≤ a1) && decide (a1 < (a3.length : Int))) (grd (decide (Int.toNat a1 = Int.toNat a1)) (let t14 : List (trivals) := List.set a3 (Int.toNat a1) (t13, (rd a3 (Int.toNat a1)).2); K t14))))) ∧ ((grd (decide (((rd a3 (Int.toNat a1)).1).length + ([a2] : List (Int)).length ≤ 7818749353073)) (let t15 : List Int := ((rd a3 (Int.toNat a1)).1) ++ ([a2] : List (Int)); grd (decide (0 ≤ a1) && decide (a1 < (a3.length : Int))) (grd (decide (Int.toNat a1 = Int.toNat a1)) (let t16 : List (trivals) := List.set a3 (Int.toNat a1) (t15, (rd a3 (Int.toNat a1)).2); K t16)))) ∧ ((grd (decide (((rd a3 (Int.toNat a1)).1).length + ([a2] : List (Int)).length ≤ 7818749353073)) (let t17 : List Int := ((rd a3 (Int.toNat a1)).1) ++ ([a2] : List (Int)); grd (decide (0 ≤ a1) && decide (a1 < (a3.length : Int))) (grd (decide (Int.toNat a1 = Int.toNat a1)) (let t18 : List (trivals) := List.set a3 (Int.toNat a1) (t17, (rd a3 (Int.toNat a1)).2); K t18)))) ∧ (grd (decide (((rd a3 (Int.toNat a1)).1).length + ([a2] : List (Int)).length ≤ 7818749353073)) (let t19 : List Int := ((rd a3 (Int.toNat a1)).1) ++ ([a2] : List (Int)); grd (decide (0 ≤ a1) && decide (a1 < (a3.length : Int))) (grd (decide (Int.toNat a1 = Int.toNat a1)) (let t20 : List (trivals) := List.set a3 (Int.toNat a1) (t19, (rd a3 (Int.toNat a1)).2); K t20)))))) ∧ ((grd (decide (((rd a3 (Int.toNat a1)).1).length + ([a2] : List (Int)).length ≤ 7818749353073)) (let t21 : List Int := ((rd a3 (Int.toNat a1)).1) ++ ([a2] : List (Int)); grd (decide (0 ≤ a1) && decide (a1 < (a3.length : Int))) (grd (decide (Int.toNat a1 = Int.toNat a1)) (let t22 : List (trivals) := List.set a3 (Int.toNat a1) (t21, (rd a3 (Int.toNat a1)).2); K t22)))) ∧ (grd (decide (((rd a3 (Int.toNat a1)).1).length + ([a2] : List (Int)).length ≤ 7818749353073)) (let t23 : List Int := ((rd a3 (Int.toNat a1)).1) ++ ([a2] : List (Int)); grd (decide (0 ≤ a1) && decide (a1 < (a3.length : Int))) (grd (decide (Int.toNat a1 = Int.toNat a1)) (let t24 : List (trivals) := List.set a3 (Int.toNat a1) (t23, (rd a3 (Int.toNat a1)).2); K t24))))))) ∧ (grd (decide (0 ≤ a1) && decide (a1 < (a3.length : Int))) ((grd (decide (((rd a3 (Int.toNat a1)).1).length + ([a2] : List (Int)).length ≤ 7818749353073)) (let t25 : List Int := ((rd a3 (Int.toNat a1)).1) ++ ([a2] : List (Int)); grd (decide (0 ≤ a1) && decide (a1 < (a3.length : Int))) (grd (decide (Int.toNat a1 = Int.toNat a1)) (let t26 : List (trivals) := List.set a3 (Int.toNat a1) (t25, (rd a3 (Int.toNat a1)).2); K t26)))) ∧ (grd (decide (((rd a3 (Int.toNat a1)).1).length + ([a2] : List (Int)).length ≤ 7818749353073)) (let t27 : List Int := ((rd a3 (Int.toNat a1)).1) ++ ([a2] : List (Int)); grd (decide (0 ≤ a1) && decide (a1 < (a3.length : Int))) (grd (decide (Int.toNat a1 = Int.toNat a1)) (let t28 : List (trivals) := List.set a3 (Int.toNat a1) (t27, (rd a3 (Int.toNat a1)).2); K t28))))))) else (K a3)))
def impl_rivalsOf_1_1.c : Nat → Int → Int → List (trivals) → (List (trivals) → Prop) → Prop
 | 0, _, _, _, _ => False
 | n + 1, a1, a2, a3, K => impl_rivalsOf_1_1.w n  a1 a2 a3 K
def impl_rivalsOf.l4.b (n : Nat) (x35 : List (tBar)) (x36 : Int) (again4 : Int → List (trivals) → Prop) (x37 : Int) (x38 : List (trivals)) (Kx0w4 : List (trivals) → Prop) : Prop :=
 if (decide (x37 < x36)) = true then (grd (decide (0 ≤ x37) && decide (x37 < (x35.length : Int))) (if (decide (((rd x35 (Int.toNat x37)).2).1 ≥ 0)) = true then (impl_rivalsOf_1_1.c n ((rd x35 (Int.toNat x37)).1) (((rd x35 (Int.toNat x37)).2).1) x38 (fun r54 => impl_rivalsOf_1_1.c n (((rd x35 (Int.toNat x37)).2).1) ((rd x35 (Int.toNat x37)).1) r54 (fun r55 => again4 (IntKind.wrap .i64 (x37 + 1)) r55))) else (grd (decide (0 ≤ (rd x35 (Int.toNat x37)).1) && decide ((rd x35 (Int.toNat x37)).1 < (x38.length : Int))) (slices_ContainsFunc_Bits__impl_Bits_same.c n ((rd x38 (Int.toNat ((rd x35 (Int.toNat x37)).1))).2) ((((rd x35 (Int.toNat x37)).2).2).1) ((((rd x35 (Int.toNat x37)).2).2).2) (fun r57 => if (!r57) = true then ((let t58 : List (tBits) := ([((((rd x35 (Int.toNat x37)).2).2).1, (((rd x35 (Int.toNat x37)).2).2).2)] : List (tBits)); grd (decide (((rd x38 (Int.toNat ((rd x35 (Int.toNat x37)).1))).2).length + t58.length ≤ 2132386187201)) (let t59 : List (tBits) := ((rd x38 (Int.toNat ((rd x35 (Int.toNat x37)).1))).2) ++ t58; grd (decide (Int.toNat ((rd x35 (Int.toNat x37)).1) = Int.toNat ((rd x35 (Int.toNat x37)).1))) (let t60 : List (trivals) := List.set x38 (Int.toNat ((rd x35 (Int.toNat x37)).1)) ((rd x38 (Int.toNat ((rd x35 (Int.toNat x37)).1))).1, t59); again4 (IntKind.wrap .i64 (x37 + 1)) t60))) ∧ (let t61 : List (tBits) := ([((((rd x35 (Int.toNat x37)).2).2).1, (((rd x35 (Int.toNat x37)).2).2).2)] : List (tBits)); grd (decide (((rd x38 (Int.toNat ((rd x35 (Int.toNat x37)).1))).2).length + t61.length ≤ 2132386187201)) (let t62 : List (tBits) := ((rd x38 (Int.toNat ((rd x35 (Int.toNat x37)).1))).2) ++ t61; grd (decide (Int.toNat ((rd x35 (Int.toNat x37)).1) = Int.toNat ((rd x35 (Int.toNat x37)).1))) (let t63 : List (trivals) := List.set x38 (Int.toNat ((rd x35 (Int.toNat x37)).1)) ((rd x38 (Int.toNat ((rd x35 (Int.toNat x37)).1))).1, t62); again4 (IntKind.wrap .i64 (x37 + 1)) t63)))) else (again4 (IntKind.wrap .i64 (x37 + 1)) x38)))))) else (Kx0w4 x38)
def impl_rivalsOf.l4 : Nat → List (tBar) → Int → Int → List (trivals) → (List (trivals) → Prop) → Prop
 | 0, _, _, _, _, _ => False
 | n + 1, x35, x36, x37, x38, Kx0w4 => impl_rivalsOf.l4.b n  x35 x36 (fun x37q x38q => impl_rivalsOf.l4 n x35 x36 x37q x38q Kx0w4) x37 x38 Kx0w4
def impl_rivalsOf.w (n : Nat) (lp4 : List (tBar) → Int → Int → List (trivals) → (List (trivals) → Prop) → Prop) (a1 : List Int) (a2 : List (tBar)) (K : List (trivals) → Prop) : Prop :=
 let t3 : List (trivals) := ([] : List (trivals)); grd ((decide (0 ≤ (a1.length : Int)) && decide ((a1.length : Int) ≤ 1436096819952)) && decide ((a1.length : Int) = (a1.length : Int))) (let t4 : List (trivals) := List.replicate (Int.toNat (a1.length : Int)) (([] : List (Int)), ([] : List (tBits))); let t5 : List (trivals) := ([] : List (trivals)); lp4 a2 (a2.length : Int) 0 t4 (fun y65 => K y65))
def impl_rivalsOf.c : Nat → List Int → List (tBar) → (List (trivals) → Prop) → Prop
 | 0, _, _, _ => False
 | n + 1, a1, a2, K => impl_rivalsOf.w n (impl_rivalsOf.l4 n) a1 a2 K
def impl_rivals_crowd.w (n : Nat) (a1 : trivals) (K : Int → Prop) : Prop :=
 let t3 : Int := IntKind.wrap .i64 ((a1.1.length : Int) + (a1.2.length : Int)); K t3
def impl_rivals_crowd.c : Nat → trivals → (Int → Prop) → Prop
 | 0, _, _ => False
 | n + 1, a1, K => impl_rivals_crowd.w n  a1 K
def impl_CrowdOf.j0 (K : Int → Prop) (a1 : List Int) (a2 : List (tBar)) (a3 : Int) (n : Nat) (j13 : Bool) : Prop :=
 if j13 = true then (K (-1)) else (impl_rivalsOf.c n a1 a2 (fun r14 => grd (decide (0 ≤ a3) && decide (a3 < (r14.length : Int))) (impl_rivals_crowd.c n (rd r14 (Int.toNat a3)) (fun r15 => K r15))))
def impl_CrowdOf.w (n : Nat) (a1 : List Int) (a2 : List (tBar)) (a3 : Int) (K : Int → Prop) : Prop :=
 impl_GraphOk.c n a1 a2 (fun r16 => if (!r16) = false then (impl_inside.c n a3 0 (IntKind.wrap .i64 ((a1.length : Int) - 1)) (fun r17 => impl_CrowdOf.j0 K a1 a2 a3 n (!r17))) else (impl_CrowdOf.j0 K a1 a2 a3 n true))
def impl_CrowdOf.c : Nat → List Int → List (tBar) → Int → (Int → Prop) → Prop
 | 0, _, _, _, _ => False
 | n + 1, a1, a2, a3, K => impl_CrowdOf.w n  a1 a2 a3 K
def laws_FnExactCrowdOf.w (n : Nat) (a1 : List Int) (a2 : List (tBar)) (a3 : Int) (K : Bool → Prop) : Prop :=
 laws_szGraph.c n a1 a2 1048576 (fun r4 => if (decide (r4 < 0)) = true then (K true) else (laws_toGraph.c n a1 a2 (fun r5 r6 => spec_CrowdOf.c n r5 r6 a3 (fun r7 => laws_toGraph.c n a1 a2 (fun r8 r9 => impl_CrowdOf.c n r8 r9 a3 (fun r10 => if (!(decide (r10 = r7))) = true then (K false) else ((laws_toGraph.c n a1 a2 (fun r31 r32 => laws_eqGraph.c n r8 r9 r31 r32 (fun r33 => if (!r33) = true then (K false) else (K true)))) ∧ (laws_toGraph.c n a1 a2 (fun r34 r35 => laws_eqGraph.c n r8 r9 r34 r35 (fun r36 => if (!r36) = true then (K false) else (K true)))))))))))
def laws_FnExactCrowdOf.c : Nat → List Int → List (tBar) → Int → (Bool → Prop) → Prop
 | 0, _, _, _, _ => False
 | n + 1, a1, a2, a3, K => laws_FnExactCrowdOf.w n  a1 a2 a3 K
end Go.Vsi
end
