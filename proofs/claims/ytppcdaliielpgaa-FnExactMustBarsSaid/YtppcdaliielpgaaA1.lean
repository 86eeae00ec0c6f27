/- Go functions, told on plain data. No statement is proved here. -/
import Derived.Test.YtppcdaliielpgaaM1

section
set_option linter.unusedVariables false
set_option synthInstance.maxSize 4096
namespace Go.Vsi
abbrev tBar : Type := Int × Int × Int × List (Int)
instance : DecidableEq tBar := inferInstance
abbrev tSplit : Type := Int × Int × List (tBar)
instance : DecidableEq tSplit := inferInstance
def laws_szUint64S.w (n : Nat) (a1 : List Int) (a2 : Int) (K : Int → Prop) : Prop :=
  let t4 : Bool := decide (IntKind.wrap .i64 (a2 - (a1.length : Int)) < 0); if t4 = true then (K (-1)) else (K (IntKind.wrap .i64 (a2 - (a1.length : Int))))
def laws_szUint64S.c : Nat → List Int → Int → (Int → Prop) → Prop
  | 0, _, _, _ => False
  | n + 1, a1, a2, K => laws_szUint64S.w n  a1 a2 K
def laws_szBits.w (n : Nat) (a1 : Int) (a2 : List Int) (a3 : Int) (K : Int → Prop) : Prop :=
  laws_szUint64S.c n a2 a3 (fun r4 => if (decide (r4 < 0)) = true then (K (-1)) else (K r4))
def laws_szBits.c : Nat → Int → List Int → Int → (Int → Prop) → Prop
  | 0, _, _, _, _ => False
  | n + 1, a1, a2, a3, K => laws_szBits.w n  a1 a2 a3 K
def laws_szBar.w (n : Nat) (a1 : Int) (a2 : Int) (a3 : Int) (a4 : List Int) (a5 : Int) (K : Int → Prop) : Prop :=
  laws_szBits.c n a3 a4 a5 (fun r6 => if (decide (r6 < 0)) = true then (K (-1)) else (K r6))
def laws_szBar.c : Nat → Int → Int → Int → List Int → Int → (Int → Prop) → Prop
  | 0, _, _, _, _, _, _ => False
  | n + 1, a1, a2, a3, a4, a5, K => laws_szBar.w n  a1 a2 a3 a4 a5 K
def laws_szBarS.l5.b (n : Nat) (x10 : List (tBar)) (again5 : Int → Int → Prop) (x11 : Int) (x12 : Int) (Kx0w5 : Int → Prop) (Kr5 : Int → Prop) : Prop :=
  if (decide (x12 < (x10.length : Int))) = true then (grd (decide (0 ≤ x12) && decide (x12 < (x10.length : Int))) (laws_szBar.c n ((rd x10 (Int.toNat x12)).1) (((rd x10 (Int.toNat x12)).2).1) ((((rd x10 (Int.toNat x12)).2).2).1) ((((rd x10 (Int.toNat x12)).2).2).2) x11 (fun r14 => if (decide (r14 < 0)) = true then (Kr5 (-1)) else (again5 r14 (IntKind.wrap .i64 (x12 + 1)))))) else (Kx0w5 x11)
def laws_szBarS.l5 : Nat → List (tBar) → Int → Int → (Int → Prop) → (Int → Prop) → Prop
  | 0, _, _, _, _, _ => False
  | n + 1, x10, x11, x12, Kx0w5, Kr5 => laws_szBarS.l5.b n  x10 (fun x11q x12q => laws_szBarS.l5 n x10 x11q x12q Kx0w5 Kr5) x11 x12 Kx0w5 Kr5
def laws_szBarS.w (n : Nat) (lp5 : List (tBar) → Int → Int → (Int → Prop) → (Int → Prop) → Prop) (a1 : List (tBar)) (a2 : Int) (K : Int → Prop) : Prop :=
  let t4 : Bool := decide (IntKind.wrap .i64 (a2 - (a1.length : Int)) < 0); if t4 = true then (K (-1)) else (lp5 a1 (IntKind.wrap .i64 (a2 - (a1.length : Int))) 0 (fun y17 => K y17) (fun y18 => K y18))
def laws_szBarS.c : Nat → List (tBar) → Int → (Int → Prop) → Prop
  | 0, _, _, _ => False
  | n + 1, a1, a2, K => laws_szBarS.w n (laws_szBarS.l5 n) a1 a2 K
def laws_szSplit.w (n : Nat) (a1 : Int) (a2 : Int) (a3 : List (tBar)) (a4 : Int) (K : Int → Prop) : Prop :=
  laws_szBarS.c n a3 a4 (fun r5 => if (decide (r5 < 0)) = true then (K (-1)) else (K r5))
def laws_szSplit.c : Nat → Int → Int → List (tBar) → Int → (Int → Prop) → Prop
  | 0, _, _, _, _, _ => False
  | n + 1, a1, a2, a3, a4, K => laws_szSplit.w n  a1 a2 a3 a4 K
def laws_szSplitS.l5.b (n : Nat) (x10 : List (tSplit)) (again5 : Int → Int → Prop) (x11 : Int) (x12 : Int) (Kx0w5 : Int → Prop) (Kr5 : Int → Prop) : Prop :=
  if (decide (x12 < (x10.length : Int))) = true then (grd (decide (0 ≤ x12) && decide (x12 < (x10.length : Int))) (laws_szSplit.c n ((rd x10 (Int.toNat x12)).1) (((rd x10 (Int.toNat x12)).2).1) (((rd x10 (Int.toNat x12)).2).2) x11 (fun r14 => if (decide (r14 < 0)) = true then (Kr5 (-1)) else (again5 r14 (IntKind.wrap .i64 (x12 + 1)))))) else (Kx0w5 x11)
def laws_szSplitS.l5 : Nat → List (tSplit) → Int → Int → (Int → Prop) → (Int → Prop) → Prop
  | 0, _, _, _, _, _ => False
  | n + 1, x10, x11, x12, Kx0w5, Kr5 => laws_szSplitS.l5.b n  x10 (fun x11q x12q => laws_szSplitS.l5 n x10 x11q x12q Kx0w5 Kr5) x11 x12 Kx0w5 Kr5
def laws_szSplitS.w (n : Nat) (lp5 : List (tSplit) → Int → Int → (Int → Prop) → (Int → Prop) → Prop) (a1 : List (tSplit)) (a2 : Int) (K : Int → Prop) : Prop :=
  let t4 : Bool := decide (IntKind.wrap .i64 (a2 - (a1.length : Int)) < 0); if t4 = true then (K (-1)) else (lp5 a1 (IntKind.wrap .i64 (a2 - (a1.length : Int))) 0 (fun y17 => K y17) (fun y18 => K y18))
def laws_szSplitS.c : Nat → List (tSplit) → Int → (Int → Prop) → Prop
  | 0, _, _, _ => False
  | n + 1, a1, a2, K => laws_szSplitS.w n (laws_szSplitS.l5 n) a1 a2 K
def laws_toUint64S.l3.b (n : Nat) (x8 : List Int) (again3 : Int → List Int → Prop) (x9 : Int) (x10 : List Int) (Kx0w3 : List Int → Prop) : Prop :=
  if (decide (x9 < (x8.length : Int))) = true then (grd (decide (0 ≤ x9) && decide (x9 < (x8.length : Int))) (grd (decide (0 ≤ x9) && decide (x9 < (x10.length : Int))) (let t12 : List Int := List.set x10 (Int.toNat x9) (rd x8 (Int.toNat x9)); again3 (IntKind.wrap .i64 (x9 + 1)) t12))) else (Kx0w3 x10)
def laws_toUint64S.l3 : Nat → List Int → Int → List Int → (List Int → Prop) → Prop
  | 0, _, _, _, _ => False
  | n + 1, x8, x9, x10, Kx0w3 => laws_toUint64S.l3.b n  x8 (fun x9q x10q => laws_toUint64S.l3 n x8 x9q x10q Kx0w3) x9 x10 Kx0w3
def laws_toUint64S.w (n : Nat) (lp3 : List Int → Int → List Int → (List Int → Prop) → Prop) (a1 : List Int) (K : List Int → Prop) : Prop :=
  grd ((decide (0 ≤ (a1.length : Int)) && decide ((a1.length : Int) ≤ 7818749353073)) && decide ((a1.length : Int) = (a1.length : Int))) (let t2 : List Int := List.replicate (Int.toNat (a1.length : Int)) 0; lp3 a1 0 t2 (fun y14 => K y14))
def laws_toUint64S.c : Nat → List Int → (List Int → Prop) → Prop
  | 0, _, _ => False
  | n + 1, a1, K => laws_toUint64S.w n (laws_toUint64S.l3 n) a1 K
def laws_toBits.w (n : Nat) (a1 : Int) (a2 : List Int) (K : Int → List Int → Prop) : Prop :=
  laws_toUint64S.c n a2 (fun r3 => K a1 r3)
def laws_toBits.c : Nat → Int → List Int → (Int → List Int → Prop) → Prop
  | 0, _, _, _ => False
  | n + 1, a1, a2, K => laws_toBits.w n  a1 a2 K
def laws_toBar.w (n : Nat) (a1 : Int) (a2 : Int) (a3 : Int) (a4 : List Int) (K : Int → Int → Int → List Int → Prop) : Prop :=
  laws_toBits.c n a3 a4 (fun r5 r6 => K a1 a2 r5 r6)
def laws_toBar.c : Nat → Int → Int → Int → List Int → (Int → Int → Int → List Int → Prop) → Prop
  | 0, _, _, _, _, _ => False
  | n + 1, a1, a2, a3, a4, K => laws_toBar.w n  a1 a2 a3 a4 K
def laws_toBarS.l3.b (n : Nat) (x15 : List (tBar)) (again3 : Int → List (tBar) → Prop) (x16 : Int) (x17 : List (tBar)) (Kx0w3 : List (tBar) → Prop) : Prop :=
  if (decide (x16 < (x15.length : Int))) = true then (grd (decide (0 ≤ x16) && decide (x16 < (x15.length : Int))) (laws_toBar.c n ((rd x15 (Int.toNat x16)).1) (((rd x15 (Int.toNat x16)).2).1) ((((rd x15 (Int.toNat x16)).2).2).1) ((((rd x15 (Int.toNat x16)).2).2).2) (fun r23 r24 r25 r26 => grd (decide (0 ≤ x16) && decide (x16 < (x17.length : Int))) (let t27 : List (tBar) := List.set x17 (Int.toNat x16) (r23, r24, r25, r26); again3 (IntKind.wrap .i64 (x16 + 1)) t27)))) else (Kx0w3 x17)
def laws_toBarS.l3 : Nat → List (tBar) → Int → List (tBar) → (List (tBar) → Prop) → Prop
  | 0, _, _, _, _ => False
  | n + 1, x15, x16, x17, Kx0w3 => laws_toBarS.l3.b n  x15 (fun x16q x17q => laws_toBarS.l3 n x15 x16q x17q Kx0w3) x16 x17 Kx0w3
def laws_toBarS.w (n : Nat) (lp3 : List (tBar) → Int → List (tBar) → (List (tBar) → Prop) → Prop) (a1 : List (tBar)) (K : List (tBar) → Prop) : Prop :=
  grd ((decide (0 ≤ (a1.length : Int)) && decide ((a1.length : Int) ≤ 1436096819952)) && decide ((a1.length : Int) = (a1.length : Int))) (let t2 : List (tBar) := List.replicate (Int.toNat (a1.length : Int)) (0, 0, 0, ([] : List (Int))); lp3 a1 0 t2 (fun y29 => K y29))
def laws_toBarS.c : Nat → List (tBar) → (List (tBar) → Prop) → Prop
  | 0, _, _ => False
  | n + 1, a1, K => laws_toBarS.w n (laws_toBarS.l3 n) a1 K
def laws_toSplit.w (n : Nat) (a1 : Int) (a2 : Int) (a3 : List (tBar)) (K : Int → Int → List (tBar) → Prop) : Prop :=
  laws_toBarS.c n a3 (fun r4 => K a1 a2 r4)
def laws_toSplit.c : Nat → Int → Int → List (tBar) → (Int → Int → List (tBar) → Prop) → Prop
  | 0, _, _, _, _ => False
  | n + 1, a1, a2, a3, K => laws_toSplit.w n  a1 a2 a3 K
def laws_toSplitS.l3.b (n : Nat) (x13 : List (tSplit)) (again3 : Int → List (tSplit) → Prop) (x14 : Int) (x15 : List (tSplit)) (Kx0w3 : List (tSplit) → Prop) : Prop :=
  if (decide (x14 < (x13.length : Int))) = true then (grd (decide (0 ≤ x14) && decide (x14 < (x13.length : Int))) (laws_toSplit.c n ((rd x13 (Int.toNat x14)).1) (((rd x13 (Int.toNat x14)).2).1) (((rd x13 (Int.toNat x14)).2).2) (fun r19 r20 r21 => grd (decide (0 ≤ x14) && decide (x14 < (x15.length : Int))) (again3 (IntKind.wrap .i64 (x14 + 1)) (List.set x15 (Int.toNat x14) (r19, r20, r21)))))) else (Kx0w3 x15)
def laws_toSplitS.l3 : Nat → List (tSplit) → Int → List (tSplit) → (List (tSplit) → Prop) → Prop
  | 0, _, _, _, _ => False
  | n + 1, x13, x14, x15, Kx0w3 => laws_toSplitS.l3.b n  x13 (fun x14q x15q => laws_toSplitS.l3 n x13 x14q x15q Kx0w3) x14 x15 Kx0w3
def laws_toSplitS.w (n : Nat) (lp3 : List (tSplit) → Int → List (tSplit) → (List (tSplit) → Prop) → Prop) (a1 : List (tSplit)) (K : List (tSplit) → Prop) : Prop :=
  let t2 : List (tSplit) := ([] : List (tSplit)); grd ((decide (0 ≤ (a1.length : Int)) && decide ((a1.length : Int) ≤ 1716310833601)) && decide ((a1.length : Int) = (a1.length : Int))) (let t3 : List (tSplit) := List.replicate (Int.toNat (a1.length : Int)) (0, 0, ([] : List (tBar))); lp3 a1 0 t3 (fun y23 => K y23))
def laws_toSplitS.c : Nat → List (tSplit) → (List (tSplit) → Prop) → Prop
  | 0, _, _ => False
  | n + 1, a1, K => laws_toSplitS.w n (laws_toSplitS.l3 n) a1 K
def spec_l3SameBits.l4.b (n : Nat) (x18 : Int) (x19 : List Int) (x20 : Int) (x21 : List Int) (again4 : Int → Prop) (x17 : Int) (Kx0w4 : Prop) (Kr4 : Bool → Prop) : Prop :=
  if (decide (x17 < (x19.length : Int))) = true then (grd (decide (0 ≤ x17) && decide (x17 < (x19.length : Int))) (grd (decide (0 ≤ x17) && decide (x17 < (x21.length : Int))) (let t25 : Bool := !(decide (rd x19 (Int.toNat x17) = rd x21 (Int.toNat x17))); if t25 = true then (Kr4 false) else (again4 (IntKind.wrap .i64 (x17 + 1)))))) else (Kx0w4)
def spec_l3SameBits.l4 : Nat → Int → List Int → Int → List Int → Int → Prop → (Bool → Prop) → Prop
  | 0, _, _, _, _, _, _, _ => False
  | n + 1, x18, x19, x20, x21, x17, Kx0w4, Kr4 => spec_l3SameBits.l4.b n  x18 x19 x20 x21 (fun x17q => spec_l3SameBits.l4 n x18 x19 x20 x21 x17q Kx0w4 Kr4) x17 Kx0w4 Kr4
def spec_l3SameBits.w (n : Nat) (lp4 : Int → List Int → Int → List Int → Int → Prop → (Bool → Prop) → Prop) (a1 : Int) (a2 : List Int) (a3 : Int) (a4 : List Int) (K : Bool → Prop) : Prop :=
  if (!(decide (a1 = a3))) = false then (let t32 : Bool := !(decide ((a2.length : Int) = (a4.length : Int))); if t32 = true then (K false) else (lp4 a1 a2 a3 a4 0 (K true) (fun y34 => K y34))) else (K false)
def spec_l3SameBits.c : Nat → Int → List Int → Int → List Int → (Bool → Prop) → Prop
  | 0, _, _, _, _, _ => False
  | n + 1, a1, a2, a3, a4, K => spec_l3SameBits.w n (spec_l3SameBits.l4 n) a1 a2 a3 a4 K
def spec_l9SameBar.w (n : Nat) (a1 : Int) (a2 : Int) (a3 : Int) (a4 : List Int) (a5 : Int) (a6 : Int) (a7 : Int) (a8 : List Int) (K : Bool → Prop) : Prop :=
  if (decide (a1 = a5)) = true then (if (decide (a2 = a6)) = true then (spec_l3SameBits.c n a3 a4 a7 a8 (fun r11 => K r11)) else (K false)) else (K false)
def spec_l9SameBar.c : Nat → Int → Int → Int → List Int → Int → Int → Int → List Int → (Bool → Prop) → Prop
  | 0, _, _, _, _, _, _, _, _, _ => False
  | n + 1, a1, a2, a3, a4, a5, a6, a7, a8, K => spec_l9SameBar.w n  a1 a2 a3 a4 a5 a6 a7 a8 K
def spec_l8CopyBits.w (n : Nat) (a1 : Int) (a2 : List Int) (K : Int → List Int → Prop) : Prop :=
  ((grd (decide (([] : List (Int)).length + a2.length ≤ 7818749353073)) (K a1 (([] : List (Int)) ++ a2))) ∧ (grd (decide (([] : List (Int)).length + a2.length ≤ 7818749353073)) (K a1 (([] : List (Int)) ++ a2)))) ∧ ((grd (decide (([] : List (Int)).length + a2.length ≤ 7818749353073)) (K a1 (([] : List (Int)) ++ a2))) ∧ (grd (decide (([] : List (Int)).length + a2.length ≤ 7818749353073)) (K a1 (([] : List (Int)) ++ a2)))) ∧ ((grd (decide (([] : List (Int)).length + a2.length ≤ 7818749353073)) (K a1 (([] : List (Int)) ++ a2))) ∧ ((grd (decide (([] : List (Int)).length + a2.length ≤ 7818749353073)) (K a1 (([] : List (Int)) ++ a2))) ∧ (grd (decide (([] : List (Int)).length + a2.length ≤ 7818749353073)) (K a1 (([] : List (Int)) ++ a2)))))
def spec_l8CopyBits.c : Nat → Int → List Int → (Int → List Int → Prop) → Prop
  | 0, _, _, _ => False
  | n + 1, a1, a2, K => spec_l8CopyBits.w n  a1 a2 K
def spec_l9Put.l2.b (n : Nat) (x17 : List (tBar)) (x18 : Int) (x19 : Int) (x20 : Int) (x21 : List Int) (again2 : Int → Prop) (x16 : Int) (Kx0w2 : List (tBar) → Int → Int → Int → List Int → Prop) (Kr2 : List (tBar) → Prop) : Prop :=
  if (decide (x16 < (x17.length : Int))) = true then (grd (decide (0 ≤ x16) && decide (x16 < (x17.length : Int))) (spec_l9SameBar.c n ((rd x17 (Int.toNat x16)).1) (((rd x17 (Int.toNat x16)).2).1) ((((rd x17 (Int.toNat x16)).2).2).1) ((((rd x17 (Int.toNat x16)).2).2).2) x18 x19 x20 x21 (fun r25 => if r25 = true then (Kr2 x17) else (again2 (IntKind.wrap .i64 (x16 + 1)))))) else (Kx0w2 x17 x18 x19 x20 x21)
def spec_l9Put.l2 : Nat → List (tBar) → Int → Int → Int → List Int → Int → (List (tBar) → Int → Int → Int → List Int → Prop) → (List (tBar) → Prop) → Prop
  | 0, _, _, _, _, _, _, _, _ => False
  | n + 1, x17, x18, x19, x20, x21, x16, Kx0w2, Kr2 => spec_l9Put.l2.b n  x17 x18 x19 x20 x21 (fun x16q => spec_l9Put.l2 n x17 x18 x19 x20 x21 x16q Kx0w2 Kr2) x16 Kx0w2 Kr2
def spec_l9Put.w (n : Nat) (lp2 : List (tBar) → Int → Int → Int → List Int → Int → (List (tBar) → Int → Int → Int → List Int → Prop) → (List (tBar) → Prop) → Prop) (a1 : List (tBar)) (a2 : Int) (a3 : Int) (a4 : Int) (a5 : List Int) (K : List (tBar) → Prop) : Prop :=
  lp2 a1 a2 a3 a4 a5 0 (fun y32 y33 y34 y35 y36 => ((spec_l8CopyBits.c n y35 y36 (fun r53 r54 => let t55 : List (tBar) := ([(y33, y34, r53, r54)] : List (tBar)); grd (decide (y32.length + t55.length ≤ 1436096819952)) (K (y32 ++ t55)))) ∧ (spec_l8CopyBits.c n y35 y36 (fun r56 r57 => let t58 : List (tBar) := ([(y33, y34, r56, r57)] : List (tBar)); grd (decide (y32.length + t58.length ≤ 1436096819952)) (K (y32 ++ t58))))) ∧ ((spec_l8CopyBits.c n y35 y36 (fun r59 r60 => let t61 : List (tBar) := ([(y33, y34, r59, r60)] : List (tBar)); grd (decide (y32.length + t61.length ≤ 1436096819952)) (K (y32 ++ t61)))) ∧ (spec_l8CopyBits.c n y35 y36 (fun r62 r63 => let t64 : List (tBar) := ([(y33, y34, r62, r63)] : List (tBar)); grd (decide (y32.length + t64.length ≤ 1436096819952)) (K (y32 ++ t64))))) ∧ (spec_l8CopyBits.c n y35 y36 (fun r65 r66 => let t67 : List (tBar) := ([(y33, y34, r65, r66)] : List (tBar)); grd (decide (y32.length + t67.length ≤ 1436096819952)) (K (y32 ++ t67))))) (fun y68 => K y68)
def spec_l9Put.c : Nat → List (tBar) → Int → Int → Int → List Int → (List (tBar) → Prop) → Prop
  | 0, _, _, _, _, _, _ => False
  | n + 1, a1, a2, a3, a4, a5, K => spec_l9Put.w n (spec_l9Put.l2 n) a1 a2 a3 a4 a5 K
def spec_MustBars.j3 (again3 : Int → List (tBar) → Prop) (n : Nat) (x17 : List (tSplit)) (x18 : Int) (x19 : List (tBar)) (j28 : Bool) : Prop :=
  if j28 = true then (grd (decide (0 ≤ x18) && decide (x18 < (x17.length : Int))) (grd (decide (0 < ((((rd x17 (Int.toNat x18)).2).2).length : Int))) (let t29 : Int := ((rd (((rd x17 (Int.toNat x18)).2).2) 0).2).1; let t30 : Int := (((rd (((rd x17 (Int.toNat x18)).2).2) 0).2).2).1; let t31 : List Int := (((rd (((rd x17 (Int.toNat x18)).2).2) 0).2).2).2; spec_l9Put.c n x19 ((rd (((rd x17 (Int.toNat x18)).2).2) 0).1) t29 t30 t31 (fun r32 => again3 (IntKind.wrap .i64 (x18 + 1)) r32)))) else (again3 (IntKind.wrap .i64 (x18 + 1)) x19)
def spec_MustBars.l3.b (n : Nat) (x17 : List (tSplit)) (again3 : Int → List (tBar) → Prop) (x18 : Int) (x19 : List (tBar)) (Kx0w3 : List (tBar) → Prop) : Prop :=
  if (decide (x18 < (x17.length : Int))) = true then (grd (decide (0 ≤ x18) && decide (x18 < (x17.length : Int))) (if (decide (((rd x17 (Int.toNat x18)).2).1 = 3)) = true then (grd (decide (0 ≤ x18) && decide (x18 < (x17.length : Int))) (let t33 : Int := ((((rd x17 (Int.toNat x18)).2).2).length : Int); spec_MustBars.j3 again3 n x17 x18 x19 (decide (t33 = 1)))) else (spec_MustBars.j3 again3 n x17 x18 x19 false))) else (Kx0w3 x19)
def spec_MustBars.l3 : Nat → List (tSplit) → Int → List (tBar) → (List (tBar) → Prop) → Prop
  | 0, _, _, _, _ => False
  | n + 1, x17, x18, x19, Kx0w3 => spec_MustBars.l3.b n  x17 (fun x18q x19q => spec_MustBars.l3 n x17 x18q x19q Kx0w3) x18 x19 Kx0w3
def spec_MustBars.w (n : Nat) (lp3 : List (tSplit) → Int → List (tBar) → (List (tBar) → Prop) → Prop) (a1 : List (tSplit)) (K : List (tBar) → Prop) : Prop :=
  lp3 a1 0 ([] : List (tBar)) (fun y35 => K y35)
def spec_MustBars.c : Nat → List (tSplit) → (List (tBar) → Prop) → Prop
  | 0, _, _ => False
  | n + 1, a1, K => spec_MustBars.w n (spec_MustBars.l3 n) a1 K
def slices_Equal_uint64.l4.b (n : Nat) (x13 : List Int) (x14 : List Int) (x15 : Int) (again4 : Int → Prop) (x16 : Int) (Kx0w4 : Prop) (Kr4 : Bool → Prop) : Prop :=
  if (decide (x16 < x15)) = true then (grd (decide (0 ≤ x16) && decide (x16 < (x13.length : Int))) (grd (decide (0 ≤ x16) && decide (x16 < (x14.length : Int))) (let t20 : Bool := !(decide (rd x13 (Int.toNat x16) = rd x14 (Int.toNat x16))); if t20 = true then (Kr4 false) else (again4 (IntKind.wrap .i64 (x16 + 1)))))) else (Kx0w4)
def slices_Equal_uint64.l4 : Nat → List Int → List Int → Int → Int → Prop → (Bool → Prop) → Prop
  | 0, _, _, _, _, _, _ => False
  | n + 1, x13, x14, x15, x16, Kx0w4, Kr4 => slices_Equal_uint64.l4.b n  x13 x14 x15 (fun x16q => slices_Equal_uint64.l4 n x13 x14 x15 x16q Kx0w4 Kr4) x16 Kx0w4 Kr4
def slices_Equal_uint64.w (n : Nat) (lp4 : List Int → List Int → Int → Int → Prop → (Bool → Prop) → Prop) (a1 : List Int) (a2 : List Int) (K : Bool → Prop) : Prop :=
  let t4 : Bool := !(decide ((a1.length : Int) = (a2.length : Int))); if t4 = true then (K false) else (lp4 a1 a2 (a1.length : Int) 0 (K true) (fun y22 => K y22))
def slices_Equal_uint64.c : Nat → List Int → List Int → (Bool → Prop) → Prop
  | 0, _, _, _ => False
  | n + 1, a1, a2, K => slices_Equal_uint64.w n (slices_Equal_uint64.l4 n) a1 a2 K
def impl_Bits_same.w (n : Nat) (a1 : Int) (a2 : List Int) (a3 : Int) (a4 : List Int) (K : Bool → Prop) : Prop :=
  if (decide (a1 = a3)) = true then (slices_Equal_uint64.c n a2 a4 (fun r7 => K r7)) else (K false)
def impl_Bits_same.c : Nat → Int → List Int → Int → List Int → (Bool → Prop) → Prop
  | 0, _, _, _, _, _ => False
  | n + 1, a1, a2, a3, a4, K => impl_Bits_same.w n  a1 a2 a3 a4 K
def impl_sameBar.w (n : Nat) (a1 : Int) (a2 : Int) (a3 : Int) (a4 : List Int) (a5 : Int) (a6 : Int) (a7 : Int) (a8 : List Int) (K : Bool → Prop) : Prop :=
  if (decide (a1 = a5)) = true then (if (decide (a2 = a6)) = true then (impl_Bits_same.c n a3 a4 a7 a8 (fun r11 => K r11)) else (K false)) else (K false)
def impl_sameBar.c : Nat → Int → Int → Int → List Int → Int → Int → Int → List Int → (Bool → Prop) → Prop
  | 0, _, _, _, _, _, _, _, _, _ => False
  | n + 1, a1, a2, a3, a4, a5, a6, a7, a8, K => impl_sameBar.w n  a1 a2 a3 a4 a5 a6 a7 a8 K
def impl_addBar_1.w (n : Nat) (a1 : Int) (a2 : Int) (a3 : Int) (a4 : List Int) (a5 : tBar) (K : Bool → Prop) : Prop :=
  impl_sameBar.c n a1 a2 a3 a4 a5.1 a5.2.1 a5.2.2.1 a5.2.2.2 (fun r6 => K r6)
def impl_addBar_1.c : Nat → Int → Int → Int → List Int → tBar → (Bool → Prop) → Prop
  | 0, _, _, _, _, _, _ => False
  | n + 1, a1, a2, a3, a4, a5, K => impl_addBar_1.w n  a1 a2 a3 a4 a5 K
def slices_IndexFunc_Bar__impl_addBar_1.l2.b (n : Nat) (x9 : List (tBar)) (x10 : tBar) (x11 : Int) (again2 : Int → Prop) (x12 : Int) (Kx0w2 : Prop) (Kr2 : Int → Prop) : Prop :=
  if (decide (x12 < x11)) = true then (grd (decide (0 ≤ x12) && decide (x12 < (x9.length : Int))) (impl_addBar_1.c n ((rd x9 (Int.toNat x12)).1) (((rd x9 (Int.toNat x12)).2).1) ((((rd x9 (Int.toNat x12)).2).2).1) ((((rd x9 (Int.toNat x12)).2).2).2) x10 (fun r14 => if r14 = true then (Kr2 x12) else (again2 (IntKind.wrap .i64 (x12 + 1)))))) else (Kx0w2)
def slices_IndexFunc_Bar__impl_addBar_1.l2 : Nat → List (tBar) → tBar → Int → Int → Prop → (Int → Prop) → Prop
  | 0, _, _, _, _, _, _ => False
  | n + 1, x9, x10, x11, x12, Kx0w2, Kr2 => slices_IndexFunc_Bar__impl_addBar_1.l2.b n  x9 x10 x11 (fun x12q => slices_IndexFunc_Bar__impl_addBar_1.l2 n x9 x10 x11 x12q Kx0w2 Kr2) x12 Kx0w2 Kr2
def slices_IndexFunc_Bar__impl_addBar_1.w (n : Nat) (lp2 : List (tBar) → tBar → Int → Int → Prop → (Int → Prop) → Prop) (a1 : List (tBar)) (a2 : tBar) (K : Int → Prop) : Prop :=
  lp2 a1 a2 (a1.length : Int) 0 (K (-1)) (fun y16 => K y16)
def slices_IndexFunc_Bar__impl_addBar_1.c : Nat → List (tBar) → tBar → (Int → Prop) → Prop
  | 0, _, _, _ => False
  | n + 1, a1, a2, K => slices_IndexFunc_Bar__impl_addBar_1.w n (slices_IndexFunc_Bar__impl_addBar_1.l2 n) a1 a2 K
def slices_ContainsFunc_Bar__impl_addBar_1.w (n : Nat) (a1 : List (tBar)) (a2 : tBar) (K : Bool → Prop) : Prop :=
  slices_IndexFunc_Bar__impl_addBar_1.c n a1 a2 (fun r3 => K (decide (r3 ≥ 0)))
def slices_ContainsFunc_Bar__impl_addBar_1.c : Nat → List (tBar) → tBar → (Bool → Prop) → Prop
  | 0, _, _, _ => False
  | n + 1, a1, a2, K => slices_ContainsFunc_Bar__impl_addBar_1.w n  a1 a2 K
def slices_Clone_uint64.w (n : Nat) (a1 : List Int) (K : List Int → Prop) : Prop :=
  (a1.length = 0 → (K ([] : List (Int)))) ∧ (grd (decide (([] : List (Int)).length + a1.length ≤ 7818749353073)) (K (([] : List (Int)) ++ a1)))
def slices_Clone_uint64.c : Nat → List Int → (List Int → Prop) → Prop
  | 0, _, _ => False
  | n + 1, a1, K => slices_Clone_uint64.w n  a1 K
def impl_cloneBits.w (n : Nat) (a1 : Int) (a2 : List Int) (K : Int → List Int → Prop) : Prop :=
  (slices_Clone_uint64.c n a2 (fun r6 => K a1 r6)) ∧ (slices_Clone_uint64.c n a2 (fun r7 => K a1 r7))
def impl_cloneBits.c : Nat → Int → List Int → (Int → List Int → Prop) → Prop
  | 0, _, _, _ => False
  | n + 1, a1, a2, K => impl_cloneBits.w n  a1 a2 K
def impl_addBar.w (n : Nat) (a1 : List (tBar)) (a2 : Int) (a3 : Int) (a4 : Int) (a5 : List Int) (K : List (tBar) → Prop) : Prop :=
  slices_ContainsFunc_Bar__impl_addBar_1.c n a1 (a2, a3, a4, a5) (fun r7 => if r7 = true then (K a1) else (((impl_cloneBits.c n a4 a5 (fun r24 r25 => let t26 : List (tBar) := ([(a2, a3, r24, r25)] : List (tBar)); grd (decide (a1.length + t26.length ≤ 1436096819952)) (K (a1 ++ t26)))) ∧ (impl_cloneBits.c n a4 a5 (fun r27 r28 => let t29 : List (tBar) := ([(a2, a3, r27, r28)] : List (tBar)); grd (decide (a1.length + t29.length ≤ 1436096819952)) (K (a1 ++ t29))))) ∧ ((impl_cloneBits.c n a4 a5 (fun r30 r31 => let t32 : List (tBar) := ([(a2, a3, r30, r31)] : List (tBar)); grd (decide (a1.length + t32.length ≤ 1436096819952)) (K (a1 ++ t32)))) ∧ (impl_cloneBits.c n a4 a5 (fun r33 r34 => let t35 : List (tBar) := ([(a2, a3, r33, r34)] : List (tBar)); grd (decide (a1.length + t35.length ≤ 1436096819952)) (K (a1 ++ t35))))) ∧ (impl_cloneBits.c n a4 a5 (fun r36 r37 => let t38 : List (tBar) := ([(a2, a3, r36, r37)] : List (tBar)); grd (decide (a1.length + t38.length ≤ 1436096819952)) (K (a1 ++ t38))))))
def impl_addBar.c : Nat → List (tBar) → Int → Int → Int → List Int → (List (tBar) → Prop) → Prop
  | 0, _, _, _, _, _, _ => False
  | n + 1, a1, a2, a3, a4, a5, K => impl_addBar.w n  a1 a2 a3 a4 a5 K
def impl_MustBars.j3 (again3 : Int → List (tBar) → Prop) (n : Nat) (x18 : List (tSplit)) (x20 : Int) (x21 : List (tBar)) (j30 : Bool) : Prop :=
  if j30 = true then (grd (decide (0 < ((((rd x18 (Int.toNat x20)).2).2).length : Int))) (let t31 : Int := ((rd (((rd x18 (Int.toNat x20)).2).2) 0).2).1; let t32 : Int := (((rd (((rd x18 (Int.toNat x20)).2).2) 0).2).2).1; let t33 : List Int := (((rd (((rd x18 (Int.toNat x20)).2).2) 0).2).2).2; impl_addBar.c n x21 ((rd (((rd x18 (Int.toNat x20)).2).2) 0).1) t31 t32 t33 (fun r34 => again3 (IntKind.wrap .i64 (x20 + 1)) r34))) else (again3 (IntKind.wrap .i64 (x20 + 1)) x21)
def impl_MustBars.l3.b (n : Nat) (x18 : List (tSplit)) (x19 : Int) (again3 : Int → List (tBar) → Prop) (x20 : Int) (x21 : List (tBar)) (Kx0w3 : List (tBar) → Prop) : Prop :=
  if (decide (x20 < x19)) = true then (grd (decide (0 ≤ x20) && decide (x20 < (x18.length : Int))) (if (decide (((rd x18 (Int.toNat x20)).2).1 = 3)) = true then (let t35 : Int := ((((rd x18 (Int.toNat x20)).2).2).length : Int); impl_MustBars.j3 again3 n x18 x20 x21 (decide (t35 = 1))) else (impl_MustBars.j3 again3 n x18 x20 x21 false))) else (Kx0w3 x21)
def impl_MustBars.l3 : Nat → List (tSplit) → Int → Int → List (tBar) → (List (tBar) → Prop) → Prop
  | 0, _, _, _, _, _ => False
  | n + 1, x18, x19, x20, x21, Kx0w3 => impl_MustBars.l3.b n  x18 x19 (fun x20q x21q => impl_MustBars.l3 n x18 x19 x20q x21q Kx0w3) x20 x21 Kx0w3
def impl_MustBars.w (n : Nat) (lp3 : List (tSplit) → Int → Int → List (tBar) → (List (tBar) → Prop) → Prop) (a1 : List (tSplit)) (K : List (tBar) → Prop) : Prop :=
  lp3 a1 (a1.length : Int) 0 ([] : List (tBar)) (fun y37 => K y37)
def impl_MustBars.c : Nat → List (tSplit) → (List (tBar) → Prop) → Prop
  | 0, _, _ => False
  | n + 1, a1, K => impl_MustBars.w n (impl_MustBars.l3 n) a1 K
def laws_eqUint64S.l4.b (n : Nat) (x12 : List Int) (x13 : List Int) (again4 : Int → Prop) (x14 : Int) (Kx0w4 : Prop) (Kr4 : Bool → Prop) : Prop :=
  if (decide (x14 < (x12.length : Int))) = true then (grd (decide (0 ≤ x14) && decide (x14 < (x12.length : Int))) (grd (decide (0 ≤ x14) && decide (x14 < (x13.length : Int))) (let t18 : Bool := !(decide (rd x12 (Int.toNat x14) = rd x13 (Int.toNat x14))); if t18 = true then (Kr4 false) else (again4 (IntKind.wrap .i64 (x14 + 1)))))) else (Kx0w4)
def laws_eqUint64S.l4 : Nat → List Int → List Int → Int → Prop → (Bool → Prop) → Prop
  | 0, _, _, _, _, _ => False
  | n + 1, x12, x13, x14, Kx0w4, Kr4 => laws_eqUint64S.l4.b n  x12 x13 (fun x14q => laws_eqUint64S.l4 n x12 x13 x14q Kx0w4 Kr4) x14 Kx0w4 Kr4
def laws_eqUint64S.w (n : Nat) (lp4 : List Int → List Int → Int → Prop → (Bool → Prop) → Prop) (a1 : List Int) (a2 : List Int) (K : Bool → Prop) : Prop :=
  let t4 : Bool := !(decide ((a1.length : Int) = (a2.length : Int))); if t4 = true then (K false) else (lp4 a1 a2 0 (K true) (fun y20 => K y20))
def laws_eqUint64S.c : Nat → List Int → List Int → (Bool → Prop) → Prop
  | 0, _, _, _ => False
  | n + 1, a1, a2, K => laws_eqUint64S.w n (laws_eqUint64S.l4 n) a1 a2 K
def laws_eqBits.w (n : Nat) (a1 : Int) (a2 : List Int) (a3 : Int) (a4 : List Int) (K : Bool → Prop) : Prop :=
  if (!(decide (a1 = a3))) = true then (K false) else (laws_eqUint64S.c n a2 a4 (fun r6 => if (!r6) = true then (K false) else (K true)))
def laws_eqBits.c : Nat → Int → List Int → Int → List Int → (Bool → Prop) → Prop
  | 0, _, _, _, _, _ => False
  | n + 1, a1, a2, a3, a4, K => laws_eqBits.w n  a1 a2 a3 a4 K
def laws_eqBar.w (n : Nat) (a1 : Int) (a2 : Int) (a3 : Int) (a4 : List Int) (a5 : Int) (a6 : Int) (a7 : Int) (a8 : List Int) (K : Bool → Prop) : Prop :=
  if (!(decide (a1 = a5))) = true then (K false) else (if (!(decide (a2 = a6))) = true then (K false) else (laws_eqBits.c n a3 a4 a7 a8 (fun r10 => if (!r10) = true then (K false) else (K true))))
def laws_eqBar.c : Nat → Int → Int → Int → List Int → Int → Int → Int → List Int → (Bool → Prop) → Prop
  | 0, _, _, _, _, _, _, _, _, _ => False
  | n + 1, a1, a2, a3, a4, a5, a6, a7, a8, K => laws_eqBar.w n  a1 a2 a3 a4 a5 a6 a7 a8 K
def laws_eqBarS.l4.b (n : Nat) (x12 : List (tBar)) (x13 : List (tBar)) (again4 : Int → Prop) (x14 : Int) (Kx0w4 : Prop) (Kr4 : Bool → Prop) : Prop :=
  if (decide (x14 < (x12.length : Int))) = true then (grd (decide (0 ≤ x14) && decide (x14 < (x12.length : Int))) (grd (decide (0 ≤ x14) && decide (x14 < (x13.length : Int))) (laws_eqBar.c n ((rd x12 (Int.toNat x14)).1) (((rd x12 (Int.toNat x14)).2).1) ((((rd x12 (Int.toNat x14)).2).2).1) ((((rd x12 (Int.toNat x14)).2).2).2) ((rd x13 (Int.toNat x14)).1) (((rd x13 (Int.toNat x14)).2).1) ((((rd x13 (Int.toNat x14)).2).2).1) ((((rd x13 (Int.toNat x14)).2).2).2) (fun r18 => if (!r18) = true then (Kr4 false) else (again4 (IntKind.wrap .i64 (x14 + 1))))))) else (Kx0w4)
def laws_eqBarS.l4 : Nat → List (tBar) → List (tBar) → Int → Prop → (Bool → Prop) → Prop
  | 0, _, _, _, _, _ => False
  | n + 1, x12, x13, x14, Kx0w4, Kr4 => laws_eqBarS.l4.b n  x12 x13 (fun x14q => laws_eqBarS.l4 n x12 x13 x14q Kx0w4 Kr4) x14 Kx0w4 Kr4
def laws_eqBarS.w (n : Nat) (lp4 : List (tBar) → List (tBar) → Int → Prop → (Bool → Prop) → Prop) (a1 : List (tBar)) (a2 : List (tBar)) (K : Bool → Prop) : Prop :=
  let t4 : Bool := !(decide ((a1.length : Int) = (a2.length : Int))); if t4 = true then (K false) else (lp4 a1 a2 0 (K true) (fun y20 => K y20))
def laws_eqBarS.c : Nat → List (tBar) → List (tBar) → (Bool → Prop) → Prop
  | 0, _, _, _ => False
  | n + 1, a1, a2, K => laws_eqBarS.w n (laws_eqBarS.l4 n) a1 a2 K
def laws_eqSplit.w (n : Nat) (a1 : Int) (a2 : Int) (a3 : List (tBar)) (a4 : Int) (a5 : Int) (a6 : List (tBar)) (K : Bool → Prop) : Prop :=
  if (!(decide (a1 = a4))) = true then (K false) else (if (!(decide (a2 = a5))) = true then (K false) else (laws_eqBarS.c n a3 a6 (fun r8 => if (!r8) = true then (K false) else (K true))))
def laws_eqSplit.c : Nat → Int → Int → List (tBar) → Int → Int → List (tBar) → (Bool → Prop) → Prop
  | 0, _, _, _, _, _, _, _ => False
  | n + 1, a1, a2, a3, a4, a5, a6, K => laws_eqSplit.w n  a1 a2 a3 a4 a5 a6 K
def laws_eqSplitS.l4.b (n : Nat) (x12 : List (tSplit)) (x13 : List (tSplit)) (again4 : Int → Prop) (x14 : Int) (Kx0w4 : Prop) (Kr4 : Bool → Prop) : Prop :=
  if (decide (x14 < (x12.length : Int))) = true then (grd (decide (0 ≤ x14) && decide (x14 < (x12.length : Int))) (grd (decide (0 ≤ x14) && decide (x14 < (x13.length : Int))) (laws_eqSplit.c n ((rd x12 (Int.toNat x14)).1) (((rd x12 (Int.toNat x14)).2).1) (((rd x12 (Int.toNat x14)).2).2) ((rd x13 (Int.toNat x14)).1) (((rd x13 (Int.toNat x14)).2).1) (((rd x13 (Int.toNat x14)).2).2) (fun r18 => if (!r18) = true then (Kr4 false) else (again4 (IntKind.wrap .i64 (x14 + 1))))))) else (Kx0w4)
def laws_eqSplitS.l4 : Nat → List (tSplit) → List (tSplit) → Int → Prop → (Bool → Prop) → Prop
  | 0, _, _, _, _, _ => False
  | n + 1, x12, x13, x14, Kx0w4, Kr4 => laws_eqSplitS.l4.b n  x12 x13 (fun x14q => laws_eqSplitS.l4 n x12 x13 x14q Kx0w4 Kr4) x14 Kx0w4 Kr4
def laws_eqSplitS.w (n : Nat) (lp4 : List (tSplit) → List (tSplit) → Int → Prop → (Bool → Prop) → Prop) (a1 : List (tSplit)) (a2 : List (tSplit)) (K : Bool → Prop) : Prop :=
  let t4 : Bool := !(decide ((a1.length : Int) = (a2.length : Int))); if t4 = true then (K false) else (lp4 a1 a2 0 (K true) (fun y20 => K y20))
def laws_eqSplitS.c : Nat → List (tSplit) → List (tSplit) → (Bool → Prop) → Prop
  | 0, _, _, _ => False
  | n + 1, a1, a2, K => laws_eqSplitS.w n (laws_eqSplitS.l4 n) a1 a2 K
def laws_markUint64S.l2.b (n : Nat) (again2 : Int → Int → List Int → Prop) (x8 : Int) (x9 : Int) (x10 : List Int) (Kx0w2 : Int → List Int → Prop) : Prop :=
  if (decide (x9 < (x10.length : Int))) = true then (grd (decide (0 ≤ x9) && decide (x9 < (x10.length : Int))) (let t12 : List Int := List.set x10 (Int.toNat x9) (IntKind.wrap .u64 x8); again2 (IntKind.wrap .i64 (x8 + 1)) (IntKind.wrap .i64 (x9 + 1)) t12)) else (Kx0w2 x8 x10)
def laws_markUint64S.l2 : Nat → Int → Int → List Int → (Int → List Int → Prop) → Prop
  | 0, _, _, _, _ => False
  | n + 1, x8, x9, x10, Kx0w2 => laws_markUint64S.l2.b n   (fun x8q x9q x10q => laws_markUint64S.l2 n x8q x9q x10q Kx0w2) x8 x9 x10 Kx0w2
def laws_markUint64S.w (n : Nat) (lp2 : Int → Int → List Int → (Int → List Int → Prop) → Prop) (a1 : List Int) (a2 : Int) (K : Int → List Int → Prop) : Prop :=
  lp2 a2 0 a1 (fun y15 y16 => K y15 y16)
def laws_markUint64S.c : Nat → List Int → Int → (Int → List Int → Prop) → Prop
  | 0, _, _, _ => False
  | n + 1, a1, a2, K => laws_markUint64S.w n (laws_markUint64S.l2 n) a1 a2 K
def laws_markBarS.l2.b (n : Nat) (again2 : Int → Int → List (tBar) → Prop) (x20 : Int) (x21 : Int) (x22 : List (tBar)) (Kx0w2 : Int → List (tBar) → Prop) : Prop :=
  if (decide (x21 < (x22.length : Int))) = true then (grd (decide (0 ≤ x21) && decide (x21 < (x22.length : Int))) (let t30 : List (tBar) := List.set x22 (Int.toNat x21) (x20, ((rd x22 (Int.toNat x21)).2).1, (((rd x22 (Int.toNat x21)).2).2).1, (((rd x22 (Int.toNat x21)).2).2).2); grd (decide (0 ≤ x21) && decide (x21 < (t30.length : Int))) (let t31 : List (tBar) := List.set t30 (Int.toNat x21) ((rd t30 (Int.toNat x21)).1, IntKind.wrap .i64 (x20 + 1), (((rd t30 (Int.toNat x21)).2).2).1, (((rd t30 (Int.toNat x21)).2).2).2); let t32 : Int := IntKind.wrap .i64 ((IntKind.wrap .i64 (x20 + 1)) + 1); grd (decide (0 ≤ x21) && decide (x21 < (t31.length : Int))) (let t33 : List (tBar) := List.set t31 (Int.toNat x21) ((rd t31 (Int.toNat x21)).1, ((rd t31 (Int.toNat x21)).2).1, t32, (((rd t31 (Int.toNat x21)).2).2).2); grd (decide (0 ≤ x21) && decide (x21 < (t33.length : Int))) (laws_markUint64S.c n ((((rd t33 (Int.toNat x21)).2).2).2) (IntKind.wrap .i64 (t32 + 1)) (fun r34 r35 => let t36 : List (tBar) := List.set t33 (Int.toNat x21) ((rd t33 (Int.toNat x21)).1, ((rd t33 (Int.toNat x21)).2).1, (((rd t33 (Int.toNat x21)).2).2).1, r35); again2 r34 (IntKind.wrap .i64 (x21 + 1)) t36)))))) else (Kx0w2 x20 x22)
def laws_markBarS.l2 : Nat → Int → Int → List (tBar) → (Int → List (tBar) → Prop) → Prop
  | 0, _, _, _, _ => False
  | n + 1, x20, x21, x22, Kx0w2 => laws_markBarS.l2.b n   (fun x20q x21q x22q => laws_markBarS.l2 n x20q x21q x22q Kx0w2) x20 x21 x22 Kx0w2
def laws_markBarS.w (n : Nat) (lp2 : Int → Int → List (tBar) → (Int → List (tBar) → Prop) → Prop) (a1 : List (tBar)) (a2 : Int) (K : Int → List (tBar) → Prop) : Prop :=
  lp2 a2 0 a1 (fun y39 y40 => K y39 y40)
def laws_markBarS.c : Nat → List (tBar) → Int → (Int → List (tBar) → Prop) → Prop
  | 0, _, _, _ => False
  | n + 1, a1, a2, K => laws_markBarS.w n (laws_markBarS.l2 n) a1 a2 K
def laws_markSplitS.l2.b (n : Nat) (again2 : Int → Int → List (tSplit) → Prop) (x18 : Int) (x19 : Int) (x20 : List (tSplit)) (Kx0w2 : Int → List (tSplit) → Prop) : Prop :=
  if (decide (x19 < (x20.length : Int))) = true then (grd (decide (0 ≤ x19) && decide (x19 < (x20.length : Int))) (let t27 : List (tSplit) := List.set x20 (Int.toNat x19) (x18, ((rd x20 (Int.toNat x19)).2).1, ((rd x20 (Int.toNat x19)).2).2); grd (decide (0 ≤ x19) && decide (x19 < (t27.length : Int))) (let t28 : List (tSplit) := List.set t27 (Int.toNat x19) ((rd t27 (Int.toNat x19)).1, IntKind.wrap .i64 (x18 + 1), ((rd t27 (Int.toNat x19)).2).2); let t29 : Int := IntKind.wrap .i64 ((IntKind.wrap .i64 (x18 + 1)) + 1); grd (decide (0 ≤ x19) && decide (x19 < (t28.length : Int))) (laws_markBarS.c n (((rd t28 (Int.toNat x19)).2).2) t29 (fun r30 r31 => let t32 : List (tSplit) := List.set t28 (Int.toNat x19) ((rd t28 (Int.toNat x19)).1, ((rd t28 (Int.toNat x19)).2).1, r31); again2 r30 (IntKind.wrap .i64 (x19 + 1)) t32))))) else (Kx0w2 x18 x20)
def laws_markSplitS.l2 : Nat → Int → Int → List (tSplit) → (Int → List (tSplit) → Prop) → Prop
  | 0, _, _, _, _ => False
  | n + 1, x18, x19, x20, Kx0w2 => laws_markSplitS.l2.b n   (fun x18q x19q x20q => laws_markSplitS.l2 n x18q x19q x20q Kx0w2) x18 x19 x20 Kx0w2
def laws_markSplitS.w (n : Nat) (lp2 : Int → Int → List (tSplit) → (Int → List (tSplit) → Prop) → Prop) (a1 : List (tSplit)) (a2 : Int) (K : Int → List (tSplit) → Prop) : Prop :=
  lp2 a2 0 a1 (fun y35 y36 => K y35 y36)
def laws_markSplitS.c : Nat → List (tSplit) → Int → (Int → List (tSplit) → Prop) → Prop
  | 0, _, _, _ => False
  | n + 1, a1, a2, K => laws_markSplitS.w n (laws_markSplitS.l2 n) a1 a2 K
def laws_markUint64S_1.l2.b (n : Nat) (again2 : Int → Int → List Int → Prop) (x8 : Int) (x9 : Int) (x10 : List Int) (Kx0w2 : Int → List Int → Prop) : Prop :=
  if (decide (x9 < (x10.length : Int))) = true then (grd (decide (0 ≤ x9) && decide (x9 < (x10.length : Int))) (let t12 : List Int := List.set x10 (Int.toNat x9) (IntKind.wrap .u64 x8); again2 (IntKind.wrap .i64 (x8 + 1)) (IntKind.wrap .i64 (x9 + 1)) t12)) else (Kx0w2 x8 x10)
def laws_markUint64S_1.l2 : Nat → Int → Int → List Int → (Int → List Int → Prop) → Prop
  | 0, _, _, _, _ => False
  | n + 1, x8, x9, x10, Kx0w2 => laws_markUint64S_1.l2.b n   (fun x8q x9q x10q => laws_markUint64S_1.l2 n x8q x9q x10q Kx0w2) x8 x9 x10 Kx0w2
def laws_markUint64S_1.w (n : Nat) (lp2 : Int → Int → List Int → (Int → List Int → Prop) → Prop) (a1 : List Int) (a2 : Int) (K : Int → List Int → Prop) : Prop :=
  lp2 a2 0 a1 (fun y15 y16 => K y15 y16)
def laws_markUint64S_1.c : Nat → List Int → Int → (Int → List Int → Prop) → Prop
  | 0, _, _, _ => False
  | n + 1, a1, a2, K => laws_markUint64S_1.w n (laws_markUint64S_1.l2 n) a1 a2 K
def laws_markBarS_1.l2.b (n : Nat) (again2 : Int → Int → List (tBar) → Prop) (x20 : Int) (x21 : Int) (x22 : List (tBar)) (Kx0w2 : Int → List (tBar) → Prop) : Prop :=
  if (decide (x21 < (x22.length : Int))) = true then (grd (decide (0 ≤ x21) && decide (x21 < (x22.length : Int))) (let t30 : List (tBar) := List.set x22 (Int.toNat x21) (x20, ((rd x22 (Int.toNat x21)).2).1, (((rd x22 (Int.toNat x21)).2).2).1, (((rd x22 (Int.toNat x21)).2).2).2); grd (decide (0 ≤ x21) && decide (x21 < (t30.length : Int))) (let t31 : List (tBar) := List.set t30 (Int.toNat x21) ((rd t30 (Int.toNat x21)).1, IntKind.wrap .i64 (x20 + 1), (((rd t30 (Int.toNat x21)).2).2).1, (((rd t30 (Int.toNat x21)).2).2).2); let t32 : Int := IntKind.wrap .i64 ((IntKind.wrap .i64 (x20 + 1)) + 1); grd (decide (0 ≤ x21) && decide (x21 < (t31.length : Int))) (let t33 : List (tBar) := List.set t31 (Int.toNat x21) ((rd t31 (Int.toNat x21)).1, ((rd t31 (Int.toNat x21)).2).1, t32, (((rd t31 (Int.toNat x21)).2).2).2); grd (decide (0 ≤ x21) && decide (x21 < (t33.length : Int))) (laws_markUint64S_1.c n ((((rd t33 (Int.toNat x21)).2).2).2) (IntKind.wrap .i64 (t32 + 1)) (fun r34 r35 => let t36 : List (tBar) := List.set t33 (Int.toNat x21) ((rd t33 (Int.toNat x21)).1, ((rd t33 (Int.toNat x21)).2).1, (((rd t33 (Int.toNat x21)).2).2).1, r35); again2 r34 (IntKind.wrap .i64 (x21 + 1)) t36)))))) else (Kx0w2 x20 x22)
def laws_markBarS_1.l2 : Nat → Int → Int → List (tBar) → (Int → List (tBar) → Prop) → Prop
  | 0, _, _, _, _ => False
  | n + 1, x20, x21, x22, Kx0w2 => laws_markBarS_1.l2.b n   (fun x20q x21q x22q => laws_markBarS_1.l2 n x20q x21q x22q Kx0w2) x20 x21 x22 Kx0w2
def laws_markBarS_1.w (n : Nat) (lp2 : Int → Int → List (tBar) → (Int → List (tBar) → Prop) → Prop) (a1 : List (tBar)) (a2 : Int) (K : Int → List (tBar) → Prop) : Prop :=
  lp2 a2 0 a1 (fun y39 y40 => K y39 y40)
def laws_markBarS_1.c : Nat → List (tBar) → Int → (Int → List (tBar) → Prop) → Prop
  | 0, _, _, _ => False
  | n + 1, a1, a2, K => laws_markBarS_1.w n (laws_markBarS_1.l2 n) a1 a2 K
def laws_heldUint64S.l2.b (n : Nat) (x10 : List Int) (again2 : Int → Int → Prop) (x11 : Int) (x12 : Int) (Kx0w2 : Int → Prop) (Kr2 : Int → Prop) : Prop :=
  if (decide (x12 < (x10.length : Int))) = true then (grd (decide (0 ≤ x12) && decide (x12 < (x10.length : Int))) (let t16 : Bool := !(decide (rd x10 (Int.toNat x12) = IntKind.wrap .u64 x11)); if t16 = true then (Kr2 (-1)) else (again2 (IntKind.wrap .i64 (x11 + 1)) (IntKind.wrap .i64 (x12 + 1))))) else (Kx0w2 x11)
def laws_heldUint64S.l2 : Nat → List Int → Int → Int → (Int → Prop) → (Int → Prop) → Prop
  | 0, _, _, _, _, _ => False
  | n + 1, x10, x11, x12, Kx0w2, Kr2 => laws_heldUint64S.l2.b n  x10 (fun x11q x12q => laws_heldUint64S.l2 n x10 x11q x12q Kx0w2 Kr2) x11 x12 Kx0w2 Kr2
def laws_heldUint64S.w (n : Nat) (lp2 : List Int → Int → Int → (Int → Prop) → (Int → Prop) → Prop) (a1 : List Int) (a2 : Int) (K : Int → Prop) : Prop :=
  lp2 a1 a2 0 (fun y19 => K y19) (fun y20 => K y20)
def laws_heldUint64S.c : Nat → List Int → Int → (Int → Prop) → Prop
  | 0, _, _, _ => False
  | n + 1, a1, a2, K => laws_heldUint64S.w n (laws_heldUint64S.l2 n) a1 a2 K
def laws_heldBarS.l2.b (n : Nat) (x18 : List (tBar)) (again2 : Int → Int → Prop) (x19 : Int) (x20 : Int) (Kx0w2 : Int → Prop) (Kr2 : Int → Prop) : Prop :=
  if (decide (x20 < (x18.length : Int))) = true then (grd (decide (0 ≤ x20) && decide (x20 < (x18.length : Int))) (if (!(decide ((rd x18 (Int.toNat x20)).1 = x19))) = true then (Kr2 (-1)) else (grd (decide (0 ≤ x20) && decide (x20 < (x18.length : Int))) (let t28 : Bool := !(decide (((rd x18 (Int.toNat x20)).2).1 = IntKind.wrap .i64 (x19 + 1))); if t28 = true then (Kr2 (-1)) else (let t29 : Int := IntKind.wrap .i64 ((IntKind.wrap .i64 (x19 + 1)) + 1); grd (decide (0 ≤ x20) && decide (x20 < (x18.length : Int))) (let t31 : Bool := !(decide ((((rd x18 (Int.toNat x20)).2).2).1 = t29)); if t31 = true then (Kr2 (-1)) else (grd (decide (0 ≤ x20) && decide (x20 < (x18.length : Int))) (laws_heldUint64S.c n ((((rd x18 (Int.toNat x20)).2).2).2) (IntKind.wrap .i64 (t29 + 1)) (fun r32 => if (decide (r32 < 0)) = true then (Kr2 (-1)) else (again2 r32 (IntKind.wrap .i64 (x20 + 1)))))))))))) else (Kx0w2 x19)
def laws_heldBarS.l2 : Nat → List (tBar) → Int → Int → (Int → Prop) → (Int → Prop) → Prop
  | 0, _, _, _, _, _ => False
  | n + 1, x18, x19, x20, Kx0w2, Kr2 => laws_heldBarS.l2.b n  x18 (fun x19q x20q => laws_heldBarS.l2 n x18 x19q x20q Kx0w2 Kr2) x19 x20 Kx0w2 Kr2
def laws_heldBarS.w (n : Nat) (lp2 : List (tBar) → Int → Int → (Int → Prop) → (Int → Prop) → Prop) (a1 : List (tBar)) (a2 : Int) (K : Int → Prop) : Prop :=
  lp2 a1 a2 0 (fun y35 => K y35) (fun y36 => K y36)
def laws_heldBarS.c : Nat → List (tBar) → Int → (Int → Prop) → Prop
  | 0, _, _, _ => False
  | n + 1, a1, a2, K => laws_heldBarS.w n (laws_heldBarS.l2 n) a1 a2 K
def laws_FnExactMustBars.q15.b (n : Nat) (x16 : List (tSplit)) (x17 : Bool) (x18 : List (tBar)) (x19 : List (tBar)) (Kc15w0 : Bool → Prop) (Kc15w1 : List (tSplit) → List (tBar) → List (tBar) → Prop) : Prop :=
  if x17 = true then (Kc15w0 false) else (Kc15w1 x16 x18 x19)
def laws_FnExactMustBars.q15 : Nat → List (tSplit) → Bool → List (tBar) → List (tBar) → (Bool → Prop) → (List (tSplit) → List (tBar) → List (tBar) → Prop) → Prop
  | 0, _, _, _, _, _, _ => False
  | n + 1, x16, x17, x18, x19, Kc15w0, Kc15w1 => laws_FnExactMustBars.q15.b n  x16 x17 x18 x19  Kc15w0 Kc15w1
def laws_FnExactMustBars.j0 (K : Bool → Prop) (n : Nat) (j28 : List (tSplit)) (j29 : List (tBar)) (j30 : List (tBar)) : Prop :=
  laws_markBarS_1.c n j30 1 (fun r31 r32 => laws_heldBarS.c n r32 1 (fun r33 => if (decide (r33 < 0)) = true then (K false) else (if (!(decide (r33 = r31))) = true then (K false) else (laws_toSplitS.c n j28 (fun r34 => impl_MustBars.c n r34 (fun r35 => laws_eqBarS.c n r35 j29 (fun r37 => if (!r37) = true then (K false) else (laws_heldBarS.c n r32 1 (fun r38 => if (decide (r38 < 0)) = true then (K false) else (if (!(decide (r38 = r31))) = true then (K false) else (K true)))))))))))
def laws_FnExactMustBars.w (n : Nat) (lpq15 : List (tSplit) → Bool → List (tBar) → List (tBar) → (Bool → Prop) → (List (tSplit) → List (tBar) → List (tBar) → Prop) → Prop) (a1 : List (tSplit)) (K : Bool → Prop) : Prop :=
  laws_szSplitS.c n a1 1048576 (fun r2 => if (decide (r2 < 0)) = true then (K true) else (laws_toSplitS.c n a1 (fun r3 => spec_MustBars.c n r3 (fun r4 => laws_toSplitS.c n a1 (fun r5 => impl_MustBars.c n r5 (fun r6 => laws_eqBarS.c n r6 r4 (fun r8 => if (!r8) = true then (K false) else (laws_toSplitS.c n a1 (fun r11 => laws_eqSplitS.c n r5 r11 (fun r12 => if (!r12) = true then (K false) else (laws_markSplitS.c n r5 1 (fun r13 r14 => if (decide (r13 < 0)) = false then (laws_eqBarS.c n r6 r4 (fun r39 => lpq15 a1 (!r39) r4 r6 (fun y40 => K y40) (fun y41 y42 y43 => laws_FnExactMustBars.j0 K n y41 y42 y43))) else (lpq15 a1 true r4 r6 (fun y44 => K y44) (fun y45 y46 y47 => laws_FnExactMustBars.j0 K n y45 y46 y47))))))))))))))
def laws_FnExactMustBars.c : Nat → List (tSplit) → (Bool → Prop) → Prop
  | 0, _, _ => False
  | n + 1, a1, K => laws_FnExactMustBars.w n (laws_FnExactMustBars.q15 n) a1 K
end Go.Vsi
end
