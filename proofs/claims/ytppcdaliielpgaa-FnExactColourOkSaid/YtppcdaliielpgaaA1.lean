/- Go functions, told on plain data. No statement is proved here. -/
import Derived.Test.YtppcdaliielpgaaM1

section
set_option linter.unusedVariables false
set_option synthInstance.maxSize 4096
namespace Go.Vsi
abbrev tBar : Type := Int × Int × Int × List (Int)
instance : DecidableEq tBar := inferInstance
abbrev tBits : Type := Int × List (Int)
instance : DecidableEq tBits := inferInstance
abbrev tGraph : Type := List (Int) × List (tBar)
instance : DecidableEq tGraph := inferInstance
def laws_szUint64S.w (n : Nat) (a1 : List Int) (a2 : Int) (K : Int → Prop) : Prop :=
  let t4 : Bool := decide (IntKind.wrap .i64 (a2 - (a1.length : Int)) < 0); if t4 = true then (K (-1)) else (K (IntKind.wrap .i64 (a2 - (a1.length : Int))))
def laws_szUint64S.c : Nat → List Int → Int → (Int → Prop) → Prop
  | 0, _, _, _ => False
  | n + 1, a1, a2, K => laws_szUint64S.w n  a1 a2 K
def laws_szBits.w (n : Nat) (a1 : Int) (a2 : List Int) (a3 : Int) (K : Int → Prop) : Prop :=
  laws_szUint64S.c n a2 a3 (fun r4 => if (decide (r4 < 0)) = true then (K (-1)) else (K r4))
def laws_szBits.c : Nat → Int → List Int → Int → (Int → Prop) → Prop
  | 0, _, _, _, _ => False
  | n + 1, a1, a2, a3, K => laws_szBits.w n  a1 a2 a3 K
def laws_szBar.w (n : Nat) (a1 : Int) (a2 : Int) (a3 : Int) (a4 : List Int) (a5 : Int) (K : Int → Prop) : Prop :=
  laws_szBits.c n a3 a4 a5 (fun r6 => if (decide (r6 < 0)) = true then (K (-1)) else (K r6))
def laws_szBar.c : Nat → Int → Int → Int → List Int → Int → (Int → Prop) → Prop
  | 0, _, _, _, _, _, _ => False
  | n + 1, a1, a2, a3, a4, a5, K => laws_szBar.w n  a1 a2 a3 a4 a5 K
def laws_szBarS.l5.b (n : Nat) (x10 : List (tBar)) (again5 : Int → Int → Prop) (x11 : Int) (x12 : Int) (Kx0w5 : Int → Prop) (Kr5 : Int → Prop) : Prop :=
  if (decide (x12 < (x10.length : Int))) = true then (grd (decide (0 ≤ x12) && decide (x12 < (x10.length : Int))) (laws_szBar.c n ((rd x10 (Int.toNat x12)).1) (((rd x10 (Int.toNat x12)).2).1) ((((rd x10 (Int.toNat x12)).2).2).1) ((((rd x10 (Int.toNat x12)).2).2).2) x11 (fun r14 => if (decide (r14 < 0)) = true then (Kr5 (-1)) else (again5 r14 (IntKind.wrap .i64 (x12 + 1)))))) else (Kx0w5 x11)
def laws_szBarS.l5 : Nat → List (tBar) → Int → Int → (Int → Prop) → (Int → Prop) → Prop
  | 0, _, _, _, _, _ => False
  | n + 1, x10, x11, x12, Kx0w5, Kr5 => laws_szBarS.l5.b n  x10 (fun x11q x12q => laws_szBarS.l5 n x10 x11q x12q Kx0w5 Kr5) x11 x12 Kx0w5 Kr5
def laws_szBarS.w (n : Nat) (lp5 : List (tBar) → Int → Int → (Int → Prop) → (Int → Prop) → Prop) (a1 : List (tBar)) (a2 : Int) (K : Int → Prop) : Prop :=
  let t4 : Bool := decide (IntKind.wrap .i64 (a2 - (a1.length : Int)) < 0); if t4 = true then (K (-1)) else (lp5 a1 (IntKind.wrap .i64 (a2 - (a1.length : Int))) 0 (fun y17 => K y17) (fun y18 => K y18))
def laws_szBarS.c : Nat → List (tBar) → Int → (Int → Prop) → Prop
  | 0, _, _, _ => False
  | n + 1, a1, a2, K => laws_szBarS.w n (laws_szBarS.l5 n) a1 a2 K
def laws_toUint64S.l3.b (n : Nat) (x8 : List Int) (again3 : Int → List Int → Prop) (x9 : Int) (x10 : List Int) (Kx0w3 : List Int → Prop) : Prop :=
  if (decide (x9 < (x8.length : Int))) = true then (grd (decide (0 ≤ x9) && decide (x9 < (x8.length : Int))) (grd (decide (0 ≤ x9) && decide (x9 < (x10.length : Int))) (let t12 : List Int := List.set x10 (Int.toNat x9) (rd x8 (Int.toNat x9)); again3 (IntKind.wrap .i64 (x9 + 1)) t12))) else (Kx0w3 x10)
def laws_toUint64S.l3 : Nat → List Int → Int → List Int → (List Int → Prop) → Prop
  | 0, _, _, _, _ => False
  | n + 1, x8, x9, x10, Kx0w3 => laws_toUint64S.l3.b n  x8 (fun x9q x10q => laws_toUint64S.l3 n x8 x9q x10q Kx0w3) x9 x10 Kx0w3
def laws_toUint64S.w (n : Nat) (lp3 : List Int → Int → List Int → (List Int → Prop) → Prop) (a1 : List Int) (K : List Int → Prop) : Prop :=
  grd ((decide (0 ≤ (a1.length : Int)) && decide ((a1.length : Int) ≤ 7818749353073)) && decide ((a1.length : Int) = (a1.length : Int))) (let t2 : List Int := List.replicate (Int.toNat (a1.length : Int)) 0; lp3 a1 0 t2 (fun y14 => K y14))
def laws_toUint64S.c : Nat → List Int → (List Int → Prop) → Prop
  | 0, _, _ => False
  | n + 1, a1, K => laws_toUint64S.w n (laws_toUint64S.l3 n) a1 K
def laws_toBits.w (n : Nat) (a1 : Int) (a2 : List Int) (K : Int → List Int → Prop) : Prop :=
  laws_toUint64S.c n a2 (fun r3 => K a1 r3)
def laws_toBits.c : Nat → Int → List Int → (Int → List Int → Prop) → Prop
  | 0, _, _, _ => False
  | n + 1, a1, a2, K => laws_toBits.w n  a1 a2 K
def laws_toBar.w (n : Nat) (a1 : Int) (a2 : Int) (a3 : Int) (a4 : List Int) (K : Int → Int → Int → List Int → Prop) : Prop :=
  laws_toBits.c n a3 a4 (fun r5 r6 => K a1 a2 r5 r6)
def laws_toBar.c : Nat → Int → Int → Int → List Int → (Int → Int → Int → List Int → Prop) → Prop
  | 0, _, _, _, _, _ => False
  | n + 1, a1, a2, a3, a4, K => laws_toBar.w n  a1 a2 a3 a4 K
def laws_toBarS.l3.b (n : Nat) (x15 : List (tBar)) (again3 : Int → List (tBar) → Prop) (x16 : Int) (x17 : List (tBar)) (Kx0w3 : List (tBar) → Prop) : Prop :=
  if (decide (x16 < (x15.length : Int))) = true then (grd (decide (0 ≤ x16) && decide (x16 < (x15.length : Int))) (laws_toBar.c n ((rd x15 (Int.toNat x16)).1) (((rd x15 (Int.toNat x16)).2).1) ((((rd x15 (Int.toNat x16)).2).2).1) ((((rd x15 (Int.toNat x16)).2).2).2) (fun r23 r24 r25 r26 => grd (decide (0 ≤ x16) && decide (x16 < (x17.length : Int))) (let t27 : List (tBar) := List.set x17 (Int.toNat x16) (r23, r24, r25, r26); again3 (IntKind.wrap .i64 (x16 + 1)) t27)))) else (Kx0w3 x17)
def laws_toBarS.l3 : Nat → List (tBar) → Int → List (tBar) → (List (tBar) → Prop) → Prop
  | 0, _, _, _, _ => False
  | n + 1, x15, x16, x17, Kx0w3 => laws_toBarS.l3.b n  x15 (fun x16q x17q => laws_toBarS.l3 n x15 x16q x17q Kx0w3) x16 x17 Kx0w3
def laws_toBarS.w (n : Nat) (lp3 : List (tBar) → Int → List (tBar) → (List (tBar) → Prop) → Prop) (a1 : List (tBar)) (K : List (tBar) → Prop) : Prop :=
  grd ((decide (0 ≤ (a1.length : Int)) && decide ((a1.length : Int) ≤ 1436096819952)) && decide ((a1.length : Int) = (a1.length : Int))) (let t2 : List (tBar) := List.replicate (Int.toNat (a1.length : Int)) (0, 0, 0, ([] : List (Int))); lp3 a1 0 t2 (fun y29 => K y29))
def laws_toBarS.c : Nat → List (tBar) → (List (tBar) → Prop) → Prop
  | 0, _, _ => False
  | n + 1, a1, K => laws_toBarS.w n (laws_toBarS.l3 n) a1 K
def spec_l3SameBits.l4.b (n : Nat) (x18 : Int) (x19 : List Int) (x20 : Int) (x21 : List Int) (again4 : Int → Prop) (x17 : Int) (Kx0w4 : Prop) (Kr4 : Bool → Prop) : Prop :=
  if (decide (x17 < (x19.length : Int))) = true then (grd (decide (0 ≤ x17) && decide (x17 < (x19.length : Int))) (grd (decide (0 ≤ x17) && decide (x17 < (x21.length : Int))) (let t25 : Bool := !(decide (rd x19 (Int.toNat x17) = rd x21 (Int.toNat x17))); if t25 = true then (Kr4 false) else (again4 (IntKind.wrap .i64 (x17 + 1)))))) else (Kx0w4)
def spec_l3SameBits.l4 : Nat → Int → List Int → Int → List Int → Int → Prop → (Bool → Prop) → Prop
  | 0, _, _, _, _, _, _, _ => False
  | n + 1, x18, x19, x20, x21, x17, Kx0w4, Kr4 => spec_l3SameBits.l4.b n  x18 x19 x20 x21 (fun x17q => spec_l3SameBits.l4 n x18 x19 x20 x21 x17q Kx0w4 Kr4) x17 Kx0w4 Kr4
def spec_l3SameBits.w (n : Nat) (lp4 : Int → List Int → Int → List Int → Int → Prop → (Bool → Prop) → Prop) (a1 : Int) (a2 : List Int) (a3 : Int) (a4 : List Int) (K : Bool → Prop) : Prop :=
  if (!(decide (a1 = a3))) = false then (let t32 : Bool := !(decide ((a2.length : Int) = (a4.length : Int))); if t32 = true then (K false) else (lp4 a1 a2 a3 a4 0 (K true) (fun y34 => K y34))) else (K false)
def spec_l3SameBits.c : Nat → Int → List Int → Int → List Int → (Bool → Prop) → Prop
  | 0, _, _, _, _, _ => False
  | n + 1, a1, a2, a3, a4, K => spec_l3SameBits.w n (spec_l3SameBits.l4 n) a1 a2 a3 a4 K
def slices_Equal_uint64.l4.b (n : Nat) (x13 : List Int) (x14 : List Int) (x15 : Int) (again4 : Int → Prop) (x16 : Int) (Kx0w4 : Prop) (Kr4 : Bool → Prop) : Prop :=
  if (decide (x16 < x15)) = true then (grd (decide (0 ≤ x16) && decide (x16 < (x13.length : Int))) (grd (decide (0 ≤ x16) && decide (x16 < (x14.length : Int))) (let t20 : Bool := !(decide (rd x13 (Int.toNat x16) = rd x14 (Int.toNat x16))); if t20 = true then (Kr4 false) else (again4 (IntKind.wrap .i64 (x16 + 1)))))) else (Kx0w4)
def slices_Equal_uint64.l4 : Nat → List Int → List Int → Int → Int → Prop → (Bool → Prop) → Prop
  | 0, _, _, _, _, _, _ => False
  | n + 1, x13, x14, x15, x16, Kx0w4, Kr4 => slices_Equal_uint64.l4.b n  x13 x14 x15 (fun x16q => slices_Equal_uint64.l4 n x13 x14 x15 x16q Kx0w4 Kr4) x16 Kx0w4 Kr4
def slices_Equal_uint64.w (n : Nat) (lp4 : List Int → List Int → Int → Int → Prop → (Bool → Prop) → Prop) (a1 : List Int) (a2 : List Int) (K : Bool → Prop) : Prop :=
  let t4 : Bool := !(decide ((a1.length : Int) = (a2.length : Int))); if t4 = true then (K false) else (lp4 a1 a2 (a1.length : Int) 0 (K true) (fun y22 => K y22))
def slices_Equal_uint64.c : Nat → List Int → List Int → (Bool → Prop) → Prop
  | 0, _, _, _ => False
  | n + 1, a1, a2, K => slices_Equal_uint64.w n (slices_Equal_uint64.l4 n) a1 a2 K
def impl_Bits_same.w (n : Nat) (a1 : Int) (a2 : List Int) (a3 : Int) (a4 : List Int) (K : Bool → Prop) : Prop :=
  if (decide (a1 = a3)) = true then (slices_Equal_uint64.c n a2 a4 (fun r7 => K r7)) else (K false)
def impl_Bits_same.c : Nat → Int → List Int → Int → List Int → (Bool → Prop) → Prop
  | 0, _, _, _, _, _ => False
  | n + 1, a1, a2, a3, a4, K => impl_Bits_same.w n  a1 a2 a3 a4 K
def laws_eqUint64S.l4.b (n : Nat) (x12 : List Int) (x13 : List Int) (again4 : Int → Prop) (x14 : Int) (Kx0w4 : Prop) (Kr4 : Bool → Prop) : Prop :=
  if (decide (x14 < (x12.length : Int))) = true then (grd (decide (0 ≤ x14) && decide (x14 < (x12.length : Int))) (grd (decide (0 ≤ x14) && decide (x14 < (x13.length : Int))) (let t18 : Bool := !(decide (rd x12 (Int.toNat x14) = rd x13 (Int.toNat x14))); if t18 = true then (Kr4 false) else (again4 (IntKind.wrap .i64 (x14 + 1)))))) else (Kx0w4)
def laws_eqUint64S.l4 : Nat → List Int → List Int → Int → Prop → (Bool → Prop) → Prop
  | 0, _, _, _, _, _ => False
  | n + 1, x12, x13, x14, Kx0w4, Kr4 => laws_eqUint64S.l4.b n  x12 x13 (fun x14q => laws_eqUint64S.l4 n x12 x13 x14q Kx0w4 Kr4) x14 Kx0w4 Kr4
def laws_eqUint64S.w (n : Nat) (lp4 : List Int → List Int → Int → Prop → (Bool → Prop) → Prop) (a1 : List Int) (a2 : List Int) (K : Bool → Prop) : Prop :=
  let t4 : Bool := !(decide ((a1.length : Int) = (a2.length : Int))); if t4 = true then (K false) else (lp4 a1 a2 0 (K true) (fun y20 => K y20))
def laws_eqUint64S.c : Nat → List Int → List Int → (Bool → Prop) → Prop
  | 0, _, _, _ => False
  | n + 1, a1, a2, K => laws_eqUint64S.w n (laws_eqUint64S.l4 n) a1 a2 K
def laws_eqBits.w (n : Nat) (a1 : Int) (a2 : List Int) (a3 : Int) (a4 : List Int) (K : Bool → Prop) : Prop :=
  if (!(decide (a1 = a3))) = true then (K false) else (laws_eqUint64S.c n a2 a4 (fun r6 => if (!r6) = true then (K false) else (K true)))
def laws_eqBits.c : Nat → Int → List Int → Int → List Int → (Bool → Prop) → Prop
  | 0, _, _, _, _, _ => False
  | n + 1, a1, a2, a3, a4, K => laws_eqBits.w n  a1 a2 a3 a4 K
def laws_eqBar.w (n : Nat) (a1 : Int) (a2 : Int) (a3 : Int) (a4 : List Int) (a5 : Int) (a6 : Int) (a7 : Int) (a8 : List Int) (K : Bool → Prop) : Prop :=
  if (!(decide (a1 = a5))) = true then (K false) else (if (!(decide (a2 = a6))) = true then (K false) else (laws_eqBits.c n a3 a4 a7 a8 (fun r10 => if (!r10) = true then (K false) else (K true))))
def laws_eqBar.c : Nat → Int → Int → Int → List Int → Int → Int → Int → List Int → (Bool → Prop) → Prop
  | 0, _, _, _, _, _, _, _, _, _ => False
  | n + 1, a1, a2, a3, a4, a5, a6, a7, a8, K => laws_eqBar.w n  a1 a2 a3 a4 a5 a6 a7 a8 K
def laws_eqBarS.l4.b (n : Nat) (x12 : List (tBar)) (x13 : List (tBar)) (again4 : Int → Prop) (x14 : Int) (Kx0w4 : Prop) (Kr4 : Bool → Prop) : Prop :=
  if (decide (x14 < (x12.length : Int))) = true then (grd (decide (0 ≤ x14) && decide (x14 < (x12.length : Int))) (grd (decide (0 ≤ x14) && decide (x14 < (x13.length : Int))) (laws_eqBar.c n ((rd x12 (Int.toNat x14)).1) (((rd x12 (Int.toNat x14)).2).1) ((((rd x12 (Int.toNat x14)).2).2).1) ((((rd x12 (Int.toNat x14)).2).2).2) ((rd x13 (Int.toNat x14)).1) (((rd x13 (Int.toNat x14)).2).1) ((((rd x13 (Int.toNat x14)).2).2).1) ((((rd x13 (Int.toNat x14)).2).2).2) (fun r18 => if (!r18) = true then (Kr4 false) else (again4 (IntKind.wrap .i64 (x14 + 1))))))) else (Kx0w4)
def laws_eqBarS.l4 : Nat → List (tBar) → List (tBar) → Int → Prop → (Bool → Prop) → Prop
  | 0, _, _, _, _, _ => False
  | n + 1, x12, x13, x14, Kx0w4, Kr4 => laws_eqBarS.l4.b n  x12 x13 (fun x14q => laws_eqBarS.l4 n x12 x13 x14q Kx0w4 Kr4) x14 Kx0w4 Kr4
def laws_eqBarS.w (n : Nat) (lp4 : List (tBar) → List (tBar) → Int → Prop → (Bool → Prop) → Prop) (a1 : List (tBar)) (a2 : List (tBar)) (K : Bool → Prop) : Prop :=
  let t4 : Bool := !(decide ((a1.length : Int) = (a2.length : Int))); if t4 = true then (K false) else (lp4 a1 a2 0 (K true) (fun y20 => K y20))
def laws_eqBarS.c : Nat → List (tBar) → List (tBar) → (Bool → Prop) → Prop
  | 0, _, _, _ => False
  | n + 1, a1, a2, K => laws_eqBarS.w n (laws_eqBarS.l4 n) a1 a2 K
def laws_szInt64S.w (n : Nat) (a1 : List Int) (a2 : Int) (K : Int → Prop) : Prop :=
  let t4 : Bool := decide (IntKind.wrap .i64 (a2 - (a1.length : Int)) < 0); if t4 = true then (K (-1)) else (K (IntKind.wrap .i64 (a2 - (a1.length : Int))))
def laws_szInt64S.c : Nat → List Int → Int → (Int → Prop) → Prop
  | 0, _, _, _ => False
  | n + 1, a1, a2, K => laws_szInt64S.w n  a1 a2 K
def laws_szGraph.w (n : Nat) (a1 : List Int) (a2 : List (tBar)) (a3 : Int) (K : Int → Prop) : Prop :=
  laws_szInt64S.c n a1 a3 (fun r4 => if (decide (r4 < 0)) = true then (K (-1)) else (laws_szBarS.c n a2 r4 (fun r5 => if (decide (r5 < 0)) = true then (K (-1)) else (K r5))))
def laws_szGraph.c : Nat → List Int → List (tBar) → Int → (Int → Prop) → Prop
  | 0, _, _, _, _ => False
  | n + 1, a1, a2, a3, K => laws_szGraph.w n  a1 a2 a3 K
def laws_szBitsS.l5.b (n : Nat) (x10 : List (tBits)) (again5 : Int → Int → Prop) (x11 : Int) (x12 : Int) (Kx0w5 : Int → Prop) (Kr5 : Int → Prop) : Prop :=
  if (decide (x12 < (x10.length : Int))) = true then (grd (decide (0 ≤ x12) && decide (x12 < (x10.length : Int))) (laws_szBits.c n ((rd x10 (Int.toNat x12)).1) ((rd x10 (Int.toNat x12)).2) x11 (fun r14 => if (decide (r14 < 0)) = true then (Kr5 (-1)) else (again5 r14 (IntKind.wrap .i64 (x12 + 1)))))) else (Kx0w5 x11)
def laws_szBitsS.l5 : Nat → List (tBits) → Int → Int → (Int → Prop) → (Int → Prop) → Prop
  | 0, _, _, _, _, _ => False
  | n + 1, x10, x11, x12, Kx0w5, Kr5 => laws_szBitsS.l5.b n  x10 (fun x11q x12q => laws_szBitsS.l5 n x10 x11q x12q Kx0w5 Kr5) x11 x12 Kx0w5 Kr5
def laws_szBitsS.w (n : Nat) (lp5 : List (tBits) → Int → Int → (Int → Prop) → (Int → Prop) → Prop) (a1 : List (tBits)) (a2 : Int) (K : Int → Prop) : Prop :=
  let t4 : Bool := decide (IntKind.wrap .i64 (a2 - (a1.length : Int)) < 0); if t4 = true then (K (-1)) else (lp5 a1 (IntKind.wrap .i64 (a2 - (a1.length : Int))) 0 (fun y17 => K y17) (fun y18 => K y18))
def laws_szBitsS.c : Nat → List (tBits) → Int → (Int → Prop) → Prop
  | 0, _, _, _ => False
  | n + 1, a1, a2, K => laws_szBitsS.w n (laws_szBitsS.l5 n) a1 a2 K
def laws_toInt64S.l3.b (n : Nat) (x8 : List Int) (again3 : Int → List Int → Prop) (x9 : Int) (x10 : List Int) (Kx0w3 : List Int → Prop) : Prop :=
  if (decide (x9 < (x8.length : Int))) = true then (grd (decide (0 ≤ x9) && decide (x9 < (x8.length : Int))) (grd (decide (0 ≤ x9) && decide (x9 < (x10.length : Int))) (let t12 : List Int := List.set x10 (Int.toNat x9) (rd x8 (Int.toNat x9)); again3 (IntKind.wrap .i64 (x9 + 1)) t12))) else (Kx0w3 x10)
def laws_toInt64S.l3 : Nat → List Int → Int → List Int → (List Int → Prop) → Prop
  | 0, _, _, _, _ => False
  | n + 1, x8, x9, x10, Kx0w3 => laws_toInt64S.l3.b n  x8 (fun x9q x10q => laws_toInt64S.l3 n x8 x9q x10q Kx0w3) x9 x10 Kx0w3
def laws_toInt64S.w (n : Nat) (lp3 : List Int → Int → List Int → (List Int → Prop) → Prop) (a1 : List Int) (K : List Int → Prop) : Prop :=
  grd ((decide (0 ≤ (a1.length : Int)) && decide ((a1.length : Int) ≤ 7818749353073)) && decide ((a1.length : Int) = (a1.length : Int))) (let t2 : List Int := List.replicate (Int.toNat (a1.length : Int)) 0; lp3 a1 0 t2 (fun y14 => K y14))
def laws_toInt64S.c : Nat → List Int → (List Int → Prop) → Prop
  | 0, _, _ => False
  | n + 1, a1, K => laws_toInt64S.w n (laws_toInt64S.l3 n) a1 K
def laws_toGraph.w (n : Nat) (a1 : List Int) (a2 : List (tBar)) (K : List Int → List (tBar) → Prop) : Prop :=
  laws_toInt64S.c n a1 (fun r3 => laws_toBarS.c n a2 (fun r4 => K r3 r4))
def laws_toGraph.c : Nat → List Int → List (tBar) → (List Int → List (tBar) → Prop) → Prop
  | 0, _, _, _ => False
  | n + 1, a1, a2, K => laws_toGraph.w n  a1 a2 K
def laws_toBitsS.l3.b (n : Nat) (x10 : List (tBits)) (again3 : Int → List (tBits) → Prop) (x11 : Int) (x12 : List (tBits)) (Kx0w3 : List (tBits) → Prop) : Prop :=
  if (decide (x11 < (x10.length : Int))) = true then (grd (decide (0 ≤ x11) && decide (x11 < (x10.length : Int))) (laws_toBits.c n ((rd x10 (Int.toNat x11)).1) ((rd x10 (Int.toNat x11)).2) (fun r15 r16 => grd (decide (0 ≤ x11) && decide (x11 < (x12.length : Int))) (again3 (IntKind.wrap .i64 (x11 + 1)) (List.set x12 (Int.toNat x11) (r15, r16)))))) else (Kx0w3 x12)
def laws_toBitsS.l3 : Nat → List (tBits) → Int → List (tBits) → (List (tBits) → Prop) → Prop
  | 0, _, _, _, _ => False
  | n + 1, x10, x11, x12, Kx0w3 => laws_toBitsS.l3.b n  x10 (fun x11q x12q => laws_toBitsS.l3 n x10 x11q x12q Kx0w3) x11 x12 Kx0w3
def laws_toBitsS.w (n : Nat) (lp3 : List (tBits) → Int → List (tBits) → (List (tBits) → Prop) → Prop) (a1 : List (tBits)) (K : List (tBits) → Prop) : Prop :=
  grd ((decide (0 ≤ (a1.length : Int)) && decide ((a1.length : Int) ≤ 2132386187201)) && decide ((a1.length : Int) = (a1.length : Int))) (let t2 : List (tBits) := List.replicate (Int.toNat (a1.length : Int)) (0, ([] : List (Int))); lp3 a1 0 t2 (fun y18 => K y18))
def laws_toBitsS.c : Nat → List (tBits) → (List (tBits) → Prop) → Prop
  | 0, _, _ => False
  | n + 1, a1, K => laws_toBitsS.w n (laws_toBitsS.l3 n) a1 K
def spec_l1In.w (n : Nat) (a1 : Int) (a2 : Int) (a3 : Int) (K : Bool → Prop) : Prop :=
  if (decide (a1 ≥ a2)) = true then (K (decide (a1 ≤ a3))) else (K false)
def spec_l1In.c : Nat → Int → Int → Int → (Bool → Prop) → Prop
  | 0, _, _, _, _ => False
  | n + 1, a1, a2, a3, K => spec_l1In.w n  a1 a2 a3 K
def spec_l3NoBits.w (n : Nat) (a1 : Int) (a2 : List Int) (K : Bool → Prop) : Prop :=
  if (decide (a1 = 0)) = true then (K (decide ((a2.length : Int) = 0))) else (K false)
def spec_l3NoBits.c : Nat → Int → List Int → (Bool → Prop) → Prop
  | 0, _, _, _ => False
  | n + 1, a1, a2, K => spec_l3NoBits.w n  a1 a2 K
def spec_l1Bit.w (n : Nat) (a1 : Int) (a2 : List Int) (a3 : Int) (K : Int → Prop) : Prop :=
  grd (decide (0 ≤ IntKind.wrap .i64 (Int.tdiv a3 64)) && decide (IntKind.wrap .i64 (Int.tdiv a3 64) < (a2.length : Int))) (let t4 : Int := rd a2 (Int.toNat (IntKind.wrap .i64 (Int.tdiv a3 64))); grd (decide (0 ≤ IntKind.wrap .u64 (Int.tmod a3 64))) (let t5 : Int := Int.fdiv t4 (2 ^ (Nat.min (Int.toNat (IntKind.wrap .u64 (Int.tmod a3 64))) 64)); K (IntKind.wrap .u8 (ibits .and .u64 t5 1))))
def spec_l1Bit.c : Nat → Int → List Int → Int → (Int → Prop) → Prop
  | 0, _, _, _, _ => False
  | n + 1, a1, a2, a3, K => spec_l1Bit.w n  a1 a2 a3 K
def spec_BitsOk.l4.b (n : Nat) (x16 : Int) (x17 : List Int) (again4 : Int → Prop) (x15 : Int) (Kx0w4 : Prop) (Kr4 : Bool → Prop) : Prop :=
  let t19 : Bool := decide (x15 < IntKind.wrap .i64 (64 * (x17.length : Int))); if t19 = true then (spec_l1Bit.c n x16 x17 x15 (fun r21 => if (!(decide (r21 = 0))) = true then (Kr4 false) else (again4 (IntKind.wrap .i64 (x15 + 1))))) else (Kx0w4)
def spec_BitsOk.l4 : Nat → Int → List Int → Int → Prop → (Bool → Prop) → Prop
  | 0, _, _, _, _, _ => False
  | n + 1, x16, x17, x15, Kx0w4, Kr4 => spec_BitsOk.l4.b n  x16 x17 (fun x15q => spec_BitsOk.l4 n x16 x17 x15q Kx0w4 Kr4) x15 Kx0w4 Kr4
def spec_BitsOk.w (n : Nat) (lp4 : Int → List Int → Int → Prop → (Bool → Prop) → Prop) (a1 : Int) (a2 : List Int) (K : Bool → Prop) : Prop :=
  spec_l1In.c n a1 1 4096 (fun r29 => if (!r29) = false then (let t30 : Int := IntKind.wrap .i64 (Int.tdiv (IntKind.wrap .i64 (a1 + 63)) 64); if (!(decide ((a2.length : Int) = t30))) = true then (K false) else (lp4 a1 a2 a1 (K true) (fun y32 => K y32))) else (K false))
def spec_BitsOk.c : Nat → Int → List Int → (Bool → Prop) → Prop
  | 0, _, _, _ => False
  | n + 1, a1, a2, K => spec_BitsOk.w n (spec_BitsOk.l4 n) a1 a2 K
def spec_GraphOk.l5.b (n : Nat) (x10 : Int) (x12 : List Int) (x13 : List (tBar)) (again5 : Int → Prop) (x11 : Int) (Kx0w5 : Int → List Int → List (tBar) → Prop) (Kr5 : Bool → Prop) : Prop :=
  if (decide (x11 < x10)) = true then (grd (decide (0 ≤ x11) && decide (x11 < (x12.length : Int))) (spec_l1In.c n (rd x12 (Int.toNat x11)) 1 4096 (fun r15 => if (!r15) = true then (Kr5 false) else (again5 (IntKind.wrap .i64 (x11 + 1)))))) else (Kx0w5 x10 x12 x13)
def spec_GraphOk.l5 : Nat → Int → List Int → List (tBar) → Int → (Int → List Int → List (tBar) → Prop) → (Bool → Prop) → Prop
  | 0, _, _, _, _, _, _ => False
  | n + 1, x10, x12, x13, x11, Kx0w5, Kr5 => spec_GraphOk.l5.b n  x10 x12 x13 (fun x11q => spec_GraphOk.l5 n x10 x12 x13 x11q Kx0w5 Kr5) x11 Kx0w5 Kr5
def spec_GraphOk.q14.b (n : Nat) (x30 : Int) (x31 : Int) (x32 : Bool) (x33 : List Int) (x34 : List (tBar)) (x35 : Int) (x36 : Int) (x37 : Int) (x38 : List Int) (Kc14w0 : Bool → Prop) (Kc14w1 : Int → Int → List Int → List (tBar) → Int → Int → Int → List Int → Prop) : Prop :=
  if x32 = true then (Kc14w0 false) else (Kc14w1 x30 x31 x33 x34 x35 x36 x37 x38)
def spec_GraphOk.q14 : Nat → Int → Int → Bool → List Int → List (tBar) → Int → Int → Int → List Int → (Bool → Prop) → (Int → Int → List Int → List (tBar) → Int → Int → Int → List Int → Prop) → Prop
  | 0, _, _, _, _, _, _, _, _, _, _, _ => False
  | n + 1, x30, x31, x32, x33, x34, x35, x36, x37, x38, Kc14w0, Kc14w1 => spec_GraphOk.q14.b n  x30 x31 x32 x33 x34 x35 x36 x37 x38  Kc14w0 Kc14w1
def spec_GraphOk.j0 (Kc15w0 : Bool → Prop) (Kc15w1 : Int → Int → List Int → List (tBar) → Prop) (n : Nat) (x48 : Int) (x49 : Int) (x50 : List Int) (x51 : List (tBar)) (x52 : Int) (x53 : Int) (x54 : Int) (x55 : List Int) : Prop :=
  if (decide (x53 < 0)) = true then (spec_BitsOk.c n x54 x55 (fun r63 => if (!r63) = false then (grd (decide (0 ≤ x52) && decide (x52 < (x50.length : Int))) (if (!(decide (x54 = rd x50 (Int.toNat x52)))) = true then (Kc15w0 false) else (Kc15w1 x48 x49 x50 x51))) else (Kc15w0 false))) else (Kc15w1 x48 x49 x50 x51)
def spec_GraphOk.q15.b (n : Nat) (x48 : Int) (x49 : Int) (x50 : List Int) (x51 : List (tBar)) (x52 : Int) (x53 : Int) (x54 : Int) (x55 : List Int) (Kc15w0 : Bool → Prop) (Kc15w1 : Int → Int → List Int → List (tBar) → Prop) : Prop :=
  if (decide (x53 ≥ 0)) = true then (grd (decide (0 ≤ x53) && decide (x53 < (x50.length : Int))) (grd (decide (0 ≤ x52) && decide (x52 < (x50.length : Int))) (let t67 : Bool := !(decide (rd x50 (Int.toNat x53) = rd x50 (Int.toNat x52))); if t67 = false then (spec_l3NoBits.c n x54 x55 (fun r68 => if (!r68) = true then (Kc15w0 false) else (spec_GraphOk.j0 Kc15w0 Kc15w1 n x48 x49 x50 x51 x52 x53 x54 x55))) else (Kc15w0 false)))) else (spec_GraphOk.j0 Kc15w0 Kc15w1 n x48 x49 x50 x51 x52 x53 x54 x55)
def spec_GraphOk.q15 : Nat → Int → Int → List Int → List (tBar) → Int → Int → Int → List Int → (Bool → Prop) → (Int → Int → List Int → List (tBar) → Prop) → Prop
  | 0, _, _, _, _, _, _, _, _, _, _ => False
  | n + 1, x48, x49, x50, x51, x52, x53, x54, x55, Kc15w0, Kc15w1 => spec_GraphOk.q15.b n  x48 x49 x50 x51 x52 x53 x54 x55  Kc15w0 Kc15w1
def spec_GraphOk.l10.b (n : Nat) (lpq14 : Int → Int → Bool → List Int → List (tBar) → Int → Int → Int → List Int → (Bool → Prop) → (Int → Int → List Int → List (tBar) → Int → Int → Int → List Int → Prop) → Prop) (lpq15 : Int → Int → List Int → List (tBar) → Int → Int → Int → List Int → (Bool → Prop) → (Int → Int → List Int → List (tBar) → Prop) → Prop) (again10 : Int → Int → List Int → List (tBar) → Prop) (x151 : Int) (x152 : Int) (x153 : List Int) (x154 : List (tBar)) (Kx2w10 : Prop) (Kr10 : Bool → Prop) : Prop :=
  if (decide (x152 < (x154.length : Int))) = true then (grd (decide (0 ≤ x152) && decide (x152 < (x154.length : Int))) (spec_l1In.c n ((rd x154 (Int.toNat x152)).1) 0 (IntKind.wrap .i64 (x151 - 1)) (fun r204 => if (!r204) = false then (spec_l1In.c n (((rd x154 (Int.toNat x152)).2).1) (-1) (IntKind.wrap .i64 (x151 - 1)) (fun r205 => if (!r205) = false then (let t206 : Bool := decide ((rd x154 (Int.toNat x152)).1 = ((rd x154 (Int.toNat x152)).2).1); lpq14 x151 x152 t206 x153 x154 ((rd x154 (Int.toNat x152)).1) (((rd x154 (Int.toNat x152)).2).1) ((((rd x154 (Int.toNat x152)).2).2).1) ((((rd x154 (Int.toNat x152)).2).2).2) (fun y207 => Kr10 y207) (fun y208 y209 y210 y211 y212 y213 y214 y215 => lpq15 y208 y209 y210 y211 y212 y213 y214 y215 (fun y216 => Kr10 y216) (fun y217 y218 y219 y220 => again10 y217 (IntKind.wrap .i64 (y218 + 1)) y219 y220))) else (lpq14 x151 x152 true x153 x154 ((rd x154 (Int.toNat x152)).1) (((rd x154 (Int.toNat x152)).2).1) ((((rd x154 (Int.toNat x152)).2).2).1) ((((rd x154 (Int.toNat x152)).2).2).2) (fun y221 => Kr10 y221) (fun y222 y223 y224 y225 y226 y227 y228 y229 => lpq15 y222 y223 y224 y225 y226 y227 y228 y229 (fun y230 => Kr10 y230) (fun y231 y232 y233 y234 => again10 y231 (IntKind.wrap .i64 (y232 + 1)) y233 y234))))) else (lpq14 x151 x152 true x153 x154 ((rd x154 (Int.toNat x152)).1) (((rd x154 (Int.toNat x152)).2).1) ((((rd x154 (Int.toNat x152)).2).2).1) ((((rd x154 (Int.toNat x152)).2).2).2) (fun y235 => Kr10 y235) (fun y236 y237 y238 y239 y240 y241 y242 y243 => lpq15 y236 y237 y238 y239 y240 y241 y242 y243 (fun y244 => Kr10 y244) (fun y245 y246 y247 y248 => again10 y245 (IntKind.wrap .i64 (y246 + 1)) y247 y248)))))) else (Kx2w10)
def spec_GraphOk.l10 : Nat → Int → Int → List Int → List (tBar) → Prop → (Bool → Prop) → Prop
  | 0, _, _, _, _, _, _ => False
  | n + 1, x151, x152, x153, x154, Kx2w10, Kr10 => spec_GraphOk.l10.b n (spec_GraphOk.q14 n) (spec_GraphOk.q15 n)  (fun x151q x152q x153q x154q => spec_GraphOk.l10 n x151q x152q x153q x154q Kx2w10 Kr10) x151 x152 x153 x154 Kx2w10 Kr10
def spec_GraphOk.j1 (K : Bool → Prop) (a1 : List Int) (a2 : List (tBar)) (lp5 : Int → List Int → List (tBar) → Int → (Int → List Int → List (tBar) → Prop) → (Bool → Prop) → Prop) (lp10 : Int → Int → List Int → List (tBar) → Prop → (Bool → Prop) → Prop) (j252 : Bool) : Prop :=
  if j252 = true then (K false) else (lp5 (a1.length : Int) a1 a2 0 (fun y257 y258 y259 => lp10 y257 0 y258 y259 (K true) (fun y261 => K y261)) (fun y262 => K y262))
def spec_GraphOk.w (n : Nat) (lp5 : Int → List Int → List (tBar) → Int → (Int → List Int → List (tBar) → Prop) → (Bool → Prop) → Prop) (lp10 : Int → Int → List Int → List (tBar) → Prop → (Bool → Prop) → Prop) (a1 : List Int) (a2 : List (tBar)) (K : Bool → Prop) : Prop :=
  if (decide ((a1.length : Int) > 200)) = false then (spec_GraphOk.j1 K a1 a2 lp5 lp10 (decide ((a2.length : Int) > 1000))) else (spec_GraphOk.j1 K a1 a2 lp5 lp10 true)
def spec_GraphOk.c : Nat → List Int → List (tBar) → (Bool → Prop) → Prop
  | 0, _, _, _ => False
  | n + 1, a1, a2, K => spec_GraphOk.w n (spec_GraphOk.l5 n) (spec_GraphOk.l10 n) a1 a2 K
def spec_ColourOk.l4.b (n : Nat) (x23 : List (tBits)) (x25 : List Int) (x26 : List (tBar)) (again4 : Int → Prop) (x24 : Int) (Kx0w4 : List (tBits) → List Int → List (tBar) → Prop) (Kr4 : Bool → Prop) : Prop :=
  if (decide (x24 < (x23.length : Int))) = true then (grd (decide (0 ≤ x24) && decide (x24 < (x23.length : Int))) (spec_BitsOk.c n ((rd x23 (Int.toNat x24)).1) ((rd x23 (Int.toNat x24)).2) (fun r35 => if (!r35) = false then (grd (decide (0 ≤ x24) && decide (x24 < (x23.length : Int))) (grd (decide (0 ≤ x24) && decide (x24 < (x25.length : Int))) (let t36 : Bool := !(decide ((rd x23 (Int.toNat x24)).1 = rd x25 (Int.toNat x24))); if t36 = true then (Kr4 false) else (again4 (IntKind.wrap .i64 (x24 + 1)))))) else (Kr4 false)))) else (Kx0w4 x23 x25 x26)
def spec_ColourOk.l4 : Nat → List (tBits) → List Int → List (tBar) → Int → (List (tBits) → List Int → List (tBar) → Prop) → (Bool → Prop) → Prop
  | 0, _, _, _, _, _, _ => False
  | n + 1, x23, x25, x26, x24, Kx0w4, Kr4 => spec_ColourOk.l4.b n  x23 x25 x26 (fun x24q => spec_ColourOk.l4 n x23 x25 x26 x24q Kx0w4 Kr4) x24 Kx0w4 Kr4
def spec_ColourOk.j3 (Kr9 : Bool → Prop) (again9 : Int → Prop) (n : Nat) (x64 : List (tBits)) (x65 : Int) (x67 : List (tBar)) (j77 : Int) (j78 : List Int) : Prop :=
  grd (decide (0 ≤ (rd x67 (Int.toNat x65)).1) && decide ((rd x67 (Int.toNat x65)).1 < (x64.length : Int))) (let t81 : tBits := rd x64 (Int.toNat ((rd x67 (Int.toNat x65)).1)); spec_l3SameBits.c n t81.1 t81.2 j77 j78 (fun r82 => if r82 = true then (Kr9 false) else (again9 (IntKind.wrap .i64 (x65 + 1)))))
def spec_ColourOk.l9.b (n : Nat) (x64 : List (tBits)) (x66 : List Int) (x67 : List (tBar)) (again9 : Int → Prop) (x65 : Int) (Kx2w9 : Prop) (Kr9 : Bool → Prop) : Prop :=
  if (decide (x65 < (x67.length : Int))) = true then (grd (decide (0 ≤ x65) && decide (x65 < (x67.length : Int))) (if (decide (((rd x67 (Int.toNat x65)).2).1 ≥ 0)) = true then (grd (decide (0 ≤ ((rd x67 (Int.toNat x65)).2).1) && decide (((rd x67 (Int.toNat x65)).2).1 < (x64.length : Int))) (let t83 : tBits := rd x64 (Int.toNat (((rd x67 (Int.toNat x65)).2).1)); spec_ColourOk.j3 Kr9 again9 n x64 x65 x67 t83.1 t83.2)) else (spec_ColourOk.j3 Kr9 again9 n x64 x65 x67 ((((rd x67 (Int.toNat x65)).2).2).1) ((((rd x67 (Int.toNat x65)).2).2).2)))) else (Kx2w9)
def spec_ColourOk.l9 : Nat → List (tBits) → List Int → List (tBar) → Int → Prop → (Bool → Prop) → Prop
  | 0, _, _, _, _, _, _ => False
  | n + 1, x64, x66, x67, x65, Kx2w9, Kr9 => spec_ColourOk.l9.b n  x64 x66 x67 (fun x65q => spec_ColourOk.l9 n x64 x66 x67 x65q Kx2w9 Kr9) x65 Kx2w9 Kr9
def spec_ColourOk.w (n : Nat) (lp4 : List (tBits) → List Int → List (tBar) → Int → (List (tBits) → List Int → List (tBar) → Prop) → (Bool → Prop) → Prop) (lp9 : List (tBits) → List Int → List (tBar) → Int → Prop → (Bool → Prop) → Prop) (a1 : List Int) (a2 : List (tBar)) (a3 : List (tBits)) (K : Bool → Prop) : Prop :=
  spec_GraphOk.c n a1 a2 (fun r100 => if (!r100) = false then (let t101 : Bool := !(decide ((a3.length : Int) = (a1.length : Int))); if t101 = true then (K false) else (lp4 a3 a1 a2 0 (fun y106 y107 y108 => lp9 y106 y107 y108 0 (K true) (fun y110 => K y110)) (fun y111 => K y111))) else (K false))
def spec_ColourOk.c : Nat → List Int → List (tBar) → List (tBits) → (Bool → Prop) → Prop
  | 0, _, _, _, _ => False
  | n + 1, a1, a2, a3, K => spec_ColourOk.w n (spec_ColourOk.l4 n) (spec_ColourOk.l9 n) a1 a2 a3 K
def impl_inside.w (n : Nat) (a1 : Int) (a2 : Int) (a3 : Int) (K : Bool → Prop) : Prop :=
  if (decide (a1 ≥ a2)) = true then (K (decide (a1 ≤ a3))) else (K false)
def impl_inside.c : Nat → Int → Int → Int → (Bool → Prop) → Prop
  | 0, _, _, _, _ => False
  | n + 1, a1, a2, a3, K => impl_inside.w n  a1 a2 a3 K
def impl_wordsFor.w (n : Nat) (a1 : Int) (K : Int → Prop) : Prop :=
  let t2 : Int := IntKind.wrap .i64 (Int.tdiv (IntKind.wrap .i64 (a1 + 63)) 64); K t2
def impl_wordsFor.c : Nat → Int → (Int → Prop) → Prop
  | 0, _, _ => False
  | n + 1, a1, K => impl_wordsFor.w n  a1 K
def impl_BitsOk.j0 (K : Bool → Prop) (a1 : Int) (a2 : List Int) : Prop :=
  if (decide (Int.tmod a1 64 = 0)) = false then (grd (decide (0 ≤ IntKind.wrap .i64 ((a2.length : Int) - 1)) && decide (IntKind.wrap .i64 ((a2.length : Int) - 1) < (a2.length : Int))) (let t13 : Int := rd a2 (Int.toNat (IntKind.wrap .i64 ((a2.length : Int) - 1))); grd (decide (0 ≤ Int.tmod a1 64)) (let t14 : Int := Int.fdiv t13 (2 ^ (Nat.min (Int.toNat (Int.tmod a1 64)) 64)); K (decide (t14 = 0))))) else (K true)
def impl_BitsOk.w (n : Nat) (a1 : Int) (a2 : List Int) (K : Bool → Prop) : Prop :=
  impl_inside.c n a1 1 4096 (fun r19 => if (!r19) = false then ((impl_wordsFor.c n a1 (fun r20 => if (!(decide ((a2.length : Int) = r20))) = true then (K false) else (impl_BitsOk.j0 K a1 a2))) ∧ (impl_wordsFor.c n a1 (fun r21 => if (!(decide ((a2.length : Int) = r21))) = true then (K false) else (impl_BitsOk.j0 K a1 a2)))) else ((K false) ∧ (K false)))
def impl_BitsOk.c : Nat → Int → List Int → (Bool → Prop) → Prop
  | 0, _, _, _ => False
  | n + 1, a1, a2, K => impl_BitsOk.w n  a1 a2 K
def impl_barOk.w (n : Nat) (a1 : List Int) (a2 : Int) (a3 : Int) (a4 : Int) (a5 : List Int) (K : Bool → Prop) : Prop :=
  impl_inside.c n a2 0 (IntKind.wrap .i64 ((a1.length : Int) - 1)) (fun r7 => if (!r7) = true then (K false) else (if (decide (a3 = (-1))) = true then (impl_BitsOk.c n a4 a5 (fun r13 => if r13 = true then (grd (decide (0 ≤ a2) && decide (a2 < (a1.length : Int))) (K (decide (a4 = rd a1 (Int.toNat a2))))) else (K false))) else (impl_inside.c n a3 0 (IntKind.wrap .i64 ((a1.length : Int) - 1)) (fun r17 => if r17 = true then (if (!(decide (a3 = a2))) = true then (grd (decide (0 ≤ a3) && decide (a3 < (a1.length : Int))) (grd (decide (0 ≤ a2) && decide (a2 < (a1.length : Int))) (let t18 : Bool := decide (rd a1 (Int.toNat a3) = rd a1 (Int.toNat a2)); if t18 = true then (if (decide (a4 = 0)) = true then (K (decide ((a5.length : Int) = 0))) else (K false)) else (K false)))) else (K false)) else (K false)))))
def impl_barOk.c : Nat → List Int → Int → Int → Int → List Int → (Bool → Prop) → Prop
  | 0, _, _, _, _, _, _ => False
  | n + 1, a1, a2, a3, a4, a5, K => impl_barOk.w n  a1 a2 a3 a4 a5 K
def impl_GraphOk_1.w (n : Nat) (a1 : Int) (a2 : Int) (a3 : Int) (a4 : List Int) (a5 : tGraph) (K : Bool → Prop) : Prop :=
  impl_barOk.c n a5.1 a1 a2 a3 a4 (fun r6 => K (!r6))
def impl_GraphOk_1.c : Nat → Int → Int → Int → List Int → tGraph → (Bool → Prop) → Prop
  | 0, _, _, _, _, _, _ => False
  | n + 1, a1, a2, a3, a4, a5, K => impl_GraphOk_1.w n  a1 a2 a3 a4 a5 K
def slices_IndexFunc_Bar__impl_GraphOk_1.l2.b (n : Nat) (x9 : List (tBar)) (x10 : tGraph) (x11 : Int) (again2 : Int → Prop) (x12 : Int) (Kx0w2 : Prop) (Kr2 : Int → Prop) : Prop :=
  if (decide (x12 < x11)) = true then (grd (decide (0 ≤ x12) && decide (x12 < (x9.length : Int))) (impl_GraphOk_1.c n ((rd x9 (Int.toNat x12)).1) (((rd x9 (Int.toNat x12)).2).1) ((((rd x9 (Int.toNat x12)).2).2).1) ((((rd x9 (Int.toNat x12)).2).2).2) x10 (fun r14 => if r14 = true then (Kr2 x12) else (again2 (IntKind.wrap .i64 (x12 + 1)))))) else (Kx0w2)
def slices_IndexFunc_Bar__impl_GraphOk_1.l2 : Nat → List (tBar) → tGraph → Int → Int → Prop → (Int → Prop) → Prop
  | 0, _, _, _, _, _, _ => False
  | n + 1, x9, x10, x11, x12, Kx0w2, Kr2 => slices_IndexFunc_Bar__impl_GraphOk_1.l2.b n  x9 x10 x11 (fun x12q => slices_IndexFunc_Bar__impl_GraphOk_1.l2 n x9 x10 x11 x12q Kx0w2 Kr2) x12 Kx0w2 Kr2
def slices_IndexFunc_Bar__impl_GraphOk_1.w (n : Nat) (lp2 : List (tBar) → tGraph → Int → Int → Prop → (Int → Prop) → Prop) (a1 : List (tBar)) (a2 : tGraph) (K : Int → Prop) : Prop :=
  lp2 a1 a2 (a1.length : Int) 0 (K (-1)) (fun y16 => K y16)
def slices_IndexFunc_Bar__impl_GraphOk_1.c : Nat → List (tBar) → tGraph → (Int → Prop) → Prop
  | 0, _, _, _ => False
  | n + 1, a1, a2, K => slices_IndexFunc_Bar__impl_GraphOk_1.w n (slices_IndexFunc_Bar__impl_GraphOk_1.l2 n) a1 a2 K
def slices_ContainsFunc_Bar__impl_GraphOk_1.w (n : Nat) (a1 : List (tBar)) (a2 : tGraph) (K : Bool → Prop) : Prop :=
  slices_IndexFunc_Bar__impl_GraphOk_1.c n a1 a2 (fun r3 => K (decide (r3 ≥ 0)))
def slices_ContainsFunc_Bar__impl_GraphOk_1.c : Nat → List (tBar) → tGraph → (Bool → Prop) → Prop
  | 0, _, _, _ => False
  | n + 1, a1, a2, K => slices_ContainsFunc_Bar__impl_GraphOk_1.w n  a1 a2 K
def impl_GraphOk.l4.b (n : Nat) (x11 : List Int) (x12 : Int) (x14 : List Int) (x15 : List (tBar)) (again4 : Int → Prop) (x13 : Int) (Kx0w4 : List Int → List (tBar) → Prop) (Kr4 : Bool → Prop) : Prop :=
  if (decide (x13 < x12)) = true then (grd (decide (0 ≤ x13) && decide (x13 < (x11.length : Int))) (impl_inside.c n (rd x11 (Int.toNat x13)) 1 4096 (fun r17 => if (!r17) = true then (Kr4 false) else (again4 (IntKind.wrap .i64 (x13 + 1)))))) else (Kx0w4 x14 x15)
def impl_GraphOk.l4 : Nat → List Int → Int → List Int → List (tBar) → Int → (List Int → List (tBar) → Prop) → (Bool → Prop) → Prop
  | 0, _, _, _, _, _, _, _ => False
  | n + 1, x11, x12, x14, x15, x13, Kx0w4, Kr4 => impl_GraphOk.l4.b n  x11 x12 x14 x15 (fun x13q => impl_GraphOk.l4 n x11 x12 x14 x15 x13q Kx0w4 Kr4) x13 Kx0w4 Kr4
def impl_GraphOk.j0 (K : Bool → Prop) (a1 : List Int) (a2 : List (tBar)) (lp4 : List Int → Int → List Int → List (tBar) → Int → (List Int → List (tBar) → Prop) → (Bool → Prop) → Prop) (n : Nat) (j25 : Bool) : Prop :=
  if j25 = true then (K false) else (lp4 a1 (a1.length : Int) a1 a2 0 (fun y29 y30 => slices_ContainsFunc_Bar__impl_GraphOk_1.c n y30 (y29, y30) (fun r31 => K (!r31))) (fun y32 => K y32))
def impl_GraphOk.w (n : Nat) (lp4 : List Int → Int → List Int → List (tBar) → Int → (List Int → List (tBar) → Prop) → (Bool → Prop) → Prop) (a1 : List Int) (a2 : List (tBar)) (K : Bool → Prop) : Prop :=
  if (decide ((a1.length : Int) > 200)) = false then (impl_GraphOk.j0 K a1 a2 lp4 n (decide ((a2.length : Int) > 1000))) else (impl_GraphOk.j0 K a1 a2 lp4 n true)
def impl_GraphOk.c : Nat → List Int → List (tBar) → (Bool → Prop) → Prop
  | 0, _, _, _ => False
  | n + 1, a1, a2, K => impl_GraphOk.w n (impl_GraphOk.l4 n) a1 a2 K
def impl_ColourOk_1.w (n : Nat) (a1 : Int) (a2 : Int) (a3 : Int) (a4 : List Int) (a5 : List (tBits)) (K : Bool → Prop) : Prop :=
  if (decide (a2 = (-1))) = true then (grd (decide (0 ≤ a1) && decide (a1 < (a5.length : Int))) (impl_Bits_same.c n ((rd a5 (Int.toNat a1)).1) ((rd a5 (Int.toNat a1)).2) a3 a4 (fun r9 => K r9))) else (grd (decide (0 ≤ a1) && decide (a1 < (a5.length : Int))) (grd (decide (0 ≤ a2) && decide (a2 < (a5.length : Int))) (impl_Bits_same.c n ((rd a5 (Int.toNat a1)).1) ((rd a5 (Int.toNat a1)).2) ((rd a5 (Int.toNat a2)).1) ((rd a5 (Int.toNat a2)).2) (fun r11 => K r11))))
def impl_ColourOk_1.c : Nat → Int → Int → Int → List Int → List (tBits) → (Bool → Prop) → Prop
  | 0, _, _, _, _, _, _ => False
  | n + 1, a1, a2, a3, a4, a5, K => impl_ColourOk_1.w n  a1 a2 a3 a4 a5 K
def slices_IndexFunc_Bar__impl_ColourOk_1.l2.b (n : Nat) (x9 : List (tBar)) (x10 : List (tBits)) (x11 : Int) (again2 : Int → Prop) (x12 : Int) (Kx0w2 : Prop) (Kr2 : Int → Prop) : Prop :=
  if (decide (x12 < x11)) = true then (grd (decide (0 ≤ x12) && decide (x12 < (x9.length : Int))) (impl_ColourOk_1.c n ((rd x9 (Int.toNat x12)).1) (((rd x9 (Int.toNat x12)).2).1) ((((rd x9 (Int.toNat x12)).2).2).1) ((((rd x9 (Int.toNat x12)).2).2).2) x10 (fun r14 => if r14 = true then (Kr2 x12) else (again2 (IntKind.wrap .i64 (x12 + 1)))))) else (Kx0w2)
def slices_IndexFunc_Bar__impl_ColourOk_1.l2 : Nat → List (tBar) → List (tBits) → Int → Int → Prop → (Int → Prop) → Prop
  | 0, _, _, _, _, _, _ => False
  | n + 1, x9, x10, x11, x12, Kx0w2, Kr2 => slices_IndexFunc_Bar__impl_ColourOk_1.l2.b n  x9 x10 x11 (fun x12q => slices_IndexFunc_Bar__impl_ColourOk_1.l2 n x9 x10 x11 x12q Kx0w2 Kr2) x12 Kx0w2 Kr2
def slices_IndexFunc_Bar__impl_ColourOk_1.w (n : Nat) (lp2 : List (tBar) → List (tBits) → Int → Int → Prop → (Int → Prop) → Prop) (a1 : List (tBar)) (a2 : List (tBits)) (K : Int → Prop) : Prop :=
  lp2 a1 a2 (a1.length : Int) 0 (K (-1)) (fun y16 => K y16)
def slices_IndexFunc_Bar__impl_ColourOk_1.c : Nat → List (tBar) → List (tBits) → (Int → Prop) → Prop
  | 0, _, _, _ => False
  | n + 1, a1, a2, K => slices_IndexFunc_Bar__impl_ColourOk_1.w n (slices_IndexFunc_Bar__impl_ColourOk_1.l2 n) a1 a2 K
def slices_ContainsFunc_Bar__impl_ColourOk_1.w (n : Nat) (a1 : List (tBar)) (a2 : List (tBits)) (K : Bool → Prop) : Prop :=
  slices_IndexFunc_Bar__impl_ColourOk_1.c n a1 a2 (fun r3 => K (decide (r3 ≥ 0)))
def slices_ContainsFunc_Bar__impl_ColourOk_1.c : Nat → List (tBar) → List (tBits) → (Bool → Prop) → Prop
  | 0, _, _, _ => False
  | n + 1, a1, a2, K => slices_ContainsFunc_Bar__impl_ColourOk_1.w n  a1 a2 K
def impl_ColourOk.l4.b (n : Nat) (x25 : List (tBits)) (x26 : Int) (x28 : List Int) (x29 : List (tBar)) (x30 : List (tBits)) (again4 : Int → Prop) (x27 : Int) (Kx0w4 : List Int → List (tBar) → List (tBits) → Prop) (Kr4 : Bool → Prop) : Prop :=
  if (decide (x27 < x26)) = true then (grd (decide (0 ≤ x27) && decide (x27 < (x25.length : Int))) (impl_BitsOk.c n ((rd x25 (Int.toNat x27)).1) ((rd x25 (Int.toNat x27)).2) (fun r39 => if (!r39) = false then (grd (decide (0 ≤ x27) && decide (x27 < (x28.length : Int))) (let t40 : Bool := !(decide ((rd x25 (Int.toNat x27)).1 = rd x28 (Int.toNat x27))); if t40 = true then (Kr4 false) else (again4 (IntKind.wrap .i64 (x27 + 1))))) else (Kr4 false)))) else (Kx0w4 x28 x29 x30)
def impl_ColourOk.l4 : Nat → List (tBits) → Int → List Int → List (tBar) → List (tBits) → Int → (List Int → List (tBar) → List (tBits) → Prop) → (Bool → Prop) → Prop
  | 0, _, _, _, _, _, _, _, _ => False
  | n + 1, x25, x26, x28, x29, x30, x27, Kx0w4, Kr4 => impl_ColourOk.l4.b n  x25 x26 x28 x29 x30 (fun x27q => impl_ColourOk.l4 n x25 x26 x28 x29 x30 x27q Kx0w4 Kr4) x27 Kx0w4 Kr4
def impl_ColourOk.j0 (K : Bool → Prop) (a1 : List Int) (a2 : List (tBar)) (a3 : List (tBits)) (lp4 : List (tBits) → Int → List Int → List (tBar) → List (tBits) → Int → (List Int → List (tBar) → List (tBits) → Prop) → (Bool → Prop) → Prop) (n : Nat) (j52 : Bool) : Prop :=
  if j52 = true then (K false) else (lp4 a3 (a3.length : Int) a1 a2 a3 0 (fun y57 y58 y59 => slices_ContainsFunc_Bar__impl_ColourOk_1.c n y58 y59 (fun r60 => K (!r60))) (fun y61 => K y61))
def impl_ColourOk.w (n : Nat) (lp4 : List (tBits) → Int → List Int → List (tBar) → List (tBits) → Int → (List Int → List (tBar) → List (tBits) → Prop) → (Bool → Prop) → Prop) (a1 : List Int) (a2 : List (tBar)) (a3 : List (tBits)) (K : Bool → Prop) : Prop :=
  impl_GraphOk.c n a1 a2 (fun r62 => if (!r62) = false then (let t63 : Bool := !(decide ((a3.length : Int) = (a1.length : Int))); impl_ColourOk.j0 K a1 a2 a3 lp4 n t63) else (impl_ColourOk.j0 K a1 a2 a3 lp4 n true))
def impl_ColourOk.c : Nat → List Int → List (tBar) → List (tBits) → (Bool → Prop) → Prop
  | 0, _, _, _, _ => False
  | n + 1, a1, a2, a3, K => impl_ColourOk.w n (impl_ColourOk.l4 n) a1 a2 a3 K
def laws_eqInt64S.l4.b (n : Nat) (x12 : List Int) (x13 : List Int) (again4 : Int → Prop) (x14 : Int) (Kx0w4 : Prop) (Kr4 : Bool → Prop) : Prop :=
  if (decide (x14 < (x12.length : Int))) = true then (grd (decide (0 ≤ x14) && decide (x14 < (x12.length : Int))) (grd (decide (0 ≤ x14) && decide (x14 < (x13.length : Int))) (let t18 : Bool := !(decide (rd x12 (Int.toNat x14) = rd x13 (Int.toNat x14))); if t18 = true then (Kr4 false) else (again4 (IntKind.wrap .i64 (x14 + 1)))))) else (Kx0w4)
def laws_eqInt64S.l4 : Nat → List Int → List Int → Int → Prop → (Bool → Prop) → Prop
  | 0, _, _, _, _, _ => False
  | n + 1, x12, x13, x14, Kx0w4, Kr4 => laws_eqInt64S.l4.b n  x12 x13 (fun x14q => laws_eqInt64S.l4 n x12 x13 x14q Kx0w4 Kr4) x14 Kx0w4 Kr4
def laws_eqInt64S.w (n : Nat) (lp4 : List Int → List Int → Int → Prop → (Bool → Prop) → Prop) (a1 : List Int) (a2 : List Int) (K : Bool → Prop) : Prop :=
  let t4 : Bool := !(decide ((a1.length : Int) = (a2.length : Int))); if t4 = true then (K false) else (lp4 a1 a2 0 (K true) (fun y20 => K y20))
def laws_eqInt64S.c : Nat → List Int → List Int → (Bool → Prop) → Prop
  | 0, _, _, _ => False
  | n + 1, a1, a2, K => laws_eqInt64S.w n (laws_eqInt64S.l4 n) a1 a2 K
def laws_eqGraph.w (n : Nat) (a1 : List Int) (a2 : List (tBar)) (a3 : List Int) (a4 : List (tBar)) (K : Bool → Prop) : Prop :=
  laws_eqInt64S.c n a1 a3 (fun r6 => if (!r6) = true then (K false) else (laws_eqBarS.c n a2 a4 (fun r8 => if (!r8) = true then (K false) else (K true))))
def laws_eqGraph.c : Nat → List Int → List (tBar) → List Int → List (tBar) → (Bool → Prop) → Prop
  | 0, _, _, _, _, _ => False
  | n + 1, a1, a2, a3, a4, K => laws_eqGraph.w n  a1 a2 a3 a4 K
def laws_eqBitsS.l4.b (n : Nat) (x12 : List (tBits)) (x13 : List (tBits)) (again4 : Int → Prop) (x14 : Int) (Kx0w4 : Prop) (Kr4 : Bool → Prop) : Prop :=
  if (decide (x14 < (x12.length : Int))) = true then (grd (decide (0 ≤ x14) && decide (x14 < (x12.length : Int))) (grd (decide (0 ≤ x14) && decide (x14 < (x13.length : Int))) (laws_eqBits.c n ((rd x12 (Int.toNat x14)).1) ((rd x12 (Int.toNat x14)).2) ((rd x13 (Int.toNat x14)).1) ((rd x13 (Int.toNat x14)).2) (fun r18 => if (!r18) = true then (Kr4 false) else (again4 (IntKind.wrap .i64 (x14 + 1))))))) else (Kx0w4)
def laws_eqBitsS.l4 : Nat → List (tBits) → List (tBits) → Int → Prop → (Bool → Prop) → Prop
  | 0, _, _, _, _, _ => False
  | n + 1, x12, x13, x14, Kx0w4, Kr4 => laws_eqBitsS.l4.b n  x12 x13 (fun x14q => laws_eqBitsS.l4 n x12 x13 x14q Kx0w4 Kr4) x14 Kx0w4 Kr4
def laws_eqBitsS.w (n : Nat) (lp4 : List (tBits) → List (tBits) → Int → Prop → (Bool → Prop) → Prop) (a1 : List (tBits)) (a2 : List (tBits)) (K : Bool → Prop) : Prop :=
  let t4 : Bool := !(decide ((a1.length : Int) = (a2.length : Int))); if t4 = true then (K false) else (lp4 a1 a2 0 (K true) (fun y20 => K y20))
def laws_eqBitsS.c : Nat → List (tBits) → List (tBits) → (Bool → Prop) → Prop
  | 0, _, _, _ => False
  | n + 1, a1, a2, K => laws_eqBitsS.w n (laws_eqBitsS.l4 n) a1 a2 K
def laws_FnExactColourOk.w (n : Nat) (a1 : List Int) (a2 : List (tBar)) (a3 : List (tBits)) (K : Bool → Prop) : Prop :=
  laws_szGraph.c n a1 a2 1048576 (fun r4 => if (decide (r4 < 0)) = true then (K true) else (laws_szBitsS.c n a3 r4 (fun r5 => if (decide (r5 < 0)) = true then (K true) else (laws_toGraph.c n a1 a2 (fun r6 r7 => laws_toBitsS.c n a3 (fun r8 => spec_ColourOk.c n r6 r7 r8 (fun r9 => laws_toGraph.c n a1 a2 (fun r10 r11 => laws_toBitsS.c n a3 (fun r12 => impl_ColourOk.c n r10 r11 r12 (fun r13 => if (!(r13 == r9)) = true then (K false) else ((laws_toGraph.c n a1 a2 (fun r42 r43 => laws_eqGraph.c n r10 r11 r42 r43 (fun r44 => if (!r44) = true then (K false) else (laws_toBitsS.c n a3 (fun r47 => laws_eqBitsS.c n r12 r47 (fun r48 => if (!r48) = true then (K false) else (K true))))))) ∧ (laws_toGraph.c n a1 a2 (fun r49 r50 => laws_eqGraph.c n r10 r11 r49 r50 (fun r51 => if (!r51) = true then (K false) else (laws_toBitsS.c n a3 (fun r54 => laws_eqBitsS.c n r12 r54 (fun r55 => if (!r55) = true then (K false) else (K true))))))))))))))))))
def laws_FnExactColourOk.c : Nat → List Int → List (tBar) → List (tBits) → (Bool → Prop) → Prop
  | 0, _, _, _, _ => False
  | n + 1, a1, a2, a3, K => laws_FnExactColourOk.w n  a1 a2 a3 K
end Go.Vsi
end
