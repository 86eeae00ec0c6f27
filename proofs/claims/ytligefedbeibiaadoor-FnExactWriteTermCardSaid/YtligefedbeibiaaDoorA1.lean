/- Go functions, told on plain data. No statement is proved here. -/
import Derived.Test.YtligefedbeibiaaDoorM1

section
set_option linter.unusedVariables false
set_option synthInstance.maxSize 4096
namespace Go.Vsi
abbrev tDecl : Type := List UInt8 × Int
instance : DecidableEq tDecl := inferInstance
abbrev tTNode : Type := Int × Int × Int × Int × Int × List (Int) × List (Int)
instance : DecidableEq tTNode := inferInstance
def Z26.w (n : Nat) (a1 : List UInt8) (a2 : Int) (a3 : Int) (K : Int -> Prop) : Prop :=
 let t5 : Bool := decide (IntKind.wrap .i64 (a3 - (a1.length : Int)) < 0); if t5 = true then (K (-1)) else (K (IntKind.wrap .i64 (a3 - (a1.length : Int))))
def Z26.c : Nat -> List UInt8 -> Int -> Int -> (Int -> Prop) -> Prop
 | 0, _, _, _, _ => False
 | n + 1, a1, a2, a3, K => Z26.w n  a1 a2 a3 K
def Z27.l5.b (n : Nat) (x10 : List (tDecl)) (again5 : Int -> Int -> Prop) (x11 : Int) (x12 : Int) (Kx0w5 : Int -> Prop) (Kr5 : Int -> Prop) : Prop :=
 if (decide (x12 < (x10.length : Int))) = true then (grd (decide (0 <= x12) && decide (x12 < (x10.length : Int))) (Z26.c n ((rd x10 (Int.toNat x12)).1) ((rd x10 (Int.toNat x12)).2) x11 (fun r14 => if (decide (r14 < 0)) = true then (Kr5 (-1)) else (again5 r14 (IntKind.wrap .i64 (x12 + 1)))))) else (Kx0w5 x11)
def Z27.l5 : Nat -> List (tDecl) -> Int -> Int -> (Int -> Prop) -> (Int -> Prop) -> Prop
 | 0, _, _, _, _, _ => False
 | n + 1, x10, x11, x12, Kx0w5, Kr5 => Z27.l5.b n  x10 (fun x11q x12q => Z27.l5 n x10 x11q x12q Kx0w5 Kr5) x11 x12 Kx0w5 Kr5
def Z27.w (n : Nat) (lp5 : List (tDecl) -> Int -> Int -> (Int -> Prop) -> (Int -> Prop) -> Prop) (a1 : List (tDecl)) (a2 : Int) (K : Int -> Prop) : Prop :=
 let t4 : Bool := decide (IntKind.wrap .i64 (a2 - (a1.length : Int)) < 0); if t4 = true then (K (-1)) else (lp5 a1 (IntKind.wrap .i64 (a2 - (a1.length : Int))) 0 (fun y17 => K y17) (fun y18 => K y18))
def Z27.c : Nat -> List (tDecl) -> Int -> (Int -> Prop) -> Prop
 | 0, _, _, _ => False
 | n + 1, a1, a2, K => Z27.w n (Z27.l5 n) a1 a2 K
def Z32.w (n : Nat) (a1 : List Int) (a2 : Int) (K : Int -> Prop) : Prop :=
 let t4 : Bool := decide (IntKind.wrap .i64 (a2 - (a1.length : Int)) < 0); if t4 = true then (K (-1)) else (K (IntKind.wrap .i64 (a2 - (a1.length : Int))))
def Z32.c : Nat -> List Int -> Int -> (Int -> Prop) -> Prop
 | 0, _, _, _ => False
 | n + 1, a1, a2, K => Z32.w n  a1 a2 K
def Z25.w (n : Nat) (a1 : Int) (a2 : List Int) (a3 : Int) (K : Int -> Prop) : Prop :=
 Z32.c n a2 a3 (fun r4 => if (decide (r4 < 0)) = true then (K (-1)) else (K r4))
def Z25.c : Nat -> Int -> List Int -> Int -> (Int -> Prop) -> Prop
 | 0, _, _, _, _ => False
 | n + 1, a1, a2, a3, K => Z25.w n  a1 a2 a3 K
def Z28.w (n : Nat) (a1 : List Int) (a2 : Int) (K : Int -> Prop) : Prop :=
 let t4 : Bool := decide (IntKind.wrap .i64 (a2 - (a1.length : Int)) < 0); if t4 = true then (K (-1)) else (K (IntKind.wrap .i64 (a2 - (a1.length : Int))))
def Z28.c : Nat -> List Int -> Int -> (Int -> Prop) -> Prop
 | 0, _, _, _ => False
 | n + 1, a1, a2, K => Z28.w n  a1 a2 K
def Z29.w (n : Nat) (a1 : Int) (a2 : Int) (a3 : Int) (a4 : Int) (a5 : Int) (a6 : List Int) (a7 : List Int) (a8 : Int) (K : Int -> Prop) : Prop :=
 Z25.c n a5 a6 a8 (fun r9 => if (decide (r9 < 0)) = true then (K (-1)) else (Z28.c n a7 r9 (fun r10 => if (decide (r10 < 0)) = true then (K (-1)) else (K r10))))
def Z29.c : Nat -> Int -> Int -> Int -> Int -> Int -> List Int -> List Int -> Int -> (Int -> Prop) -> Prop
 | 0, _, _, _, _, _, _, _, _, _ => False
 | n + 1, a1, a2, a3, a4, a5, a6, a7, a8, K => Z29.w n  a1 a2 a3 a4 a5 a6 a7 a8 K
def Z30.l5.b (n : Nat) (x10 : List (tTNode)) (again5 : Int -> Int -> Prop) (x11 : Int) (x12 : Int) (Kx0w5 : Int -> Prop) (Kr5 : Int -> Prop) : Prop :=
 if (decide (x12 < (x10.length : Int))) = true then (grd (decide (0 <= x12) && decide (x12 < (x10.length : Int))) (let t16 : List Int := ((((((rd x10 (Int.toNat x12)).2).2).2).2).2).1; let t17 : List Int := ((((((rd x10 (Int.toNat x12)).2).2).2).2).2).2; Z29.c n ((rd x10 (Int.toNat x12)).1) (((rd x10 (Int.toNat x12)).2).1) ((((rd x10 (Int.toNat x12)).2).2).1) (((((rd x10 (Int.toNat x12)).2).2).2).1) ((((((rd x10 (Int.toNat x12)).2).2).2).2).1) t16 t17 x11 (fun r18 => if (decide (r18 < 0)) = true then (Kr5 (-1)) else (again5 r18 (IntKind.wrap .i64 (x12 + 1)))))) else (Kx0w5 x11)
def Z30.l5 : Nat -> List (tTNode) -> Int -> Int -> (Int -> Prop) -> (Int -> Prop) -> Prop
 | 0, _, _, _, _, _ => False
 | n + 1, x10, x11, x12, Kx0w5, Kr5 => Z30.l5.b n  x10 (fun x11q x12q => Z30.l5 n x10 x11q x12q Kx0w5 Kr5) x11 x12 Kx0w5 Kr5
def Z30.w (n : Nat) (lp5 : List (tTNode) -> Int -> Int -> (Int -> Prop) -> (Int -> Prop) -> Prop) (a1 : List (tTNode)) (a2 : Int) (K : Int -> Prop) : Prop :=
 let t4 : Bool := decide (IntKind.wrap .i64 (a2 - (a1.length : Int)) < 0); if t4 = true then (K (-1)) else (lp5 a1 (IntKind.wrap .i64 (a2 - (a1.length : Int))) 0 (fun y21 => K y21) (fun y22 => K y22))
def Z30.c : Nat -> List (tTNode) -> Int -> (Int -> Prop) -> Prop
 | 0, _, _, _ => False
 | n + 1, a1, a2, K => Z30.w n (Z30.l5 n) a1 a2 K
def Z31.w (n : Nat) (a1 : List (tTNode)) (a2 : Int) (K : Int -> Prop) : Prop :=
 Z30.c n a1 a2 (fun r3 => if (decide (r3 < 0)) = true then (K (-1)) else (K r3))
def Z31.c : Nat -> List (tTNode) -> Int -> (Int -> Prop) -> Prop
 | 0, _, _, _ => False
 | n + 1, a1, a2, K => Z31.w n  a1 a2 K
def Z34.w (n : Nat) (a1 : List UInt8) (a2 : Int) (K : List UInt8 -> Int -> Prop) : Prop :=
 K a1 a2
def Z34.c : Nat -> List UInt8 -> Int -> (List UInt8 -> Int -> Prop) -> Prop
 | 0, _, _, _ => False
 | n + 1, a1, a2, K => Z34.w n  a1 a2 K
def Z35.l3.b (n : Nat) (x10 : List (tDecl)) (again3 : Int -> List (tDecl) -> Prop) (x11 : Int) (x12 : List (tDecl)) (Kx0w3 : List (tDecl) -> Prop) : Prop :=
 if (decide (x11 < (x10.length : Int))) = true then (grd (decide (0 <= x11) && decide (x11 < (x10.length : Int))) (Z34.c n ((rd x10 (Int.toNat x11)).1) ((rd x10 (Int.toNat x11)).2) (fun r15 r16 => grd (decide (0 <= x11) && decide (x11 < (x12.length : Int))) (again3 (IntKind.wrap .i64 (x11 + 1)) (List.set x12 (Int.toNat x11) (r15, r16)))))) else (Kx0w3 x12)
def Z35.l3 : Nat -> List (tDecl) -> Int -> List (tDecl) -> (List (tDecl) -> Prop) -> Prop
 | 0, _, _, _, _ => False
 | n + 1, x10, x11, x12, Kx0w3 => Z35.l3.b n  x10 (fun x11q x12q => Z35.l3 n x10 x11q x12q Kx0w3) x11 x12 Kx0w3
def Z35.w (n : Nat) (lp3 : List (tDecl) -> Int -> List (tDecl) -> (List (tDecl) -> Prop) -> Prop) (a1 : List (tDecl)) (K : List (tDecl) -> Prop) : Prop :=
 grd ((decide (0 <= (a1.length : Int)) && decide ((a1.length : Int) <= 2814749767106)) && decide ((a1.length : Int) = (a1.length : Int))) (let t2 : List (tDecl) := List.replicate (Int.toNat (a1.length : Int)) (([] : List UInt8), 0); lp3 a1 0 t2 (fun y18 => K y18))
def Z35.c : Nat -> List (tDecl) -> (List (tDecl) -> Prop) -> Prop
 | 0, _, _ => False
 | n + 1, a1, K => Z35.w n (Z35.l3 n) a1 K
def Z40.l3.b (n : Nat) (x8 : List Int) (again3 : Int -> List Int -> Prop) (x9 : Int) (x10 : List Int) (Kx0w3 : List Int -> Prop) : Prop :=
 if (decide (x9 < (x8.length : Int))) = true then (grd (decide (0 <= x9) && decide (x9 < (x8.length : Int))) (grd (decide (0 <= x9) && decide (x9 < (x10.length : Int))) (let t12 : List Int := List.set x10 (Int.toNat x9) (rd x8 (Int.toNat x9)); again3 (IntKind.wrap .i64 (x9 + 1)) t12))) else (Kx0w3 x10)
def Z40.l3 : Nat -> List Int -> Int -> List Int -> (List Int -> Prop) -> Prop
 | 0, _, _, _, _ => False
 | n + 1, x8, x9, x10, Kx0w3 => Z40.l3.b n  x8 (fun x9q x10q => Z40.l3 n x8 x9q x10q Kx0w3) x9 x10 Kx0w3
def Z40.w (n : Nat) (lp3 : List Int -> Int -> List Int -> (List Int -> Prop) -> Prop) (a1 : List Int) (K : List Int -> Prop) : Prop :=
 grd ((decide (0 <= (a1.length : Int)) && decide ((a1.length : Int) <= 7818749353073)) && decide ((a1.length : Int) = (a1.length : Int))) (let t2 : List Int := List.replicate (Int.toNat (a1.length : Int)) 0; lp3 a1 0 t2 (fun y14 => K y14))
def Z40.c : Nat -> List Int -> (List Int -> Prop) -> Prop
 | 0, _, _ => False
 | n + 1, a1, K => Z40.w n (Z40.l3 n) a1 K
def Z33.w (n : Nat) (a1 : Int) (a2 : List Int) (K : Int -> List Int -> Prop) : Prop :=
 Z40.c n a2 (fun r3 => K a1 r3)
def Z33.c : Nat -> Int -> List Int -> (Int -> List Int -> Prop) -> Prop
 | 0, _, _, _ => False
 | n + 1, a1, a2, K => Z33.w n  a1 a2 K
def Z36.l3.b (n : Nat) (x8 : List Int) (again3 : Int -> List Int -> Prop) (x9 : Int) (x10 : List Int) (Kx0w3 : List Int -> Prop) : Prop :=
 if (decide (x9 < (x8.length : Int))) = true then (grd (decide (0 <= x9) && decide (x9 < (x8.length : Int))) (grd (decide (0 <= x9) && decide (x9 < (x10.length : Int))) (let t12 : List Int := List.set x10 (Int.toNat x9) (rd x8 (Int.toNat x9)); again3 (IntKind.wrap .i64 (x9 + 1)) t12))) else (Kx0w3 x10)
def Z36.l3 : Nat -> List Int -> Int -> List Int -> (List Int -> Prop) -> Prop
 | 0, _, _, _, _ => False
 | n + 1, x8, x9, x10, Kx0w3 => Z36.l3.b n  x8 (fun x9q x10q => Z36.l3 n x8 x9q x10q Kx0w3) x9 x10 Kx0w3
def Z36.w (n : Nat) (lp3 : List Int -> Int -> List Int -> (List Int -> Prop) -> Prop) (a1 : List Int) (K : List Int -> Prop) : Prop :=
 grd ((decide (0 <= (a1.length : Int)) && decide ((a1.length : Int) <= 7818749353073)) && decide ((a1.length : Int) = (a1.length : Int))) (let t2 : List Int := List.replicate (Int.toNat (a1.length : Int)) 0; lp3 a1 0 t2 (fun y14 => K y14))
def Z36.c : Nat -> List Int -> (List Int -> Prop) -> Prop
 | 0, _, _ => False
 | n + 1, a1, K => Z36.w n (Z36.l3 n) a1 K
def Z37.w (n : Nat) (a1 : Int) (a2 : Int) (a3 : Int) (a4 : Int) (a5 : Int) (a6 : List Int) (a7 : List Int) (K : Int -> Int -> Int -> Int -> Int -> List Int -> List Int -> Prop) : Prop :=
 Z33.c n a5 a6 (fun r8 r9 => Z36.c n a7 (fun r10 => K a1 a2 a3 a4 r8 r9 r10))
def Z37.c : Nat -> Int -> Int -> Int -> Int -> Int -> List Int -> List Int -> (Int -> Int -> Int -> Int -> Int -> List Int -> List Int -> Prop) -> Prop
 | 0, _, _, _, _, _, _, _, _ => False
 | n + 1, a1, a2, a3, a4, a5, a6, a7, K => Z37.w n  a1 a2 a3 a4 a5 a6 a7 K
def Z38.l3.b (n : Nat) (x23 : List (tTNode)) (again3 : Int -> List (tTNode) -> Prop) (x24 : Int) (x25 : List (tTNode)) (Kx0w3 : List (tTNode) -> Prop) : Prop :=
 if (decide (x24 < (x23.length : Int))) = true then (grd (decide (0 <= x24) && decide (x24 < (x23.length : Int))) (let t36 : List Int := ((((((rd x23 (Int.toNat x24)).2).2).2).2).2).1; let t37 : List Int := ((((((rd x23 (Int.toNat x24)).2).2).2).2).2).2; Z37.c n ((rd x23 (Int.toNat x24)).1) (((rd x23 (Int.toNat x24)).2).1) ((((rd x23 (Int.toNat x24)).2).2).1) (((((rd x23 (Int.toNat x24)).2).2).2).1) ((((((rd x23 (Int.toNat x24)).2).2).2).2).1) t36 t37 (fun r38 r39 r40 r41 r42 r43 r44 => grd (decide (0 <= x24) && decide (x24 < (x25.length : Int))) (let t45 : List (tTNode) := List.set x25 (Int.toNat x24) (r38, r39, r40, r41, r42, r43, r44); again3 (IntKind.wrap .i64 (x24 + 1)) t45)))) else (Kx0w3 x25)
def Z38.l3 : Nat -> List (tTNode) -> Int -> List (tTNode) -> (List (tTNode) -> Prop) -> Prop
 | 0, _, _, _, _ => False
 | n + 1, x23, x24, x25, Kx0w3 => Z38.l3.b n  x23 (fun x24q x25q => Z38.l3 n x23 x24q x25q Kx0w3) x24 x25 Kx0w3
def Z38.w (n : Nat) (lp3 : List (tTNode) -> Int -> List (tTNode) -> (List (tTNode) -> Prop) -> Prop) (a1 : List (tTNode)) (K : List (tTNode) -> Prop) : Prop :=
 let t2 : List (tTNode) := ([] : List (tTNode)); grd ((decide (0 <= (a1.length : Int)) && decide ((a1.length : Int) <= 790660046940)) && decide ((a1.length : Int) = (a1.length : Int))) (let t3 : List (tTNode) := List.replicate (Int.toNat (a1.length : Int)) (0, 0, 0, 0, 0, ([] : List (Int)), ([] : List (Int))); lp3 a1 0 t3 (fun y47 => K y47))
def Z38.c : Nat -> List (tTNode) -> (List (tTNode) -> Prop) -> Prop
 | 0, _, _ => False
 | n + 1, a1, K => Z38.w n (Z38.l3 n) a1 K
def Z39.w (n : Nat) (a1 : List (tTNode)) (K : List (tTNode) -> Prop) : Prop :=
 let t2 : List (tTNode) := ([] : List (tTNode)); let t3 : List (tTNode) := ([] : List (tTNode)); Z38.c n a1 (fun r4 => K r4)
def Z39.c : Nat -> List (tTNode) -> (List (tTNode) -> Prop) -> Prop
 | 0, _, _ => False
 | n + 1, a1, K => Z39.w n  a1 K
def Z51.w (n : Nat) (a1 : Int) (K : Bool -> Prop) : Prop :=
 if (decide (a1 >= 48)) = true then (K (decide (a1 <= 57))) else (K false)
def Z51.c : Nat -> Int -> (Bool -> Prop) -> Prop
 | 0, _, _ => False
 | n + 1, a1, K => Z51.w n  a1 K
def Z54.l4.b (n : Nat) (x25 : List UInt8) (again4 : Int -> Prop) (x26 : Int) (Kx0w4 : Prop) (Kr4 : Bool -> Prop) : Prop :=
 if (decide (x26 < (x25.length : Int))) = true then (grd (decide (0 <= x26) && decide (x26 < (x25.length : Int))) (let t41 : Int := ((List.getD x25 (Int.toNat x26) 0).toNat : Int); Z51.c n t41 (fun r42 => if (!r42) = true then (grd (decide (0 <= x26) && decide (x26 < (x25.length : Int))) (let t43 : Int := ((List.getD x25 (Int.toNat x26) 0).toNat : Int); if (decide (t43 < 97)) = false then (grd (decide (0 <= x26) && decide (x26 < (x25.length : Int))) (let t44 : Int := ((List.getD x25 (Int.toNat x26) 0).toNat : Int); if (decide (t44 > 122)) = true then (Kr4 false) else (again4 (IntKind.wrap .i64 (x26 + 1))))) else (Kr4 false))) else (again4 (IntKind.wrap .i64 (x26 + 1)))))) else (Kx0w4)
def Z54.l4 : Nat -> List UInt8 -> Int -> Prop -> (Bool -> Prop) -> Prop
 | 0, _, _, _, _ => False
 | n + 1, x25, x26, Kx0w4, Kr4 => Z54.l4.b n  x25 (fun x26q => Z54.l4 n x25 x26q Kx0w4 Kr4) x26 Kx0w4 Kr4
def Z54.w (n : Nat) (lp4 : List UInt8 -> Int -> Prop -> (Bool -> Prop) -> Prop) (a1 : List UInt8) (K : Bool -> Prop) : Prop :=
 if (decide ((a1.length : Int) < 1)) = false then (if (decide ((a1.length : Int) > 12)) = false then (grd (decide (0 < (a1.length : Int))) (Z51.c n ((List.getD a1 0 0).toNat : Int) (fun r51 => if r51 = true then (K false) else (lp4 a1 0 (K true) (fun y53 => K y53))))) else (K false)) else (K false)
def Z54.c : Nat -> List UInt8 -> (Bool -> Prop) -> Prop
 | 0, _, _ => False
 | n + 1, a1, K => Z54.w n (Z54.l4 n) a1 K
def Z52.w (n : Nat) (a1 : Int) (a2 : Int) (a3 : Int) (K : Bool -> Prop) : Prop :=
 if (decide (a1 >= a2)) = true then (K (decide (a1 <= a3))) else (K false)
def Z52.c : Nat -> Int -> Int -> Int -> (Bool -> Prop) -> Prop
 | 0, _, _, _, _ => False
 | n + 1, a1, a2, a3, K => Z52.w n  a1 a2 a3 K
def Z45.l10.b (n : Nat) (x18 : List (tDecl)) (x19 : Int) (x20 : Int) (again10 : Int -> Prop) (x21 : Int) (Kx2w10 : List (tDecl) -> Int -> Int -> Prop) (Kr10 : Bool -> Prop) : Prop :=
 if (decide (x21 < x20)) = true then (grd (decide (0 <= x21) && decide (x21 < (x18.length : Int))) (grd (decide (0 <= x20) && decide (x20 < (x18.length : Int))) (let t25 : Bool := (((rd x18 (Int.toNat x21)).1) == ((rd x18 (Int.toNat x20)).1)); if t25 = true then (Kr10 false) else (again10 (IntKind.wrap .i64 (x21 + 1)))))) else (Kx2w10 x18 x19 x20)
def Z45.l10 : Nat -> List (tDecl) -> Int -> Int -> Int -> (List (tDecl) -> Int -> Int -> Prop) -> (Bool -> Prop) -> Prop
 | 0, _, _, _, _, _, _ => False
 | n + 1, x18, x19, x20, x21, Kx2w10, Kr10 => Z45.l10.b n  x18 x19 x20 (fun x21q => Z45.l10 n x18 x19 x20 x21q Kx2w10 Kr10) x21 Kx2w10 Kr10
def Z45.j3 (Kr5 : Bool -> Prop) (again5 : List (tDecl) -> Int -> Int -> Prop) (lp10 : List (tDecl) -> Int -> Int -> Int -> (List (tDecl) -> Int -> Int -> Prop) -> (Bool -> Prop) -> Prop) (x59 : List (tDecl)) (x60 : Int) (x61 : Int) : Prop :=
 lp10 x59 x60 x61 0 (fun y90 y91 y92 => grd (decide (0 <= y92) && decide (y92 < (y90.length : Int))) (let t93 : Int := IntKind.wrap .i64 (y91 + ((rd y90 (Int.toNat y92)).2)); again5 y90 t93 (IntKind.wrap .i64 (y92 + 1)))) (fun y94 => Kr5 y94)
def Z45.l5.b (n : Nat) (lp10 : List (tDecl) -> Int -> Int -> Int -> (List (tDecl) -> Int -> Int -> Prop) -> (Bool -> Prop) -> Prop) (again5 : List (tDecl) -> Int -> Int -> Prop) (x59 : List (tDecl)) (x60 : Int) (x61 : Int) (Kx0w5 : Int -> Prop) (Kr5 : Bool -> Prop) : Prop :=
 if (decide (x61 < (x59.length : Int))) = true then (grd (decide (0 <= x61) && decide (x61 < (x59.length : Int))) (Z54.c n ((rd x59 (Int.toNat x61)).1) (fun r98 => if (!r98) = false then (grd (decide (0 <= x61) && decide (x61 < (x59.length : Int))) (Z52.c n ((rd x59 (Int.toNat x61)).2) 1 4096 (fun r99 => if (!r99) = true then (Kr5 false) else (Z45.j3 Kr5 again5 lp10 x59 x60 x61)))) else (Kr5 false)))) else (Kx0w5 x60)
def Z45.l5 : Nat -> List (tDecl) -> Int -> Int -> (Int -> Prop) -> (Bool -> Prop) -> Prop
 | 0, _, _, _, _, _ => False
 | n + 1, x59, x60, x61, Kx0w5, Kr5 => Z45.l5.b n (Z45.l10 n)  (fun x59q x60q x61q => Z45.l5 n x59q x60q x61q Kx0w5 Kr5) x59 x60 x61 Kx0w5 Kr5
def Z45.w (n : Nat) (lp5 : List (tDecl) -> Int -> Int -> (Int -> Prop) -> (Bool -> Prop) -> Prop) (a1 : List (tDecl)) (K : Bool -> Prop) : Prop :=
 if (decide ((a1.length : Int) > 60)) = true then (K false) else (lp5 a1 0 0 (fun y102 => K (decide (y102 <= 20000))) (fun y103 => K y103))
def Z45.c : Nat -> List (tDecl) -> (Bool -> Prop) -> Prop
 | 0, _, _ => False
 | n + 1, a1, K => Z45.w n (Z45.l5 n) a1 K
def Z57.w (n : Nat) (a1 : Int) (a2 : List Int) (K : Bool -> Prop) : Prop :=
 if (decide (a1 = 0)) = true then (K (decide ((a2.length : Int) = 0))) else (K false)
def Z57.c : Nat -> Int -> List Int -> (Bool -> Prop) -> Prop
 | 0, _, _, _ => False
 | n + 1, a1, a2, K => Z57.w n  a1 a2 K
def Z58.w (n : Nat) (a1 : Int) (K : Bool -> Prop) : Prop :=
 Z52.c n a1 4 9 (fun r2 => K r2)
def Z58.c : Nat -> Int -> (Bool -> Prop) -> Prop
 | 0, _, _ => False
 | n + 1, a1, K => Z58.w n  a1 K
def Z49.w (n : Nat) (a1 : Int) (a2 : List Int) (a3 : Int) (K : Int -> Prop) : Prop :=
 grd (decide (0 <= IntKind.wrap .i64 (Int.tdiv a3 64)) && decide (IntKind.wrap .i64 (Int.tdiv a3 64) < (a2.length : Int))) (let t4 : Int := rd a2 (Int.toNat (IntKind.wrap .i64 (Int.tdiv a3 64))); grd (decide (0 <= IntKind.wrap .u64 (Int.tmod a3 64))) (let t5 : Int := Int.fdiv t4 (2 ^ (Nat.min (Int.toNat (IntKind.wrap .u64 (Int.tmod a3 64))) 64)); K (IntKind.wrap .u8 (ibits .and .u64 t5 1))))
def Z49.c : Nat -> Int -> List Int -> Int -> (Int -> Prop) -> Prop
 | 0, _, _, _, _ => False
 | n + 1, a1, a2, a3, K => Z49.w n  a1 a2 a3 K
def Z44.l4.b (n : Nat) (x16 : Int) (x17 : List Int) (again4 : Int -> Prop) (x15 : Int) (Kx0w4 : Prop) (Kr4 : Bool -> Prop) : Prop :=
 let t19 : Bool := decide (x15 < IntKind.wrap .i64 (64 * (x17.length : Int))); if t19 = true then (Z49.c n x16 x17 x15 (fun r21 => if (!(decide (r21 = 0))) = true then (Kr4 false) else (again4 (IntKind.wrap .i64 (x15 + 1))))) else (Kx0w4)
def Z44.l4 : Nat -> Int -> List Int -> Int -> Prop -> (Bool -> Prop) -> Prop
 | 0, _, _, _, _, _ => False
 | n + 1, x16, x17, x15, Kx0w4, Kr4 => Z44.l4.b n  x16 x17 (fun x15q => Z44.l4 n x16 x17 x15q Kx0w4 Kr4) x15 Kx0w4 Kr4
def Z44.w (n : Nat) (lp4 : Int -> List Int -> Int -> Prop -> (Bool -> Prop) -> Prop) (a1 : Int) (a2 : List Int) (K : Bool -> Prop) : Prop :=
 Z52.c n a1 1 4096 (fun r29 => if (!r29) = false then (let t30 : Int := IntKind.wrap .i64 (Int.tdiv (IntKind.wrap .i64 (a1 + 63)) 64); if (!(decide ((a2.length : Int) = t30))) = true then (K false) else (lp4 a1 a2 a1 (K true) (fun y32 => K y32))) else (K false))
def Z44.c : Nat -> Int -> List Int -> (Bool -> Prop) -> Prop
 | 0, _, _, _ => False
 | n + 1, a1, a2, K => Z44.w n (Z44.l4 n) a1 a2 K
def Z56.l2.b (n : Nat) (x22 : List (tDecl)) (x23 : Int) (x25 : Int) (x26 : Int) (x27 : Int) (x28 : Int) (x29 : Int) (x30 : List Int) (x31 : List Int) (again2 : Int -> Prop) (x24 : Int) (Kx0w2 : List (tDecl) -> Int -> Int -> Int -> Int -> Int -> List Int -> List Int -> Prop) (Kr2 : Bool -> Prop) : Prop :=
 if (decide (x24 < (x31.length : Int))) = true then (grd (decide (0 <= x24) && decide (x24 < (x31.length : Int))) (Z52.c n (rd x31 (Int.toNat x24)) 0 (IntKind.wrap .i64 (x23 - 1)) (fun r33 => if (!r33) = true then (Kr2 false) else (again2 (IntKind.wrap .i64 (x24 + 1)))))) else (Kx0w2 x22 x25 x26 x27 x28 x29 x30 x31)
def Z56.l2 : Nat -> List (tDecl) -> Int -> Int -> Int -> Int -> Int -> Int -> List Int -> List Int -> Int -> (List (tDecl) -> Int -> Int -> Int -> Int -> Int -> List Int -> List Int -> Prop) -> (Bool -> Prop) -> Prop
 | 0, _, _, _, _, _, _, _, _, _, _, _, _ => False
 | n + 1, x22, x23, x25, x26, x27, x28, x29, x30, x31, x24, Kx0w2, Kr2 => Z56.l2.b n  x22 x23 x25 x26 x27 x28 x29 x30 x31 (fun x24q => Z56.l2 n x22 x23 x25 x26 x27 x28 x29 x30 x31 x24q Kx0w2 Kr2) x24 Kx0w2 Kr2
def Z56.q7.b (n : Nat) (x53 : List (tDecl)) (x54 : Bool) (x55 : Int) (x56 : Int) (x57 : Int) (x58 : Int) (x59 : Int) (x60 : List Int) (x61 : List Int) (Kc7w0 : Bool -> Prop) (Kc7w1 : List (tDecl) -> Int -> Int -> Int -> Int -> Int -> List Int -> List Int -> Prop) : Prop :=
 if x54 = true then (Kc7w0 false) else (Kc7w1 x53 x55 x56 x57 x58 x59 x60 x61)
def Z56.q7 : Nat -> List (tDecl) -> Bool -> Int -> Int -> Int -> Int -> Int -> List Int -> List Int -> (Bool -> Prop) -> (List (tDecl) -> Int -> Int -> Int -> Int -> Int -> List Int -> List Int -> Prop) -> Prop
 | 0, _, _, _, _, _, _, _, _, _, _, _ => False
 | n + 1, x53, x54, x55, x56, x57, x58, x59, x60, x61, Kc7w0, Kc7w1 => Z56.q7.b n  x53 x54 x55 x56 x57 x58 x59 x60 x61  Kc7w0 Kc7w1
def Z56.q8.b (n : Nat) (x71 : List (tDecl)) (x72 : Int) (x73 : Int) (x74 : Int) (x75 : Int) (x76 : Int) (x77 : List Int) (x78 : List Int) (Kc8w0 : Bool -> Prop) : Prop :=
 if (decide (x72 = 1)) = true then (if (decide ((x78.length : Int) = 0)) = true then (Z52.c n x73 0 (IntKind.wrap .i64 ((x71.length : Int) - 1)) (fun r88 => Kc8w0 r88)) else (Kc8w0 false)) else (if (decide (x72 = 2)) = true then (if (decide ((x78.length : Int) = 0)) = true then (Z44.c n x76 x77 (fun r91 => Kc8w0 r91)) else (Kc8w0 false)) else (if (decide (x72 = 3)) = true then (Kc8w0 (decide ((x78.length : Int) >= 2))) else (Z58.c n x72 (fun r92 => if r92 = true then (Kc8w0 (decide ((x78.length : Int) = 1))) else (Kc8w0 false)))))
def Z56.q8 : Nat -> List (tDecl) -> Int -> Int -> Int -> Int -> Int -> List Int -> List Int -> (Bool -> Prop) -> Prop
 | 0, _, _, _, _, _, _, _, _, _ => False
 | n + 1, x71, x72, x73, x74, x75, x76, x77, x78, Kc8w0 => Z56.q8.b n  x71 x72 x73 x74 x75 x76 x77 x78  Kc8w0
def Z56.w (n : Nat) (lp2 : List (tDecl) -> Int -> Int -> Int -> Int -> Int -> Int -> List Int -> List Int -> Int -> (List (tDecl) -> Int -> Int -> Int -> Int -> Int -> List Int -> List Int -> Prop) -> (Bool -> Prop) -> Prop) (lpq7 : List (tDecl) -> Bool -> Int -> Int -> Int -> Int -> Int -> List Int -> List Int -> (Bool -> Prop) -> (List (tDecl) -> Int -> Int -> Int -> Int -> Int -> List Int -> List Int -> Prop) -> Prop) (lpq8 : List (tDecl) -> Int -> Int -> Int -> Int -> Int -> List Int -> List Int -> (Bool -> Prop) -> Prop) (a1 : List (tDecl)) (a2 : Int) (a3 : Int) (a4 : Int) (a5 : Int) (a6 : Int) (a7 : List Int) (a8 : List Int) (a9 : Int) (K : Bool -> Prop) : Prop :=
 lp2 a1 a9 a2 a3 a4 a5 a6 a7 a8 0 (fun y43 y44 y45 y46 y47 y48 y49 y50 => if (!(decide (y44 = 1))) = true then (if (!(decide (y45 = 0))) = false then (if (!(decide (y44 = 2))) = true then (Z57.c n y48 y49 (fun r51 => if (!r51) = false then (if (!(decide (y44 = 4))) = true then (if (!(decide (y47 = 0))) = false then (Z58.c n y44 (fun r52 => if (!r52) = true then (lpq7 y43 (!(decide (y46 = 0))) y44 y45 y46 y47 y48 y49 y50 (fun y62 => K y62) (fun y63 y64 y65 y66 y67 y68 y69 y70 => lpq8 y63 y64 y65 y66 y67 y68 y69 y70 (fun y93 => K y93))) else (lpq7 y43 false y44 y45 y46 y47 y48 y49 y50 (fun y94 => K y94) (fun y95 y96 y97 y98 y99 y100 y101 y102 => lpq8 y95 y96 y97 y98 y99 y100 y101 y102 (fun y103 => K y103))))) else (lpq7 y43 true y44 y45 y46 y47 y48 y49 y50 (fun y104 => K y104) (fun y105 y106 y107 y108 y109 y110 y111 y112 => lpq8 y105 y106 y107 y108 y109 y110 y111 y112 (fun y113 => K y113)))) else (Z58.c n y44 (fun r114 => if (!r114) = true then (lpq7 y43 (!(decide (y46 = 0))) y44 y45 y46 y47 y48 y49 y50 (fun y115 => K y115) (fun y116 y117 y118 y119 y120 y121 y122 y123 => lpq8 y116 y117 y118 y119 y120 y121 y122 y123 (fun y124 => K y124))) else (lpq7 y43 false y44 y45 y46 y47 y48 y49 y50 (fun y125 => K y125) (fun y126 y127 y128 y129 y130 y131 y132 y133 => lpq8 y126 y127 y128 y129 y130 y131 y132 y133 (fun y134 => K y134)))))) else (lpq7 y43 true y44 y45 y46 y47 y48 y49 y50 (fun y135 => K y135) (fun y136 y137 y138 y139 y140 y141 y142 y143 => lpq8 y136 y137 y138 y139 y140 y141 y142 y143 (fun y144 => K y144))))) else (if (!(decide (y44 = 4))) = true then (if (!(decide (y47 = 0))) = false then (Z58.c n y44 (fun r145 => if (!r145) = true then (lpq7 y43 (!(decide (y46 = 0))) y44 y45 y46 y47 y48 y49 y50 (fun y146 => K y146) (fun y147 y148 y149 y150 y151 y152 y153 y154 => lpq8 y147 y148 y149 y150 y151 y152 y153 y154 (fun y155 => K y155))) else (lpq7 y43 false y44 y45 y46 y47 y48 y49 y50 (fun y156 => K y156) (fun y157 y158 y159 y160 y161 y162 y163 y164 => lpq8 y157 y158 y159 y160 y161 y162 y163 y164 (fun y165 => K y165))))) else (lpq7 y43 true y44 y45 y46 y47 y48 y49 y50 (fun y166 => K y166) (fun y167 y168 y169 y170 y171 y172 y173 y174 => lpq8 y167 y168 y169 y170 y171 y172 y173 y174 (fun y175 => K y175)))) else (Z58.c n y44 (fun r176 => if (!r176) = true then (lpq7 y43 (!(decide (y46 = 0))) y44 y45 y46 y47 y48 y49 y50 (fun y177 => K y177) (fun y178 y179 y180 y181 y182 y183 y184 y185 => lpq8 y178 y179 y180 y181 y182 y183 y184 y185 (fun y186 => K y186))) else (lpq7 y43 false y44 y45 y46 y47 y48 y49 y50 (fun y187 => K y187) (fun y188 y189 y190 y191 y192 y193 y194 y195 => lpq8 y188 y189 y190 y191 y192 y193 y194 y195 (fun y196 => K y196))))))) else (lpq7 y43 true y44 y45 y46 y47 y48 y49 y50 (fun y197 => K y197) (fun y198 y199 y200 y201 y202 y203 y204 y205 => lpq8 y198 y199 y200 y201 y202 y203 y204 y205 (fun y206 => K y206)))) else (if (!(decide (y44 = 2))) = true then (Z57.c n y48 y49 (fun r207 => if (!r207) = false then (if (!(decide (y44 = 4))) = true then (if (!(decide (y47 = 0))) = false then (Z58.c n y44 (fun r208 => if (!r208) = true then (lpq7 y43 (!(decide (y46 = 0))) y44 y45 y46 y47 y48 y49 y50 (fun y209 => K y209) (fun y210 y211 y212 y213 y214 y215 y216 y217 => lpq8 y210 y211 y212 y213 y214 y215 y216 y217 (fun y218 => K y218))) else (lpq7 y43 false y44 y45 y46 y47 y48 y49 y50 (fun y219 => K y219) (fun y220 y221 y222 y223 y224 y225 y226 y227 => lpq8 y220 y221 y222 y223 y224 y225 y226 y227 (fun y228 => K y228))))) else (lpq7 y43 true y44 y45 y46 y47 y48 y49 y50 (fun y229 => K y229) (fun y230 y231 y232 y233 y234 y235 y236 y237 => lpq8 y230 y231 y232 y233 y234 y235 y236 y237 (fun y238 => K y238)))) else (Z58.c n y44 (fun r239 => if (!r239) = true then (lpq7 y43 (!(decide (y46 = 0))) y44 y45 y46 y47 y48 y49 y50 (fun y240 => K y240) (fun y241 y242 y243 y244 y245 y246 y247 y248 => lpq8 y241 y242 y243 y244 y245 y246 y247 y248 (fun y249 => K y249))) else (lpq7 y43 false y44 y45 y46 y47 y48 y49 y50 (fun y250 => K y250) (fun y251 y252 y253 y254 y255 y256 y257 y258 => lpq8 y251 y252 y253 y254 y255 y256 y257 y258 (fun y259 => K y259)))))) else (lpq7 y43 true y44 y45 y46 y47 y48 y49 y50 (fun y260 => K y260) (fun y261 y262 y263 y264 y265 y266 y267 y268 => lpq8 y261 y262 y263 y264 y265 y266 y267 y268 (fun y269 => K y269))))) else (if (!(decide (y44 = 4))) = true then (if (!(decide (y47 = 0))) = false then (Z58.c n y44 (fun r270 => if (!r270) = true then (lpq7 y43 (!(decide (y46 = 0))) y44 y45 y46 y47 y48 y49 y50 (fun y271 => K y271) (fun y272 y273 y274 y275 y276 y277 y278 y279 => lpq8 y272 y273 y274 y275 y276 y277 y278 y279 (fun y280 => K y280))) else (lpq7 y43 false y44 y45 y46 y47 y48 y49 y50 (fun y281 => K y281) (fun y282 y283 y284 y285 y286 y287 y288 y289 => lpq8 y282 y283 y284 y285 y286 y287 y288 y289 (fun y290 => K y290))))) else (lpq7 y43 true y44 y45 y46 y47 y48 y49 y50 (fun y291 => K y291) (fun y292 y293 y294 y295 y296 y297 y298 y299 => lpq8 y292 y293 y294 y295 y296 y297 y298 y299 (fun y300 => K y300)))) else (Z58.c n y44 (fun r301 => if (!r301) = true then (lpq7 y43 (!(decide (y46 = 0))) y44 y45 y46 y47 y48 y49 y50 (fun y302 => K y302) (fun y303 y304 y305 y306 y307 y308 y309 y310 => lpq8 y303 y304 y305 y306 y307 y308 y309 y310 (fun y311 => K y311))) else (lpq7 y43 false y44 y45 y46 y47 y48 y49 y50 (fun y312 => K y312) (fun y313 y314 y315 y316 y317 y318 y319 y320 => lpq8 y313 y314 y315 y316 y317 y318 y319 y320 (fun y321 => K y321)))))))) (fun y322 => K y322)
def Z56.c : Nat -> List (tDecl) -> Int -> Int -> Int -> Int -> Int -> List Int -> List Int -> Int -> (Bool -> Prop) -> Prop
 | 0, _, _, _, _, _, _, _, _, _, _ => False
 | n + 1, a1, a2, a3, a4, a5, a6, a7, a8, a9, K => Z56.w n (Z56.l2 n) (Z56.q7 n) (Z56.q8 n) a1 a2 a3 a4 a5 a6 a7 a8 a9 K
def Z62.l3.b (n : Nat) (x23 : List (tDecl)) (x24 : List Int) (x27 : Int) (x28 : Int) (x29 : Int) (x30 : Int) (x31 : Int) (x32 : List Int) (x33 : List Int) (again3 : Int -> Int -> Prop) (x25 : Int) (x26 : Int) (Kx0w3 : List (tDecl) -> Int -> Int -> Int -> Int -> Int -> Int -> List Int -> List Int -> Prop) : Prop :=
 if (decide (x26 < (x33.length : Int))) = true then (grd (decide (0 <= x26) && decide (x26 < (x33.length : Int))) (grd (decide (0 <= rd x33 (Int.toNat x26)) && decide (rd x33 (Int.toNat x26) < (x24.length : Int))) (let t35 : Int := IntKind.wrap .i64 (x25 + (rd x24 (Int.toNat (rd x33 (Int.toNat x26))))); again3 (if t35 < 8192 then t35 else 8192) (IntKind.wrap .i64 (x26 + 1))))) else (Kx0w3 x23 x25 x27 x28 x29 x30 x31 x32 x33)
def Z62.l3 : Nat -> List (tDecl) -> List Int -> Int -> Int -> Int -> Int -> Int -> List Int -> List Int -> Int -> Int -> (List (tDecl) -> Int -> Int -> Int -> Int -> Int -> Int -> List Int -> List Int -> Prop) -> Prop
 | 0, _, _, _, _, _, _, _, _, _, _, _, _ => False
 | n + 1, x23, x24, x27, x28, x29, x30, x31, x32, x33, x25, x26, Kx0w3 => Z62.l3.b n  x23 x24 x27 x28 x29 x30 x31 x32 x33 (fun x25q x26q => Z62.l3 n x23 x24 x27 x28 x29 x30 x31 x32 x33 x25q x26q Kx0w3) x25 x26 Kx0w3
def Z62.j2 (K : Int -> Prop) (n : Nat) (y46 : Int) (y47 : Int) (y49 : Int) (j74 : Bool) : Prop :=
 if j74 = true then (Z52.c n y49 0 4096 (fun r75 => if (!r75) = true then (K (-1)) else (K y46))) else (if (decide (y47 = 9)) = true then (Z52.c n y49 1 4096 (fun r77 => if (!r77) = true then (K (-1)) else (K (IntKind.wrap .i64 (y46 * y49))))) else (K y46))
def Z62.j3 (K : Int -> Prop) (n : Nat) (y46 : Int) (y47 : Int) (y49 : Int) (j71 : Bool) : Prop :=
 if j71 = true then (Z52.c n y49 0 4096 (fun r73 => if (!r73) = true then (K (-1)) else (K (IntKind.wrap .i64 (y46 + y49))))) else (if (decide (y47 = 7)) = true then (Z62.j2 K n y46 y47 y49 true) else (Z62.j2 K n y46 y47 y49 (decide (y47 = 8))))
def Z62.w (n : Nat) (lp3 : List (tDecl) -> List Int -> Int -> Int -> Int -> Int -> Int -> List Int -> List Int -> Int -> Int -> (List (tDecl) -> Int -> Int -> Int -> Int -> Int -> Int -> List Int -> List Int -> Prop) -> Prop) (a1 : List (tDecl)) (a2 : Int) (a3 : Int) (a4 : Int) (a5 : Int) (a6 : Int) (a7 : List Int) (a8 : List Int) (a9 : List Int) (K : Int -> Prop) : Prop :=
 lp3 a1 a9 a2 a3 a4 a5 a6 a7 a8 0 0 (fun y45 y46 y47 y48 y49 y50 y51 y52 y53 => if (decide (y47 = 1)) = true then (grd (decide (0 <= y48) && decide (y48 < (y45.length : Int))) (K ((rd y45 (Int.toNat y48)).2))) else (if (decide (y47 = 2)) = true then (K y51) else (if (decide (y47 = 4)) = true then (if (decide (y50 < 0)) = false then (if (decide (y49 < y50)) = false then (if (decide (y49 >= y46)) = true then (K (-1)) else (let t70 : Int := IntKind.wrap .i64 ((IntKind.wrap .i64 (y49 - y50)) + 1); K t70)) else (K (-1))) else (K (-1))) else (if (decide (y47 = 5)) = true then (Z62.j3 K n y46 y47 y49 true) else (Z62.j3 K n y46 y47 y49 (decide (y47 = 6)))))))
def Z62.c : Nat -> List (tDecl) -> Int -> Int -> Int -> Int -> Int -> List Int -> List Int -> List Int -> (Int -> Prop) -> Prop
 | 0, _, _, _, _, _, _, _, _, _, _ => False
 | n + 1, a1, a2, a3, a4, a5, a6, a7, a8, a9, K => Z62.w n (Z62.l3 n) a1 a2 a3 a4 a5 a6 a7 a8 a9 K
def Z63.l16.b (n : Nat) (x37 : List (tDecl)) (x38 : Int) (x40 : List Int) (x42 : List Int) (x43 : List (tTNode)) (again16 : Int -> List Bool -> Prop) (x39 : Int) (x41 : List Bool) (Kx2w16 : List (tDecl) -> Int -> List Int -> List Bool -> List Int -> List (tTNode) -> Prop) : Prop :=
 grd (decide (0 <= x38) && decide (x38 < (x43.length : Int))) (let t45 : List Int := ((((((rd x43 (Int.toNat x38)).2).2).2).2).2).2; if (decide (x39 < (t45.length : Int))) = true then (grd (decide (0 <= x38) && decide (x38 < (x43.length : Int))) (let t48 : List Int := ((((((rd x43 (Int.toNat x38)).2).2).2).2).2).2; grd (decide (0 <= x39) && decide (x39 < (t48.length : Int))) (grd (decide (0 <= rd t48 (Int.toNat x39)) && decide (rd t48 (Int.toNat x39) < (x41.length : Int))) (let t49 : List Bool := List.set x41 (Int.toNat (rd t48 (Int.toNat x39))) true; again16 (IntKind.wrap .i64 (x39 + 1)) t49)))) else (Kx2w16 x37 x38 x40 x41 x42 x43))
def Z63.l16 : Nat -> List (tDecl) -> Int -> List Int -> List Int -> List (tTNode) -> Int -> List Bool -> (List (tDecl) -> Int -> List Int -> List Bool -> List Int -> List (tTNode) -> Prop) -> Prop
 | 0, _, _, _, _, _, _, _, _ => False
 | n + 1, x37, x38, x40, x42, x43, x39, x41, Kx2w16 => Z63.l16.b n  x37 x38 x40 x42 x43 (fun x39q x41q => Z63.l16 n x37 x38 x40 x42 x43 x39q x41q Kx2w16) x39 x41 Kx2w16
def Z63.l7.b (n : Nat) (lp16 : List (tDecl) -> Int -> List Int -> List Int -> List (tTNode) -> Int -> List Bool -> (List (tDecl) -> Int -> List Int -> List Bool -> List Int -> List (tTNode) -> Prop) -> Prop) (again7 : List (tDecl) -> Int -> List Int -> List Int -> List Bool -> List (tTNode) -> Prop) (x73 : List (tDecl)) (x74 : Int) (x75 : List Int) (x76 : List Int) (x77 : List Bool) (x78 : List (tTNode)) (Kx0w7 : List Int -> List Int -> List Bool -> Prop) (Kr7 : List Int -> Prop) : Prop :=
 if (decide (x74 < (x78.length : Int))) = true then (grd (decide (0 <= x74) && decide (x74 < (x78.length : Int))) (let t99 : List Int := ((((((rd x78 (Int.toNat x74)).2).2).2).2).2).1; let t100 : List Int := ((((((rd x78 (Int.toNat x74)).2).2).2).2).2).2; Z56.c n x73 ((rd x78 (Int.toNat x74)).1) (((rd x78 (Int.toNat x74)).2).1) ((((rd x78 (Int.toNat x74)).2).2).1) (((((rd x78 (Int.toNat x74)).2).2).2).1) ((((((rd x78 (Int.toNat x74)).2).2).2).2).1) t99 t100 x74 (fun r101 => if (!r101) = true then (Kr7 x76) else (grd (decide (0 <= x74) && decide (x74 < (x78.length : Int))) (let t102 : List Int := ((((((rd x78 (Int.toNat x74)).2).2).2).2).2).1; let t103 : List Int := ((((((rd x78 (Int.toNat x74)).2).2).2).2).2).2; Z62.c n x73 ((rd x78 (Int.toNat x74)).1) (((rd x78 (Int.toNat x74)).2).1) ((((rd x78 (Int.toNat x74)).2).2).1) (((((rd x78 (Int.toNat x74)).2).2).2).1) ((((((rd x78 (Int.toNat x74)).2).2).2).2).1) t102 t103 x75 (fun r104 => Z52.c n r104 1 4096 (fun r106 => if (!r106) = true then (Kr7 x76) else (grd (decide (x75.length + ([r104] : List (Int)).length <= 7818749353073)) (lp16 x73 x74 x76 (x75 ++ ([r104] : List (Int))) x78 0 x77 (fun y107 y108 y109 y110 y111 y112 => again7 y107 (IntKind.wrap .i64 (y108 + 1)) y111 y109 y110 y112)))))))))) else (Kx0w7 x75 x76 x77)
def Z63.l7 : Nat -> List (tDecl) -> Int -> List Int -> List Int -> List Bool -> List (tTNode) -> (List Int -> List Int -> List Bool -> Prop) -> (List Int -> Prop) -> Prop
 | 0, _, _, _, _, _, _, _, _ => False
 | n + 1, x73, x74, x75, x76, x77, x78, Kx0w7, Kr7 => Z63.l7.b n (Z63.l16 n)  (fun x73q x74q x75q x76q x77q x78q => Z63.l7 n x73q x74q x75q x76q x77q x78q Kx0w7 Kr7) x73 x74 x75 x76 x77 x78 Kx0w7 Kr7
def Z63.l20.b (n : Nat) (x127 : List Int) (x128 : List Int) (x129 : List Bool) (again20 : Int -> Prop) (x126 : Int) (Kx4w20 : List Int -> Prop) (Kr20 : List Int -> Prop) : Prop :=
 let t131 : Bool := decide (IntKind.wrap .i64 (x126 + 1) < (x129.length : Int)); if t131 = true then (grd (decide (0 <= x126) && decide (x126 < (x129.length : Int))) (if (!(rd x129 (Int.toNat x126))) = true then (Kr20 x128) else (again20 (IntKind.wrap .i64 (x126 + 1))))) else (Kx4w20 x127)
def Z63.l20 : Nat -> List Int -> List Int -> List Bool -> Int -> (List Int -> Prop) -> (List Int -> Prop) -> Prop
 | 0, _, _, _, _, _, _ => False
 | n + 1, x127, x128, x129, x126, Kx4w20, Kr20 => Z63.l20.b n  x127 x128 x129 (fun x126q => Z63.l20 n x127 x128 x129 x126q Kx4w20 Kr20) x126 Kx4w20 Kr20
def Z63.j0 (K : List Int -> Prop) (a1 : List (tDecl)) (a2 : List (tTNode)) (lp7 : List (tDecl) -> Int -> List Int -> List Int -> List Bool -> List (tTNode) -> (List Int -> List Int -> List Bool -> Prop) -> (List Int -> Prop) -> Prop) (lp20 : List Int -> List Int -> List Bool -> Int -> (List Int -> Prop) -> (List Int -> Prop) -> Prop) : Prop :=
 grd ((decide (0 <= (a2.length : Int)) && decide ((a2.length : Int) <= 35184372088832)) && decide ((a2.length : Int) = (a2.length : Int))) (let t6 : List Bool := List.replicate (Int.toNat (a2.length : Int)) false; lp7 a1 0 ([] : List (Int)) ([] : List (Int)) t6 a2 (fun y117 y118 y119 => lp20 y117 y118 y119 0 (fun y134 => K y134) (fun y135 => K y135)) (fun y136 => K y136))
def Z63.w (n : Nat) (lp7 : List (tDecl) -> Int -> List Int -> List Int -> List Bool -> List (tTNode) -> (List Int -> List Int -> List Bool -> Prop) -> (List Int -> Prop) -> Prop) (lp20 : List Int -> List Int -> List Bool -> Int -> (List Int -> Prop) -> (List Int -> Prop) -> Prop) (a1 : List (tDecl)) (a2 : List (tTNode)) (K : List Int -> Prop) : Prop :=
 Z45.c n a1 (fun r139 => if (!r139) = false then (if (decide ((a2.length : Int) < 1)) = false then (if (decide ((a2.length : Int) > 400)) = true then (K ([] : List (Int))) else (Z63.j0 K a1 a2 lp7 lp20)) else (K ([] : List (Int)))) else (K ([] : List (Int))))
def Z63.c : Nat -> List (tDecl) -> List (tTNode) -> (List Int -> Prop) -> Prop
 | 0, _, _, _ => False
 | n + 1, a1, a2, K => Z63.w n (Z63.l7 n) (Z63.l20 n) a1 a2 K
def Z46.w (n : Nat) (a1 : List (tDecl)) (a2 : List (tTNode)) (K : Int -> Prop) : Prop :=
 Z63.c n a1 a2 (fun r3 => if (decide ((r3.length : Int) = 0)) = true then (K (-1)) else (grd (decide (0 <= IntKind.wrap .i64 ((r3.length : Int) - 1)) && decide (IntKind.wrap .i64 ((r3.length : Int) - 1) < (r3.length : Int))) (let t4 : Nat := Int.toNat (IntKind.wrap .i64 ((r3.length : Int) - 1)); K (rd r3 t4))))
def Z46.c : Nat -> List (tDecl) -> List (tTNode) -> (Int -> Prop) -> Prop
 | 0, _, _, _ => False
 | n + 1, a1, a2, K => Z46.w n  a1 a2 K
def Z53.l3.b (n : Nat) (x11 : Int) (x12 : List Int) (again3 : Int -> List Int -> Prop) (x9 : Int) (x10 : List Int) (Kx0w3 : List Int -> Prop) : Prop :=
 if (decide (x9 < x11)) = true then (Z49.c n x11 x12 x9 (fun r14 => grd (decide (x10.length + ([r14] : List (Int)).length <= 35184372088832)) (again3 (IntKind.wrap .i64 (x9 + 1)) (x10 ++ ([r14] : List (Int)))))) else (Kx0w3 x10)
def Z53.l3 : Nat -> Int -> List Int -> Int -> List Int -> (List Int -> Prop) -> Prop
 | 0, _, _, _, _, _ => False
 | n + 1, x11, x12, x9, x10, Kx0w3 => Z53.l3.b n  x11 x12 (fun x9q x10q => Z53.l3 n x11 x12 x9q x10q Kx0w3) x9 x10 Kx0w3
def Z53.w (n : Nat) (lp3 : Int -> List Int -> Int -> List Int -> (List Int -> Prop) -> Prop) (a1 : Int) (a2 : List Int) (K : List Int -> Prop) : Prop :=
 lp3 a1 a2 0 ([] : List (Int)) (fun y16 => K y16)
def Z53.c : Nat -> Int -> List Int -> (List Int -> Prop) -> Prop
 | 0, _, _, _ => False
 | n + 1, a1, a2, K => Z53.w n (Z53.l3 n) a1 a2 K
def Z55.l3.b (n : Nat) (x5 : List Int) (again3 : Int -> List Int -> Prop) (x6 : Int) (x7 : List Int) (Kx0w3 : List Int -> Prop) : Prop :=
 if (decide (x6 >= 0)) = true then (grd (decide (0 <= x6) && decide (x6 < (x5.length : Int))) (grd (decide (x7.length + ([rd x5 (Int.toNat x6)] : List (Int)).length <= 35184372088832)) (again3 (IntKind.wrap .i64 (x6 - 1)) (x7 ++ ([rd x5 (Int.toNat x6)] : List (Int)))))) else (Kx0w3 x7)
def Z55.l3 : Nat -> List Int -> Int -> List Int -> (List Int -> Prop) -> Prop
 | 0, _, _, _, _ => False
 | n + 1, x5, x6, x7, Kx0w3 => Z55.l3.b n  x5 (fun x6q x7q => Z55.l3 n x5 x6q x7q Kx0w3) x6 x7 Kx0w3
def Z55.w (n : Nat) (lp3 : List Int -> Int -> List Int -> (List Int -> Prop) -> Prop) (a1 : List Int) (K : List Int -> Prop) : Prop :=
 lp3 a1 (IntKind.wrap .i64 ((a1.length : Int) - 1)) ([] : List (Int)) (fun y9 => K y9)
def Z55.c : Nat -> List Int -> (List Int -> Prop) -> Prop
 | 0, _, _ => False
 | n + 1, a1, K => Z55.w n (Z55.l3 n) a1 K
def Z47.l8.b (n : Nat) (x30 : List Int) (x31 : Int) (x32 : List Int) (again8 : Int -> List Int -> Prop) (x28 : Int) (x29 : List Int) (Kx0w8 : List Int -> Prop) : Prop :=
 if (decide (x28 < (x30.length : Int))) = true then (if (!(decide (Int.tmod x31 4 = 0))) = true then (grd (decide (0 <= x28) && decide (x28 < (x30.length : Int))) (let t41 : Int := IntKind.wrap .u8 (48 + (rd x30 (Int.toNat x28))); grd (decide (x29.length + ([t41] : List (Int)).length <= 35184372088832)) (again8 (IntKind.wrap .i64 (x28 + 1)) (x29 ++ ([t41] : List (Int)))))) else (if (decide (Int.tmod x28 4 = 0)) = true then (grd (decide (0 <= x28) && decide (x28 < (x30.length : Int))) (let t42 : Int := IntKind.wrap .u8 (8 * (rd x30 (Int.toNat x28))); grd (decide (0 <= IntKind.wrap .i64 (x28 + 1)) && decide (IntKind.wrap .i64 (x28 + 1) < (x30.length : Int))) (let t43 : Int := rd x30 (Int.toNat (IntKind.wrap .i64 (x28 + 1))); let t44 : Int := IntKind.wrap .u8 (t42 + (IntKind.wrap .u8 (4 * t43))); grd (decide (0 <= IntKind.wrap .i64 (x28 + 2)) && decide (IntKind.wrap .i64 (x28 + 2) < (x30.length : Int))) (let t45 : Int := rd x30 (Int.toNat (IntKind.wrap .i64 (x28 + 2))); let t46 : Int := IntKind.wrap .u8 (t44 + (IntKind.wrap .u8 (2 * t45))); grd (decide (0 <= IntKind.wrap .i64 (x28 + 3)) && decide (IntKind.wrap .i64 (x28 + 3) < (x30.length : Int))) (let t47 : Int := rd x30 (Int.toNat (IntKind.wrap .i64 (x28 + 3))); grd (decide (0 <= IntKind.wrap .u8 (t46 + t47)) && decide (IntKind.wrap .u8 (t46 + t47) < (([48, 49, 50, 51, 52, 53, 54, 55, 56, 57, 97, 98, 99, 100, 101, 102] : List UInt8).length : Int))) (let t48 : Int := ((List.getD ([48, 49, 50, 51, 52, 53, 54, 55, 56, 57, 97, 98, 99, 100, 101, 102] : List UInt8) (Int.toNat (IntKind.wrap .u8 (t46 + t47))) 0).toNat : Int); grd (decide (x29.length + ([t48] : List (Int)).length <= 35184372088832)) (again8 (IntKind.wrap .i64 (x28 + 1)) (x29 ++ ([t48] : List (Int)))))))))) else (again8 (IntKind.wrap .i64 (x28 + 1)) x29))) else (Kx0w8 x29)
def Z47.l8 : Nat -> List Int -> Int -> List Int -> Int -> List Int -> (List Int -> Prop) -> Prop
 | 0, _, _, _, _, _, _ => False
 | n + 1, x30, x31, x32, x28, x29, Kx0w8 => Z47.l8.b n  x30 x31 x32 (fun x28q x29q => Z47.l8 n x30 x31 x32 x28q x29q Kx0w8) x28 x29 Kx0w8
def Z47.w (n : Nat) (lp8 : List Int -> Int -> List Int -> Int -> List Int -> (List Int -> Prop) -> Prop) (a1 : Int) (a2 : List Int) (K : List UInt8 -> Prop) : Prop :=
 Z44.c n a1 a2 (fun r4 => if (!r4) = true then (K ([] : List UInt8)) else (Z53.c n a1 a2 (fun r5 => Z55.c n r5 (fun r6 => grd (decide (0 < ([35, 98] : List (Int)).length)) (if (decide (Int.tmod a1 4 = 0)) = true then (grd (decide (0 < ([35, 120] : List (Int)).length)) (lp8 r6 a1 a2 0 ([35, 120] : List (Int)) (fun y50 => K (bytesStr y50)))) else (lp8 r6 a1 a2 0 ([35, 98] : List (Int)) (fun y52 => K (bytesStr y52))))))))
def Z47.c : Nat -> Int -> List Int -> (List UInt8 -> Prop) -> Prop
 | 0, _, _, _ => False
 | n + 1, a1, a2, K => Z47.w n (Z47.l8 n) a1 a2 K
def Z64.w (n : Nat) (a1 : Int) (K : List UInt8 -> Prop) : Prop :=
 let t2 : List (List UInt8) := ([([] : List UInt8), ([] : List UInt8), ([] : List UInt8), ([99, 97, 116] : List UInt8), ([112, 97, 114, 116] : List UInt8), ([122, 101, 114, 111] : List UInt8), ([115, 105, 103, 110] : List UInt8), ([108, 101, 102, 116] : List UInt8), ([114, 105, 103, 104, 116] : List UInt8), ([114, 101, 112] : List UInt8)] : List (List UInt8)); grd (decide (0 <= a1) && decide (a1 < (t2.length : Int))) (K (rd t2 (Int.toNat a1)))
def Z64.c : Nat -> Int -> (List UInt8 -> Prop) -> Prop
 | 0, _, _ => False
 | n + 1, a1, K => Z64.w n  a1 K
def Z59.w (n : Nat) (a1 : Int) (K : Int -> Prop) : Prop :=
 if (decide (a1 = 4)) = true then (K 2) else (if (decide (a1 > 4)) = true then (K 1) else (K 0))
def Z59.c : Nat -> Int -> (Int -> Prop) -> Prop
 | 0, _, _ => False
 | n + 1, a1, K => Z59.w n  a1 K
def Z50.l4.b (n : Nat) (again4 : Int -> List UInt8 -> Prop) (x5 : Int) (x6 : List UInt8) (Kx0w4 : List UInt8 -> Prop) : Prop :=
 if (decide (x5 > 0)) = true then (let t7 : Int := IntKind.wrap .u8 (IntKind.wrap .i64 (48 + (Int.tmod x5 10))); grd (decide ((bytesStr ([t7] : List (Int))).length + x6.length <= 9223372036854775807)) (again4 (IntKind.wrap .i64 (Int.tdiv x5 10)) ((bytesStr ([t7] : List (Int))) ++ x6))) else (Kx0w4 x6)
def Z50.l4 : Nat -> Int -> List UInt8 -> (List UInt8 -> Prop) -> Prop
 | 0, _, _, _ => False
 | n + 1, x5, x6, Kx0w4 => Z50.l4.b n   (fun x5q x6q => Z50.l4 n x5q x6q Kx0w4) x5 x6 Kx0w4
def Z50.w (n : Nat) (lp4 : Int -> List UInt8 -> (List UInt8 -> Prop) -> Prop) (a1 : Int) (K : List UInt8 -> Prop) : Prop :=
 if (decide (a1 = 0)) = true then (K ([48] : List UInt8)) else (lp4 a1 ([] : List UInt8) (fun y9 => K y9))
def Z50.c : Nat -> Int -> (List UInt8 -> Prop) -> Prop
 | 0, _, _ => False
 | n + 1, a1, K => Z50.w n (Z50.l4 n) a1 K
def Z60.l18.b (n : Nat) (x36 : List (tDecl)) (x37 : Int) (x40 : List Int) (x41 : List (tTNode)) (x42 : Int) (x43 : Int) (x44 : Int) (x45 : Int) (x46 : Int) (x47 : List Int) (x48 : List Int) (again18 : Int -> Int -> Prop) (x38 : Int) (x39 : Int) (Kx3w18 : List (tDecl) -> Int -> Int -> List Int -> List (tTNode) -> Prop) : Prop :=
 if (decide (x39 < (x48.length : Int))) = true then (grd (decide (0 <= x39) && decide (x39 < (x48.length : Int))) (grd (decide (0 <= rd x48 (Int.toNat x39)) && decide (rd x48 (Int.toNat x39) < (x40.length : Int))) (let t50 : Int := IntKind.wrap .i64 ((IntKind.wrap .i64 (x38 + 1)) + (rd x40 (Int.toNat (rd x48 (Int.toNat x39))))); again18 t50 (IntKind.wrap .i64 (x39 + 1))))) else (Kx3w18 x36 x37 x38 x40 x41)
def Z60.l18 : Nat -> List (tDecl) -> Int -> List Int -> List (tTNode) -> Int -> Int -> Int -> Int -> Int -> List Int -> List Int -> Int -> Int -> (List (tDecl) -> Int -> Int -> List Int -> List (tTNode) -> Prop) -> Prop
 | 0, _, _, _, _, _, _, _, _, _, _, _, _, _, _ => False
 | n + 1, x36, x37, x40, x41, x42, x43, x44, x45, x46, x47, x48, x38, x39, Kx3w18 => Z60.l18.b n  x36 x37 x40 x41 x42 x43 x44 x45 x46 x47 x48 (fun x38q x39q => Z60.l18 n x36 x37 x40 x41 x42 x43 x44 x45 x46 x47 x48 x38q x39q Kx3w18) x38 x39 Kx3w18
def Z60.j10 (again3 : List (tDecl) -> Int -> List Int -> List (tTNode) -> Prop) (lp18 : List (tDecl) -> Int -> List Int -> List (tTNode) -> Int -> Int -> Int -> Int -> Int -> List Int -> List Int -> Int -> Int -> (List (tDecl) -> Int -> Int -> List Int -> List (tTNode) -> Prop) -> Prop) (t163 : List Int) (t164 : List Int) (x115 : List (tDecl)) (x116 : Int) (x117 : List Int) (x118 : List (tTNode)) (j180 : Int) : Prop :=
 lp18 x115 x116 x117 x118 ((rd x118 (Int.toNat x116)).1) (((rd x118 (Int.toNat x116)).2).1) ((((rd x118 (Int.toNat x116)).2).2).1) (((((rd x118 (Int.toNat x116)).2).2).2).1) ((((((rd x118 (Int.toNat x116)).2).2).2).2).1) t163 t164 j180 0 (fun y186 y187 y188 y189 y190 => let t191 : List Int := ([(if 20001 < y188 then 20001 else y188)] : List (Int)); grd (decide (y189.length + t191.length <= 7818749353073)) (again3 y186 (IntKind.wrap .i64 (y187 + 1)) (y189 ++ t191) y190))
def Z60.j11 (again3 : List (tDecl) -> Int -> List Int -> List (tTNode) -> Prop) (lp18 : List (tDecl) -> Int -> List Int -> List (tTNode) -> Int -> Int -> Int -> Int -> Int -> List Int -> List Int -> Int -> Int -> (List (tDecl) -> Int -> Int -> List Int -> List (tTNode) -> Prop) -> Prop) (n : Nat) (t163 : List Int) (t164 : List Int) (x115 : List (tDecl)) (x116 : Int) (x117 : List Int) (x118 : List (tTNode)) (j199 : Int) : Prop :=
 Z59.c n ((rd x118 (Int.toNat x116)).1) (fun r200 => if (decide (r200 > 1)) = true then (Z50.c n (((((rd x118 (Int.toNat x116)).2).2).2).1) (fun r201 => let t202 : Int := IntKind.wrap .i64 ((IntKind.wrap .i64 (j199 + 1)) + (r201.length : Int)); Z60.j10 again3 lp18 t163 t164 x115 x116 x117 x118 t202)) else (Z60.j10 again3 lp18 t163 t164 x115 x116 x117 x118 j199))
def Z60.l3.b (n : Nat) (lp18 : List (tDecl) -> Int -> List Int -> List (tTNode) -> Int -> Int -> Int -> Int -> Int -> List Int -> List Int -> Int -> Int -> (List (tDecl) -> Int -> Int -> List Int -> List (tTNode) -> Prop) -> Prop) (again3 : List (tDecl) -> Int -> List Int -> List (tTNode) -> Prop) (x115 : List (tDecl)) (x116 : Int) (x117 : List Int) (x118 : List (tTNode)) (Kx0w3 : List Int -> Prop) : Prop :=
 if (decide (x116 < (x118.length : Int))) = true then (grd (decide (0 <= x116) && decide (x116 < (x118.length : Int))) (let t163 : List Int := ((((((rd x118 (Int.toNat x116)).2).2).2).2).2).1; let t164 : List Int := ((((((rd x118 (Int.toNat x116)).2).2).2).2).2).2; if (decide ((rd x118 (Int.toNat x116)).1 = 1)) = true then (grd (decide (0 <= ((rd x118 (Int.toNat x116)).2).1) && decide (((rd x118 (Int.toNat x116)).2).1 < (x115.length : Int))) (let t192 : tDecl := rd x115 (Int.toNat (((rd x118 (Int.toNat x116)).2).1)); Z60.j10 again3 lp18 t163 t164 x115 x116 x117 x118 (t192.1.length : Int))) else (if (decide ((rd x118 (Int.toNat x116)).1 = 2)) = true then (Z47.c n ((((((rd x118 (Int.toNat x116)).2).2).2).2).1) t163 (fun r193 => Z60.j10 again3 lp18 t163 t164 x115 x116 x117 x118 (r193.length : Int))) else (Z64.c n ((rd x118 (Int.toNat x116)).1) (fun r194 => Z59.c n ((rd x118 (Int.toNat x116)).1) (fun r203 => if (decide (r203 > 0)) = true then (let t204 : Int := IntKind.wrap .i64 ((IntKind.wrap .i64 (2 + (r194.length : Int))) + 1); Z50.c n ((((rd x118 (Int.toNat x116)).2).2).1) (fun r205 => let t206 : Int := IntKind.wrap .i64 (t204 + (r205.length : Int)); Z60.j11 again3 lp18 n t163 t164 x115 x116 x117 x118 t206)) else (Z60.j11 again3 lp18 n t163 t164 x115 x116 x117 x118 (IntKind.wrap .i64 (2 + (r194.length : Int)))))))))) else (Kx0w3 x117)
def Z60.l3 : Nat -> List (tDecl) -> Int -> List Int -> List (tTNode) -> (List Int -> Prop) -> Prop
 | 0, _, _, _, _, _ => False
 | n + 1, x115, x116, x117, x118, Kx0w3 => Z60.l3.b n (Z60.l18 n)  (fun x115q x116q x117q x118q => Z60.l3 n x115q x116q x117q x118q Kx0w3) x115 x116 x117 x118 Kx0w3
def Z60.w (n : Nat) (lp3 : List (tDecl) -> Int -> List Int -> List (tTNode) -> (List Int -> Prop) -> Prop) (a1 : List (tDecl)) (a2 : List (tTNode)) (K : List Int -> Prop) : Prop :=
 lp3 a1 0 ([] : List (Int)) a2 (fun y208 => K y208)
def Z60.c : Nat -> List (tDecl) -> List (tTNode) -> (List Int -> Prop) -> Prop
 | 0, _, _, _ => False
 | n + 1, a1, a2, K => Z60.w n (Z60.l3 n) a1 a2 K
def Z61.l13.b (n : Nat) (self : List (tDecl) -> List (tTNode) -> Int -> (List UInt8 -> Prop) -> Prop) (x29 : List (tDecl)) (x32 : List (tTNode)) (x33 : Int) (x34 : Int) (x35 : Int) (x36 : Int) (x37 : Int) (x38 : List Int) (x39 : List Int) (again13 : List UInt8 -> Int -> Prop) (x30 : List UInt8) (x31 : Int) (Kx1w13 : List UInt8 -> Prop) : Prop :=
 if (decide (x31 < (x39.length : Int))) = true then (grd (decide (x30.length + ([32] : List UInt8).length <= 9223372036854775807)) (grd (decide (0 <= x31) && decide (x31 < (x39.length : Int))) (self x29 x32 (rd x39 (Int.toNat x31)) (fun r41 => grd (decide ((x30 ++ ([32] : List UInt8)).length + r41.length <= 9223372036854775807)) (again13 ((x30 ++ ([32] : List UInt8)) ++ r41) (IntKind.wrap .i64 (x31 + 1))))))) else (Kx1w13 x30)
def Z61.j0 (K : List UInt8 -> Prop) (a1 : List (tDecl)) (a2 : List (tTNode)) (a3 : Int) (lp13 : List (tDecl) -> List (tTNode) -> Int -> Int -> Int -> Int -> Int -> List Int -> List Int -> List UInt8 -> Int -> (List UInt8 -> Prop) -> Prop) (j15 : List UInt8) : Prop :=
 lp13 a1 a2 ((rd a2 (Int.toNat a3)).1) (((rd a2 (Int.toNat a3)).2).1) ((((rd a2 (Int.toNat a3)).2).2).1) (((((rd a2 (Int.toNat a3)).2).2).2).1) ((((((rd a2 (Int.toNat a3)).2).2).2).2).1) (((((((rd a2 (Int.toNat a3)).2).2).2).2).2).1) (((((((rd a2 (Int.toNat a3)).2).2).2).2).2).2) j15 0 (fun y43 => grd (decide (y43.length + ([41] : List UInt8).length <= 9223372036854775807)) (K (y43 ++ ([41] : List UInt8))))
def Z61.j1 (K : List UInt8 -> Prop) (a1 : List (tDecl)) (a2 : List (tTNode)) (a3 : Int) (lp13 : List (tDecl) -> List (tTNode) -> Int -> Int -> Int -> Int -> Int -> List Int -> List Int -> List UInt8 -> Int -> (List UInt8 -> Prop) -> Prop) (n : Nat) (j12 : List UInt8) : Prop :=
 Z59.c n ((rd a2 (Int.toNat a3)).1) (fun r44 => if (decide (r44 > 1)) = true then (grd (decide (j12.length + ([32] : List UInt8).length <= 9223372036854775807)) (Z50.c n (((((rd a2 (Int.toNat a3)).2).2).2).1) (fun r45 => grd (decide ((j12 ++ ([32] : List UInt8)).length + r45.length <= 9223372036854775807)) (Z61.j0 K a1 a2 a3 lp13 ((j12 ++ ([32] : List UInt8)) ++ r45))))) else (Z61.j0 K a1 a2 a3 lp13 j12))
def Z61.w (n : Nat) (lp13 : List (tDecl) -> List (tTNode) -> Int -> Int -> Int -> Int -> Int -> List Int -> List Int -> List UInt8 -> Int -> (List UInt8 -> Prop) -> Prop) (a1 : List (tDecl)) (a2 : List (tTNode)) (a3 : Int) (K : List UInt8 -> Prop) : Prop :=
 grd (decide (0 <= a3) && decide (a3 < (a2.length : Int))) (if (decide ((rd a2 (Int.toNat a3)).1 = 1)) = true then (grd (decide (0 <= ((rd a2 (Int.toNat a3)).2).1) && decide (((rd a2 (Int.toNat a3)).2).1 < (a1.length : Int))) (let t6 : tDecl := rd a1 (Int.toNat (((rd a2 (Int.toNat a3)).2).1)); K t6.1)) else (if (decide ((rd a2 (Int.toNat a3)).1 = 2)) = true then (Z47.c n ((((((rd a2 (Int.toNat a3)).2).2).2).2).1) (((((((rd a2 (Int.toNat a3)).2).2).2).2).2).1) (fun r7 => K r7)) else (Z64.c n ((rd a2 (Int.toNat a3)).1) (fun r8 => grd (decide (([40] : List UInt8).length + r8.length <= 9223372036854775807)) (Z59.c n ((rd a2 (Int.toNat a3)).1) (fun r46 => if (decide (r46 > 0)) = true then (grd (decide ((([40] : List UInt8) ++ r8).length + ([32] : List UInt8).length <= 9223372036854775807)) (let t47 : List UInt8 := (([40] : List UInt8) ++ r8) ++ ([32] : List UInt8); Z50.c n ((((rd a2 (Int.toNat a3)).2).2).1) (fun r48 => grd (decide (t47.length + r48.length <= 9223372036854775807)) (Z61.j1 K a1 a2 a3 lp13 n (t47 ++ r48))))) else (Z61.j1 K a1 a2 a3 lp13 n (([40] : List UInt8) ++ r8))))))))
def Z61.m : Nat -> (List (tDecl) -> List (tTNode) -> Int -> (List UInt8 -> Prop) -> Prop) × (List (tDecl) -> List (tTNode) -> Int -> Int -> Int -> Int -> Int -> List Int -> List Int -> List UInt8 -> Int -> (List UInt8 -> Prop) -> Prop)
 | 0 => (fun _ _ _ _ => False, fun _ _ _ _ _ _ _ _ _ _ _ _ => False)
 | n + 1 => (fun a1 a2 a3 K => Z61.w n (Z61.m n).2 a1 a2 a3 K, fun x29 x32 x33 x34 x35 x36 x37 x38 x39 x30 x31 Kx1w13 => Z61.l13.b n (Z61.m n).1 x29 x32 x33 x34 x35 x36 x37 x38 x39 (fun x30q x31q => (Z61.m n).2 x29 x32 x33 x34 x35 x36 x37 x38 x39 x30q x31q Kx1w13) x30 x31 Kx1w13)
def Z61.c (n : Nat) : List (tDecl) -> List (tTNode) -> Int -> (List UInt8 -> Prop) -> Prop := (Z61.m n).1
def Z61.l13 (n : Nat) : List (tDecl) -> List (tTNode) -> Int -> Int -> Int -> Int -> Int -> List Int -> List Int -> List UInt8 -> Int -> (List UInt8 -> Prop) -> Prop := (Z61.m n).2
theorem Z61.c_s (n : Nat) (a1 : List (tDecl)) (a2 : List (tTNode)) (a3 : Int) (K : List UInt8 -> Prop) : Z61.c (n + 1) a1 a2 a3 K = Z61.w n (Z61.l13 n) a1 a2 a3 K := rfl
theorem Z61.l13_s (n : Nat) (x29 : List (tDecl)) (x32 : List (tTNode)) (x33 : Int) (x34 : Int) (x35 : Int) (x36 : Int) (x37 : Int) (x38 : List Int) (x39 : List Int) (x30 : List UInt8) (x31 : Int) (Kx1w13 : List UInt8 -> Prop) : Z61.l13 (n + 1) x29 x32 x33 x34 x35 x36 x37 x38 x39 x30 x31 Kx1w13 = Z61.l13.b n (Z61.c n) x29 x32 x33 x34 x35 x36 x37 x38 x39 (fun x30q x31q => Z61.l13 n x29 x32 x33 x34 x35 x36 x37 x38 x39 x30q x31q Kx1w13) x30 x31 Kx1w13 := rfl
def Z48.w (n : Nat) (a1 : List (tDecl)) (a2 : List (tTNode)) (K : List UInt8 -> Prop) : Prop :=
 Z46.c n a1 a2 (fun r25 => if (decide (r25 < 0)) = false then (let p32 : Prop := (Z60.c n a1 a2 (fun r26 => grd (decide (0 <= IntKind.wrap .i64 ((a2.length : Int) - 1)) && decide (IntKind.wrap .i64 ((a2.length : Int) - 1) < (r26.length : Int))) (let t27 : Nat := Int.toNat (IntKind.wrap .i64 ((a2.length : Int) - 1)); if (decide (rd r26 t27 > 20000)) = true then (K ([] : List UInt8)) else (Z61.c n a1 a2 (IntKind.wrap .i64 ((a2.length : Int) - 1)) (fun r28 => K r28))))); (p32 /\ p32)) else ((K ([] : List UInt8)) /\ (K ([] : List UInt8))))
def Z48.c : Nat -> List (tDecl) -> List (tTNode) -> (List UInt8 -> Prop) -> Prop
 | 0, _, _, _ => False
 | n + 1, a1, a2, K => Z48.w n  a1 a2 K
def Z11.l4.b (n : Nat) (x35 : List UInt8) (again4 : Int -> Prop) (x36 : Int) (Kx0w4 : Prop) (Kr4 : Bool -> Prop) : Prop :=
 if (decide (x36 < (x35.length : Int))) = true then (grd (decide (0 <= x36) && decide (x36 < (x35.length : Int))) (let t57 : Int := ((List.getD x35 (Int.toNat x36) 0).toNat : Int); if (decide (t57 < 97)) = false then (grd (decide (0 <= x36) && decide (x36 < (x35.length : Int))) (let t58 : Int := ((List.getD x35 (Int.toNat x36) 0).toNat : Int); if (decide (t58 > 122)) = true then (grd (decide (0 <= x36) && decide (x36 < (x35.length : Int))) (let t59 : Int := ((List.getD x35 (Int.toNat x36) 0).toNat : Int); if (decide (t59 < 48)) = false then (grd (decide (0 <= x36) && decide (x36 < (x35.length : Int))) (let t60 : Int := ((List.getD x35 (Int.toNat x36) 0).toNat : Int); if (decide (t60 > 57)) = true then (Kr4 false) else (again4 (IntKind.wrap .i64 (x36 + 1))))) else (Kr4 false))) else (again4 (IntKind.wrap .i64 (x36 + 1))))) else (grd (decide (0 <= x36) && decide (x36 < (x35.length : Int))) (let t61 : Int := ((List.getD x35 (Int.toNat x36) 0).toNat : Int); if (decide (t61 < 48)) = false then (grd (decide (0 <= x36) && decide (x36 < (x35.length : Int))) (let t62 : Int := ((List.getD x35 (Int.toNat x36) 0).toNat : Int); if (decide (t62 > 57)) = true then (Kr4 false) else (again4 (IntKind.wrap .i64 (x36 + 1))))) else (Kr4 false))))) else (Kx0w4)
def Z11.l4 : Nat -> List UInt8 -> Int -> Prop -> (Bool -> Prop) -> Prop
 | 0, _, _, _, _ => False
 | n + 1, x35, x36, Kx0w4, Kr4 => Z11.l4.b n  x35 (fun x36q => Z11.l4 n x35 x36q Kx0w4 Kr4) x36 Kx0w4 Kr4
def Z11.w (n : Nat) (lp4 : List UInt8 -> Int -> Prop -> (Bool -> Prop) -> Prop) (a1 : List UInt8) (K : Bool -> Prop) : Prop :=
 if (decide ((a1.length : Int) < 1)) = false then (if (decide ((a1.length : Int) > 12)) = false then (grd (decide (0 < (a1.length : Int))) (let t70 : Bool := decide (((List.getD a1 0 0).toNat : Int) < 97); if t70 = false then (grd (decide (0 < (a1.length : Int))) (let t71 : Bool := decide (((List.getD a1 0 0).toNat : Int) > 122); if t71 = true then (K false) else (lp4 a1 0 (K true) (fun y73 => K y73)))) else (K false))) else (K false)) else (K false)
def Z11.c : Nat -> List UInt8 -> (Bool -> Prop) -> Prop
 | 0, _, _ => False
 | n + 1, a1, K => Z11.w n (Z11.l4 n) a1 K
def Z10.w (n : Nat) (a1 : Int) (a2 : Int) (a3 : Int) (K : Bool -> Prop) : Prop :=
 if (decide (a1 >= a2)) = true then (K (decide (a1 <= a3))) else (K false)
def Z10.c : Nat -> Int -> Int -> Int -> (Bool -> Prop) -> Prop
 | 0, _, _, _, _ => False
 | n + 1, a1, a2, a3, K => Z10.w n  a1 a2 a3 K
end Go.Vsi
end

section
set_option linter.unusedVariables false
set_option synthInstance.maxSize 4096
namespace Go.Vsi
def Z9.w (n : Nat) (a1 : List UInt8) (a2 : Int) (a3 : List UInt8) (K : Bool -> Prop) : Prop :=
 K (a1 == a3)
def Z9.c : Nat -> List UInt8 -> Int -> List UInt8 -> (Bool -> Prop) -> Prop
 | 0, _, _, _, _ => False
 | n + 1, a1, a2, a3, K => Z9.w n  a1 a2 a3 K
def Z42.l2.b (n : Nat) (x9 : List (tDecl)) (x10 : List UInt8) (x11 : Int) (again2 : Int -> Prop) (x12 : Int) (Kx0w2 : Prop) (Kr2 : Int -> Prop) : Prop :=
 if (decide (x12 < x11)) = true then (grd (decide (0 <= x12) && decide (x12 < (x9.length : Int))) (Z9.c n ((rd x9 (Int.toNat x12)).1) ((rd x9 (Int.toNat x12)).2) x10 (fun r14 => if r14 = true then (Kr2 x12) else (again2 (IntKind.wrap .i64 (x12 + 1)))))) else (Kx0w2)
def Z42.l2 : Nat -> List (tDecl) -> List UInt8 -> Int -> Int -> Prop -> (Int -> Prop) -> Prop
 | 0, _, _, _, _, _, _ => False
 | n + 1, x9, x10, x11, x12, Kx0w2, Kr2 => Z42.l2.b n  x9 x10 x11 (fun x12q => Z42.l2 n x9 x10 x11 x12q Kx0w2 Kr2) x12 Kx0w2 Kr2
def Z42.w (n : Nat) (lp2 : List (tDecl) -> List UInt8 -> Int -> Int -> Prop -> (Int -> Prop) -> Prop) (a1 : List (tDecl)) (a2 : List UInt8) (K : Int -> Prop) : Prop :=
 lp2 a1 a2 (a1.length : Int) 0 (K (-1)) (fun y16 => K y16)
def Z42.c : Nat -> List (tDecl) -> List UInt8 -> (Int -> Prop) -> Prop
 | 0, _, _, _ => False
 | n + 1, a1, a2, K => Z42.w n (Z42.l2 n) a1 a2 K
def Z8.w (n : Nat) (a1 : List (tDecl)) (a2 : List UInt8) (K : Int -> Prop) : Prop :=
 Z42.c n a1 a2 (fun r3 => K r3)
def Z8.c : Nat -> List (tDecl) -> List UInt8 -> (Int -> Prop) -> Prop
 | 0, _, _, _ => False
 | n + 1, a1, a2, K => Z8.w n  a1 a2 K
def Z1.l5.b (n : Nat) (x42 : List (tDecl)) (x44 : List (tDecl)) (x45 : Int) (again5 : Int -> Int -> Prop) (x43 : Int) (x46 : Int) (Kx0w5 : Int -> Prop) (Kr5 : Bool -> Prop) : Prop :=
 if (decide (x46 < x45)) = true then (grd (decide (0 <= x46) && decide (x46 < (x44.length : Int))) (Z11.c n ((rd x44 (Int.toNat x46)).1) (fun r78 => if (!r78) = false then (Z10.c n ((rd x44 (Int.toNat x46)).2) 1 4096 (fun r79 => if (!r79) = false then (grd ((decide (0 <= x46) && decide (x46 <= (x42.length : Int))) && decide (0 <= x46)) (Z8.c n (List.drop 0 (List.take (Int.toNat x46) x42)) ((rd x44 (Int.toNat x46)).1) (fun r80 => if (decide (r80 >= 0)) = true then (Kr5 false) else (let t81 : Int := IntKind.wrap .i64 (x43 + ((rd x44 (Int.toNat x46)).2)); again5 t81 (IntKind.wrap .i64 (x46 + 1)))))) else (Kr5 false))) else (Kr5 false)))) else (Kx0w5 x43)
def Z1.l5 : Nat -> List (tDecl) -> List (tDecl) -> Int -> Int -> Int -> (Int -> Prop) -> (Bool -> Prop) -> Prop
 | 0, _, _, _, _, _, _, _ => False
 | n + 1, x42, x44, x45, x43, x46, Kx0w5, Kr5 => Z1.l5.b n  x42 x44 x45 (fun x43q x46q => Z1.l5 n x42 x44 x45 x43q x46q Kx0w5 Kr5) x43 x46 Kx0w5 Kr5
def Z1.w (n : Nat) (lp5 : List (tDecl) -> List (tDecl) -> Int -> Int -> Int -> (Int -> Prop) -> (Bool -> Prop) -> Prop) (a1 : List (tDecl)) (K : Bool -> Prop) : Prop :=
 if (decide ((a1.length : Int) > 60)) = true then (K false) else (lp5 a1 a1 (a1.length : Int) 0 0 (fun y84 => K (decide (y84 <= 20000))) (fun y85 => K y85))
def Z1.c : Nat -> List (tDecl) -> (Bool -> Prop) -> Prop
 | 0, _, _ => False
 | n + 1, a1, K => Z1.w n (Z1.l5 n) a1 K
def Z16.w (n : Nat) (a1 : Int) (K : Int -> Prop) : Prop :=
 let t2 : Int := IntKind.wrap .i64 (Int.tdiv (IntKind.wrap .i64 (a1 + 63)) 64); K t2
def Z16.c : Nat -> Int -> (Int -> Prop) -> Prop
 | 0, _, _ => False
 | n + 1, a1, K => Z16.w n  a1 K
def Z0.j0 (K : Bool -> Prop) (a1 : Int) (a2 : List Int) : Prop :=
 if (decide (Int.tmod a1 64 = 0)) = false then (grd (decide (0 <= IntKind.wrap .i64 ((a2.length : Int) - 1)) && decide (IntKind.wrap .i64 ((a2.length : Int) - 1) < (a2.length : Int))) (let t14 : Int := rd a2 (Int.toNat (IntKind.wrap .i64 ((a2.length : Int) - 1))); grd (decide (0 <= Int.tmod a1 64)) (let t15 : Int := Int.fdiv t14 (2 ^ (Nat.min (Int.toNat (Int.tmod a1 64)) 64)); K (decide (t15 = 0))))) else (K true)
def Z0.w (n : Nat) (a1 : Int) (a2 : List Int) (K : Bool -> Prop) : Prop :=
 Z10.c n a1 1 4096 (fun r20 => if (!r20) = false then (let p23 : Prop := (Z16.c n a1 (fun r21 => if (!(decide ((a2.length : Int) = r21))) = true then (K false) else (Z0.j0 K a1 a2))); (p23 /\ p23)) else ((K false) /\ (K false)))
def Z0.c : Nat -> Int -> List Int -> (Bool -> Prop) -> Prop
 | 0, _, _, _ => False
 | n + 1, a1, a2, K => Z0.w n  a1 a2 K
def Z4.l11.b (n : Nat) (x24 : List Int) (x25 : Int) (again11 : Int -> Int -> Prop) (x23 : Int) (x26 : Int) (Kx1w11 : Int -> Prop) : Prop :=
 if (decide (x26 < x25)) = true then (grd (decide (0 <= x26) && decide (x26 < (x24.length : Int))) (let t28 : Int := IntKind.wrap .i64 (x23 + (rd x24 (Int.toNat x26))); again11 t28 (IntKind.wrap .i64 (x26 + 1)))) else (Kx1w11 x23)
def Z4.l11 : Nat -> List Int -> Int -> Int -> Int -> (Int -> Prop) -> Prop
 | 0, _, _, _, _, _ => False
 | n + 1, x24, x25, x23, x26, Kx1w11 => Z4.l11.b n  x24 x25 (fun x23q x26q => Z4.l11 n x24 x25 x23q x26q Kx1w11) x23 x26 Kx1w11
def Z4.j0 (Kc21w0 : Int -> Prop) (Kc21w1 : Prop) (n : Nat) (x35 : tTNode) (x36 : Int) (j40 : Bool) : Prop :=
 if j40 = true then (Kc21w0 x36) else (if (decide (x35.1 = 9)) = true then (Z10.c n x35.2.2.1 1 4096 (fun r43 => if r43 = true then (Kc21w0 (IntKind.wrap .i64 (x36 * x35.2.2.1))) else (Kc21w1))) else (Kc21w1))
def Z4.q21.b (n : Nat) (x35 : tTNode) (x36 : Int) (x37 : Bool) (Kc21w0 : Int -> Prop) (Kc21w1 : Prop) : Prop :=
 if x37 = true then (Kc21w0 (IntKind.wrap .i64 (x36 + x35.2.2.1))) else (if (decide (x35.1 = 7)) = false then (if (decide (x35.1 = 8)) = true then (Z10.c n x35.2.2.1 0 4096 (fun r44 => Z4.j0 Kc21w0 Kc21w1 n x35 x36 r44)) else (Z4.j0 Kc21w0 Kc21w1 n x35 x36 false)) else (Z10.c n x35.2.2.1 0 4096 (fun r45 => Z4.j0 Kc21w0 Kc21w1 n x35 x36 r45)))
def Z4.q21 : Nat -> tTNode -> Int -> Bool -> (Int -> Prop) -> Prop -> Prop
 | 0, _, _, _, _, _ => False
 | n + 1, x35, x36, x37, Kc21w0, Kc21w1 => Z4.q21.b n  x35 x36 x37  Kc21w0 Kc21w1
def Z4.j1 (Kc9w0 : Int -> Prop) (Kc9w1 : Prop) (lpq21 : tTNode -> Int -> Bool -> (Int -> Prop) -> Prop -> Prop) (n : Nat) (x13 : tTNode) (x15 : Int) (j31 : Bool) : Prop :=
 if j31 = true then (let t33 : Int := IntKind.wrap .i64 ((IntKind.wrap .i64 (x13.2.2.1 - x13.2.2.2.1)) + 1); Kc9w0 t33) else (if (decide (x13.1 = 5)) = false then (if (decide (x13.1 = 6)) = true then (Z10.c n x13.2.2.1 0 4096 (fun r34 => lpq21 x13 x15 r34 (fun y46 => Kc9w0 y46) (Kc9w1))) else (lpq21 x13 x15 false (fun y47 => Kc9w0 y47) (Kc9w1))) else (Z10.c n x13.2.2.1 0 4096 (fun r48 => lpq21 x13 x15 r48 (fun y49 => Kc9w0 y49) (Kc9w1))))
def Z4.q9.b (n : Nat) (lp11 : List Int -> Int -> Int -> Int -> (Int -> Prop) -> Prop) (lpq21 : tTNode -> Int -> Bool -> (Int -> Prop) -> Prop -> Prop) (x13 : tTNode) (x14 : List Int) (x15 : Int) (x16 : Bool) (Kc9w0 : Int -> Prop) (Kc9w1 : Prop) : Prop :=
 if x16 = true then (lp11 x14 (x14.length : Int) 0 0 (fun y30 => Kc9w0 y30)) else (if (!(decide ((x14.length : Int) = 1))) = true then (Kc9w0 (-1)) else (if (decide (x13.1 = 4)) = true then (if (decide (x13.2.2.2.1 >= 0)) = true then (if (decide (x13.2.2.2.1 <= x13.2.2.1)) = true then (Z4.j1 Kc9w0 Kc9w1 lpq21 n x13 x15 (decide (x13.2.2.1 < x15))) else (Z4.j1 Kc9w0 Kc9w1 lpq21 n x13 x15 false)) else (Z4.j1 Kc9w0 Kc9w1 lpq21 n x13 x15 false)) else (Z4.j1 Kc9w0 Kc9w1 lpq21 n x13 x15 false)))
def Z4.q9 : Nat -> tTNode -> List Int -> Int -> Bool -> (Int -> Prop) -> Prop -> Prop
 | 0, _, _, _, _, _, _ => False
 | n + 1, x13, x14, x15, x16, Kc9w0, Kc9w1 => Z4.q9.b n (Z4.l11 n) (Z4.q21 n) x13 x14 x15 x16  Kc9w0 Kc9w1
def Z4.j2 (Kc5w0 : Int -> Prop) (Kc5w1 : Prop) (lpq9 : tTNode -> List Int -> Int -> Bool -> (Int -> Prop) -> Prop -> Prop) (x6 : tTNode) (x8 : List Int) (x9 : Int) (j12 : Bool) : Prop :=
 if j12 = true then (Kc5w0 x6.2.2.2.2.1) else (if (decide (x6.1 = 3)) = true then (lpq9 x6 x8 x9 (decide ((x8.length : Int) > 1)) (fun y50 => Kc5w0 y50) (Kc5w1)) else (lpq9 x6 x8 x9 false (fun y51 => Kc5w0 y51) (Kc5w1)))
def Z4.q5.b (n : Nat) (lpq9 : tTNode -> List Int -> Int -> Bool -> (Int -> Prop) -> Prop -> Prop) (x6 : tTNode) (x7 : List (tDecl)) (x8 : List Int) (x9 : Int) (x10 : Bool) (Kc5w0 : Int -> Prop) (Kc5w1 : Prop) : Prop :=
 if x10 = true then (grd (decide (0 <= x6.2.1) && decide (x6.2.1 < (x7.length : Int))) (Kc5w0 ((rd x7 (Int.toNat x6.2.1)).2))) else (if (decide (x6.1 = 2)) = true then (if (decide ((x8.length : Int) = 0)) = true then (Z0.c n x6.2.2.2.2.1 x6.2.2.2.2.2.1 (fun r52 => Z4.j2 Kc5w0 Kc5w1 lpq9 x6 x8 x9 r52)) else (Z4.j2 Kc5w0 Kc5w1 lpq9 x6 x8 x9 false)) else (Z4.j2 Kc5w0 Kc5w1 lpq9 x6 x8 x9 false))
def Z4.q5 : Nat -> tTNode -> List (tDecl) -> List Int -> Int -> Bool -> (Int -> Prop) -> Prop -> Prop
 | 0, _, _, _, _, _, _, _ => False
 | n + 1, x6, x7, x8, x9, x10, Kc5w0, Kc5w1 => Z4.q5.b n (Z4.q9 n) x6 x7 x8 x9 x10  Kc5w0 Kc5w1
def Z4.j3 (K : Int -> Prop) (a1 : tTNode) (a2 : List (tDecl)) (a3 : List Int) (lpq5 : tTNode -> List (tDecl) -> List Int -> Int -> Bool -> (Int -> Prop) -> Prop -> Prop) (n : Nat) (j4 : Int) : Prop :=
 if (decide (a1.1 = 1)) = true then (if (decide ((a3.length : Int) = 0)) = true then (Z10.c n a1.2.1 0 (IntKind.wrap .i64 ((a2.length : Int) - 1)) (fun r56 => lpq5 a1 a2 a3 j4 r56 (fun y57 => K y57) (K (-1)))) else (lpq5 a1 a2 a3 j4 false (fun y58 => K y58) (K (-1)))) else (lpq5 a1 a2 a3 j4 false (fun y59 => K y59) (K (-1)))
def Z4.w (n : Nat) (lpq5 : tTNode -> List (tDecl) -> List Int -> Int -> Bool -> (Int -> Prop) -> Prop -> Prop) (a1 : tTNode) (a2 : List (tDecl)) (a3 : List Int) (K : Int -> Prop) : Prop :=
 if (decide ((a3.length : Int) > 0)) = true then (grd (decide (0 < (a3.length : Int))) (Z4.j3 K a1 a2 a3 lpq5 n (rd a3 0))) else (Z4.j3 K a1 a2 a3 lpq5 n 0)
def Z4.c : Nat -> tTNode -> List (tDecl) -> List Int -> (Int -> Prop) -> Prop
 | 0, _, _, _, _ => False
 | n + 1, a1, a2, a3, K => Z4.w n (Z4.q5 n) a1 a2 a3 K
def Z2.q3.b (n : Nat) (x4 : tTNode) (x5 : Bool) (Kc3w0 : Bool -> Prop) (Kc3w1 : tTNode -> Prop) : Prop :=
 if x5 = true then (Kc3w0 false) else (Kc3w1 x4)
def Z2.q3 : Nat -> tTNode -> Bool -> (Bool -> Prop) -> (tTNode -> Prop) -> Prop
 | 0, _, _, _, _ => False
 | n + 1, x4, x5, Kc3w0, Kc3w1 => Z2.q3.b n  x4 x5  Kc3w0 Kc3w1
def Z2.j0 (Kc2w0 : Bool -> Prop) (j28 : tTNode) : Prop :=
 if (decide (j28.1 = 2)) = false then (if (decide (j28.2.2.2.2.1 = 0)) = true then (Kc2w0 (decide ((j28.2.2.2.2.2.1.length : Int) = 0))) else (Kc2w0 false)) else (Kc2w0 true)
def Z2.q2.b (n : Nat) (lpq3 : tTNode -> Bool -> (Bool -> Prop) -> (tTNode -> Prop) -> Prop) (x2 : tTNode) (x3 : Bool) (Kc2w0 : Bool -> Prop) : Prop :=
 if (!x3) = true then (if (!(decide (x2.2.2.1 = 0))) = false then (if (!(decide (x2.1 = 4))) = true then (if (!(decide (x2.2.2.2.1 = 0))) = false then (if (!(decide (x2.1 = 1))) = true then (lpq3 x2 (!(decide (x2.2.1 = 0))) (fun y30 => Kc2w0 y30) (fun y31 => Z2.j0 Kc2w0 y31)) else (lpq3 x2 false (fun y32 => Kc2w0 y32) (fun y33 => Z2.j0 Kc2w0 y33))) else (lpq3 x2 true (fun y34 => Kc2w0 y34) (fun y35 => Z2.j0 Kc2w0 y35))) else (if (!(decide (x2.1 = 1))) = true then (lpq3 x2 (!(decide (x2.2.1 = 0))) (fun y36 => Kc2w0 y36) (fun y37 => Z2.j0 Kc2w0 y37)) else (lpq3 x2 false (fun y38 => Kc2w0 y38) (fun y39 => Z2.j0 Kc2w0 y39)))) else (lpq3 x2 true (fun y40 => Kc2w0 y40) (fun y41 => Z2.j0 Kc2w0 y41))) else (if (!(decide (x2.1 = 4))) = true then (if (!(decide (x2.2.2.2.1 = 0))) = false then (if (!(decide (x2.1 = 1))) = true then (lpq3 x2 (!(decide (x2.2.1 = 0))) (fun y42 => Kc2w0 y42) (fun y43 => Z2.j0 Kc2w0 y43)) else (lpq3 x2 false (fun y44 => Kc2w0 y44) (fun y45 => Z2.j0 Kc2w0 y45))) else (lpq3 x2 true (fun y46 => Kc2w0 y46) (fun y47 => Z2.j0 Kc2w0 y47))) else (if (!(decide (x2.1 = 1))) = true then (lpq3 x2 (!(decide (x2.2.1 = 0))) (fun y48 => Kc2w0 y48) (fun y49 => Z2.j0 Kc2w0 y49)) else (lpq3 x2 false (fun y50 => Kc2w0 y50) (fun y51 => Z2.j0 Kc2w0 y51))))
def Z2.q2 : Nat -> tTNode -> Bool -> (Bool -> Prop) -> Prop
 | 0, _, _, _ => False
 | n + 1, x2, x3, Kc2w0 => Z2.q2.b n (Z2.q3 n) x2 x3  Kc2w0
def Z2.w (n : Nat) (lpq2 : tTNode -> Bool -> (Bool -> Prop) -> Prop) (a1 : tTNode) (K : Bool -> Prop) : Prop :=
 if (decide (a1.1 >= 4)) = true then (lpq2 a1 (decide (a1.1 <= 9)) (fun y52 => K y52)) else (lpq2 a1 false (fun y53 => K y53))
def Z2.c : Nat -> tTNode -> (Bool -> Prop) -> Prop
 | 0, _, _ => False
 | n + 1, a1, K => Z2.w n (Z2.q2 n) a1 K
def Z43.l2.b (n : Nat) (x7 : List Bool) (x8 : Bool) (x9 : Int) (again2 : Int -> Prop) (x10 : Int) (Kx0w2 : Prop) (Kr2 : Int -> Prop) : Prop :=
 if (decide (x10 < x9)) = true then (grd (decide (0 <= x10) && decide (x10 < (x7.length : Int))) (if (x8 == (rd x7 (Int.toNat x10))) = true then (Kr2 x10) else (again2 (IntKind.wrap .i64 (x10 + 1))))) else (Kx0w2)
def Z43.l2 : Nat -> List Bool -> Bool -> Int -> Int -> Prop -> (Int -> Prop) -> Prop
 | 0, _, _, _, _, _, _ => False
 | n + 1, x7, x8, x9, x10, Kx0w2, Kr2 => Z43.l2.b n  x7 x8 x9 (fun x10q => Z43.l2 n x7 x8 x9 x10q Kx0w2 Kr2) x10 Kx0w2 Kr2
def Z43.w (n : Nat) (lp2 : List Bool -> Bool -> Int -> Int -> Prop -> (Int -> Prop) -> Prop) (a1 : List Bool) (a2 : Bool) (K : Int -> Prop) : Prop :=
 lp2 a1 a2 (a1.length : Int) 0 (K (-1)) (fun y12 => K y12)
def Z43.c : Nat -> List Bool -> Bool -> (Int -> Prop) -> Prop
 | 0, _, _, _ => False
 | n + 1, a1, a2, K => Z43.w n (Z43.l2 n) a1 a2 K
def Z41.w (n : Nat) (a1 : List Bool) (a2 : Bool) (K : Bool -> Prop) : Prop :=
 Z43.c n a1 a2 (fun r3 => K (decide (r3 >= 0)))
def Z41.c : Nat -> List Bool -> Bool -> (Bool -> Prop) -> Prop
 | 0, _, _, _ => False
 | n + 1, a1, a2, K => Z41.w n  a1 a2 K
def Z15.l13.b (n : Nat) (x43 : List (tDecl)) (x44 : Int) (x45 : Int) (x46 : tTNode) (x47 : Int) (x48 : Int) (x49 : List Int) (x50 : Int) (x52 : List Int) (x55 : List (tTNode)) (again13 : Int -> List Bool -> List Int -> Prop) (x51 : Int) (x53 : List Bool) (x54 : List Int) (Kx2w13 : List (tDecl) -> Int -> Int -> tTNode -> Int -> Int -> List Int -> List Bool -> List Int -> List (tTNode) -> Prop) (Kr13 : Bool -> List Int -> Prop) : Prop :=
 if (decide (x51 < x50)) = true then (grd (decide (0 <= x51) && decide (x51 < (x49.length : Int))) (Z10.c n (rd x49 (Int.toNat x51)) 0 (IntKind.wrap .i64 (x45 - 1)) (fun r61 => if (!r61) = true then (Kr13 false ([] : List (Int))) else (grd (decide (0 <= rd x49 (Int.toNat x51)) && decide (rd x49 (Int.toNat x51) < (x52.length : Int))) (grd (decide (0 <= rd x49 (Int.toNat x51)) && decide (rd x49 (Int.toNat x51) < (x53.length : Int))) (let t62 : List Bool := List.set x53 (Int.toNat (rd x49 (Int.toNat x51))) true; grd (decide (0 <= x51) && decide (x51 < (x54.length : Int))) (let t63 : List Int := List.set x54 (Int.toNat x51) (rd x52 (Int.toNat (rd x49 (Int.toNat x51)))); again13 (IntKind.wrap .i64 (x51 + 1)) t62 t63))))))) else (Kx2w13 x43 x44 x45 x46 x47 x48 x52 x53 x54 x55)
def Z15.l13 : Nat -> List (tDecl) -> Int -> Int -> tTNode -> Int -> Int -> List Int -> Int -> List Int -> List (tTNode) -> Int -> List Bool -> List Int -> (List (tDecl) -> Int -> Int -> tTNode -> Int -> Int -> List Int -> List Bool -> List Int -> List (tTNode) -> Prop) -> (Bool -> List Int -> Prop) -> Prop
 | 0, _, _, _, _, _, _, _, _, _, _, _, _, _, _, _ => False
 | n + 1, x43, x44, x45, x46, x47, x48, x49, x50, x52, x55, x51, x53, x54, Kx2w13, Kr13 => Z15.l13.b n  x43 x44 x45 x46 x47 x48 x49 x50 x52 x55 (fun x51q x53q x54q => Z15.l13 n x43 x44 x45 x46 x47 x48 x49 x50 x52 x55 x51q x53q x54q Kx2w13 Kr13) x51 x53 x54 Kx2w13 Kr13
def Z15.l6.b (n : Nat) (lp13 : List (tDecl) -> Int -> Int -> tTNode -> Int -> Int -> List Int -> Int -> List Int -> List (tTNode) -> Int -> List Bool -> List Int -> (List (tDecl) -> Int -> Int -> tTNode -> Int -> Int -> List Int -> List Bool -> List Int -> List (tTNode) -> Prop) -> (Bool -> List Int -> Prop) -> Prop) (again6 : List (tDecl) -> Int -> Int -> Int -> List Int -> List Bool -> List (tTNode) -> Prop) (x142 : List (tDecl)) (x143 : Int) (x144 : Int) (x145 : Int) (x146 : List Int) (x147 : List Bool) (x148 : List (tTNode)) (Kx0w6 : Int -> List Int -> List Bool -> Prop) (Kr6 : Bool -> List Int -> Prop) : Prop :=
 if (decide (x145 < x144)) = true then (grd (decide (0 <= x145) && decide (x145 < (x148.length : Int))) (let t195 : List Int := ((((((rd x148 (Int.toNat x145)).2).2).2).2).2).2; if (decide ((t195.length : Int) > 4096)) = true then (Kr6 false ([] : List (Int))) else (let t196 : List Int := ((((((rd x148 (Int.toNat x145)).2).2).2).2).2).2; grd ((decide (0 <= (t196.length : Int)) && decide ((t196.length : Int) <= 7818749353073)) && decide ((t196.length : Int) = (t196.length : Int))) (let t197 : List Int := List.replicate (Int.toNat (t196.length : Int)) 0; let t211 : List Int := ((((((rd x148 (Int.toNat x145)).2).2).2).2).2).2; lp13 x142 x143 x145 (rd x148 (Int.toNat x145)) x144 x145 t211 (t211.length : Int) x146 x148 0 x147 t197 (fun y212 y213 y214 y215 y216 y217 y218 y219 y220 y221 => Z4.c n y215 y212 y220 (fun r222 => grd (decide (0 <= y214) && decide (y214 < (y218.length : Int))) (Z2.c n y215 (fun r227 => if (!r227) = false then (grd (decide (0 <= y214) && decide (y214 < ((List.set y218 (Int.toNat y214) r222).length : Int))) (let t228 : Int := rd (List.set y218 (Int.toNat y214) r222) (Int.toNat y214); Z10.c n t228 1 4096 (fun r229 => if (!r229) = true then (Kr6 false ([] : List (Int))) else (again6 y212 y213 y216 (IntKind.wrap .i64 (y217 + 1)) (List.set y218 (Int.toNat y214) r222) y219 y221)))) else (Kr6 false ([] : List (Int))))))) (fun y230 y231 => Kr6 y230 y231))))) else (Kx0w6 x143 x146 x147)
def Z15.l6 : Nat -> List (tDecl) -> Int -> Int -> Int -> List Int -> List Bool -> List (tTNode) -> (Int -> List Int -> List Bool -> Prop) -> (Bool -> List Int -> Prop) -> Prop
 | 0, _, _, _, _, _, _, _, _, _ => False
 | n + 1, x142, x143, x144, x145, x146, x147, x148, Kx0w6, Kr6 => Z15.l6.b n (Z15.l13 n)  (fun x142q x143q x144q x145q x146q x147q x148q => Z15.l6 n x142q x143q x144q x145q x146q x147q x148q Kx0w6 Kr6) x142 x143 x144 x145 x146 x147 x148 Kx0w6 Kr6
def Z15.j0 (K : List Int -> Bool -> Prop) (a1 : List (tDecl)) (a2 : List (tTNode)) (lp6 : List (tDecl) -> Int -> Int -> Int -> List Int -> List Bool -> List (tTNode) -> (Int -> List Int -> List Bool -> Prop) -> (Bool -> List Int -> Prop) -> Prop) (n : Nat) (j8 : List Int) (j9 : List Bool) : Prop :=
 lp6 a1 (a2.length : Int) (a2.length : Int) 0 j8 j9 a2 (fun y237 y238 y239 => grd ((decide (0 <= IntKind.wrap .i64 (y237 - 1)) && decide (IntKind.wrap .i64 (y237 - 1) <= (y239.length : Int))) && decide (0 <= IntKind.wrap .i64 (y237 - 1))) (Z41.c n (List.drop 0 (List.take (Int.toNat (IntKind.wrap .i64 (y237 - 1))) y239)) false (fun r240 => K y238 (!r240)))) (fun y241 y242 => K y242 y241)
def Z15.j1 (K : List Int -> Bool -> Prop) (a1 : List (tDecl)) (a2 : List (tTNode)) (lp6 : List (tDecl) -> Int -> Int -> Int -> List Int -> List Bool -> List (tTNode) -> (Int -> List Int -> List Bool -> Prop) -> (Bool -> List Int -> Prop) -> Prop) (n : Nat) : Prop :=
 (grd ((decide (0 <= (a2.length : Int)) && decide ((a2.length : Int) <= 7818749353073)) && decide ((a2.length : Int) = (a2.length : Int))) (let t243 : List Int := List.replicate (Int.toNat (a2.length : Int)) 0; grd ((decide (0 <= (a2.length : Int)) && decide ((a2.length : Int) <= 35184372088832)) && decide ((a2.length : Int) = (a2.length : Int))) (let t244 : List Bool := List.replicate (Int.toNat (a2.length : Int)) false; Z15.j0 K a1 a2 lp6 n t243 t244))) /\ (grd ((decide (0 <= (a2.length : Int)) && decide ((a2.length : Int) <= 35184372088832)) && decide ((a2.length : Int) = (a2.length : Int))) (let t245 : List Bool := List.replicate (Int.toNat (a2.length : Int)) false; grd ((decide (0 <= (a2.length : Int)) && decide ((a2.length : Int) <= 7818749353073)) && decide ((a2.length : Int) = (a2.length : Int))) (let t246 : List Int := List.replicate (Int.toNat (a2.length : Int)) 0; Z15.j0 K a1 a2 lp6 n t246 t245)))
def Z15.w (n : Nat) (lp6 : List (tDecl) -> Int -> Int -> Int -> List Int -> List Bool -> List (tTNode) -> (Int -> List Int -> List Bool -> Prop) -> (Bool -> List Int -> Prop) -> Prop) (a1 : List (tDecl)) (a2 : List (tTNode)) (K : List Int -> Bool -> Prop) : Prop :=
 if (decide ((a2.length : Int) < 1)) = false then (if (decide ((a2.length : Int) > 400)) = true then (K ([] : List (Int)) false) else (Z15.j1 K a1 a2 lp6 n)) else (K ([] : List (Int)) false)
def Z15.c : Nat -> List (tDecl) -> List (tTNode) -> (List Int -> Bool -> Prop) -> Prop
 | 0, _, _, _ => False
 | n + 1, a1, a2, K => Z15.w n (Z15.l6 n) a1 a2 K
def Z14.w (n : Nat) (a1 : List (tDecl)) (a2 : List (tTNode)) (K : Int -> Prop) : Prop :=
 Z15.c n a1 a2 (fun r3 r4 => if (!r4) = true then (K (-1)) else (grd (decide (0 <= IntKind.wrap .i64 ((r3.length : Int) - 1)) && decide (IntKind.wrap .i64 ((r3.length : Int) - 1) < (r3.length : Int))) (let t5 : Nat := Int.toNat (IntKind.wrap .i64 ((r3.length : Int) - 1)); K (rd r3 t5))))
def Z14.c : Nat -> List (tDecl) -> List (tTNode) -> (Int -> Prop) -> Prop
 | 0, _, _, _ => False
 | n + 1, a1, a2, K => Z14.w n  a1 a2 K
def Z5.w (n : Nat) (a1 : List (tDecl)) (a2 : List (tTNode)) (K : Int -> Prop) : Prop :=
 Z1.c n a1 (fun r4 => if (!r4) = true then (K (-1)) else (Z14.c n a1 a2 (fun r5 => K r5)))
def Z5.c : Nat -> List (tDecl) -> List (tTNode) -> (Int -> Prop) -> Prop
 | 0, _, _, _ => False
 | n + 1, a1, a2, K => Z5.w n  a1 a2 K
def Z6.l8.b (n : Nat) (x22 : Int) (x25 : Int) (x26 : List Int) (again8 : Int -> List Int -> Prop) (x23 : Int) (x24 : List Int) (Kx0w8 : List Int -> Prop) : Prop :=
 if (decide (x23 >= 0)) = true then (grd (decide (0 <= IntKind.wrap .i64 (Int.tdiv x23 64)) && decide (IntKind.wrap .i64 (Int.tdiv x23 64) < (x26.length : Int))) (let t32 : Int := rd x26 (Int.toNat (IntKind.wrap .i64 (Int.tdiv x23 64))); grd (decide (0 <= Int.tmod x23 64)) (let t33 : Int := Int.fdiv t32 (2 ^ (Nat.min (Int.toNat (Int.tmod x23 64)) 64)); grd (decide (0 <= x22)) (let t34 : Int := IntKind.wrap .u64 (1 * 2 ^ (Nat.min (Int.toNat x22) 64)); let t35 : Int := ibits .and .u64 t33 (IntKind.wrap .u64 (t34 - 1)); grd (decide (0 <= t35) && decide (t35 < (([48, 49, 50, 51, 52, 53, 54, 55, 56, 57, 97, 98, 99, 100, 101, 102] : List UInt8).length : Int))) (let t36 : Int := ((List.getD ([48, 49, 50, 51, 52, 53, 54, 55, 56, 57, 97, 98, 99, 100, 101, 102] : List UInt8) (Int.toNat t35) 0).toNat : Int); grd (decide (x24.length + ([t36] : List (Int)).length <= 35184372088832)) (again8 (IntKind.wrap .i64 (x23 - x22)) (x24 ++ ([t36] : List (Int))))))))) else (Kx0w8 x24)
def Z6.l8 : Nat -> Int -> Int -> List Int -> Int -> List Int -> (List Int -> Prop) -> Prop
 | 0, _, _, _, _, _, _ => False
 | n + 1, x22, x25, x26, x23, x24, Kx0w8 => Z6.l8.b n  x22 x25 x26 (fun x23q x24q => Z6.l8 n x22 x25 x26 x23q x24q Kx0w8) x23 x24 Kx0w8
def Z6.w (n : Nat) (lp8 : Int -> Int -> List Int -> Int -> List Int -> (List Int -> Prop) -> Prop) (a1 : Int) (a2 : List Int) (K : List UInt8 -> Prop) : Prop :=
 Z0.c n a1 a2 (fun r4 => if (!r4) = true then (K ([] : List UInt8)) else (if (decide (Int.tmod a1 4 = 0)) = true then (lp8 4 a1 a2 (IntKind.wrap .i64 (a1 - 4)) ([35, 120] : List (Int)) (fun y40 => K (bytesStr y40))) else (lp8 1 a1 a2 (IntKind.wrap .i64 (a1 - 1)) ([35, 98] : List (Int)) (fun y42 => K (bytesStr y42)))))
def Z6.c : Nat -> Int -> List Int -> (List UInt8 -> Prop) -> Prop
 | 0, _, _, _ => False
 | n + 1, a1, a2, K => Z6.w n (Z6.l8 n) a1 a2 K
def Z13.w (n : Nat) (a1 : Int) (K : List UInt8 -> Prop) : Prop :=
 let t2 : List (List UInt8) := ([([99, 97, 116] : List UInt8), ([112, 97, 114, 116] : List UInt8), ([122, 101, 114, 111] : List UInt8), ([115, 105, 103, 110] : List UInt8), ([108, 101, 102, 116] : List UInt8), ([114, 105, 103, 104, 116] : List UInt8), ([114, 101, 112] : List UInt8)] : List (List UInt8)); grd (decide (0 <= IntKind.wrap .i64 (a1 - 3)) && decide (IntKind.wrap .i64 (a1 - 3) < (t2.length : Int))) (let t3 : List UInt8 := rd t2 (Int.toNat (IntKind.wrap .i64 (a1 - 3))); K t3)
def Z13.c : Nat -> Int -> (List UInt8 -> Prop) -> Prop
 | 0, _, _ => False
 | n + 1, a1, K => Z13.w n  a1 K
def Z12.w (n : Nat) (a1 : Int) (K : Int -> Prop) : Prop :=
 if (decide (a1 = 3)) = true then (K 0) else (if (decide (a1 = 4)) = true then (K 2) else (K 1))
def Z12.c : Nat -> Int -> (Int -> Prop) -> Prop
 | 0, _, _ => False
 | n + 1, a1, K => Z12.w n  a1 K
def Z65.w (n : Nat) (a1 : Int) (a2 : Int) (K : List UInt8 -> Prop) : Prop :=
 grd (decide (a2 = 10) && (decide (-9223372036854775808 <= a1) && decide (a1 <= 9223372036854775807))) (K (Go.Lib.itoa a1))
def Z65.c : Nat -> Int -> Int -> (List UInt8 -> Prop) -> Prop
 | 0, _, _, _ => False
 | n + 1, a1, a2, K => Z65.w n  a1 a2 K
def Z66.w (n : Nat) (a1 : List (List UInt8)) (a2 : List UInt8) (K : List UInt8 -> Prop) : Prop :=
 grd (decide (a1.length <= 1099511627776) && decide ((Go.Lib.join a1 a2).length <= 1099511627776)) (K (Go.Lib.join a1 a2))
def Z66.c : Nat -> List (List UInt8) -> List UInt8 -> (List UInt8 -> Prop) -> Prop
 | 0, _, _, _ => False
 | n + 1, a1, a2, K => Z66.w n  a1 a2 K
def Z3.w (n : Nat) (a1 : tTNode) (a2 : List (tDecl)) (a3 : List (List UInt8)) (K : List UInt8 -> Prop) : Prop :=
 if (decide (a1.1 = 1)) = true then (grd (decide (0 <= a1.2.1) && decide (a1.2.1 < (a2.length : Int))) (K ((rd a2 (Int.toNat a1.2.1)).1))) else (if (decide (a1.1 = 2)) = true then (Z6.c n a1.2.2.2.2.1 a1.2.2.2.2.2.1 (fun r5 => K r5)) else (Z13.c n a1.1 (fun r6 => Z12.c n a1.1 (fun r10 => if (decide (r10 > 0)) = true then (Z65.c n a1.2.2.1 10 (fun r11 => grd (decide (([r6] : List (List UInt8)).length + ([r11] : List (List UInt8)).length <= 4139337892803)) (let t12 : List (List UInt8) := ([r6] : List (List UInt8)) ++ ([r11] : List (List UInt8)); Z12.c n a1.1 (fun r15 => if (decide (r15 > 1)) = true then (Z65.c n a1.2.2.2.1 10 (fun r16 => grd (decide (t12.length + ([r16] : List (List UInt8)).length <= 4139337892803)) (grd (decide ((t12 ++ ([r16] : List (List UInt8))).length + a3.length <= 4139337892803)) (Z66.c n ((t12 ++ ([r16] : List (List UInt8))) ++ a3) ([32] : List UInt8) (fun r17 => grd (decide (([40] : List UInt8).length + r17.length <= 9223372036854775807)) (grd (decide ((([40] : List UInt8) ++ r17).length + ([41] : List UInt8).length <= 9223372036854775807)) (let t18 : List UInt8 := (([40] : List UInt8) ++ r17) ++ ([41] : List UInt8); K t18))))))) else (grd (decide (t12.length + a3.length <= 4139337892803)) (Z66.c n (t12 ++ a3) ([32] : List UInt8) (fun r19 => grd (decide (([40] : List UInt8).length + r19.length <= 9223372036854775807)) (grd (decide ((([40] : List UInt8) ++ r19).length + ([41] : List UInt8).length <= 9223372036854775807)) (let t20 : List UInt8 := (([40] : List UInt8) ++ r19) ++ ([41] : List UInt8); K t20))))))))) else (Z12.c n a1.1 (fun r24 => if (decide (r24 > 1)) = true then (Z65.c n a1.2.2.2.1 10 (fun r25 => grd (decide (([r6] : List (List UInt8)).length + ([r25] : List (List UInt8)).length <= 4139337892803)) (let t26 : List (List UInt8) := ([r6] : List (List UInt8)) ++ ([r25] : List (List UInt8)); grd (decide (t26.length + a3.length <= 4139337892803)) (Z66.c n (t26 ++ a3) ([32] : List UInt8) (fun r27 => grd (decide (([40] : List UInt8).length + r27.length <= 9223372036854775807)) (grd (decide ((([40] : List UInt8) ++ r27).length + ([41] : List UInt8).length <= 9223372036854775807)) (let t28 : List UInt8 := (([40] : List UInt8) ++ r27) ++ ([41] : List UInt8); K t28))))))) else (grd (decide (([r6] : List (List UInt8)).length + a3.length <= 4139337892803)) (Z66.c n (([r6] : List (List UInt8)) ++ a3) ([32] : List UInt8) (fun r29 => grd (decide (([40] : List UInt8).length + r29.length <= 9223372036854775807)) (grd (decide ((([40] : List UInt8) ++ r29).length + ([41] : List UInt8).length <= 9223372036854775807)) (let t30 : List UInt8 := (([40] : List UInt8) ++ r29) ++ ([41] : List UInt8); K t30)))))))))))
def Z3.c : Nat -> tTNode -> List (tDecl) -> List (List UInt8) -> (List UInt8 -> Prop) -> Prop
 | 0, _, _, _, _ => False
 | n + 1, a1, a2, a3, K => Z3.w n  a1 a2 a3 K
def Z7.l10.b (n : Nat) (x30 : List (tDecl)) (x31 : Int) (x32 : tTNode) (x34 : Int) (x35 : Int) (x36 : List Int) (x37 : Int) (x39 : List (List UInt8)) (x41 : List (tTNode)) (again10 : Int -> Int -> List (List UInt8) -> Prop) (x33 : Int) (x38 : Int) (x40 : List (List UInt8)) (Kx2w10 : List (tDecl) -> Int -> tTNode -> Int -> Int -> Int -> List (List UInt8) -> List (List UInt8) -> List (tTNode) -> Prop) : Prop :=
 if (decide (x38 < x37)) = true then (grd (decide (0 <= x38) && decide (x38 < (x36.length : Int))) (grd (decide (0 <= rd x36 (Int.toNat x38)) && decide (rd x36 (Int.toNat x38) < (x39.length : Int))) (grd (decide (0 <= x38) && decide (x38 < (x40.length : Int))) (let t44 : List (List UInt8) := List.set x40 (Int.toNat x38) (rd x39 (Int.toNat (rd x36 (Int.toNat x38)))); grd (decide (0 <= rd x36 (Int.toNat x38)) && decide (rd x36 (Int.toNat x38) < (x39.length : Int))) (let t45 : Int := ((rd x39 (Int.toNat (rd x36 (Int.toNat x38)))).length : Int); again10 (IntKind.wrap .i64 (x33 + t45)) (IntKind.wrap .i64 (x38 + 1)) t44))))) else (Kx2w10 x30 x31 x32 x33 x34 x35 x39 x40 x41)
def Z7.l10 : Nat -> List (tDecl) -> Int -> tTNode -> Int -> Int -> List Int -> Int -> List (List UInt8) -> List (tTNode) -> Int -> Int -> List (List UInt8) -> (List (tDecl) -> Int -> tTNode -> Int -> Int -> Int -> List (List UInt8) -> List (List UInt8) -> List (tTNode) -> Prop) -> Prop
 | 0, _, _, _, _, _, _, _, _, _, _, _, _, _ => False
 | n + 1, x30, x31, x32, x34, x35, x36, x37, x39, x41, x33, x38, x40, Kx2w10 => Z7.l10.b n  x30 x31 x32 x34 x35 x36 x37 x39 x41 (fun x33q x38q x40q => Z7.l10 n x30 x31 x32 x34 x35 x36 x37 x39 x41 x33q x38q x40q Kx2w10) x33 x38 x40 Kx2w10
def Z7.l5.b (n : Nat) (lp10 : List (tDecl) -> Int -> tTNode -> Int -> Int -> List Int -> Int -> List (List UInt8) -> List (tTNode) -> Int -> Int -> List (List UInt8) -> (List (tDecl) -> Int -> tTNode -> Int -> Int -> Int -> List (List UInt8) -> List (List UInt8) -> List (tTNode) -> Prop) -> Prop) (again5 : List (tDecl) -> Int -> Int -> List (List UInt8) -> List (tTNode) -> Prop) (x91 : List (tDecl)) (x92 : Int) (x93 : Int) (x94 : List (List UInt8)) (x95 : List (tTNode)) (Kx0w5 : List (List UInt8) -> Prop) (Kr5 : List UInt8 -> Prop) : Prop :=
 if (decide (x93 < x92)) = true then (grd (decide (0 <= x93) && decide (x93 < (x95.length : Int))) (let t120 : List Int := ((((((rd x95 (Int.toNat x93)).2).2).2).2).2).2; grd ((decide (0 <= (t120.length : Int)) && decide ((t120.length : Int) <= 4139337892803)) && decide ((t120.length : Int) = (t120.length : Int))) (let t121 : List (List UInt8) := List.replicate (Int.toNat (t120.length : Int)) ([] : List UInt8); let t132 : List Int := ((((((rd x95 (Int.toNat x93)).2).2).2).2).2).2; lp10 x91 x93 (rd x95 (Int.toNat x93)) x92 x93 t132 (t132.length : Int) x94 x95 0 0 t121 (fun y133 y134 y135 y136 y137 y138 y139 y140 y141 => if (decide (y136 > 20000)) = true then (Kr5 ([] : List UInt8)) else (Z3.c n y135 y133 y140 (fun r142 => grd (decide (0 <= y134) && decide (y134 < (y139.length : Int))) (grd (decide (0 <= y134) && decide (y134 < ((List.set y139 (Int.toNat y134) r142).length : Int))) (let t143 : List UInt8 := rd (List.set y139 (Int.toNat y134) r142) (Int.toNat y134); if (decide ((t143.length : Int) > 20000)) = true then (Kr5 ([] : List UInt8)) else (again5 y133 y137 (IntKind.wrap .i64 (y138 + 1)) (List.set y139 (Int.toNat y134) r142) y141))))))))) else (Kx0w5 x94)
def Z7.l5 : Nat -> List (tDecl) -> Int -> Int -> List (List UInt8) -> List (tTNode) -> (List (List UInt8) -> Prop) -> (List UInt8 -> Prop) -> Prop
 | 0, _, _, _, _, _, _, _ => False
 | n + 1, x91, x92, x93, x94, x95, Kx0w5, Kr5 => Z7.l5.b n (Z7.l10 n)  (fun x91q x92q x93q x94q x95q => Z7.l5 n x91q x92q x93q x94q x95q Kx0w5 Kr5) x91 x92 x93 x94 x95 Kx0w5 Kr5
def Z7.w (n : Nat) (lp5 : List (tDecl) -> Int -> Int -> List (List UInt8) -> List (tTNode) -> (List (List UInt8) -> Prop) -> (List UInt8 -> Prop) -> Prop) (a1 : List (tDecl)) (a2 : List (tTNode)) (K : List UInt8 -> Prop) : Prop :=
 Z5.c n a1 a2 (fun r4 => if (decide (r4 < 0)) = true then (K ([] : List UInt8)) else (grd ((decide (0 <= (a2.length : Int)) && decide ((a2.length : Int) <= 4139337892803)) && decide ((a2.length : Int) = (a2.length : Int))) (let t5 : List (List UInt8) := List.replicate (Int.toNat (a2.length : Int)) ([] : List UInt8); lp5 a1 (a2.length : Int) 0 t5 a2 (fun y146 => grd (decide (0 <= IntKind.wrap .i64 ((y146.length : Int) - 1)) && decide (IntKind.wrap .i64 ((y146.length : Int) - 1) < (y146.length : Int))) (let t147 : Nat := Int.toNat (IntKind.wrap .i64 ((y146.length : Int) - 1)); K (rd y146 t147))) (fun y148 => K y148))))
def Z7.c : Nat -> List (tDecl) -> List (tTNode) -> (List UInt8 -> Prop) -> Prop
 | 0, _, _, _ => False
 | n + 1, a1, a2, K => Z7.w n (Z7.l5 n) a1 a2 K
def Z18.w (n : Nat) (a1 : List UInt8) (a2 : Int) (a3 : List UInt8) (a4 : Int) (K : Bool -> Prop) : Prop :=
 if (!(a1 == a3)) = true then (K false) else (if (!(decide (a2 = a4))) = true then (K false) else (K true))
def Z18.c : Nat -> List UInt8 -> Int -> List UInt8 -> Int -> (Bool -> Prop) -> Prop
 | 0, _, _, _, _, _ => False
 | n + 1, a1, a2, a3, a4, K => Z18.w n  a1 a2 a3 a4 K
def Z19.l4.b (n : Nat) (x12 : List (tDecl)) (x13 : List (tDecl)) (again4 : Int -> Prop) (x14 : Int) (Kx0w4 : Prop) (Kr4 : Bool -> Prop) : Prop :=
 if (decide (x14 < (x12.length : Int))) = true then (grd (decide (0 <= x14) && decide (x14 < (x12.length : Int))) (grd (decide (0 <= x14) && decide (x14 < (x13.length : Int))) (Z18.c n ((rd x12 (Int.toNat x14)).1) ((rd x12 (Int.toNat x14)).2) ((rd x13 (Int.toNat x14)).1) ((rd x13 (Int.toNat x14)).2) (fun r18 => if (!r18) = true then (Kr4 false) else (again4 (IntKind.wrap .i64 (x14 + 1))))))) else (Kx0w4)
def Z19.l4 : Nat -> List (tDecl) -> List (tDecl) -> Int -> Prop -> (Bool -> Prop) -> Prop
 | 0, _, _, _, _, _ => False
 | n + 1, x12, x13, x14, Kx0w4, Kr4 => Z19.l4.b n  x12 x13 (fun x14q => Z19.l4 n x12 x13 x14q Kx0w4 Kr4) x14 Kx0w4 Kr4
def Z19.w (n : Nat) (lp4 : List (tDecl) -> List (tDecl) -> Int -> Prop -> (Bool -> Prop) -> Prop) (a1 : List (tDecl)) (a2 : List (tDecl)) (K : Bool -> Prop) : Prop :=
 let t4 : Bool := !(decide ((a1.length : Int) = (a2.length : Int))); if t4 = true then (K false) else (lp4 a1 a2 0 (K true) (fun y20 => K y20))
def Z19.c : Nat -> List (tDecl) -> List (tDecl) -> (Bool -> Prop) -> Prop
 | 0, _, _, _ => False
 | n + 1, a1, a2, K => Z19.w n (Z19.l4 n) a1 a2 K
def Z24.l4.b (n : Nat) (x12 : List Int) (x13 : List Int) (again4 : Int -> Prop) (x14 : Int) (Kx0w4 : Prop) (Kr4 : Bool -> Prop) : Prop :=
 if (decide (x14 < (x12.length : Int))) = true then (grd (decide (0 <= x14) && decide (x14 < (x12.length : Int))) (grd (decide (0 <= x14) && decide (x14 < (x13.length : Int))) (let t18 : Bool := !(decide (rd x12 (Int.toNat x14) = rd x13 (Int.toNat x14))); if t18 = true then (Kr4 false) else (again4 (IntKind.wrap .i64 (x14 + 1)))))) else (Kx0w4)
def Z24.l4 : Nat -> List Int -> List Int -> Int -> Prop -> (Bool -> Prop) -> Prop
 | 0, _, _, _, _, _ => False
 | n + 1, x12, x13, x14, Kx0w4, Kr4 => Z24.l4.b n  x12 x13 (fun x14q => Z24.l4 n x12 x13 x14q Kx0w4 Kr4) x14 Kx0w4 Kr4
def Z24.w (n : Nat) (lp4 : List Int -> List Int -> Int -> Prop -> (Bool -> Prop) -> Prop) (a1 : List Int) (a2 : List Int) (K : Bool -> Prop) : Prop :=
 let t4 : Bool := !(decide ((a1.length : Int) = (a2.length : Int))); if t4 = true then (K false) else (lp4 a1 a2 0 (K true) (fun y20 => K y20))
def Z24.c : Nat -> List Int -> List Int -> (Bool -> Prop) -> Prop
 | 0, _, _, _ => False
 | n + 1, a1, a2, K => Z24.w n (Z24.l4 n) a1 a2 K
def Z17.w (n : Nat) (a1 : Int) (a2 : List Int) (a3 : Int) (a4 : List Int) (K : Bool -> Prop) : Prop :=
 if (!(decide (a1 = a3))) = true then (K false) else (Z24.c n a2 a4 (fun r6 => if (!r6) = true then (K false) else (K true)))
def Z17.c : Nat -> Int -> List Int -> Int -> List Int -> (Bool -> Prop) -> Prop
 | 0, _, _, _, _, _ => False
 | n + 1, a1, a2, a3, a4, K => Z17.w n  a1 a2 a3 a4 K
def Z20.l4.b (n : Nat) (x12 : List Int) (x13 : List Int) (again4 : Int -> Prop) (x14 : Int) (Kx0w4 : Prop) (Kr4 : Bool -> Prop) : Prop :=
 if (decide (x14 < (x12.length : Int))) = true then (grd (decide (0 <= x14) && decide (x14 < (x12.length : Int))) (grd (decide (0 <= x14) && decide (x14 < (x13.length : Int))) (let t18 : Bool := !(decide (rd x12 (Int.toNat x14) = rd x13 (Int.toNat x14))); if t18 = true then (Kr4 false) else (again4 (IntKind.wrap .i64 (x14 + 1)))))) else (Kx0w4)
def Z20.l4 : Nat -> List Int -> List Int -> Int -> Prop -> (Bool -> Prop) -> Prop
 | 0, _, _, _, _, _ => False
 | n + 1, x12, x13, x14, Kx0w4, Kr4 => Z20.l4.b n  x12 x13 (fun x14q => Z20.l4 n x12 x13 x14q Kx0w4 Kr4) x14 Kx0w4 Kr4
def Z20.w (n : Nat) (lp4 : List Int -> List Int -> Int -> Prop -> (Bool -> Prop) -> Prop) (a1 : List Int) (a2 : List Int) (K : Bool -> Prop) : Prop :=
 let t4 : Bool := !(decide ((a1.length : Int) = (a2.length : Int))); if t4 = true then (K false) else (lp4 a1 a2 0 (K true) (fun y20 => K y20))
def Z20.c : Nat -> List Int -> List Int -> (Bool -> Prop) -> Prop
 | 0, _, _, _ => False
 | n + 1, a1, a2, K => Z20.w n (Z20.l4 n) a1 a2 K
def Z21.w (n : Nat) (a1 : Int) (a2 : Int) (a3 : Int) (a4 : Int) (a5 : Int) (a6 : List Int) (a7 : List Int) (a8 : Int) (a9 : Int) (a10 : Int) (a11 : Int) (a12 : Int) (a13 : List Int) (a14 : List Int) (K : Bool -> Prop) : Prop :=
 if (!(decide (a1 = a8))) = true then (K false) else (if (!(decide (a2 = a9))) = true then (K false) else (if (!(decide (a3 = a10))) = true then (K false) else (if (!(decide (a4 = a11))) = true then (K false) else (Z17.c n a5 a6 a12 a13 (fun r16 => if (!r16) = true then (K false) else (Z20.c n a7 a14 (fun r18 => if (!r18) = true then (K false) else (K true))))))))
def Z21.c : Nat -> Int -> Int -> Int -> Int -> Int -> List Int -> List Int -> Int -> Int -> Int -> Int -> Int -> List Int -> List Int -> (Bool -> Prop) -> Prop
 | 0, _, _, _, _, _, _, _, _, _, _, _, _, _, _, _ => False
 | n + 1, a1, a2, a3, a4, a5, a6, a7, a8, a9, a10, a11, a12, a13, a14, K => Z21.w n  a1 a2 a3 a4 a5 a6 a7 a8 a9 a10 a11 a12 a13 a14 K
def Z22.l4.b (n : Nat) (x12 : List (tTNode)) (x13 : List (tTNode)) (again4 : Int -> Prop) (x14 : Int) (Kx0w4 : Prop) (Kr4 : Bool -> Prop) : Prop :=
 if (decide (x14 < (x12.length : Int))) = true then (grd (decide (0 <= x14) && decide (x14 < (x12.length : Int))) (let t30 : List Int := ((((((rd x12 (Int.toNat x14)).2).2).2).2).2).1; let t31 : List Int := ((((((rd x12 (Int.toNat x14)).2).2).2).2).2).2; grd (decide (0 <= x14) && decide (x14 < (x13.length : Int))) (let t32 : List Int := ((((((rd x13 (Int.toNat x14)).2).2).2).2).2).1; let t33 : List Int := ((((((rd x13 (Int.toNat x14)).2).2).2).2).2).2; Z21.c n ((rd x12 (Int.toNat x14)).1) (((rd x12 (Int.toNat x14)).2).1) ((((rd x12 (Int.toNat x14)).2).2).1) (((((rd x12 (Int.toNat x14)).2).2).2).1) ((((((rd x12 (Int.toNat x14)).2).2).2).2).1) t30 t31 ((rd x13 (Int.toNat x14)).1) (((rd x13 (Int.toNat x14)).2).1) ((((rd x13 (Int.toNat x14)).2).2).1) (((((rd x13 (Int.toNat x14)).2).2).2).1) ((((((rd x13 (Int.toNat x14)).2).2).2).2).1) t32 t33 (fun r34 => if (!r34) = true then (Kr4 false) else (again4 (IntKind.wrap .i64 (x14 + 1))))))) else (Kx0w4)
def Z22.l4 : Nat -> List (tTNode) -> List (tTNode) -> Int -> Prop -> (Bool -> Prop) -> Prop
 | 0, _, _, _, _, _ => False
 | n + 1, x12, x13, x14, Kx0w4, Kr4 => Z22.l4.b n  x12 x13 (fun x14q => Z22.l4 n x12 x13 x14q Kx0w4 Kr4) x14 Kx0w4 Kr4
def Z22.w (n : Nat) (lp4 : List (tTNode) -> List (tTNode) -> Int -> Prop -> (Bool -> Prop) -> Prop) (a1 : List (tTNode)) (a2 : List (tTNode)) (K : Bool -> Prop) : Prop :=
 let t4 : Bool := !(decide ((a1.length : Int) = (a2.length : Int))); if t4 = true then (K false) else (lp4 a1 a2 0 (K true) (fun y36 => K y36))
def Z22.c : Nat -> List (tTNode) -> List (tTNode) -> (Bool -> Prop) -> Prop
 | 0, _, _, _ => False
 | n + 1, a1, a2, K => Z22.w n (Z22.l4 n) a1 a2 K
def Z23.w (n : Nat) (a1 : List (tTNode)) (a2 : List (tTNode)) (K : Bool -> Prop) : Prop :=
 Z22.c n a1 a2 (fun r4 => if (!r4) = true then (K false) else (K true))
def Z23.c : Nat -> List (tTNode) -> List (tTNode) -> (Bool -> Prop) -> Prop
 | 0, _, _, _ => False
 | n + 1, a1, a2, K => Z23.w n  a1 a2 K
def laws_FnExactWriteTerm.j0 (K : Bool -> Prop) (a1 : List (tDecl)) (a2 : List (tTNode)) (n : Nat) (j12 : List UInt8) : Prop :=
 Z35.c n a1 (fun r13 => Z39.c n a2 (fun r14 => let t15 : List (tTNode) := ([] : List (tTNode)); Z7.c n r13 r14 (fun r16 => if (!(r16 == j12)) = true then (K false) else (Z35.c n a1 (fun r19 => Z19.c n r13 r19 (fun r20 => if (!r20) = true then (K false) else (let p40 : Prop := (Z39.c n a2 (fun r36 => Z23.c n r14 r36 (fun r37 => if (!r37) = true then (K false) else (K true)))); (p40 /\ p40))))))))
def laws_FnExactWriteTerm.w (n : Nat) (a1 : List (tDecl)) (a2 : List (tTNode)) (K : Bool -> Prop) : Prop :=
 Z27.c n a1 1048576 (fun r3 => if (decide (r3 < 0)) = true then (K true) else (Z31.c n a2 r3 (fun r4 => if (decide (r4 < 0)) = true then (K true) else (let p47 : Prop := (Z35.c n a1 (fun r41 => Z39.c n a2 (fun r42 => Z48.c n r41 r42 (fun r43 => laws_FnExactWriteTerm.j0 K a1 a2 n r43)))); (p47 /\ p47)))))
def laws_FnExactWriteTerm.c : Nat -> List (tDecl) -> List (tTNode) -> (Bool -> Prop) -> Prop
 | 0, _, _, _ => False
 | n + 1, a1, a2, K => laws_FnExactWriteTerm.w n  a1 a2 K
end Go.Vsi
end
