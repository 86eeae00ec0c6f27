/- Go functions, told on plain data. No statement is proved here. -/
import Derived.Test.YtbpgfmandlhnaaaGreatM1

section
set_option linter.unusedVariables false
set_option synthInstance.maxSize 4096
namespace Go.Vsi
abbrev tDecl : Type := List UInt8 × Int
instance : DecidableEq tDecl := inferInstance
abbrev tTNode : Type := Int × Int × Int × Int × Int × List (Int) × List (Int)
instance : DecidableEq tTNode := inferInstance
abbrev tLiteral : Type := Int × Bool × List (tTNode) × List (tTNode)
instance : DecidableEq tLiteral := inferInstance
abbrev tBits : Type := Int × List (Int)
instance : DecidableEq tBits := inferInstance
def Z57.w (n : Nat) (a1 : List UInt8) (a2 : Int) (a3 : Int) (K : Int -> Prop) : Prop :=
 let t5 : Bool := decide (IntKind.wrap .i64 (a3 - (a1.length : Int)) < 0); if t5 = true then (K (-1)) else (K (IntKind.wrap .i64 (a3 - (a1.length : Int))))
def Z57.c : Nat -> List UInt8 -> Int -> Int -> (Int -> Prop) -> Prop
 | 0, _, _, _, _ => False
 | n + 1, a1, a2, a3, K => Z57.w n  a1 a2 a3 K
def Z58.l5.b (n : Nat) (x10 : List (tDecl)) (again5 : Int -> Int -> Prop) (x11 : Int) (x12 : Int) (Kx0w5 : Int -> Prop) (Kr5 : Int -> Prop) : Prop :=
 if (decide (x12 < (x10.length : Int))) = true then (grd (decide (0 <= x12) && decide (x12 < (x10.length : Int))) (Z57.c n ((rd x10 (Int.toNat x12)).1) ((rd x10 (Int.toNat x12)).2) x11 (fun r14 => if (decide (r14 < 0)) = true then (Kr5 (-1)) else (again5 r14 (IntKind.wrap .i64 (x12 + 1)))))) else (Kx0w5 x11)
def Z58.l5 : Nat -> List (tDecl) -> Int -> Int -> (Int -> Prop) -> (Int -> Prop) -> Prop
 | 0, _, _, _, _, _ => False
 | n + 1, x10, x11, x12, Kx0w5, Kr5 => Z58.l5.b n  x10 (fun x11q x12q => Z58.l5 n x10 x11q x12q Kx0w5 Kr5) x11 x12 Kx0w5 Kr5
def Z58.w (n : Nat) (lp5 : List (tDecl) -> Int -> Int -> (Int -> Prop) -> (Int -> Prop) -> Prop) (a1 : List (tDecl)) (a2 : Int) (K : Int -> Prop) : Prop :=
 let t4 : Bool := decide (IntKind.wrap .i64 (a2 - (a1.length : Int)) < 0); if t4 = true then (K (-1)) else (lp5 a1 (IntKind.wrap .i64 (a2 - (a1.length : Int))) 0 (fun y17 => K y17) (fun y18 => K y18))
def Z58.c : Nat -> List (tDecl) -> Int -> (Int -> Prop) -> Prop
 | 0, _, _, _ => False
 | n + 1, a1, a2, K => Z58.w n (Z58.l5 n) a1 a2 K
def Z65.w (n : Nat) (a1 : List Int) (a2 : Int) (K : Int -> Prop) : Prop :=
 let t4 : Bool := decide (IntKind.wrap .i64 (a2 - (a1.length : Int)) < 0); if t4 = true then (K (-1)) else (K (IntKind.wrap .i64 (a2 - (a1.length : Int))))
def Z65.c : Nat -> List Int -> Int -> (Int -> Prop) -> Prop
 | 0, _, _, _ => False
 | n + 1, a1, a2, K => Z65.w n  a1 a2 K
def Z56.w (n : Nat) (a1 : Int) (a2 : List Int) (a3 : Int) (K : Int -> Prop) : Prop :=
 Z65.c n a2 a3 (fun r4 => if (decide (r4 < 0)) = true then (K (-1)) else (K r4))
def Z56.c : Nat -> Int -> List Int -> Int -> (Int -> Prop) -> Prop
 | 0, _, _, _, _ => False
 | n + 1, a1, a2, a3, K => Z56.w n  a1 a2 a3 K
def Z59.w (n : Nat) (a1 : List Int) (a2 : Int) (K : Int -> Prop) : Prop :=
 let t4 : Bool := decide (IntKind.wrap .i64 (a2 - (a1.length : Int)) < 0); if t4 = true then (K (-1)) else (K (IntKind.wrap .i64 (a2 - (a1.length : Int))))
def Z59.c : Nat -> List Int -> Int -> (Int -> Prop) -> Prop
 | 0, _, _, _ => False
 | n + 1, a1, a2, K => Z59.w n  a1 a2 K
def Z62.w (n : Nat) (a1 : Int) (a2 : Int) (a3 : Int) (a4 : Int) (a5 : Int) (a6 : List Int) (a7 : List Int) (a8 : Int) (K : Int -> Prop) : Prop :=
 Z56.c n a5 a6 a8 (fun r9 => if (decide (r9 < 0)) = true then (K (-1)) else (Z59.c n a7 r9 (fun r10 => if (decide (r10 < 0)) = true then (K (-1)) else (K r10))))
def Z62.c : Nat -> Int -> Int -> Int -> Int -> Int -> List Int -> List Int -> Int -> (Int -> Prop) -> Prop
 | 0, _, _, _, _, _, _, _, _, _ => False
 | n + 1, a1, a2, a3, a4, a5, a6, a7, a8, K => Z62.w n  a1 a2 a3 a4 a5 a6 a7 a8 K
def Z63.l5.b (n : Nat) (x10 : List (tTNode)) (again5 : Int -> Int -> Prop) (x11 : Int) (x12 : Int) (Kx0w5 : Int -> Prop) (Kr5 : Int -> Prop) : Prop :=
 if (decide (x12 < (x10.length : Int))) = true then (grd (decide (0 <= x12) && decide (x12 < (x10.length : Int))) (let t16 : List Int := ((((((rd x10 (Int.toNat x12)).2).2).2).2).2).1; let t17 : List Int := ((((((rd x10 (Int.toNat x12)).2).2).2).2).2).2; Z62.c n ((rd x10 (Int.toNat x12)).1) (((rd x10 (Int.toNat x12)).2).1) ((((rd x10 (Int.toNat x12)).2).2).1) (((((rd x10 (Int.toNat x12)).2).2).2).1) ((((((rd x10 (Int.toNat x12)).2).2).2).2).1) t16 t17 x11 (fun r18 => if (decide (r18 < 0)) = true then (Kr5 (-1)) else (again5 r18 (IntKind.wrap .i64 (x12 + 1)))))) else (Kx0w5 x11)
def Z63.l5 : Nat -> List (tTNode) -> Int -> Int -> (Int -> Prop) -> (Int -> Prop) -> Prop
 | 0, _, _, _, _, _ => False
 | n + 1, x10, x11, x12, Kx0w5, Kr5 => Z63.l5.b n  x10 (fun x11q x12q => Z63.l5 n x10 x11q x12q Kx0w5 Kr5) x11 x12 Kx0w5 Kr5
def Z63.w (n : Nat) (lp5 : List (tTNode) -> Int -> Int -> (Int -> Prop) -> (Int -> Prop) -> Prop) (a1 : List (tTNode)) (a2 : Int) (K : Int -> Prop) : Prop :=
 let t4 : Bool := decide (IntKind.wrap .i64 (a2 - (a1.length : Int)) < 0); if t4 = true then (K (-1)) else (lp5 a1 (IntKind.wrap .i64 (a2 - (a1.length : Int))) 0 (fun y21 => K y21) (fun y22 => K y22))
def Z63.c : Nat -> List (tTNode) -> Int -> (Int -> Prop) -> Prop
 | 0, _, _, _ => False
 | n + 1, a1, a2, K => Z63.w n (Z63.l5 n) a1 a2 K
def Z64.w (n : Nat) (a1 : List (tTNode)) (a2 : Int) (K : Int -> Prop) : Prop :=
 Z63.c n a1 a2 (fun r3 => if (decide (r3 < 0)) = true then (K (-1)) else (K r3))
def Z64.c : Nat -> List (tTNode) -> Int -> (Int -> Prop) -> Prop
 | 0, _, _, _ => False
 | n + 1, a1, a2, K => Z64.w n  a1 a2 K
def Z60.w (n : Nat) (a1 : Int) (a2 : Bool) (a3 : List (tTNode)) (a4 : List (tTNode)) (a5 : Int) (K : Int -> Prop) : Prop :=
 Z64.c n a3 a5 (fun r6 => if (decide (r6 < 0)) = true then (K (-1)) else (Z64.c n a4 r6 (fun r7 => if (decide (r7 < 0)) = true then (K (-1)) else (K r7))))
def Z60.c : Nat -> Int -> Bool -> List (tTNode) -> List (tTNode) -> Int -> (Int -> Prop) -> Prop
 | 0, _, _, _, _, _, _ => False
 | n + 1, a1, a2, a3, a4, a5, K => Z60.w n  a1 a2 a3 a4 a5 K
def Z61.l5.b (n : Nat) (x10 : List (tLiteral)) (again5 : Int -> Int -> Prop) (x11 : Int) (x12 : Int) (Kx0w5 : Int -> Prop) (Kr5 : Int -> Prop) : Prop :=
 if (decide (x12 < (x10.length : Int))) = true then (grd (decide (0 <= x12) && decide (x12 < (x10.length : Int))) (Z60.c n ((rd x10 (Int.toNat x12)).1) (((rd x10 (Int.toNat x12)).2).1) ((((rd x10 (Int.toNat x12)).2).2).1) ((((rd x10 (Int.toNat x12)).2).2).2) x11 (fun r14 => if (decide (r14 < 0)) = true then (Kr5 (-1)) else (again5 r14 (IntKind.wrap .i64 (x12 + 1)))))) else (Kx0w5 x11)
def Z61.l5 : Nat -> List (tLiteral) -> Int -> Int -> (Int -> Prop) -> (Int -> Prop) -> Prop
 | 0, _, _, _, _, _ => False
 | n + 1, x10, x11, x12, Kx0w5, Kr5 => Z61.l5.b n  x10 (fun x11q x12q => Z61.l5 n x10 x11q x12q Kx0w5 Kr5) x11 x12 Kx0w5 Kr5
def Z61.w (n : Nat) (lp5 : List (tLiteral) -> Int -> Int -> (Int -> Prop) -> (Int -> Prop) -> Prop) (a1 : List (tLiteral)) (a2 : Int) (K : Int -> Prop) : Prop :=
 let t4 : Bool := decide (IntKind.wrap .i64 (a2 - (a1.length : Int)) < 0); if t4 = true then (K (-1)) else (lp5 a1 (IntKind.wrap .i64 (a2 - (a1.length : Int))) 0 (fun y17 => K y17) (fun y18 => K y18))
def Z61.c : Nat -> List (tLiteral) -> Int -> (Int -> Prop) -> Prop
 | 0, _, _, _ => False
 | n + 1, a1, a2, K => Z61.w n (Z61.l5 n) a1 a2 K
def Z67.w (n : Nat) (a1 : List UInt8) (a2 : Int) (K : List UInt8 -> Int -> Prop) : Prop :=
 K a1 a2
def Z67.c : Nat -> List UInt8 -> Int -> (List UInt8 -> Int -> Prop) -> Prop
 | 0, _, _, _ => False
 | n + 1, a1, a2, K => Z67.w n  a1 a2 K
def Z68.l3.b (n : Nat) (x10 : List (tDecl)) (again3 : Int -> List (tDecl) -> Prop) (x11 : Int) (x12 : List (tDecl)) (Kx0w3 : List (tDecl) -> Prop) : Prop :=
 if (decide (x11 < (x10.length : Int))) = true then (grd (decide (0 <= x11) && decide (x11 < (x10.length : Int))) (Z67.c n ((rd x10 (Int.toNat x11)).1) ((rd x10 (Int.toNat x11)).2) (fun r15 r16 => grd (decide (0 <= x11) && decide (x11 < (x12.length : Int))) (again3 (IntKind.wrap .i64 (x11 + 1)) (List.set x12 (Int.toNat x11) (r15, r16)))))) else (Kx0w3 x12)
def Z68.l3 : Nat -> List (tDecl) -> Int -> List (tDecl) -> (List (tDecl) -> Prop) -> Prop
 | 0, _, _, _, _ => False
 | n + 1, x10, x11, x12, Kx0w3 => Z68.l3.b n  x10 (fun x11q x12q => Z68.l3 n x10 x11q x12q Kx0w3) x11 x12 Kx0w3
def Z68.w (n : Nat) (lp3 : List (tDecl) -> Int -> List (tDecl) -> (List (tDecl) -> Prop) -> Prop) (a1 : List (tDecl)) (K : List (tDecl) -> Prop) : Prop :=
 grd ((decide (0 <= (a1.length : Int)) && decide ((a1.length : Int) <= 2814749767106)) && decide ((a1.length : Int) = (a1.length : Int))) (let t2 : List (tDecl) := List.replicate (Int.toNat (a1.length : Int)) (([] : List UInt8), 0); lp3 a1 0 t2 (fun y18 => K y18))
def Z68.c : Nat -> List (tDecl) -> (List (tDecl) -> Prop) -> Prop
 | 0, _, _ => False
 | n + 1, a1, K => Z68.w n (Z68.l3 n) a1 K
def Z75.l3.b (n : Nat) (x8 : List Int) (again3 : Int -> List Int -> Prop) (x9 : Int) (x10 : List Int) (Kx0w3 : List Int -> Prop) : Prop :=
 if (decide (x9 < (x8.length : Int))) = true then (grd (decide (0 <= x9) && decide (x9 < (x8.length : Int))) (grd (decide (0 <= x9) && decide (x9 < (x10.length : Int))) (let t12 : List Int := List.set x10 (Int.toNat x9) (rd x8 (Int.toNat x9)); again3 (IntKind.wrap .i64 (x9 + 1)) t12))) else (Kx0w3 x10)
def Z75.l3 : Nat -> List Int -> Int -> List Int -> (List Int -> Prop) -> Prop
 | 0, _, _, _, _ => False
 | n + 1, x8, x9, x10, Kx0w3 => Z75.l3.b n  x8 (fun x9q x10q => Z75.l3 n x8 x9q x10q Kx0w3) x9 x10 Kx0w3
def Z75.w (n : Nat) (lp3 : List Int -> Int -> List Int -> (List Int -> Prop) -> Prop) (a1 : List Int) (K : List Int -> Prop) : Prop :=
 grd ((decide (0 <= (a1.length : Int)) && decide ((a1.length : Int) <= 7818749353073)) && decide ((a1.length : Int) = (a1.length : Int))) (let t2 : List Int := List.replicate (Int.toNat (a1.length : Int)) 0; lp3 a1 0 t2 (fun y14 => K y14))
def Z75.c : Nat -> List Int -> (List Int -> Prop) -> Prop
 | 0, _, _ => False
 | n + 1, a1, K => Z75.w n (Z75.l3 n) a1 K
def Z66.w (n : Nat) (a1 : Int) (a2 : List Int) (K : Int -> List Int -> Prop) : Prop :=
 Z75.c n a2 (fun r3 => K a1 r3)
def Z66.c : Nat -> Int -> List Int -> (Int -> List Int -> Prop) -> Prop
 | 0, _, _, _ => False
 | n + 1, a1, a2, K => Z66.w n  a1 a2 K
def Z69.l3.b (n : Nat) (x8 : List Int) (again3 : Int -> List Int -> Prop) (x9 : Int) (x10 : List Int) (Kx0w3 : List Int -> Prop) : Prop :=
 if (decide (x9 < (x8.length : Int))) = true then (grd (decide (0 <= x9) && decide (x9 < (x8.length : Int))) (grd (decide (0 <= x9) && decide (x9 < (x10.length : Int))) (let t12 : List Int := List.set x10 (Int.toNat x9) (rd x8 (Int.toNat x9)); again3 (IntKind.wrap .i64 (x9 + 1)) t12))) else (Kx0w3 x10)
def Z69.l3 : Nat -> List Int -> Int -> List Int -> (List Int -> Prop) -> Prop
 | 0, _, _, _, _ => False
 | n + 1, x8, x9, x10, Kx0w3 => Z69.l3.b n  x8 (fun x9q x10q => Z69.l3 n x8 x9q x10q Kx0w3) x9 x10 Kx0w3
def Z69.w (n : Nat) (lp3 : List Int -> Int -> List Int -> (List Int -> Prop) -> Prop) (a1 : List Int) (K : List Int -> Prop) : Prop :=
 grd ((decide (0 <= (a1.length : Int)) && decide ((a1.length : Int) <= 7818749353073)) && decide ((a1.length : Int) = (a1.length : Int))) (let t2 : List Int := List.replicate (Int.toNat (a1.length : Int)) 0; lp3 a1 0 t2 (fun y14 => K y14))
def Z69.c : Nat -> List Int -> (List Int -> Prop) -> Prop
 | 0, _, _ => False
 | n + 1, a1, K => Z69.w n (Z69.l3 n) a1 K
def Z72.w (n : Nat) (a1 : Int) (a2 : Int) (a3 : Int) (a4 : Int) (a5 : Int) (a6 : List Int) (a7 : List Int) (K : Int -> Int -> Int -> Int -> Int -> List Int -> List Int -> Prop) : Prop :=
 Z66.c n a5 a6 (fun r8 r9 => Z69.c n a7 (fun r10 => K a1 a2 a3 a4 r8 r9 r10))
def Z72.c : Nat -> Int -> Int -> Int -> Int -> Int -> List Int -> List Int -> (Int -> Int -> Int -> Int -> Int -> List Int -> List Int -> Prop) -> Prop
 | 0, _, _, _, _, _, _, _, _ => False
 | n + 1, a1, a2, a3, a4, a5, a6, a7, K => Z72.w n  a1 a2 a3 a4 a5 a6 a7 K
def Z73.l3.b (n : Nat) (x23 : List (tTNode)) (again3 : Int -> List (tTNode) -> Prop) (x24 : Int) (x25 : List (tTNode)) (Kx0w3 : List (tTNode) -> Prop) : Prop :=
 if (decide (x24 < (x23.length : Int))) = true then (grd (decide (0 <= x24) && decide (x24 < (x23.length : Int))) (let t36 : List Int := ((((((rd x23 (Int.toNat x24)).2).2).2).2).2).1; let t37 : List Int := ((((((rd x23 (Int.toNat x24)).2).2).2).2).2).2; Z72.c n ((rd x23 (Int.toNat x24)).1) (((rd x23 (Int.toNat x24)).2).1) ((((rd x23 (Int.toNat x24)).2).2).1) (((((rd x23 (Int.toNat x24)).2).2).2).1) ((((((rd x23 (Int.toNat x24)).2).2).2).2).1) t36 t37 (fun r38 r39 r40 r41 r42 r43 r44 => grd (decide (0 <= x24) && decide (x24 < (x25.length : Int))) (let t45 : List (tTNode) := List.set x25 (Int.toNat x24) (r38, r39, r40, r41, r42, r43, r44); again3 (IntKind.wrap .i64 (x24 + 1)) t45)))) else (Kx0w3 x25)
def Z73.l3 : Nat -> List (tTNode) -> Int -> List (tTNode) -> (List (tTNode) -> Prop) -> Prop
 | 0, _, _, _, _ => False
 | n + 1, x23, x24, x25, Kx0w3 => Z73.l3.b n  x23 (fun x24q x25q => Z73.l3 n x23 x24q x25q Kx0w3) x24 x25 Kx0w3
def Z73.w (n : Nat) (lp3 : List (tTNode) -> Int -> List (tTNode) -> (List (tTNode) -> Prop) -> Prop) (a1 : List (tTNode)) (K : List (tTNode) -> Prop) : Prop :=
 let t2 : List (tTNode) := ([] : List (tTNode)); grd ((decide (0 <= (a1.length : Int)) && decide ((a1.length : Int) <= 790660046940)) && decide ((a1.length : Int) = (a1.length : Int))) (let t3 : List (tTNode) := List.replicate (Int.toNat (a1.length : Int)) (0, 0, 0, 0, 0, ([] : List (Int)), ([] : List (Int))); lp3 a1 0 t3 (fun y47 => K y47))
def Z73.c : Nat -> List (tTNode) -> (List (tTNode) -> Prop) -> Prop
 | 0, _, _ => False
 | n + 1, a1, K => Z73.w n (Z73.l3 n) a1 K
def Z74.w (n : Nat) (a1 : List (tTNode)) (K : List (tTNode) -> Prop) : Prop :=
 let t2 : List (tTNode) := ([] : List (tTNode)); let t3 : List (tTNode) := ([] : List (tTNode)); Z73.c n a1 (fun r4 => K r4)
def Z74.c : Nat -> List (tTNode) -> (List (tTNode) -> Prop) -> Prop
 | 0, _, _ => False
 | n + 1, a1, K => Z74.w n  a1 K
def Z70.w (n : Nat) (a1 : Int) (a2 : Bool) (a3 : List (tTNode)) (a4 : List (tTNode)) (K : Int -> Bool -> List (tTNode) -> List (tTNode) -> Prop) : Prop :=
 let t5 : List (tTNode) := ([] : List (tTNode)); let t6 : List (tTNode) := ([] : List (tTNode)); let t7 : List (tTNode) := ([] : List (tTNode)); let t8 : List (tTNode) := ([] : List (tTNode)); Z74.c n a3 (fun r9 => Z74.c n a4 (fun r10 => K a1 a2 r9 r10))
def Z70.c : Nat -> Int -> Bool -> List (tTNode) -> List (tTNode) -> (Int -> Bool -> List (tTNode) -> List (tTNode) -> Prop) -> Prop
 | 0, _, _, _, _, _ => False
 | n + 1, a1, a2, a3, a4, K => Z70.w n  a1 a2 a3 a4 K
def Z71.l3.b (n : Nat) (x16 : List (tLiteral)) (again3 : Int -> List (tLiteral) -> Prop) (x17 : Int) (x18 : List (tLiteral)) (Kx0w3 : List (tLiteral) -> Prop) : Prop :=
 if (decide (x17 < (x16.length : Int))) = true then (grd (decide (0 <= x17) && decide (x17 < (x16.length : Int))) (Z70.c n ((rd x16 (Int.toNat x17)).1) (((rd x16 (Int.toNat x17)).2).1) ((((rd x16 (Int.toNat x17)).2).2).1) ((((rd x16 (Int.toNat x17)).2).2).2) (fun r24 r25 r26 r27 => grd (decide (0 <= x17) && decide (x17 < (x18.length : Int))) (let t28 : List (tLiteral) := List.set x18 (Int.toNat x17) (r24, r25, r26, r27); again3 (IntKind.wrap .i64 (x17 + 1)) t28)))) else (Kx0w3 x18)
def Z71.l3 : Nat -> List (tLiteral) -> Int -> List (tLiteral) -> (List (tLiteral) -> Prop) -> Prop
 | 0, _, _, _, _ => False
 | n + 1, x16, x17, x18, Kx0w3 => Z71.l3.b n  x16 (fun x17q x18q => Z71.l3 n x16 x17q x18q Kx0w3) x17 x18 Kx0w3
def Z71.w (n : Nat) (lp3 : List (tLiteral) -> Int -> List (tLiteral) -> (List (tLiteral) -> Prop) -> Prop) (a1 : List (tLiteral)) (K : List (tLiteral) -> Prop) : Prop :=
 let t2 : List (tLiteral) := ([] : List (tLiteral)); grd ((decide (0 <= (a1.length : Int)) && decide ((a1.length : Int) <= 1082596064271)) && decide ((a1.length : Int) = (a1.length : Int))) (let t3 : List (tLiteral) := List.replicate (Int.toNat (a1.length : Int)) (0, false, ([] : List (tTNode)), ([] : List (tTNode))); lp3 a1 0 t3 (fun y30 => K y30))
def Z71.c : Nat -> List (tLiteral) -> (List (tLiteral) -> Prop) -> Prop
 | 0, _, _ => False
 | n + 1, a1, K => Z71.w n (Z71.l3 n) a1 K
def Z96.w (n : Nat) (a1 : Int) (K : Bool -> Prop) : Prop :=
 if (decide (a1 >= 48)) = true then (K (decide (a1 <= 57))) else (K false)
def Z96.c : Nat -> Int -> (Bool -> Prop) -> Prop
 | 0, _, _ => False
 | n + 1, a1, K => Z96.w n  a1 K
def Z100.l4.b (n : Nat) (x25 : List UInt8) (again4 : Int -> Prop) (x26 : Int) (Kx0w4 : Prop) (Kr4 : Bool -> Prop) : Prop :=
 if (decide (x26 < (x25.length : Int))) = true then (grd (decide (0 <= x26) && decide (x26 < (x25.length : Int))) (let t41 : Int := ((List.getD x25 (Int.toNat x26) 0).toNat : Int); Z96.c n t41 (fun r42 => if (!r42) = true then (grd (decide (0 <= x26) && decide (x26 < (x25.length : Int))) (let t43 : Int := ((List.getD x25 (Int.toNat x26) 0).toNat : Int); if (decide (t43 < 97)) = false then (grd (decide (0 <= x26) && decide (x26 < (x25.length : Int))) (let t44 : Int := ((List.getD x25 (Int.toNat x26) 0).toNat : Int); if (decide (t44 > 122)) = true then (Kr4 false) else (again4 (IntKind.wrap .i64 (x26 + 1))))) else (Kr4 false))) else (again4 (IntKind.wrap .i64 (x26 + 1)))))) else (Kx0w4)
def Z100.l4 : Nat -> List UInt8 -> Int -> Prop -> (Bool -> Prop) -> Prop
 | 0, _, _, _, _ => False
 | n + 1, x25, x26, Kx0w4, Kr4 => Z100.l4.b n  x25 (fun x26q => Z100.l4 n x25 x26q Kx0w4 Kr4) x26 Kx0w4 Kr4
def Z100.w (n : Nat) (lp4 : List UInt8 -> Int -> Prop -> (Bool -> Prop) -> Prop) (a1 : List UInt8) (K : Bool -> Prop) : Prop :=
 if (decide ((a1.length : Int) < 1)) = false then (if (decide ((a1.length : Int) > 12)) = false then (grd (decide (0 < (a1.length : Int))) (Z96.c n ((List.getD a1 0 0).toNat : Int) (fun r51 => if r51 = true then (K false) else (lp4 a1 0 (K true) (fun y53 => K y53))))) else (K false)) else (K false)
def Z100.c : Nat -> List UInt8 -> (Bool -> Prop) -> Prop
 | 0, _, _ => False
 | n + 1, a1, K => Z100.w n (Z100.l4 n) a1 K
def Z98.w (n : Nat) (a1 : Int) (a2 : Int) (a3 : Int) (K : Bool -> Prop) : Prop :=
 if (decide (a1 >= a2)) = true then (K (decide (a1 <= a3))) else (K false)
def Z98.c : Nat -> Int -> Int -> Int -> (Bool -> Prop) -> Prop
 | 0, _, _, _, _ => False
 | n + 1, a1, a2, a3, K => Z98.w n  a1 a2 a3 K
def Z85.l10.b (n : Nat) (x18 : List (tDecl)) (x19 : Int) (x20 : Int) (again10 : Int -> Prop) (x21 : Int) (Kx2w10 : List (tDecl) -> Int -> Int -> Prop) (Kr10 : Bool -> Prop) : Prop :=
 if (decide (x21 < x20)) = true then (grd (decide (0 <= x21) && decide (x21 < (x18.length : Int))) (grd (decide (0 <= x20) && decide (x20 < (x18.length : Int))) (let t25 : Bool := (((rd x18 (Int.toNat x21)).1) == ((rd x18 (Int.toNat x20)).1)); if t25 = true then (Kr10 false) else (again10 (IntKind.wrap .i64 (x21 + 1)))))) else (Kx2w10 x18 x19 x20)
def Z85.l10 : Nat -> List (tDecl) -> Int -> Int -> Int -> (List (tDecl) -> Int -> Int -> Prop) -> (Bool -> Prop) -> Prop
 | 0, _, _, _, _, _, _ => False
 | n + 1, x18, x19, x20, x21, Kx2w10, Kr10 => Z85.l10.b n  x18 x19 x20 (fun x21q => Z85.l10 n x18 x19 x20 x21q Kx2w10 Kr10) x21 Kx2w10 Kr10
def Z85.j3 (Kr5 : Bool -> Prop) (again5 : List (tDecl) -> Int -> Int -> Prop) (lp10 : List (tDecl) -> Int -> Int -> Int -> (List (tDecl) -> Int -> Int -> Prop) -> (Bool -> Prop) -> Prop) (x59 : List (tDecl)) (x60 : Int) (x61 : Int) : Prop :=
 lp10 x59 x60 x61 0 (fun y90 y91 y92 => grd (decide (0 <= y92) && decide (y92 < (y90.length : Int))) (let t93 : Int := IntKind.wrap .i64 (y91 + ((rd y90 (Int.toNat y92)).2)); again5 y90 t93 (IntKind.wrap .i64 (y92 + 1)))) (fun y94 => Kr5 y94)
def Z85.l5.b (n : Nat) (lp10 : List (tDecl) -> Int -> Int -> Int -> (List (tDecl) -> Int -> Int -> Prop) -> (Bool -> Prop) -> Prop) (again5 : List (tDecl) -> Int -> Int -> Prop) (x59 : List (tDecl)) (x60 : Int) (x61 : Int) (Kx0w5 : Int -> Prop) (Kr5 : Bool -> Prop) : Prop :=
 if (decide (x61 < (x59.length : Int))) = true then (grd (decide (0 <= x61) && decide (x61 < (x59.length : Int))) (Z100.c n ((rd x59 (Int.toNat x61)).1) (fun r98 => if (!r98) = false then (grd (decide (0 <= x61) && decide (x61 < (x59.length : Int))) (Z98.c n ((rd x59 (Int.toNat x61)).2) 1 4096 (fun r99 => if (!r99) = true then (Kr5 false) else (Z85.j3 Kr5 again5 lp10 x59 x60 x61)))) else (Kr5 false)))) else (Kx0w5 x60)
def Z85.l5 : Nat -> List (tDecl) -> Int -> Int -> (Int -> Prop) -> (Bool -> Prop) -> Prop
 | 0, _, _, _, _, _ => False
 | n + 1, x59, x60, x61, Kx0w5, Kr5 => Z85.l5.b n (Z85.l10 n)  (fun x59q x60q x61q => Z85.l5 n x59q x60q x61q Kx0w5 Kr5) x59 x60 x61 Kx0w5 Kr5
def Z85.w (n : Nat) (lp5 : List (tDecl) -> Int -> Int -> (Int -> Prop) -> (Bool -> Prop) -> Prop) (a1 : List (tDecl)) (K : Bool -> Prop) : Prop :=
 if (decide ((a1.length : Int) > 60)) = true then (K false) else (lp5 a1 0 0 (fun y102 => K (decide (y102 <= 20000))) (fun y103 => K y103))
def Z85.c : Nat -> List (tDecl) -> (Bool -> Prop) -> Prop
 | 0, _, _ => False
 | n + 1, a1, K => Z85.w n (Z85.l5 n) a1 K
def Z95.w (n : Nat) (a1 : Int) (a2 : List Int) (a3 : Int) (K : Int -> Prop) : Prop :=
 grd (decide (0 <= IntKind.wrap .i64 (Int.tdiv a3 64)) && decide (IntKind.wrap .i64 (Int.tdiv a3 64) < (a2.length : Int))) (let t4 : Int := rd a2 (Int.toNat (IntKind.wrap .i64 (Int.tdiv a3 64))); grd (decide (0 <= IntKind.wrap .u64 (Int.tmod a3 64))) (let t5 : Int := Int.fdiv t4 (2 ^ (Nat.min (Int.toNat (IntKind.wrap .u64 (Int.tmod a3 64))) 64)); K (IntKind.wrap .u8 (ibits .and .u64 t5 1))))
def Z95.c : Nat -> Int -> List Int -> Int -> (Int -> Prop) -> Prop
 | 0, _, _, _, _ => False
 | n + 1, a1, a2, a3, K => Z95.w n  a1 a2 a3 K
def Z84.l4.b (n : Nat) (x16 : Int) (x17 : List Int) (again4 : Int -> Prop) (x15 : Int) (Kx0w4 : Prop) (Kr4 : Bool -> Prop) : Prop :=
 let t19 : Bool := decide (x15 < IntKind.wrap .i64 (64 * (x17.length : Int))); if t19 = true then (Z95.c n x16 x17 x15 (fun r21 => if (!(decide (r21 = 0))) = true then (Kr4 false) else (again4 (IntKind.wrap .i64 (x15 + 1))))) else (Kx0w4)
def Z84.l4 : Nat -> Int -> List Int -> Int -> Prop -> (Bool -> Prop) -> Prop
 | 0, _, _, _, _, _ => False
 | n + 1, x16, x17, x15, Kx0w4, Kr4 => Z84.l4.b n  x16 x17 (fun x15q => Z84.l4 n x16 x17 x15q Kx0w4 Kr4) x15 Kx0w4 Kr4
def Z84.w (n : Nat) (lp4 : Int -> List Int -> Int -> Prop -> (Bool -> Prop) -> Prop) (a1 : Int) (a2 : List Int) (K : Bool -> Prop) : Prop :=
 Z98.c n a1 1 4096 (fun r29 => if (!r29) = false then (let t30 : Int := IntKind.wrap .i64 (Int.tdiv (IntKind.wrap .i64 (a1 + 63)) 64); if (!(decide ((a2.length : Int) = t30))) = true then (K false) else (lp4 a1 a2 a1 (K true) (fun y32 => K y32))) else (K false))
def Z84.c : Nat -> Int -> List Int -> (Bool -> Prop) -> Prop
 | 0, _, _, _ => False
 | n + 1, a1, a2, K => Z84.w n (Z84.l4 n) a1 a2 K
def Z105.w (n : Nat) (a1 : Int) (a2 : List Int) (K : Bool -> Prop) : Prop :=
 if (decide (a1 = 0)) = true then (K (decide ((a2.length : Int) = 0))) else (K false)
def Z105.c : Nat -> Int -> List Int -> (Bool -> Prop) -> Prop
 | 0, _, _, _ => False
 | n + 1, a1, a2, K => Z105.w n  a1 a2 K
def Z106.w (n : Nat) (a1 : Int) (K : Bool -> Prop) : Prop :=
 Z98.c n a1 4 9 (fun r2 => K r2)
def Z106.c : Nat -> Int -> (Bool -> Prop) -> Prop
 | 0, _, _ => False
 | n + 1, a1, K => Z106.w n  a1 K
def Z104.l2.b (n : Nat) (x22 : List (tDecl)) (x23 : Int) (x25 : Int) (x26 : Int) (x27 : Int) (x28 : Int) (x29 : Int) (x30 : List Int) (x31 : List Int) (again2 : Int -> Prop) (x24 : Int) (Kx0w2 : List (tDecl) -> Int -> Int -> Int -> Int -> Int -> List Int -> List Int -> Prop) (Kr2 : Bool -> Prop) : Prop :=
 if (decide (x24 < (x31.length : Int))) = true then (grd (decide (0 <= x24) && decide (x24 < (x31.length : Int))) (Z98.c n (rd x31 (Int.toNat x24)) 0 (IntKind.wrap .i64 (x23 - 1)) (fun r33 => if (!r33) = true then (Kr2 false) else (again2 (IntKind.wrap .i64 (x24 + 1)))))) else (Kx0w2 x22 x25 x26 x27 x28 x29 x30 x31)
def Z104.l2 : Nat -> List (tDecl) -> Int -> Int -> Int -> Int -> Int -> Int -> List Int -> List Int -> Int -> (List (tDecl) -> Int -> Int -> Int -> Int -> Int -> List Int -> List Int -> Prop) -> (Bool -> Prop) -> Prop
 | 0, _, _, _, _, _, _, _, _, _, _, _, _ => False
 | n + 1, x22, x23, x25, x26, x27, x28, x29, x30, x31, x24, Kx0w2, Kr2 => Z104.l2.b n  x22 x23 x25 x26 x27 x28 x29 x30 x31 (fun x24q => Z104.l2 n x22 x23 x25 x26 x27 x28 x29 x30 x31 x24q Kx0w2 Kr2) x24 Kx0w2 Kr2
def Z104.q7.b (n : Nat) (x53 : List (tDecl)) (x54 : Bool) (x55 : Int) (x56 : Int) (x57 : Int) (x58 : Int) (x59 : Int) (x60 : List Int) (x61 : List Int) (Kc7w0 : Bool -> Prop) (Kc7w1 : List (tDecl) -> Int -> Int -> Int -> Int -> Int -> List Int -> List Int -> Prop) : Prop :=
 if x54 = true then (Kc7w0 false) else (Kc7w1 x53 x55 x56 x57 x58 x59 x60 x61)
def Z104.q7 : Nat -> List (tDecl) -> Bool -> Int -> Int -> Int -> Int -> Int -> List Int -> List Int -> (Bool -> Prop) -> (List (tDecl) -> Int -> Int -> Int -> Int -> Int -> List Int -> List Int -> Prop) -> Prop
 | 0, _, _, _, _, _, _, _, _, _, _, _ => False
 | n + 1, x53, x54, x55, x56, x57, x58, x59, x60, x61, Kc7w0, Kc7w1 => Z104.q7.b n  x53 x54 x55 x56 x57 x58 x59 x60 x61  Kc7w0 Kc7w1
def Z104.q8.b (n : Nat) (x71 : List (tDecl)) (x72 : Int) (x73 : Int) (x74 : Int) (x75 : Int) (x76 : Int) (x77 : List Int) (x78 : List Int) (Kc8w0 : Bool -> Prop) : Prop :=
 if (decide (x72 = 1)) = true then (if (decide ((x78.length : Int) = 0)) = true then (Z98.c n x73 0 (IntKind.wrap .i64 ((x71.length : Int) - 1)) (fun r88 => Kc8w0 r88)) else (Kc8w0 false)) else (if (decide (x72 = 2)) = true then (if (decide ((x78.length : Int) = 0)) = true then (Z84.c n x76 x77 (fun r91 => Kc8w0 r91)) else (Kc8w0 false)) else (if (decide (x72 = 3)) = true then (Kc8w0 (decide ((x78.length : Int) >= 2))) else (Z106.c n x72 (fun r92 => if r92 = true then (Kc8w0 (decide ((x78.length : Int) = 1))) else (Kc8w0 false)))))
def Z104.q8 : Nat -> List (tDecl) -> Int -> Int -> Int -> Int -> Int -> List Int -> List Int -> (Bool -> Prop) -> Prop
 | 0, _, _, _, _, _, _, _, _, _ => False
 | n + 1, x71, x72, x73, x74, x75, x76, x77, x78, Kc8w0 => Z104.q8.b n  x71 x72 x73 x74 x75 x76 x77 x78  Kc8w0
def Z104.w (n : Nat) (lp2 : List (tDecl) -> Int -> Int -> Int -> Int -> Int -> Int -> List Int -> List Int -> Int -> (List (tDecl) -> Int -> Int -> Int -> Int -> Int -> List Int -> List Int -> Prop) -> (Bool -> Prop) -> Prop) (lpq7 : List (tDecl) -> Bool -> Int -> Int -> Int -> Int -> Int -> List Int -> List Int -> (Bool -> Prop) -> (List (tDecl) -> Int -> Int -> Int -> Int -> Int -> List Int -> List Int -> Prop) -> Prop) (lpq8 : List (tDecl) -> Int -> Int -> Int -> Int -> Int -> List Int -> List Int -> (Bool -> Prop) -> Prop) (a1 : List (tDecl)) (a2 : Int) (a3 : Int) (a4 : Int) (a5 : Int) (a6 : Int) (a7 : List Int) (a8 : List Int) (a9 : Int) (K : Bool -> Prop) : Prop :=
 lp2 a1 a9 a2 a3 a4 a5 a6 a7 a8 0 (fun y43 y44 y45 y46 y47 y48 y49 y50 => if (!(decide (y44 = 1))) = true then (if (!(decide (y45 = 0))) = false then (if (!(decide (y44 = 2))) = true then (Z105.c n y48 y49 (fun r51 => if (!r51) = false then (if (!(decide (y44 = 4))) = true then (if (!(decide (y47 = 0))) = false then (Z106.c n y44 (fun r52 => if (!r52) = true then (lpq7 y43 (!(decide (y46 = 0))) y44 y45 y46 y47 y48 y49 y50 (fun y62 => K y62) (fun y63 y64 y65 y66 y67 y68 y69 y70 => lpq8 y63 y64 y65 y66 y67 y68 y69 y70 (fun y93 => K y93))) else (lpq7 y43 false y44 y45 y46 y47 y48 y49 y50 (fun y94 => K y94) (fun y95 y96 y97 y98 y99 y100 y101 y102 => lpq8 y95 y96 y97 y98 y99 y100 y101 y102 (fun y103 => K y103))))) else (lpq7 y43 true y44 y45 y46 y47 y48 y49 y50 (fun y104 => K y104) (fun y105 y106 y107 y108 y109 y110 y111 y112 => lpq8 y105 y106 y107 y108 y109 y110 y111 y112 (fun y113 => K y113)))) else (Z106.c n y44 (fun r114 => if (!r114) = true then (lpq7 y43 (!(decide (y46 = 0))) y44 y45 y46 y47 y48 y49 y50 (fun y115 => K y115) (fun y116 y117 y118 y119 y120 y121 y122 y123 => lpq8 y116 y117 y118 y119 y120 y121 y122 y123 (fun y124 => K y124))) else (lpq7 y43 false y44 y45 y46 y47 y48 y49 y50 (fun y125 => K y125) (fun y126 y127 y128 y129 y130 y131 y132 y133 => lpq8 y126 y127 y128 y129 y130 y131 y132 y133 (fun y134 => K y134)))))) else (lpq7 y43 true y44 y45 y46 y47 y48 y49 y50 (fun y135 => K y135) (fun y136 y137 y138 y139 y140 y141 y142 y143 => lpq8 y136 y137 y138 y139 y140 y141 y142 y143 (fun y144 => K y144))))) else (if (!(decide (y44 = 4))) = true then (if (!(decide (y47 = 0))) = false then (Z106.c n y44 (fun r145 => if (!r145) = true then (lpq7 y43 (!(decide (y46 = 0))) y44 y45 y46 y47 y48 y49 y50 (fun y146 => K y146) (fun y147 y148 y149 y150 y151 y152 y153 y154 => lpq8 y147 y148 y149 y150 y151 y152 y153 y154 (fun y155 => K y155))) else (lpq7 y43 false y44 y45 y46 y47 y48 y49 y50 (fun y156 => K y156) (fun y157 y158 y159 y160 y161 y162 y163 y164 => lpq8 y157 y158 y159 y160 y161 y162 y163 y164 (fun y165 => K y165))))) else (lpq7 y43 true y44 y45 y46 y47 y48 y49 y50 (fun y166 => K y166) (fun y167 y168 y169 y170 y171 y172 y173 y174 => lpq8 y167 y168 y169 y170 y171 y172 y173 y174 (fun y175 => K y175)))) else (Z106.c n y44 (fun r176 => if (!r176) = true then (lpq7 y43 (!(decide (y46 = 0))) y44 y45 y46 y47 y48 y49 y50 (fun y177 => K y177) (fun y178 y179 y180 y181 y182 y183 y184 y185 => lpq8 y178 y179 y180 y181 y182 y183 y184 y185 (fun y186 => K y186))) else (lpq7 y43 false y44 y45 y46 y47 y48 y49 y50 (fun y187 => K y187) (fun y188 y189 y190 y191 y192 y193 y194 y195 => lpq8 y188 y189 y190 y191 y192 y193 y194 y195 (fun y196 => K y196))))))) else (lpq7 y43 true y44 y45 y46 y47 y48 y49 y50 (fun y197 => K y197) (fun y198 y199 y200 y201 y202 y203 y204 y205 => lpq8 y198 y199 y200 y201 y202 y203 y204 y205 (fun y206 => K y206)))) else (if (!(decide (y44 = 2))) = true then (Z105.c n y48 y49 (fun r207 => if (!r207) = false then (if (!(decide (y44 = 4))) = true then (if (!(decide (y47 = 0))) = false then (Z106.c n y44 (fun r208 => if (!r208) = true then (lpq7 y43 (!(decide (y46 = 0))) y44 y45 y46 y47 y48 y49 y50 (fun y209 => K y209) (fun y210 y211 y212 y213 y214 y215 y216 y217 => lpq8 y210 y211 y212 y213 y214 y215 y216 y217 (fun y218 => K y218))) else (lpq7 y43 false y44 y45 y46 y47 y48 y49 y50 (fun y219 => K y219) (fun y220 y221 y222 y223 y224 y225 y226 y227 => lpq8 y220 y221 y222 y223 y224 y225 y226 y227 (fun y228 => K y228))))) else (lpq7 y43 true y44 y45 y46 y47 y48 y49 y50 (fun y229 => K y229) (fun y230 y231 y232 y233 y234 y235 y236 y237 => lpq8 y230 y231 y232 y233 y234 y235 y236 y237 (fun y238 => K y238)))) else (Z106.c n y44 (fun r239 => if (!r239) = true then (lpq7 y43 (!(decide (y46 = 0))) y44 y45 y46 y47 y48 y49 y50 (fun y240 => K y240) (fun y241 y242 y243 y244 y245 y246 y247 y248 => lpq8 y241 y242 y243 y244 y245 y246 y247 y248 (fun y249 => K y249))) else (lpq7 y43 false y44 y45 y46 y47 y48 y49 y50 (fun y250 => K y250) (fun y251 y252 y253 y254 y255 y256 y257 y258 => lpq8 y251 y252 y253 y254 y255 y256 y257 y258 (fun y259 => K y259)))))) else (lpq7 y43 true y44 y45 y46 y47 y48 y49 y50 (fun y260 => K y260) (fun y261 y262 y263 y264 y265 y266 y267 y268 => lpq8 y261 y262 y263 y264 y265 y266 y267 y268 (fun y269 => K y269))))) else (if (!(decide (y44 = 4))) = true then (if (!(decide (y47 = 0))) = false then (Z106.c n y44 (fun r270 => if (!r270) = true then (lpq7 y43 (!(decide (y46 = 0))) y44 y45 y46 y47 y48 y49 y50 (fun y271 => K y271) (fun y272 y273 y274 y275 y276 y277 y278 y279 => lpq8 y272 y273 y274 y275 y276 y277 y278 y279 (fun y280 => K y280))) else (lpq7 y43 false y44 y45 y46 y47 y48 y49 y50 (fun y281 => K y281) (fun y282 y283 y284 y285 y286 y287 y288 y289 => lpq8 y282 y283 y284 y285 y286 y287 y288 y289 (fun y290 => K y290))))) else (lpq7 y43 true y44 y45 y46 y47 y48 y49 y50 (fun y291 => K y291) (fun y292 y293 y294 y295 y296 y297 y298 y299 => lpq8 y292 y293 y294 y295 y296 y297 y298 y299 (fun y300 => K y300)))) else (Z106.c n y44 (fun r301 => if (!r301) = true then (lpq7 y43 (!(decide (y46 = 0))) y44 y45 y46 y47 y48 y49 y50 (fun y302 => K y302) (fun y303 y304 y305 y306 y307 y308 y309 y310 => lpq8 y303 y304 y305 y306 y307 y308 y309 y310 (fun y311 => K y311))) else (lpq7 y43 false y44 y45 y46 y47 y48 y49 y50 (fun y312 => K y312) (fun y313 y314 y315 y316 y317 y318 y319 y320 => lpq8 y313 y314 y315 y316 y317 y318 y319 y320 (fun y321 => K y321)))))))) (fun y322 => K y322)
def Z104.c : Nat -> List (tDecl) -> Int -> Int -> Int -> Int -> Int -> List Int -> List Int -> Int -> (Bool -> Prop) -> Prop
 | 0, _, _, _, _, _, _, _, _, _, _ => False
 | n + 1, a1, a2, a3, a4, a5, a6, a7, a8, a9, K => Z104.w n (Z104.l2 n) (Z104.q7 n) (Z104.q8 n) a1 a2 a3 a4 a5 a6 a7 a8 a9 K
def Z108.l3.b (n : Nat) (x23 : List (tDecl)) (x24 : List Int) (x27 : Int) (x28 : Int) (x29 : Int) (x30 : Int) (x31 : Int) (x32 : List Int) (x33 : List Int) (again3 : Int -> Int -> Prop) (x25 : Int) (x26 : Int) (Kx0w3 : List (tDecl) -> Int -> Int -> Int -> Int -> Int -> Int -> List Int -> List Int -> Prop) : Prop :=
 if (decide (x26 < (x33.length : Int))) = true then (grd (decide (0 <= x26) && decide (x26 < (x33.length : Int))) (grd (decide (0 <= rd x33 (Int.toNat x26)) && decide (rd x33 (Int.toNat x26) < (x24.length : Int))) (let t35 : Int := IntKind.wrap .i64 (x25 + (rd x24 (Int.toNat (rd x33 (Int.toNat x26))))); again3 (if t35 < 8192 then t35 else 8192) (IntKind.wrap .i64 (x26 + 1))))) else (Kx0w3 x23 x25 x27 x28 x29 x30 x31 x32 x33)
def Z108.l3 : Nat -> List (tDecl) -> List Int -> Int -> Int -> Int -> Int -> Int -> List Int -> List Int -> Int -> Int -> (List (tDecl) -> Int -> Int -> Int -> Int -> Int -> Int -> List Int -> List Int -> Prop) -> Prop
 | 0, _, _, _, _, _, _, _, _, _, _, _, _ => False
 | n + 1, x23, x24, x27, x28, x29, x30, x31, x32, x33, x25, x26, Kx0w3 => Z108.l3.b n  x23 x24 x27 x28 x29 x30 x31 x32 x33 (fun x25q x26q => Z108.l3 n x23 x24 x27 x28 x29 x30 x31 x32 x33 x25q x26q Kx0w3) x25 x26 Kx0w3
def Z108.j2 (K : Int -> Prop) (n : Nat) (y46 : Int) (y47 : Int) (y49 : Int) (j74 : Bool) : Prop :=
 if j74 = true then (Z98.c n y49 0 4096 (fun r75 => if (!r75) = true then (K (-1)) else (K y46))) else (if (decide (y47 = 9)) = true then (Z98.c n y49 1 4096 (fun r77 => if (!r77) = true then (K (-1)) else (K (IntKind.wrap .i64 (y46 * y49))))) else (K y46))
def Z108.j3 (K : Int -> Prop) (n : Nat) (y46 : Int) (y47 : Int) (y49 : Int) (j71 : Bool) : Prop :=
 if j71 = true then (Z98.c n y49 0 4096 (fun r73 => if (!r73) = true then (K (-1)) else (K (IntKind.wrap .i64 (y46 + y49))))) else (if (decide (y47 = 7)) = true then (Z108.j2 K n y46 y47 y49 true) else (Z108.j2 K n y46 y47 y49 (decide (y47 = 8))))
def Z108.w (n : Nat) (lp3 : List (tDecl) -> List Int -> Int -> Int -> Int -> Int -> Int -> List Int -> List Int -> Int -> Int -> (List (tDecl) -> Int -> Int -> Int -> Int -> Int -> Int -> List Int -> List Int -> Prop) -> Prop) (a1 : List (tDecl)) (a2 : Int) (a3 : Int) (a4 : Int) (a5 : Int) (a6 : Int) (a7 : List Int) (a8 : List Int) (a9 : List Int) (K : Int -> Prop) : Prop :=
 lp3 a1 a9 a2 a3 a4 a5 a6 a7 a8 0 0 (fun y45 y46 y47 y48 y49 y50 y51 y52 y53 => if (decide (y47 = 1)) = true then (grd (decide (0 <= y48) && decide (y48 < (y45.length : Int))) (K ((rd y45 (Int.toNat y48)).2))) else (if (decide (y47 = 2)) = true then (K y51) else (if (decide (y47 = 4)) = true then (if (decide (y50 < 0)) = false then (if (decide (y49 < y50)) = false then (if (decide (y49 >= y46)) = true then (K (-1)) else (let t70 : Int := IntKind.wrap .i64 ((IntKind.wrap .i64 (y49 - y50)) + 1); K t70)) else (K (-1))) else (K (-1))) else (if (decide (y47 = 5)) = true then (Z108.j3 K n y46 y47 y49 true) else (Z108.j3 K n y46 y47 y49 (decide (y47 = 6)))))))
def Z108.c : Nat -> List (tDecl) -> Int -> Int -> Int -> Int -> Int -> List Int -> List Int -> List Int -> (Int -> Prop) -> Prop
 | 0, _, _, _, _, _, _, _, _, _, _ => False
 | n + 1, a1, a2, a3, a4, a5, a6, a7, a8, a9, K => Z108.w n (Z108.l3 n) a1 a2 a3 a4 a5 a6 a7 a8 a9 K
def Z109.l16.b (n : Nat) (x37 : List (tDecl)) (x38 : Int) (x40 : List Int) (x42 : List Int) (x43 : List (tTNode)) (again16 : Int -> List Bool -> Prop) (x39 : Int) (x41 : List Bool) (Kx2w16 : List (tDecl) -> Int -> List Int -> List Bool -> List Int -> List (tTNode) -> Prop) : Prop :=
 grd (decide (0 <= x38) && decide (x38 < (x43.length : Int))) (let t45 : List Int := ((((((rd x43 (Int.toNat x38)).2).2).2).2).2).2; if (decide (x39 < (t45.length : Int))) = true then (grd (decide (0 <= x38) && decide (x38 < (x43.length : Int))) (let t48 : List Int := ((((((rd x43 (Int.toNat x38)).2).2).2).2).2).2; grd (decide (0 <= x39) && decide (x39 < (t48.length : Int))) (grd (decide (0 <= rd t48 (Int.toNat x39)) && decide (rd t48 (Int.toNat x39) < (x41.length : Int))) (let t49 : List Bool := List.set x41 (Int.toNat (rd t48 (Int.toNat x39))) true; again16 (IntKind.wrap .i64 (x39 + 1)) t49)))) else (Kx2w16 x37 x38 x40 x41 x42 x43))
def Z109.l16 : Nat -> List (tDecl) -> Int -> List Int -> List Int -> List (tTNode) -> Int -> List Bool -> (List (tDecl) -> Int -> List Int -> List Bool -> List Int -> List (tTNode) -> Prop) -> Prop
 | 0, _, _, _, _, _, _, _, _ => False
 | n + 1, x37, x38, x40, x42, x43, x39, x41, Kx2w16 => Z109.l16.b n  x37 x38 x40 x42 x43 (fun x39q x41q => Z109.l16 n x37 x38 x40 x42 x43 x39q x41q Kx2w16) x39 x41 Kx2w16
def Z109.l7.b (n : Nat) (lp16 : List (tDecl) -> Int -> List Int -> List Int -> List (tTNode) -> Int -> List Bool -> (List (tDecl) -> Int -> List Int -> List Bool -> List Int -> List (tTNode) -> Prop) -> Prop) (again7 : List (tDecl) -> Int -> List Int -> List Int -> List Bool -> List (tTNode) -> Prop) (x73 : List (tDecl)) (x74 : Int) (x75 : List Int) (x76 : List Int) (x77 : List Bool) (x78 : List (tTNode)) (Kx0w7 : List Int -> List Int -> List Bool -> Prop) (Kr7 : List Int -> Prop) : Prop :=
 if (decide (x74 < (x78.length : Int))) = true then (grd (decide (0 <= x74) && decide (x74 < (x78.length : Int))) (let t99 : List Int := ((((((rd x78 (Int.toNat x74)).2).2).2).2).2).1; let t100 : List Int := ((((((rd x78 (Int.toNat x74)).2).2).2).2).2).2; Z104.c n x73 ((rd x78 (Int.toNat x74)).1) (((rd x78 (Int.toNat x74)).2).1) ((((rd x78 (Int.toNat x74)).2).2).1) (((((rd x78 (Int.toNat x74)).2).2).2).1) ((((((rd x78 (Int.toNat x74)).2).2).2).2).1) t99 t100 x74 (fun r101 => if (!r101) = true then (Kr7 x76) else (grd (decide (0 <= x74) && decide (x74 < (x78.length : Int))) (let t102 : List Int := ((((((rd x78 (Int.toNat x74)).2).2).2).2).2).1; let t103 : List Int := ((((((rd x78 (Int.toNat x74)).2).2).2).2).2).2; Z108.c n x73 ((rd x78 (Int.toNat x74)).1) (((rd x78 (Int.toNat x74)).2).1) ((((rd x78 (Int.toNat x74)).2).2).1) (((((rd x78 (Int.toNat x74)).2).2).2).1) ((((((rd x78 (Int.toNat x74)).2).2).2).2).1) t102 t103 x75 (fun r104 => Z98.c n r104 1 4096 (fun r106 => if (!r106) = true then (Kr7 x76) else (grd (decide (x75.length + ([r104] : List (Int)).length <= 7818749353073)) (lp16 x73 x74 x76 (x75 ++ ([r104] : List (Int))) x78 0 x77 (fun y107 y108 y109 y110 y111 y112 => again7 y107 (IntKind.wrap .i64 (y108 + 1)) y111 y109 y110 y112)))))))))) else (Kx0w7 x75 x76 x77)
def Z109.l7 : Nat -> List (tDecl) -> Int -> List Int -> List Int -> List Bool -> List (tTNode) -> (List Int -> List Int -> List Bool -> Prop) -> (List Int -> Prop) -> Prop
 | 0, _, _, _, _, _, _, _, _ => False
 | n + 1, x73, x74, x75, x76, x77, x78, Kx0w7, Kr7 => Z109.l7.b n (Z109.l16 n)  (fun x73q x74q x75q x76q x77q x78q => Z109.l7 n x73q x74q x75q x76q x77q x78q Kx0w7 Kr7) x73 x74 x75 x76 x77 x78 Kx0w7 Kr7
def Z109.l20.b (n : Nat) (x127 : List Int) (x128 : List Int) (x129 : List Bool) (again20 : Int -> Prop) (x126 : Int) (Kx4w20 : List Int -> Prop) (Kr20 : List Int -> Prop) : Prop :=
 let t131 : Bool := decide (IntKind.wrap .i64 (x126 + 1) < (x129.length : Int)); if t131 = true then (grd (decide (0 <= x126) && decide (x126 < (x129.length : Int))) (if (!(rd x129 (Int.toNat x126))) = true then (Kr20 x128) else (again20 (IntKind.wrap .i64 (x126 + 1))))) else (Kx4w20 x127)
def Z109.l20 : Nat -> List Int -> List Int -> List Bool -> Int -> (List Int -> Prop) -> (List Int -> Prop) -> Prop
 | 0, _, _, _, _, _, _ => False
 | n + 1, x127, x128, x129, x126, Kx4w20, Kr20 => Z109.l20.b n  x127 x128 x129 (fun x126q => Z109.l20 n x127 x128 x129 x126q Kx4w20 Kr20) x126 Kx4w20 Kr20
def Z109.j0 (K : List Int -> Prop) (a1 : List (tDecl)) (a2 : List (tTNode)) (lp7 : List (tDecl) -> Int -> List Int -> List Int -> List Bool -> List (tTNode) -> (List Int -> List Int -> List Bool -> Prop) -> (List Int -> Prop) -> Prop) (lp20 : List Int -> List Int -> List Bool -> Int -> (List Int -> Prop) -> (List Int -> Prop) -> Prop) : Prop :=
 grd ((decide (0 <= (a2.length : Int)) && decide ((a2.length : Int) <= 35184372088832)) && decide ((a2.length : Int) = (a2.length : Int))) (let t6 : List Bool := List.replicate (Int.toNat (a2.length : Int)) false; lp7 a1 0 ([] : List (Int)) ([] : List (Int)) t6 a2 (fun y117 y118 y119 => lp20 y117 y118 y119 0 (fun y134 => K y134) (fun y135 => K y135)) (fun y136 => K y136))
def Z109.w (n : Nat) (lp7 : List (tDecl) -> Int -> List Int -> List Int -> List Bool -> List (tTNode) -> (List Int -> List Int -> List Bool -> Prop) -> (List Int -> Prop) -> Prop) (lp20 : List Int -> List Int -> List Bool -> Int -> (List Int -> Prop) -> (List Int -> Prop) -> Prop) (a1 : List (tDecl)) (a2 : List (tTNode)) (K : List Int -> Prop) : Prop :=
 Z85.c n a1 (fun r139 => if (!r139) = false then (if (decide ((a2.length : Int) < 1)) = false then (if (decide ((a2.length : Int) > 400)) = true then (K ([] : List (Int))) else (Z109.j0 K a1 a2 lp7 lp20)) else (K ([] : List (Int)))) else (K ([] : List (Int))))
def Z109.c : Nat -> List (tDecl) -> List (tTNode) -> (List Int -> Prop) -> Prop
 | 0, _, _, _ => False
 | n + 1, a1, a2, K => Z109.w n (Z109.l7 n) (Z109.l20 n) a1 a2 K
def Z93.w (n : Nat) (a1 : List (tDecl)) (a2 : List (tTNode)) (K : Int -> Prop) : Prop :=
 Z109.c n a1 a2 (fun r3 => if (decide ((r3.length : Int) = 0)) = true then (K (-1)) else (grd (decide (0 <= IntKind.wrap .i64 ((r3.length : Int) - 1)) && decide (IntKind.wrap .i64 ((r3.length : Int) - 1) < (r3.length : Int))) (let t4 : Nat := Int.toNat (IntKind.wrap .i64 ((r3.length : Int) - 1)); K (rd r3 t4))))
def Z93.c : Nat -> List (tDecl) -> List (tTNode) -> (Int -> Prop) -> Prop
 | 0, _, _, _ => False
 | n + 1, a1, a2, K => Z93.w n  a1 a2 K
def Z87.l4.b (n : Nat) (x29 : List (tDecl)) (x30 : List (tLiteral)) (again4 : Int -> Prop) (x31 : Int) (Kx0w4 : Prop) (Kr4 : Bool -> Prop) : Prop :=
 if (decide (x31 < (x30.length : Int))) = true then (grd (decide (0 <= x31) && decide (x31 < (x30.length : Int))) (Z93.c n x29 ((((rd x30 (Int.toNat x31)).2).2).1) (fun r42 => grd (decide (0 <= x31) && decide (x31 < (x30.length : Int))) (Z98.c n ((rd x30 (Int.toNat x31)).1) 1 1000000 (fun r48 => if (!r48) = false then (if (decide (x31 > 0)) = true then (grd (decide (0 <= x31) && decide (x31 < (x30.length : Int))) (grd (decide (0 <= IntKind.wrap .i64 (x31 - 1)) && decide (IntKind.wrap .i64 (x31 - 1) < (x30.length : Int))) (let t49 : tLiteral := rd x30 (Int.toNat (IntKind.wrap .i64 (x31 - 1))); if (decide ((rd x30 (Int.toNat x31)).1 <= t49.1)) = false then (if (decide (r42 < 0)) = false then (grd (decide (0 <= x31) && decide (x31 < (x30.length : Int))) (Z93.c n x29 ((((rd x30 (Int.toNat x31)).2).2).2) (fun r50 => if (!(decide (r50 = r42))) = true then (Kr4 false) else (again4 (IntKind.wrap .i64 (x31 + 1)))))) else (Kr4 false)) else (Kr4 false)))) else (if (decide (r42 < 0)) = false then (grd (decide (0 <= x31) && decide (x31 < (x30.length : Int))) (Z93.c n x29 ((((rd x30 (Int.toNat x31)).2).2).2) (fun r51 => if (!(decide (r51 = r42))) = true then (Kr4 false) else (again4 (IntKind.wrap .i64 (x31 + 1)))))) else (Kr4 false))) else (Kr4 false)))))) else (Kx0w4)
def Z87.l4 : Nat -> List (tDecl) -> List (tLiteral) -> Int -> Prop -> (Bool -> Prop) -> Prop
 | 0, _, _, _, _, _ => False
 | n + 1, x29, x30, x31, Kx0w4, Kr4 => Z87.l4.b n  x29 x30 (fun x31q => Z87.l4 n x29 x30 x31q Kx0w4 Kr4) x31 Kx0w4 Kr4
def Z87.w (n : Nat) (lp4 : List (tDecl) -> List (tLiteral) -> Int -> Prop -> (Bool -> Prop) -> Prop) (a1 : List (tDecl)) (a2 : List (tLiteral)) (K : Bool -> Prop) : Prop :=
 Z85.c n a1 (fun r58 => if (!r58) = false then (if (decide ((a2.length : Int) > 60)) = true then (K false) else (lp4 a1 a2 0 (K true) (fun y60 => K y60))) else (K false))
def Z87.c : Nat -> List (tDecl) -> List (tLiteral) -> (Bool -> Prop) -> Prop
 | 0, _, _, _ => False
 | n + 1, a1, a2, K => Z87.w n (Z87.l4 n) a1 a2 K
def Z99.l3.b (n : Nat) (x11 : Int) (x12 : List Int) (again3 : Int -> List Int -> Prop) (x9 : Int) (x10 : List Int) (Kx0w3 : List Int -> Prop) : Prop :=
 if (decide (x9 < x11)) = true then (Z95.c n x11 x12 x9 (fun r14 => grd (decide (x10.length + ([r14] : List (Int)).length <= 35184372088832)) (again3 (IntKind.wrap .i64 (x9 + 1)) (x10 ++ ([r14] : List (Int)))))) else (Kx0w3 x10)
def Z99.l3 : Nat -> Int -> List Int -> Int -> List Int -> (List Int -> Prop) -> Prop
 | 0, _, _, _, _, _ => False
 | n + 1, x11, x12, x9, x10, Kx0w3 => Z99.l3.b n  x11 x12 (fun x9q x10q => Z99.l3 n x11 x12 x9q x10q Kx0w3) x9 x10 Kx0w3
def Z99.w (n : Nat) (lp3 : Int -> List Int -> Int -> List Int -> (List Int -> Prop) -> Prop) (a1 : Int) (a2 : List Int) (K : List Int -> Prop) : Prop :=
 lp3 a1 a2 0 ([] : List (Int)) (fun y16 => K y16)
def Z99.c : Nat -> Int -> List Int -> (List Int -> Prop) -> Prop
 | 0, _, _, _ => False
 | n + 1, a1, a2, K => Z99.w n (Z99.l3 n) a1 a2 K
def Z97.l5.b (n : Nat) (x18 : List Int) (x21 : List Int) (x22 : Int) (x23 : Int) (again5 : Int -> List Int -> Prop) (x19 : Int) (x20 : List Int) (Kx0w5 : List Int -> List Int -> Int -> Int -> Prop) : Prop :=
 if (decide (x19 < (x18.length : Int))) = true then (grd (decide (0 <= IntKind.wrap .i64 (Int.tdiv x19 64)) && decide (IntKind.wrap .i64 (Int.tdiv x19 64) < (x20.length : Int))) (let t28 : Nat := Int.toNat (IntKind.wrap .i64 (Int.tdiv x19 64)); grd (decide (0 <= x19) && decide (x19 < (x18.length : Int))) (grd (decide (0 <= IntKind.wrap .u64 (Int.tmod x19 64))) (let t29 : Int := IntKind.wrap .u64 ((IntKind.wrap .u64 (rd x18 (Int.toNat x19))) * 2 ^ (Nat.min (Int.toNat (IntKind.wrap .u64 (Int.tmod x19 64))) 64)); grd (decide (0 <= IntKind.wrap .i64 (Int.tdiv x19 64)) && decide (IntKind.wrap .i64 (Int.tdiv x19 64) < (x20.length : Int))) (let t30 : Nat := Int.toNat (IntKind.wrap .i64 (Int.tdiv x19 64)); let t31 : List Int := List.set x20 t30 (ibits .or .u64 (rd x20 t28) t29); again5 (IntKind.wrap .i64 (x19 + 1)) t31))))) else (Kx0w5 x20 x21 x22 x23)
def Z97.l5 : Nat -> List Int -> List Int -> Int -> Int -> Int -> List Int -> (List Int -> List Int -> Int -> Int -> Prop) -> Prop
 | 0, _, _, _, _, _, _, _ => False
 | n + 1, x18, x21, x22, x23, x19, x20, Kx0w5 => Z97.l5.b n  x18 x21 x22 x23 (fun x19q x20q => Z97.l5 n x18 x21 x22 x23 x19q x20q Kx0w5) x19 x20 Kx0w5
def Z97.j0 (K : Int -> List Int -> Bool -> Prop) (a1 : List Int) (lp5 : List Int -> List Int -> Int -> Int -> Int -> List Int -> (List Int -> List Int -> Int -> Int -> Prop) -> Prop) : Prop :=
 let t3 : Int := IntKind.wrap .i64 (Int.tdiv (IntKind.wrap .i64 ((a1.length : Int) + 63)) 64); grd ((decide (0 <= t3) && decide (t3 <= 7818749353073)) && decide (t3 = t3)) (lp5 a1 ([] : List (Int)) 0 (a1.length : Int) 0 (List.replicate (Int.toNat t3) 0) (fun y36 y37 y38 y39 => K y39 y36 true))
def Z97.w (n : Nat) (lp5 : List Int -> List Int -> Int -> Int -> Int -> List Int -> (List Int -> List Int -> Int -> Int -> Prop) -> Prop) (a1 : List Int) (K : Int -> List Int -> Bool -> Prop) : Prop :=
 if (decide ((a1.length : Int) < 1)) = false then (if (decide ((a1.length : Int) > 4096)) = true then (K 0 ([] : List (Int)) false) else (Z97.j0 K a1 lp5)) else (K 0 ([] : List (Int)) false)
def Z97.c : Nat -> List Int -> (Int -> List Int -> Bool -> Prop) -> Prop
 | 0, _, _ => False
 | n + 1, a1, K => Z97.w n (Z97.l5 n) a1 K
def Z86.j0 (K : Int -> List Int -> Bool -> Prop) (a1 : Int) (a2 : List Int) (a3 : Int) (a4 : List Int) (n : Nat) : Prop :=
 let p34 : Prop := (Z99.c n a3 a4 (fun r24 => Z99.c n a1 a2 (fun r25 => grd (decide (r24.length + r25.length <= 35184372088832)) (Z97.c n (r24 ++ r25) (fun r26 r27 r28 => K r26 r27 r28))))); (p34 /\ p34)
def Z86.w (n : Nat) (a1 : Int) (a2 : List Int) (a3 : Int) (a4 : List Int) (K : Int -> List Int -> Bool -> Prop) : Prop :=
 Z84.c n a1 a2 (fun r38 => if (!r38) = false then (Z84.c n a3 a4 (fun r39 => if (!r39) = true then (K 0 ([] : List (Int)) false) else (Z86.j0 K a1 a2 a3 a4 n))) else (K 0 ([] : List (Int)) false))
def Z86.c : Nat -> Int -> List Int -> Int -> List Int -> (Int -> List Int -> Bool -> Prop) -> Prop
 | 0, _, _, _, _, _ => False
 | n + 1, a1, a2, a3, a4, K => Z86.w n  a1 a2 a3 a4 K
def Z89.j0 (K : Int -> List Int -> Bool -> Prop) (a1 : Int) (a2 : List Int) (a3 : Int) (a4 : Int) (n : Nat) : Prop :=
 Z99.c n a1 a2 (fun r8 => grd ((decide (0 <= a4) && (decide (0 <= IntKind.wrap .i64 (a3 + 1)) && decide (IntKind.wrap .i64 (a3 + 1) <= (r8.length : Int)))) && decide (a4 <= IntKind.wrap .i64 (a3 + 1))) (Z97.c n (List.drop (Int.toNat a4) (List.take (Int.toNat (IntKind.wrap .i64 (a3 + 1))) r8)) (fun r9 r10 r11 => K r9 r10 r11)))
def Z89.w (n : Nat) (a1 : Int) (a2 : List Int) (a3 : Int) (a4 : Int) (K : Int -> List Int -> Bool -> Prop) : Prop :=
 Z84.c n a1 a2 (fun r14 => if (!r14) = false then (if (decide (a4 < 0)) = false then (if (decide (a3 < a4)) = false then (if (decide (a3 >= a1)) = true then (K 0 ([] : List (Int)) false) else (Z89.j0 K a1 a2 a3 a4 n)) else (K 0 ([] : List (Int)) false)) else (K 0 ([] : List (Int)) false)) else (K 0 ([] : List (Int)) false))
def Z89.c : Nat -> Int -> List Int -> Int -> Int -> (Int -> List Int -> Bool -> Prop) -> Prop
 | 0, _, _, _, _, _ => False
 | n + 1, a1, a2, a3, a4, K => Z89.w n  a1 a2 a3 a4 K
def Z92.l8.b (n : Nat) (x19 : Int) (x20 : Int) (x23 : List Int) (x24 : Int) (again8 : Int -> List Int -> Prop) (x21 : Int) (x22 : List Int) (Kx0w8 : List Int -> List Int -> Int -> Prop) : Prop :=
 if (decide (x21 < x19)) = true then (grd (decide (x22.length + ([x20] : List (Int)).length <= 35184372088832)) (again8 (IntKind.wrap .i64 (x21 + 1)) (x22 ++ ([x20] : List (Int))))) else (Kx0w8 x22 x23 x24)
def Z92.l8 : Nat -> Int -> Int -> List Int -> Int -> Int -> List Int -> (List Int -> List Int -> Int -> Prop) -> Prop
 | 0, _, _, _, _, _, _, _ => False
 | n + 1, x19, x20, x23, x24, x21, x22, Kx0w8 => Z92.l8.b n  x19 x20 x23 x24 (fun x21q x22q => Z92.l8 n x19 x20 x23 x24 x21q x22q Kx0w8) x21 x22 Kx0w8
def Z92.j0 (K : Int -> List Int -> Bool -> Prop) (a1 : Int) (a2 : List Int) (a3 : Int) (a4 : Bool) (lp8 : Int -> Int -> List Int -> Int -> Int -> List Int -> (List Int -> List Int -> Int -> Prop) -> Prop) (n : Nat) : Prop :=
 Z99.c n a1 a2 (fun r10 => if a4 = true then (grd (decide (0 <= IntKind.wrap .i64 ((r10.length : Int) - 1)) && decide (IntKind.wrap .i64 ((r10.length : Int) - 1) < (r10.length : Int))) (let t34 : Nat := Int.toNat (IntKind.wrap .i64 ((r10.length : Int) - 1)); lp8 a3 (rd r10 t34) ([] : List (Int)) 0 0 r10 (fun y38 y39 y40 => Z97.c n y38 (fun r41 r42 r43 => K r41 r42 r43)))) else (lp8 a3 0 ([] : List (Int)) 0 0 r10 (fun y47 y48 y49 => Z97.c n y47 (fun r50 r51 r52 => K r50 r51 r52))))
def Z92.w (n : Nat) (lp8 : Int -> Int -> List Int -> Int -> Int -> List Int -> (List Int -> List Int -> Int -> Prop) -> Prop) (a1 : Int) (a2 : List Int) (a3 : Int) (a4 : Bool) (K : Int -> List Int -> Bool -> Prop) : Prop :=
 Z84.c n a1 a2 (fun r56 => if (!r56) = false then (Z98.c n a3 0 4096 (fun r57 => if (!r57) = true then (K 0 ([] : List (Int)) false) else (Z92.j0 K a1 a2 a3 a4 lp8 n))) else (K 0 ([] : List (Int)) false))
def Z92.c : Nat -> Int -> List Int -> Int -> Bool -> (Int -> List Int -> Bool -> Prop) -> Prop
 | 0, _, _, _, _, _ => False
 | n + 1, a1, a2, a3, a4, K => Z92.w n (Z92.l8 n) a1 a2 a3 a4 K
def Z91.l6.b (n : Nat) (x21 : Int) (x23 : List Int) (x25 : List Int) (x26 : Int) (again6 : Int -> List Int -> Prop) (x22 : Int) (x24 : List Int) (Kx0w6 : List Int -> List Int -> Int -> Prop) : Prop :=
 if (decide (x22 < (x23.length : Int))) = true then (grd (!(decide ((x23.length : Int) = 0))) (let t29 : Int := Int.tmod (IntKind.wrap .i64 (x22 + x21)) (x23.length : Int); grd (decide (0 <= x22) && decide (x22 < (x23.length : Int))) (grd (decide (0 <= t29) && decide (t29 < (x24.length : Int))) (let t30 : List Int := List.set x24 (Int.toNat t29) (rd x23 (Int.toNat x22)); again6 (IntKind.wrap .i64 (x22 + 1)) t30)))) else (Kx0w6 x24 x25 x26)
def Z91.l6 : Nat -> Int -> List Int -> List Int -> Int -> Int -> List Int -> (List Int -> List Int -> Int -> Prop) -> Prop
 | 0, _, _, _, _, _, _, _ => False
 | n + 1, x21, x23, x25, x26, x22, x24, Kx0w6 => Z91.l6.b n  x21 x23 x25 x26 (fun x22q x24q => Z91.l6 n x21 x23 x25 x26 x22q x24q Kx0w6) x22 x24 Kx0w6
def Z91.j0 (K : Int -> List Int -> Bool -> Prop) (a1 : Int) (a2 : List Int) (a3 : Int) (lp6 : Int -> List Int -> List Int -> Int -> Int -> List Int -> (List Int -> List Int -> Int -> Prop) -> Prop) (n : Nat) : Prop :=
 Z99.c n a1 a2 (fun r9 => grd ((decide (0 <= (r9.length : Int)) && decide ((r9.length : Int) <= 35184372088832)) && decide ((r9.length : Int) = (r9.length : Int))) (let t10 : List Int := List.replicate (Int.toNat (r9.length : Int)) 0; lp6 a3 r9 ([] : List (Int)) 0 0 t10 (fun y34 y35 y36 => Z97.c n y34 (fun r37 r38 r39 => K r37 r38 r39))))
def Z91.w (n : Nat) (lp6 : Int -> List Int -> List Int -> Int -> Int -> List Int -> (List Int -> List Int -> Int -> Prop) -> Prop) (a1 : Int) (a2 : List Int) (a3 : Int) (K : Int -> List Int -> Bool -> Prop) : Prop :=
 Z84.c n a1 a2 (fun r43 => if (!r43) = false then (Z98.c n a3 0 4096 (fun r44 => if (!r44) = true then (K 0 ([] : List (Int)) false) else (Z91.j0 K a1 a2 a3 lp6 n))) else (K 0 ([] : List (Int)) false))
def Z91.c : Nat -> Int -> List Int -> Int -> (Int -> List Int -> Bool -> Prop) -> Prop
 | 0, _, _, _, _ => False
 | n + 1, a1, a2, a3, K => Z91.w n (Z91.l6 n) a1 a2 a3 K
def Z90.l6.b (n : Nat) (x16 : Int) (x19 : List Int) (x20 : List Int) (x21 : Int) (again6 : Int -> List Int -> Prop) (x17 : Int) (x18 : List Int) (Kx0w6 : List Int -> List Int -> Int -> Prop) : Prop :=
 if (decide (x17 < x16)) = true then (grd (decide (x18.length + x19.length <= 35184372088832)) (again6 (IntKind.wrap .i64 (x17 + 1)) (x18 ++ x19))) else (Kx0w6 x18 x20 x21)
def Z90.l6 : Nat -> Int -> List Int -> List Int -> Int -> Int -> List Int -> (List Int -> List Int -> Int -> Prop) -> Prop
 | 0, _, _, _, _, _, _, _ => False
 | n + 1, x16, x19, x20, x21, x17, x18, Kx0w6 => Z90.l6.b n  x16 x19 x20 x21 (fun x17q x18q => Z90.l6 n x16 x19 x20 x21 x17q x18q Kx0w6) x17 x18 Kx0w6
def Z90.j0 (K : Int -> List Int -> Bool -> Prop) (a1 : Int) (a2 : List Int) (a3 : Int) (lp6 : Int -> List Int -> List Int -> Int -> Int -> List Int -> (List Int -> List Int -> Int -> Prop) -> Prop) (n : Nat) (j33 : Bool) : Prop :=
 if j33 = true then (K 0 ([] : List (Int)) false) else (Z99.c n a1 a2 (fun r34 => lp6 a3 r34 ([] : List (Int)) 0 0 ([] : List (Int)) (fun y38 y39 y40 => Z97.c n y38 (fun r41 r42 r43 => K r41 r42 r43))))
def Z90.w (n : Nat) (lp6 : Int -> List Int -> List Int -> Int -> Int -> List Int -> (List Int -> List Int -> Int -> Prop) -> Prop) (a1 : Int) (a2 : List Int) (a3 : Int) (K : Int -> List Int -> Bool -> Prop) : Prop :=
 Z84.c n a1 a2 (fun r44 => if (!r44) = false then (Z98.c n a3 1 4096 (fun r45 => if (!r45) = false then (Z90.j0 K a1 a2 a3 lp6 n (decide (IntKind.wrap .i64 (a1 * a3) > 4096))) else (Z90.j0 K a1 a2 a3 lp6 n true))) else (Z90.j0 K a1 a2 a3 lp6 n true))
def Z90.c : Nat -> Int -> List Int -> Int -> (Int -> List Int -> Bool -> Prop) -> Prop
 | 0, _, _, _, _ => False
 | n + 1, a1, a2, a3, K => Z90.w n (Z90.l6 n) a1 a2 a3 K
def Z111.l10.b (n : Nat) (x22 : List (tBits)) (x24 : List Int) (x25 : Int) (again10 : Int -> Int -> List Int -> Prop) (x23 : Int) (x26 : Int) (x27 : List Int) (Kx1w10 : List Int -> Int -> Int -> List Int -> Prop) : Prop :=
 if (decide (x23 < (x22.length : Int))) = true then (grd (decide (0 <= x23) && decide (x23 < (x22.length : Int))) (Z86.c n x26 x27 ((rd x22 (Int.toNat x23)).1) ((rd x22 (Int.toNat x23)).2) (fun r31 r32 r33 => again10 (IntKind.wrap .i64 (x23 + 1)) r31 r32))) else (Kx1w10 x24 x25 x26 x27)
def Z111.l10 : Nat -> List (tBits) -> List Int -> Int -> Int -> Int -> List Int -> (List Int -> Int -> Int -> List Int -> Prop) -> Prop
 | 0, _, _, _, _, _, _, _ => False
 | n + 1, x22, x24, x25, x23, x26, x27, Kx1w10 => Z111.l10.b n  x22 x24 x25 (fun x23q x26q x27q => Z111.l10 n x22 x24 x25 x23q x26q x27q Kx1w10) x23 x26 x27 Kx1w10
def Z111.w (n : Nat) (lp10 : List (tBits) -> List Int -> Int -> Int -> Int -> List Int -> (List Int -> Int -> Int -> List Int -> Prop) -> Prop) (a1 : List (tBits)) (a2 : Int) (a3 : Int) (a4 : Int) (a5 : Int) (a6 : Int) (a7 : List Int) (a8 : List Int) (a9 : List (tBits)) (K : Int -> List Int -> Prop) : Prop :=
 if (decide (a2 = 1)) = true then (grd (decide (0 <= a3) && decide (a3 < (a1.length : Int))) (K ((rd a1 (Int.toNat a3)).1) ((rd a1 (Int.toNat a3)).2))) else (if (decide (a2 = 2)) = true then (K a6 a7) else (if (decide (a2 = 3)) = true then (grd (decide (0 < (a9.length : Int))) (lp10 a9 ([] : List (Int)) 0 1 ((rd a9 0).1) ((rd a9 0).2) (fun y61 y62 y63 y64 => K y63 y64))) else (if (decide (a2 = 4)) = true then (grd (decide (0 < (a9.length : Int))) (Z89.c n ((rd a9 0).1) ((rd a9 0).2) a4 a5 (fun r65 r66 r67 => K r65 r66))) else (if (decide (a2 = 5)) = true then (grd (decide (0 < (a9.length : Int))) (Z92.c n ((rd a9 0).1) ((rd a9 0).2) a4 false (fun r68 r69 r70 => K r68 r69))) else (if (decide (a2 = 6)) = true then (grd (decide (0 < (a9.length : Int))) (Z92.c n ((rd a9 0).1) ((rd a9 0).2) a4 true (fun r71 r72 r73 => K r71 r72))) else (if (decide (a2 = 7)) = true then (grd (decide (0 < (a9.length : Int))) (Z91.c n ((rd a9 0).1) ((rd a9 0).2) a4 (fun r74 r75 r76 => K r74 r75))) else (if (decide (a2 = 8)) = true then (grd (decide (0 < (a9.length : Int))) (grd (decide (0 < (a9.length : Int))) (grd (!(decide ((rd a9 0).1 = 0))) (let t77 : Int := IntKind.wrap .i64 (((rd a9 0).1) - (Int.tmod a4 ((rd a9 0).1))); grd (!(decide ((rd a9 0).1 = 0))) (Z91.c n ((rd a9 0).1) ((rd a9 0).2) (Int.tmod t77 ((rd a9 0).1)) (fun r78 r79 r80 => K r78 r79)))))) else (if (decide (a2 = 9)) = true then (grd (decide (0 < (a9.length : Int))) (Z90.c n ((rd a9 0).1) ((rd a9 0).2) a4 (fun r81 r82 r83 => K r81 r82))) else (K 0 ([] : List (Int)))))))))))
def Z111.c : Nat -> List (tBits) -> Int -> Int -> Int -> Int -> Int -> List Int -> List Int -> List (tBits) -> (Int -> List Int -> Prop) -> Prop
 | 0, _, _, _, _, _, _, _, _, _, _ => False
 | n + 1, a1, a2, a3, a4, a5, a6, a7, a8, a9, K => Z111.w n (Z111.l10 n) a1 a2 a3 a4 a5 a6 a7 a8 a9 K
end Go.Vsi
end

section
set_option linter.unusedVariables false
set_option synthInstance.maxSize 4096
namespace Go.Vsi
def Z110.l7.b (n : Nat) (x27 : List (tBits)) (x28 : Int) (x30 : List (tBits)) (x32 : List Int) (x33 : List (tTNode)) (x34 : Int) (again7 : Int -> List (tBits) -> Prop) (x29 : Int) (x31 : List (tBits)) (Kx2w7 : List (tBits) -> Int -> List (tBits) -> List (tBits) -> List Int -> List (tTNode) -> Int -> Prop) : Prop :=
 grd (decide (0 <= x28) && decide (x28 < (x33.length : Int))) (let t36 : List Int := ((((((rd x33 (Int.toNat x28)).2).2).2).2).2).2; if (decide (x29 < (t36.length : Int))) = true then (grd (decide (0 <= x28) && decide (x28 < (x33.length : Int))) (let t41 : List Int := ((((((rd x33 (Int.toNat x28)).2).2).2).2).2).2; grd (decide (0 <= x29) && decide (x29 < (t41.length : Int))) (grd (decide (0 <= rd t41 (Int.toNat x29)) && decide (rd t41 (Int.toNat x29) < (x30.length : Int))) (let t42 : Int := (rd x30 (Int.toNat (rd t41 (Int.toNat x29)))).1; let t43 : List Int := (rd x30 (Int.toNat (rd t41 (Int.toNat x29)))).2; grd (decide (x31.length + ([(t42, t43)] : List (tBits)).length <= 2132386187201)) (let t44 : List (tBits) := x31 ++ ([(t42, t43)] : List (tBits)); again7 (IntKind.wrap .i64 (x29 + 1)) t44))))) else (Kx2w7 x27 x28 x30 x31 x32 x33 x34))
def Z110.l7 : Nat -> List (tBits) -> Int -> List (tBits) -> List Int -> List (tTNode) -> Int -> Int -> List (tBits) -> (List (tBits) -> Int -> List (tBits) -> List (tBits) -> List Int -> List (tTNode) -> Int -> Prop) -> Prop
 | 0, _, _, _, _, _, _, _, _, _ => False
 | n + 1, x27, x28, x30, x32, x33, x34, x29, x31, Kx2w7 => Z110.l7.b n  x27 x28 x30 x32 x33 x34 (fun x29q x31q => Z110.l7 n x27 x28 x30 x32 x33 x34 x29q x31q Kx2w7) x29 x31 Kx2w7
def Z110.l3.b (n : Nat) (lp7 : List (tBits) -> Int -> List (tBits) -> List Int -> List (tTNode) -> Int -> Int -> List (tBits) -> (List (tBits) -> Int -> List (tBits) -> List (tBits) -> List Int -> List (tTNode) -> Int -> Prop) -> Prop) (again3 : List (tBits) -> Int -> List (tBits) -> List Int -> List (tTNode) -> Int -> Prop) (x83 : List (tBits)) (x84 : Int) (x85 : List (tBits)) (x86 : List Int) (x87 : List (tTNode)) (x88 : Int) (Kx0w3 : List (tBits) -> List Int -> Int -> Prop) : Prop :=
 if (decide (x84 < (x87.length : Int))) = true then (lp7 x83 x84 x85 x86 x87 x88 0 ([] : List (tBits)) (fun y115 y116 y117 y118 y119 y120 y121 => grd (decide (0 <= y116) && decide (y116 < (y120.length : Int))) (let t122 : List Int := ((((((rd y120 (Int.toNat y116)).2).2).2).2).2).1; let t123 : List Int := ((((((rd y120 (Int.toNat y116)).2).2).2).2).2).2; Z111.c n y115 ((rd y120 (Int.toNat y116)).1) (((rd y120 (Int.toNat y116)).2).1) ((((rd y120 (Int.toNat y116)).2).2).1) (((((rd y120 (Int.toNat y116)).2).2).2).1) ((((((rd y120 (Int.toNat y116)).2).2).2).2).1) t122 t123 y118 (fun r124 r125 => grd (decide (y117.length + ([(r124, r125)] : List (tBits)).length <= 2132386187201)) (let t126 : List (tBits) := y117 ++ ([(r124, r125)] : List (tBits)); again3 y115 (IntKind.wrap .i64 (y116 + 1)) t126 y119 y120 y121))))) else (Kx0w3 x85 x86 x88)
def Z110.l3 : Nat -> List (tBits) -> Int -> List (tBits) -> List Int -> List (tTNode) -> Int -> (List (tBits) -> List Int -> Int -> Prop) -> Prop
 | 0, _, _, _, _, _, _, _ => False
 | n + 1, x83, x84, x85, x86, x87, x88, Kx0w3 => Z110.l3.b n (Z110.l7 n)  (fun x83q x84q x85q x86q x87q x88q => Z110.l3 n x83q x84q x85q x86q x87q x88q Kx0w3) x83 x84 x85 x86 x87 x88 Kx0w3
def Z110.w (n : Nat) (lp3 : List (tBits) -> Int -> List (tBits) -> List Int -> List (tTNode) -> Int -> (List (tBits) -> List Int -> Int -> Prop) -> Prop) (a1 : List (tBits)) (a2 : List (tTNode)) (K : Int -> List Int -> Prop) : Prop :=
 lp3 a1 0 ([] : List (tBits)) ([] : List (Int)) a2 0 (fun y130 y131 y132 => grd (decide (0 <= IntKind.wrap .i64 ((y130.length : Int) - 1)) && decide (IntKind.wrap .i64 ((y130.length : Int) - 1) < (y130.length : Int))) (let t133 : Nat := Int.toNat (IntKind.wrap .i64 ((y130.length : Int) - 1)); let p141 : Prop := (let p138 : Prop := (grd (decide (([] : List (Int)).length + ((rd y130 t133).2).length <= 7818749353073)) (K ((rd y130 t133).1) (([] : List (Int)) ++ ((rd y130 t133).2)))); (p138 /\ p138)); (p141 /\ p141 /\ ((grd (decide (([] : List (Int)).length + ((rd y130 t133).2).length <= 7818749353073)) (K ((rd y130 t133).1) (([] : List (Int)) ++ ((rd y130 t133).2)))) /\ (let p140 : Prop := (grd (decide (([] : List (Int)).length + ((rd y130 t133).2).length <= 7818749353073)) (K ((rd y130 t133).1) (([] : List (Int)) ++ ((rd y130 t133).2)))); (p140 /\ p140))))))
def Z110.c : Nat -> List (tBits) -> List (tTNode) -> (Int -> List Int -> Prop) -> Prop
 | 0, _, _, _ => False
 | n + 1, a1, a2, K => Z110.w n (Z110.l3 n) a1 a2 K
def Z107.l4.b (n : Nat) (x18 : Int) (x19 : List Int) (x20 : Int) (x21 : List Int) (again4 : Int -> Prop) (x17 : Int) (Kx0w4 : Prop) (Kr4 : Bool -> Prop) : Prop :=
 if (decide (x17 < (x19.length : Int))) = true then (grd (decide (0 <= x17) && decide (x17 < (x19.length : Int))) (grd (decide (0 <= x17) && decide (x17 < (x21.length : Int))) (let t25 : Bool := !(decide (rd x19 (Int.toNat x17) = rd x21 (Int.toNat x17))); if t25 = true then (Kr4 false) else (again4 (IntKind.wrap .i64 (x17 + 1)))))) else (Kx0w4)
def Z107.l4 : Nat -> Int -> List Int -> Int -> List Int -> Int -> Prop -> (Bool -> Prop) -> Prop
 | 0, _, _, _, _, _, _, _ => False
 | n + 1, x18, x19, x20, x21, x17, Kx0w4, Kr4 => Z107.l4.b n  x18 x19 x20 x21 (fun x17q => Z107.l4 n x18 x19 x20 x21 x17q Kx0w4 Kr4) x17 Kx0w4 Kr4
def Z107.w (n : Nat) (lp4 : Int -> List Int -> Int -> List Int -> Int -> Prop -> (Bool -> Prop) -> Prop) (a1 : Int) (a2 : List Int) (a3 : Int) (a4 : List Int) (K : Bool -> Prop) : Prop :=
 if (!(decide (a1 = a3))) = false then (let t32 : Bool := !(decide ((a2.length : Int) = (a4.length : Int))); if t32 = true then (K false) else (lp4 a1 a2 a3 a4 0 (K true) (fun y34 => K y34))) else (K false)
def Z107.c : Nat -> Int -> List Int -> Int -> List Int -> (Bool -> Prop) -> Prop
 | 0, _, _, _, _, _ => False
 | n + 1, a1, a2, a3, a4, K => Z107.w n (Z107.l4 n) a1 a2 a3 a4 K
def Z28.l4.b (n : Nat) (x35 : List UInt8) (again4 : Int -> Prop) (x36 : Int) (Kx0w4 : Prop) (Kr4 : Bool -> Prop) : Prop :=
 if (decide (x36 < (x35.length : Int))) = true then (grd (decide (0 <= x36) && decide (x36 < (x35.length : Int))) (let t57 : Int := ((List.getD x35 (Int.toNat x36) 0).toNat : Int); if (decide (t57 < 97)) = false then (grd (decide (0 <= x36) && decide (x36 < (x35.length : Int))) (let t58 : Int := ((List.getD x35 (Int.toNat x36) 0).toNat : Int); if (decide (t58 > 122)) = true then (grd (decide (0 <= x36) && decide (x36 < (x35.length : Int))) (let t59 : Int := ((List.getD x35 (Int.toNat x36) 0).toNat : Int); if (decide (t59 < 48)) = false then (grd (decide (0 <= x36) && decide (x36 < (x35.length : Int))) (let t60 : Int := ((List.getD x35 (Int.toNat x36) 0).toNat : Int); if (decide (t60 > 57)) = true then (Kr4 false) else (again4 (IntKind.wrap .i64 (x36 + 1))))) else (Kr4 false))) else (again4 (IntKind.wrap .i64 (x36 + 1))))) else (grd (decide (0 <= x36) && decide (x36 < (x35.length : Int))) (let t61 : Int := ((List.getD x35 (Int.toNat x36) 0).toNat : Int); if (decide (t61 < 48)) = false then (grd (decide (0 <= x36) && decide (x36 < (x35.length : Int))) (let t62 : Int := ((List.getD x35 (Int.toNat x36) 0).toNat : Int); if (decide (t62 > 57)) = true then (Kr4 false) else (again4 (IntKind.wrap .i64 (x36 + 1))))) else (Kr4 false))))) else (Kx0w4)
def Z28.l4 : Nat -> List UInt8 -> Int -> Prop -> (Bool -> Prop) -> Prop
 | 0, _, _, _, _ => False
 | n + 1, x35, x36, Kx0w4, Kr4 => Z28.l4.b n  x35 (fun x36q => Z28.l4 n x35 x36q Kx0w4 Kr4) x36 Kx0w4 Kr4
def Z28.w (n : Nat) (lp4 : List UInt8 -> Int -> Prop -> (Bool -> Prop) -> Prop) (a1 : List UInt8) (K : Bool -> Prop) : Prop :=
 if (decide ((a1.length : Int) < 1)) = false then (if (decide ((a1.length : Int) > 12)) = false then (grd (decide (0 < (a1.length : Int))) (let t70 : Bool := decide (((List.getD a1 0 0).toNat : Int) < 97); if t70 = false then (grd (decide (0 < (a1.length : Int))) (let t71 : Bool := decide (((List.getD a1 0 0).toNat : Int) > 122); if t71 = true then (K false) else (lp4 a1 0 (K true) (fun y73 => K y73)))) else (K false))) else (K false)) else (K false)
def Z28.c : Nat -> List UInt8 -> (Bool -> Prop) -> Prop
 | 0, _, _ => False
 | n + 1, a1, K => Z28.w n (Z28.l4 n) a1 K
def Z24.w (n : Nat) (a1 : Int) (a2 : Int) (a3 : Int) (K : Bool -> Prop) : Prop :=
 if (decide (a1 >= a2)) = true then (K (decide (a1 <= a3))) else (K false)
def Z24.c : Nat -> Int -> Int -> Int -> (Bool -> Prop) -> Prop
 | 0, _, _, _, _ => False
 | n + 1, a1, a2, a3, K => Z24.w n  a1 a2 a3 K
def Z22.w (n : Nat) (a1 : List UInt8) (a2 : Int) (a3 : List UInt8) (K : Bool -> Prop) : Prop :=
 K (a1 == a3)
def Z22.c : Nat -> List UInt8 -> Int -> List UInt8 -> (Bool -> Prop) -> Prop
 | 0, _, _, _, _ => False
 | n + 1, a1, a2, a3, K => Z22.w n  a1 a2 a3 K
def Z80.l2.b (n : Nat) (x9 : List (tDecl)) (x10 : List UInt8) (x11 : Int) (again2 : Int -> Prop) (x12 : Int) (Kx0w2 : Prop) (Kr2 : Int -> Prop) : Prop :=
 if (decide (x12 < x11)) = true then (grd (decide (0 <= x12) && decide (x12 < (x9.length : Int))) (Z22.c n ((rd x9 (Int.toNat x12)).1) ((rd x9 (Int.toNat x12)).2) x10 (fun r14 => if r14 = true then (Kr2 x12) else (again2 (IntKind.wrap .i64 (x12 + 1)))))) else (Kx0w2)
def Z80.l2 : Nat -> List (tDecl) -> List UInt8 -> Int -> Int -> Prop -> (Int -> Prop) -> Prop
 | 0, _, _, _, _, _, _ => False
 | n + 1, x9, x10, x11, x12, Kx0w2, Kr2 => Z80.l2.b n  x9 x10 x11 (fun x12q => Z80.l2 n x9 x10 x11 x12q Kx0w2 Kr2) x12 Kx0w2 Kr2
def Z80.w (n : Nat) (lp2 : List (tDecl) -> List UInt8 -> Int -> Int -> Prop -> (Int -> Prop) -> Prop) (a1 : List (tDecl)) (a2 : List UInt8) (K : Int -> Prop) : Prop :=
 lp2 a1 a2 (a1.length : Int) 0 (K (-1)) (fun y16 => K y16)
def Z80.c : Nat -> List (tDecl) -> List UInt8 -> (Int -> Prop) -> Prop
 | 0, _, _, _ => False
 | n + 1, a1, a2, K => Z80.w n (Z80.l2 n) a1 a2 K
def Z21.w (n : Nat) (a1 : List (tDecl)) (a2 : List UInt8) (K : Int -> Prop) : Prop :=
 Z80.c n a1 a2 (fun r3 => K r3)
def Z21.c : Nat -> List (tDecl) -> List UInt8 -> (Int -> Prop) -> Prop
 | 0, _, _, _ => False
 | n + 1, a1, a2, K => Z21.w n  a1 a2 K
def Z11.l5.b (n : Nat) (x42 : List (tDecl)) (x44 : List (tDecl)) (x45 : Int) (again5 : Int -> Int -> Prop) (x43 : Int) (x46 : Int) (Kx0w5 : Int -> Prop) (Kr5 : Bool -> Prop) : Prop :=
 if (decide (x46 < x45)) = true then (grd (decide (0 <= x46) && decide (x46 < (x44.length : Int))) (Z28.c n ((rd x44 (Int.toNat x46)).1) (fun r78 => if (!r78) = false then (Z24.c n ((rd x44 (Int.toNat x46)).2) 1 4096 (fun r79 => if (!r79) = false then (grd ((decide (0 <= x46) && decide (x46 <= (x42.length : Int))) && decide (0 <= x46)) (Z21.c n (List.drop 0 (List.take (Int.toNat x46) x42)) ((rd x44 (Int.toNat x46)).1) (fun r80 => if (decide (r80 >= 0)) = true then (Kr5 false) else (let t81 : Int := IntKind.wrap .i64 (x43 + ((rd x44 (Int.toNat x46)).2)); again5 t81 (IntKind.wrap .i64 (x46 + 1)))))) else (Kr5 false))) else (Kr5 false)))) else (Kx0w5 x43)
def Z11.l5 : Nat -> List (tDecl) -> List (tDecl) -> Int -> Int -> Int -> (Int -> Prop) -> (Bool -> Prop) -> Prop
 | 0, _, _, _, _, _, _, _ => False
 | n + 1, x42, x44, x45, x43, x46, Kx0w5, Kr5 => Z11.l5.b n  x42 x44 x45 (fun x43q x46q => Z11.l5 n x42 x44 x45 x43q x46q Kx0w5 Kr5) x43 x46 Kx0w5 Kr5
def Z11.w (n : Nat) (lp5 : List (tDecl) -> List (tDecl) -> Int -> Int -> Int -> (Int -> Prop) -> (Bool -> Prop) -> Prop) (a1 : List (tDecl)) (K : Bool -> Prop) : Prop :=
 if (decide ((a1.length : Int) > 60)) = true then (K false) else (lp5 a1 a1 (a1.length : Int) 0 0 (fun y84 => K (decide (y84 <= 20000))) (fun y85 => K y85))
def Z11.c : Nat -> List (tDecl) -> (Bool -> Prop) -> Prop
 | 0, _, _ => False
 | n + 1, a1, K => Z11.w n (Z11.l5 n) a1 K
def Z33.w (n : Nat) (a1 : Int) (K : Int -> Prop) : Prop :=
 let t2 : Int := IntKind.wrap .i64 (Int.tdiv (IntKind.wrap .i64 (a1 + 63)) 64); K t2
def Z33.c : Nat -> Int -> (Int -> Prop) -> Prop
 | 0, _, _ => False
 | n + 1, a1, K => Z33.w n  a1 K
def Z1.j0 (K : Bool -> Prop) (a1 : Int) (a2 : List Int) : Prop :=
 if (decide (Int.tmod a1 64 = 0)) = false then (grd (decide (0 <= IntKind.wrap .i64 ((a2.length : Int) - 1)) && decide (IntKind.wrap .i64 ((a2.length : Int) - 1) < (a2.length : Int))) (let t14 : Int := rd a2 (Int.toNat (IntKind.wrap .i64 ((a2.length : Int) - 1))); grd (decide (0 <= Int.tmod a1 64)) (let t15 : Int := Int.fdiv t14 (2 ^ (Nat.min (Int.toNat (Int.tmod a1 64)) 64)); K (decide (t15 = 0))))) else (K true)
def Z1.w (n : Nat) (a1 : Int) (a2 : List Int) (K : Bool -> Prop) : Prop :=
 Z24.c n a1 1 4096 (fun r20 => if (!r20) = false then (let p23 : Prop := (Z33.c n a1 (fun r21 => if (!(decide ((a2.length : Int) = r21))) = true then (K false) else (Z1.j0 K a1 a2))); (p23 /\ p23)) else ((K false) /\ (K false)))
def Z1.c : Nat -> Int -> List Int -> (Bool -> Prop) -> Prop
 | 0, _, _, _ => False
 | n + 1, a1, a2, K => Z1.w n  a1 a2 K
def Z18.l11.b (n : Nat) (x24 : List Int) (x25 : Int) (again11 : Int -> Int -> Prop) (x23 : Int) (x26 : Int) (Kx1w11 : Int -> Prop) : Prop :=
 if (decide (x26 < x25)) = true then (grd (decide (0 <= x26) && decide (x26 < (x24.length : Int))) (let t28 : Int := IntKind.wrap .i64 (x23 + (rd x24 (Int.toNat x26))); again11 t28 (IntKind.wrap .i64 (x26 + 1)))) else (Kx1w11 x23)
def Z18.l11 : Nat -> List Int -> Int -> Int -> Int -> (Int -> Prop) -> Prop
 | 0, _, _, _, _, _ => False
 | n + 1, x24, x25, x23, x26, Kx1w11 => Z18.l11.b n  x24 x25 (fun x23q x26q => Z18.l11 n x24 x25 x23q x26q Kx1w11) x23 x26 Kx1w11
def Z18.j0 (Kc21w0 : Int -> Prop) (Kc21w1 : Prop) (n : Nat) (x35 : tTNode) (x36 : Int) (j40 : Bool) : Prop :=
 if j40 = true then (Kc21w0 x36) else (if (decide (x35.1 = 9)) = true then (Z24.c n x35.2.2.1 1 4096 (fun r43 => if r43 = true then (Kc21w0 (IntKind.wrap .i64 (x36 * x35.2.2.1))) else (Kc21w1))) else (Kc21w1))
def Z18.q21.b (n : Nat) (x35 : tTNode) (x36 : Int) (x37 : Bool) (Kc21w0 : Int -> Prop) (Kc21w1 : Prop) : Prop :=
 if x37 = true then (Kc21w0 (IntKind.wrap .i64 (x36 + x35.2.2.1))) else (if (decide (x35.1 = 7)) = false then (if (decide (x35.1 = 8)) = true then (Z24.c n x35.2.2.1 0 4096 (fun r44 => Z18.j0 Kc21w0 Kc21w1 n x35 x36 r44)) else (Z18.j0 Kc21w0 Kc21w1 n x35 x36 false)) else (Z24.c n x35.2.2.1 0 4096 (fun r45 => Z18.j0 Kc21w0 Kc21w1 n x35 x36 r45)))
def Z18.q21 : Nat -> tTNode -> Int -> Bool -> (Int -> Prop) -> Prop -> Prop
 | 0, _, _, _, _, _ => False
 | n + 1, x35, x36, x37, Kc21w0, Kc21w1 => Z18.q21.b n  x35 x36 x37  Kc21w0 Kc21w1
def Z18.j1 (Kc9w0 : Int -> Prop) (Kc9w1 : Prop) (lpq21 : tTNode -> Int -> Bool -> (Int -> Prop) -> Prop -> Prop) (n : Nat) (x13 : tTNode) (x15 : Int) (j31 : Bool) : Prop :=
 if j31 = true then (let t33 : Int := IntKind.wrap .i64 ((IntKind.wrap .i64 (x13.2.2.1 - x13.2.2.2.1)) + 1); Kc9w0 t33) else (if (decide (x13.1 = 5)) = false then (if (decide (x13.1 = 6)) = true then (Z24.c n x13.2.2.1 0 4096 (fun r34 => lpq21 x13 x15 r34 (fun y46 => Kc9w0 y46) (Kc9w1))) else (lpq21 x13 x15 false (fun y47 => Kc9w0 y47) (Kc9w1))) else (Z24.c n x13.2.2.1 0 4096 (fun r48 => lpq21 x13 x15 r48 (fun y49 => Kc9w0 y49) (Kc9w1))))
def Z18.q9.b (n : Nat) (lp11 : List Int -> Int -> Int -> Int -> (Int -> Prop) -> Prop) (lpq21 : tTNode -> Int -> Bool -> (Int -> Prop) -> Prop -> Prop) (x13 : tTNode) (x14 : List Int) (x15 : Int) (x16 : Bool) (Kc9w0 : Int -> Prop) (Kc9w1 : Prop) : Prop :=
 if x16 = true then (lp11 x14 (x14.length : Int) 0 0 (fun y30 => Kc9w0 y30)) else (if (!(decide ((x14.length : Int) = 1))) = true then (Kc9w0 (-1)) else (if (decide (x13.1 = 4)) = true then (if (decide (x13.2.2.2.1 >= 0)) = true then (if (decide (x13.2.2.2.1 <= x13.2.2.1)) = true then (Z18.j1 Kc9w0 Kc9w1 lpq21 n x13 x15 (decide (x13.2.2.1 < x15))) else (Z18.j1 Kc9w0 Kc9w1 lpq21 n x13 x15 false)) else (Z18.j1 Kc9w0 Kc9w1 lpq21 n x13 x15 false)) else (Z18.j1 Kc9w0 Kc9w1 lpq21 n x13 x15 false)))
def Z18.q9 : Nat -> tTNode -> List Int -> Int -> Bool -> (Int -> Prop) -> Prop -> Prop
 | 0, _, _, _, _, _, _ => False
 | n + 1, x13, x14, x15, x16, Kc9w0, Kc9w1 => Z18.q9.b n (Z18.l11 n) (Z18.q21 n) x13 x14 x15 x16  Kc9w0 Kc9w1
def Z18.j2 (Kc5w0 : Int -> Prop) (Kc5w1 : Prop) (lpq9 : tTNode -> List Int -> Int -> Bool -> (Int -> Prop) -> Prop -> Prop) (x6 : tTNode) (x8 : List Int) (x9 : Int) (j12 : Bool) : Prop :=
 if j12 = true then (Kc5w0 x6.2.2.2.2.1) else (if (decide (x6.1 = 3)) = true then (lpq9 x6 x8 x9 (decide ((x8.length : Int) > 1)) (fun y50 => Kc5w0 y50) (Kc5w1)) else (lpq9 x6 x8 x9 false (fun y51 => Kc5w0 y51) (Kc5w1)))
def Z18.q5.b (n : Nat) (lpq9 : tTNode -> List Int -> Int -> Bool -> (Int -> Prop) -> Prop -> Prop) (x6 : tTNode) (x7 : List (tDecl)) (x8 : List Int) (x9 : Int) (x10 : Bool) (Kc5w0 : Int -> Prop) (Kc5w1 : Prop) : Prop :=
 if x10 = true then (grd (decide (0 <= x6.2.1) && decide (x6.2.1 < (x7.length : Int))) (Kc5w0 ((rd x7 (Int.toNat x6.2.1)).2))) else (if (decide (x6.1 = 2)) = true then (if (decide ((x8.length : Int) = 0)) = true then (Z1.c n x6.2.2.2.2.1 x6.2.2.2.2.2.1 (fun r52 => Z18.j2 Kc5w0 Kc5w1 lpq9 x6 x8 x9 r52)) else (Z18.j2 Kc5w0 Kc5w1 lpq9 x6 x8 x9 false)) else (Z18.j2 Kc5w0 Kc5w1 lpq9 x6 x8 x9 false))
def Z18.q5 : Nat -> tTNode -> List (tDecl) -> List Int -> Int -> Bool -> (Int -> Prop) -> Prop -> Prop
 | 0, _, _, _, _, _, _, _ => False
 | n + 1, x6, x7, x8, x9, x10, Kc5w0, Kc5w1 => Z18.q5.b n (Z18.q9 n) x6 x7 x8 x9 x10  Kc5w0 Kc5w1
def Z18.j3 (K : Int -> Prop) (a1 : tTNode) (a2 : List (tDecl)) (a3 : List Int) (lpq5 : tTNode -> List (tDecl) -> List Int -> Int -> Bool -> (Int -> Prop) -> Prop -> Prop) (n : Nat) (j4 : Int) : Prop :=
 if (decide (a1.1 = 1)) = true then (if (decide ((a3.length : Int) = 0)) = true then (Z24.c n a1.2.1 0 (IntKind.wrap .i64 ((a2.length : Int) - 1)) (fun r56 => lpq5 a1 a2 a3 j4 r56 (fun y57 => K y57) (K (-1)))) else (lpq5 a1 a2 a3 j4 false (fun y58 => K y58) (K (-1)))) else (lpq5 a1 a2 a3 j4 false (fun y59 => K y59) (K (-1)))
def Z18.w (n : Nat) (lpq5 : tTNode -> List (tDecl) -> List Int -> Int -> Bool -> (Int -> Prop) -> Prop -> Prop) (a1 : tTNode) (a2 : List (tDecl)) (a3 : List Int) (K : Int -> Prop) : Prop :=
 if (decide ((a3.length : Int) > 0)) = true then (grd (decide (0 < (a3.length : Int))) (Z18.j3 K a1 a2 a3 lpq5 n (rd a3 0))) else (Z18.j3 K a1 a2 a3 lpq5 n 0)
def Z18.c : Nat -> tTNode -> List (tDecl) -> List Int -> (Int -> Prop) -> Prop
 | 0, _, _, _, _ => False
 | n + 1, a1, a2, a3, K => Z18.w n (Z18.q5 n) a1 a2 a3 K
def Z17.q3.b (n : Nat) (x4 : tTNode) (x5 : Bool) (Kc3w0 : Bool -> Prop) (Kc3w1 : tTNode -> Prop) : Prop :=
 if x5 = true then (Kc3w0 false) else (Kc3w1 x4)
def Z17.q3 : Nat -> tTNode -> Bool -> (Bool -> Prop) -> (tTNode -> Prop) -> Prop
 | 0, _, _, _, _ => False
 | n + 1, x4, x5, Kc3w0, Kc3w1 => Z17.q3.b n  x4 x5  Kc3w0 Kc3w1
def Z17.j0 (Kc2w0 : Bool -> Prop) (j28 : tTNode) : Prop :=
 if (decide (j28.1 = 2)) = false then (if (decide (j28.2.2.2.2.1 = 0)) = true then (Kc2w0 (decide ((j28.2.2.2.2.2.1.length : Int) = 0))) else (Kc2w0 false)) else (Kc2w0 true)
def Z17.q2.b (n : Nat) (lpq3 : tTNode -> Bool -> (Bool -> Prop) -> (tTNode -> Prop) -> Prop) (x2 : tTNode) (x3 : Bool) (Kc2w0 : Bool -> Prop) : Prop :=
 if (!x3) = true then (if (!(decide (x2.2.2.1 = 0))) = false then (if (!(decide (x2.1 = 4))) = true then (if (!(decide (x2.2.2.2.1 = 0))) = false then (if (!(decide (x2.1 = 1))) = true then (lpq3 x2 (!(decide (x2.2.1 = 0))) (fun y30 => Kc2w0 y30) (fun y31 => Z17.j0 Kc2w0 y31)) else (lpq3 x2 false (fun y32 => Kc2w0 y32) (fun y33 => Z17.j0 Kc2w0 y33))) else (lpq3 x2 true (fun y34 => Kc2w0 y34) (fun y35 => Z17.j0 Kc2w0 y35))) else (if (!(decide (x2.1 = 1))) = true then (lpq3 x2 (!(decide (x2.2.1 = 0))) (fun y36 => Kc2w0 y36) (fun y37 => Z17.j0 Kc2w0 y37)) else (lpq3 x2 false (fun y38 => Kc2w0 y38) (fun y39 => Z17.j0 Kc2w0 y39)))) else (lpq3 x2 true (fun y40 => Kc2w0 y40) (fun y41 => Z17.j0 Kc2w0 y41))) else (if (!(decide (x2.1 = 4))) = true then (if (!(decide (x2.2.2.2.1 = 0))) = false then (if (!(decide (x2.1 = 1))) = true then (lpq3 x2 (!(decide (x2.2.1 = 0))) (fun y42 => Kc2w0 y42) (fun y43 => Z17.j0 Kc2w0 y43)) else (lpq3 x2 false (fun y44 => Kc2w0 y44) (fun y45 => Z17.j0 Kc2w0 y45))) else (lpq3 x2 true (fun y46 => Kc2w0 y46) (fun y47 => Z17.j0 Kc2w0 y47))) else (if (!(decide (x2.1 = 1))) = true then (lpq3 x2 (!(decide (x2.2.1 = 0))) (fun y48 => Kc2w0 y48) (fun y49 => Z17.j0 Kc2w0 y49)) else (lpq3 x2 false (fun y50 => Kc2w0 y50) (fun y51 => Z17.j0 Kc2w0 y51))))
def Z17.q2 : Nat -> tTNode -> Bool -> (Bool -> Prop) -> Prop
 | 0, _, _, _ => False
 | n + 1, x2, x3, Kc2w0 => Z17.q2.b n (Z17.q3 n) x2 x3  Kc2w0
def Z17.w (n : Nat) (lpq2 : tTNode -> Bool -> (Bool -> Prop) -> Prop) (a1 : tTNode) (K : Bool -> Prop) : Prop :=
 if (decide (a1.1 >= 4)) = true then (lpq2 a1 (decide (a1.1 <= 9)) (fun y52 => K y52)) else (lpq2 a1 false (fun y53 => K y53))
def Z17.c : Nat -> tTNode -> (Bool -> Prop) -> Prop
 | 0, _, _ => False
 | n + 1, a1, K => Z17.w n (Z17.q2 n) a1 K
def Z82.l2.b (n : Nat) (x7 : List Bool) (x8 : Bool) (x9 : Int) (again2 : Int -> Prop) (x10 : Int) (Kx0w2 : Prop) (Kr2 : Int -> Prop) : Prop :=
 if (decide (x10 < x9)) = true then (grd (decide (0 <= x10) && decide (x10 < (x7.length : Int))) (if (x8 == (rd x7 (Int.toNat x10))) = true then (Kr2 x10) else (again2 (IntKind.wrap .i64 (x10 + 1))))) else (Kx0w2)
def Z82.l2 : Nat -> List Bool -> Bool -> Int -> Int -> Prop -> (Int -> Prop) -> Prop
 | 0, _, _, _, _, _, _ => False
 | n + 1, x7, x8, x9, x10, Kx0w2, Kr2 => Z82.l2.b n  x7 x8 x9 (fun x10q => Z82.l2 n x7 x8 x9 x10q Kx0w2 Kr2) x10 Kx0w2 Kr2
def Z82.w (n : Nat) (lp2 : List Bool -> Bool -> Int -> Int -> Prop -> (Int -> Prop) -> Prop) (a1 : List Bool) (a2 : Bool) (K : Int -> Prop) : Prop :=
 lp2 a1 a2 (a1.length : Int) 0 (K (-1)) (fun y12 => K y12)
def Z82.c : Nat -> List Bool -> Bool -> (Int -> Prop) -> Prop
 | 0, _, _, _ => False
 | n + 1, a1, a2, K => Z82.w n (Z82.l2 n) a1 a2 K
def Z78.w (n : Nat) (a1 : List Bool) (a2 : Bool) (K : Bool -> Prop) : Prop :=
 Z82.c n a1 a2 (fun r3 => K (decide (r3 >= 0)))
def Z78.c : Nat -> List Bool -> Bool -> (Bool -> Prop) -> Prop
 | 0, _, _, _ => False
 | n + 1, a1, a2, K => Z78.w n  a1 a2 K
def Z32.l13.b (n : Nat) (x43 : List (tDecl)) (x44 : Int) (x45 : Int) (x46 : tTNode) (x47 : Int) (x48 : Int) (x49 : List Int) (x50 : Int) (x52 : List Int) (x55 : List (tTNode)) (again13 : Int -> List Bool -> List Int -> Prop) (x51 : Int) (x53 : List Bool) (x54 : List Int) (Kx2w13 : List (tDecl) -> Int -> Int -> tTNode -> Int -> Int -> List Int -> List Bool -> List Int -> List (tTNode) -> Prop) (Kr13 : Bool -> List Int -> Prop) : Prop :=
 if (decide (x51 < x50)) = true then (grd (decide (0 <= x51) && decide (x51 < (x49.length : Int))) (Z24.c n (rd x49 (Int.toNat x51)) 0 (IntKind.wrap .i64 (x45 - 1)) (fun r61 => if (!r61) = true then (Kr13 false ([] : List (Int))) else (grd (decide (0 <= rd x49 (Int.toNat x51)) && decide (rd x49 (Int.toNat x51) < (x52.length : Int))) (grd (decide (0 <= rd x49 (Int.toNat x51)) && decide (rd x49 (Int.toNat x51) < (x53.length : Int))) (let t62 : List Bool := List.set x53 (Int.toNat (rd x49 (Int.toNat x51))) true; grd (decide (0 <= x51) && decide (x51 < (x54.length : Int))) (let t63 : List Int := List.set x54 (Int.toNat x51) (rd x52 (Int.toNat (rd x49 (Int.toNat x51)))); again13 (IntKind.wrap .i64 (x51 + 1)) t62 t63))))))) else (Kx2w13 x43 x44 x45 x46 x47 x48 x52 x53 x54 x55)
def Z32.l13 : Nat -> List (tDecl) -> Int -> Int -> tTNode -> Int -> Int -> List Int -> Int -> List Int -> List (tTNode) -> Int -> List Bool -> List Int -> (List (tDecl) -> Int -> Int -> tTNode -> Int -> Int -> List Int -> List Bool -> List Int -> List (tTNode) -> Prop) -> (Bool -> List Int -> Prop) -> Prop
 | 0, _, _, _, _, _, _, _, _, _, _, _, _, _, _, _ => False
 | n + 1, x43, x44, x45, x46, x47, x48, x49, x50, x52, x55, x51, x53, x54, Kx2w13, Kr13 => Z32.l13.b n  x43 x44 x45 x46 x47 x48 x49 x50 x52 x55 (fun x51q x53q x54q => Z32.l13 n x43 x44 x45 x46 x47 x48 x49 x50 x52 x55 x51q x53q x54q Kx2w13 Kr13) x51 x53 x54 Kx2w13 Kr13
def Z32.l6.b (n : Nat) (lp13 : List (tDecl) -> Int -> Int -> tTNode -> Int -> Int -> List Int -> Int -> List Int -> List (tTNode) -> Int -> List Bool -> List Int -> (List (tDecl) -> Int -> Int -> tTNode -> Int -> Int -> List Int -> List Bool -> List Int -> List (tTNode) -> Prop) -> (Bool -> List Int -> Prop) -> Prop) (again6 : List (tDecl) -> Int -> Int -> Int -> List Int -> List Bool -> List (tTNode) -> Prop) (x142 : List (tDecl)) (x143 : Int) (x144 : Int) (x145 : Int) (x146 : List Int) (x147 : List Bool) (x148 : List (tTNode)) (Kx0w6 : Int -> List Int -> List Bool -> Prop) (Kr6 : Bool -> List Int -> Prop) : Prop :=
 if (decide (x145 < x144)) = true then (grd (decide (0 <= x145) && decide (x145 < (x148.length : Int))) (let t195 : List Int := ((((((rd x148 (Int.toNat x145)).2).2).2).2).2).2; if (decide ((t195.length : Int) > 4096)) = true then (Kr6 false ([] : List (Int))) else (let t196 : List Int := ((((((rd x148 (Int.toNat x145)).2).2).2).2).2).2; grd ((decide (0 <= (t196.length : Int)) && decide ((t196.length : Int) <= 7818749353073)) && decide ((t196.length : Int) = (t196.length : Int))) (let t197 : List Int := List.replicate (Int.toNat (t196.length : Int)) 0; let t211 : List Int := ((((((rd x148 (Int.toNat x145)).2).2).2).2).2).2; lp13 x142 x143 x145 (rd x148 (Int.toNat x145)) x144 x145 t211 (t211.length : Int) x146 x148 0 x147 t197 (fun y212 y213 y214 y215 y216 y217 y218 y219 y220 y221 => Z18.c n y215 y212 y220 (fun r222 => grd (decide (0 <= y214) && decide (y214 < (y218.length : Int))) (Z17.c n y215 (fun r227 => if (!r227) = false then (grd (decide (0 <= y214) && decide (y214 < ((List.set y218 (Int.toNat y214) r222).length : Int))) (let t228 : Int := rd (List.set y218 (Int.toNat y214) r222) (Int.toNat y214); Z24.c n t228 1 4096 (fun r229 => if (!r229) = true then (Kr6 false ([] : List (Int))) else (again6 y212 y213 y216 (IntKind.wrap .i64 (y217 + 1)) (List.set y218 (Int.toNat y214) r222) y219 y221)))) else (Kr6 false ([] : List (Int))))))) (fun y230 y231 => Kr6 y230 y231))))) else (Kx0w6 x143 x146 x147)
def Z32.l6 : Nat -> List (tDecl) -> Int -> Int -> Int -> List Int -> List Bool -> List (tTNode) -> (Int -> List Int -> List Bool -> Prop) -> (Bool -> List Int -> Prop) -> Prop
 | 0, _, _, _, _, _, _, _, _, _ => False
 | n + 1, x142, x143, x144, x145, x146, x147, x148, Kx0w6, Kr6 => Z32.l6.b n (Z32.l13 n)  (fun x142q x143q x144q x145q x146q x147q x148q => Z32.l6 n x142q x143q x144q x145q x146q x147q x148q Kx0w6 Kr6) x142 x143 x144 x145 x146 x147 x148 Kx0w6 Kr6
def Z32.j0 (K : List Int -> Bool -> Prop) (a1 : List (tDecl)) (a2 : List (tTNode)) (lp6 : List (tDecl) -> Int -> Int -> Int -> List Int -> List Bool -> List (tTNode) -> (Int -> List Int -> List Bool -> Prop) -> (Bool -> List Int -> Prop) -> Prop) (n : Nat) (j8 : List Int) (j9 : List Bool) : Prop :=
 lp6 a1 (a2.length : Int) (a2.length : Int) 0 j8 j9 a2 (fun y237 y238 y239 => grd ((decide (0 <= IntKind.wrap .i64 (y237 - 1)) && decide (IntKind.wrap .i64 (y237 - 1) <= (y239.length : Int))) && decide (0 <= IntKind.wrap .i64 (y237 - 1))) (Z78.c n (List.drop 0 (List.take (Int.toNat (IntKind.wrap .i64 (y237 - 1))) y239)) false (fun r240 => K y238 (!r240)))) (fun y241 y242 => K y242 y241)
def Z32.j1 (K : List Int -> Bool -> Prop) (a1 : List (tDecl)) (a2 : List (tTNode)) (lp6 : List (tDecl) -> Int -> Int -> Int -> List Int -> List Bool -> List (tTNode) -> (Int -> List Int -> List Bool -> Prop) -> (Bool -> List Int -> Prop) -> Prop) (n : Nat) : Prop :=
 (grd ((decide (0 <= (a2.length : Int)) && decide ((a2.length : Int) <= 7818749353073)) && decide ((a2.length : Int) = (a2.length : Int))) (let t243 : List Int := List.replicate (Int.toNat (a2.length : Int)) 0; grd ((decide (0 <= (a2.length : Int)) && decide ((a2.length : Int) <= 35184372088832)) && decide ((a2.length : Int) = (a2.length : Int))) (let t244 : List Bool := List.replicate (Int.toNat (a2.length : Int)) false; Z32.j0 K a1 a2 lp6 n t243 t244))) /\ (grd ((decide (0 <= (a2.length : Int)) && decide ((a2.length : Int) <= 35184372088832)) && decide ((a2.length : Int) = (a2.length : Int))) (let t245 : List Bool := List.replicate (Int.toNat (a2.length : Int)) false; grd ((decide (0 <= (a2.length : Int)) && decide ((a2.length : Int) <= 7818749353073)) && decide ((a2.length : Int) = (a2.length : Int))) (let t246 : List Int := List.replicate (Int.toNat (a2.length : Int)) 0; Z32.j0 K a1 a2 lp6 n t246 t245)))
def Z32.w (n : Nat) (lp6 : List (tDecl) -> Int -> Int -> Int -> List Int -> List Bool -> List (tTNode) -> (Int -> List Int -> List Bool -> Prop) -> (Bool -> List Int -> Prop) -> Prop) (a1 : List (tDecl)) (a2 : List (tTNode)) (K : List Int -> Bool -> Prop) : Prop :=
 if (decide ((a2.length : Int) < 1)) = false then (if (decide ((a2.length : Int) > 400)) = true then (K ([] : List (Int)) false) else (Z32.j1 K a1 a2 lp6 n)) else (K ([] : List (Int)) false)
def Z32.c : Nat -> List (tDecl) -> List (tTNode) -> (List Int -> Bool -> Prop) -> Prop
 | 0, _, _, _ => False
 | n + 1, a1, a2, K => Z32.w n (Z32.l6 n) a1 a2 K
def Z31.w (n : Nat) (a1 : List (tDecl)) (a2 : List (tTNode)) (K : Int -> Prop) : Prop :=
 Z32.c n a1 a2 (fun r3 r4 => if (!r4) = true then (K (-1)) else (grd (decide (0 <= IntKind.wrap .i64 ((r3.length : Int) - 1)) && decide (IntKind.wrap .i64 ((r3.length : Int) - 1) < (r3.length : Int))) (let t5 : Nat := Int.toNat (IntKind.wrap .i64 ((r3.length : Int) - 1)); K (rd r3 t5))))
def Z31.c : Nat -> List (tDecl) -> List (tTNode) -> (Int -> Prop) -> Prop
 | 0, _, _, _ => False
 | n + 1, a1, a2, K => Z31.w n  a1 a2 K
def Z25.l5.b (n : Nat) (x34 : List (tDecl)) (x36 : List (tLiteral)) (x37 : Int) (again5 : Int -> Int -> Prop) (x35 : Int) (x38 : Int) (Kx0w5 : Prop) (Kr5 : Bool -> Prop) : Prop :=
 if (decide (x38 < x37)) = true then (grd (decide (0 <= x38) && decide (x38 < (x36.length : Int))) (let t52 : List (tTNode) := ([] : List (tTNode)); let t53 : List (tTNode) := ([] : List (tTNode)); Z31.c n x34 ((((rd x36 (Int.toNat x38)).2).2).1) (fun r54 => Z24.c n ((rd x36 (Int.toNat x38)).1) (IntKind.wrap .i64 (x35 + 1)) 1000000 (fun r63 => if (!r63) = false then (if (decide (r54 < 0)) = false then (Z31.c n x34 ((((rd x36 (Int.toNat x38)).2).2).2) (fun r64 => if (!(decide (r54 = r64))) = true then (Kr5 false) else (again5 ((rd x36 (Int.toNat x38)).1) (IntKind.wrap .i64 (x38 + 1))))) else (Kr5 false)) else (Kr5 false))))) else (Kx0w5)
def Z25.l5 : Nat -> List (tDecl) -> List (tLiteral) -> Int -> Int -> Int -> Prop -> (Bool -> Prop) -> Prop
 | 0, _, _, _, _, _, _, _ => False
 | n + 1, x34, x36, x37, x35, x38, Kx0w5, Kr5 => Z25.l5.b n  x34 x36 x37 (fun x35q x38q => Z25.l5 n x34 x36 x37 x35q x38q Kx0w5 Kr5) x35 x38 Kx0w5 Kr5
def Z25.w (n : Nat) (lp5 : List (tDecl) -> List (tLiteral) -> Int -> Int -> Int -> Prop -> (Bool -> Prop) -> Prop) (a1 : List (tDecl)) (a2 : List (tLiteral)) (K : Bool -> Prop) : Prop :=
 if (decide ((a2.length : Int) > 60)) = true then (K false) else (lp5 a1 a2 (a2.length : Int) 0 0 (K true) (fun y66 => K y66))
def Z25.c : Nat -> List (tDecl) -> List (tLiteral) -> (Bool -> Prop) -> Prop
 | 0, _, _, _ => False
 | n + 1, a1, a2, K => Z25.w n (Z25.l5 n) a1 a2 K
def Z34.w (n : Nat) (a1 : Int) (K : Int -> List Int -> Prop) : Prop :=
 Z33.c n a1 (fun r2 => grd ((decide (0 <= r2) && decide (r2 <= 7818749353073)) && decide (r2 = r2)) (K a1 (List.replicate (Int.toNat r2) 0)))
def Z34.c : Nat -> Int -> (Int -> List Int -> Prop) -> Prop
 | 0, _, _ => False
 | n + 1, a1, K => Z34.w n  a1 K
def Z5.j3 (again2 : Int -> List Int -> Prop) (t65 : Int) (t73 : List Int) (x44 : List Int) (x46 : Int) (j75 : Bool) : Prop :=
 if j75 = true then (let t76 : Int := IntKind.wrap .i64 ((IntKind.wrap .i64 (Int.tdiv t65 64)) + 1); grd (decide (0 <= t76) && decide (t76 < (t73.length : Int))) (grd (decide (0 <= IntKind.wrap .i64 (64 - (Int.tmod t65 64)))) (let t77 : Int := Int.fdiv (rd x44 (Int.toNat x46)) (2 ^ (Nat.min (Int.toNat (IntKind.wrap .i64 (64 - (Int.tmod t65 64)))) 64)); grd (decide (0 <= t76) && decide (t76 < (t73.length : Int))) (let t78 : List Int := List.set t73 (Int.toNat t76) (ibits .or .u64 (rd t73 (Int.toNat t76)) t77); again2 (IntKind.wrap .i64 (x46 + 1)) t78)))) else (again2 (IntKind.wrap .i64 (x46 + 1)) t73)
def Z5.l2.b (n : Nat) (x43 : Int) (x44 : List Int) (x45 : Int) (x48 : Int) (again2 : Int -> List Int -> Prop) (x46 : Int) (x47 : List Int) (Kx0w2 : List Int -> Prop) : Prop :=
 if (decide (x46 < x45)) = true then (grd (decide (0 <= x46) && decide (x46 < (x44.length : Int))) (let t65 : Int := IntKind.wrap .i64 (x43 + (IntKind.wrap .i64 (64 * x46))); grd (decide (0 <= IntKind.wrap .i64 (Int.tdiv t65 64)) && decide (IntKind.wrap .i64 (Int.tdiv t65 64) < (x47.length : Int))) (let t70 : Nat := Int.toNat (IntKind.wrap .i64 (Int.tdiv t65 64)); grd (decide (0 <= Int.tmod t65 64)) (let t71 : Int := IntKind.wrap .u64 ((rd x44 (Int.toNat x46)) * 2 ^ (Nat.min (Int.toNat (Int.tmod t65 64)) 64)); grd (decide (0 <= IntKind.wrap .i64 (Int.tdiv t65 64)) && decide (IntKind.wrap .i64 (Int.tdiv t65 64) < (x47.length : Int))) (let t72 : Nat := Int.toNat (IntKind.wrap .i64 (Int.tdiv t65 64)); let t73 : List Int := List.set x47 t72 (ibits .or .u64 (rd x47 t70) t71); if (!(decide (Int.tmod t65 64 = 0))) = true then (let t79 : Int := IntKind.wrap .i64 ((IntKind.wrap .i64 (Int.tdiv t65 64)) + 1); Z5.j3 again2 t65 t73 x44 x46 (decide (t79 < (t73.length : Int)))) else (Z5.j3 again2 t65 t73 x44 x46 false)))))) else (Kx0w2 x47)
def Z5.l2 : Nat -> Int -> List Int -> Int -> Int -> Int -> List Int -> (List Int -> Prop) -> Prop
 | 0, _, _, _, _, _, _, _ => False
 | n + 1, x43, x44, x45, x48, x46, x47, Kx0w2 => Z5.l2.b n  x43 x44 x45 x48 (fun x46q x47q => Z5.l2 n x43 x44 x45 x48 x46q x47q Kx0w2) x46 x47 Kx0w2
def Z5.w (n : Nat) (lp2 : Int -> List Int -> Int -> Int -> Int -> List Int -> (List Int -> Prop) -> Prop) (a1 : Int) (a2 : List Int) (a3 : Int) (a4 : Int) (a5 : List Int) (K : Int -> List Int -> Prop) : Prop :=
 lp2 a3 a5 (a5.length : Int) a1 0 a2 (fun y80 => K a1 y80)
def Z5.c : Nat -> Int -> List Int -> Int -> Int -> List Int -> (Int -> List Int -> Prop) -> Prop
 | 0, _, _, _, _, _, _ => False
 | n + 1, a1, a2, a3, a4, a5, K => Z5.w n (Z5.l2 n) a1 a2 a3 a4 a5 K
def Z4.w (n : Nat) (a1 : Int) (a2 : List Int) (a3 : Int) (a4 : List Int) (K : Int -> List Int -> Prop) : Prop :=
 Z34.c n (IntKind.wrap .i64 (a1 + a3)) (fun r5 r6 => Z5.c n r5 r6 0 a3 a4 (fun r7 r8 => Z5.c n r5 r8 a3 a1 a2 (fun r9 r10 => K r5 r10)))
def Z4.c : Nat -> Int -> List Int -> Int -> List Int -> (Int -> List Int -> Prop) -> Prop
 | 0, _, _, _, _, _ => False
 | n + 1, a1, a2, a3, a4, K => Z4.w n  a1 a2 a3 a4 K
def Z3.j3 (again3 : Int -> List Int -> Prop) (t65 : Int) (t69 : Int) (x45 : Int) (x46 : List Int) (x49 : List Int) (j71 : Bool) : Prop :=
 if j71 = true then (grd (decide (0 <= x45) && decide (x45 < ((List.set x46 (Int.toNat x45) t69).length : Int))) (let t72 : Int := rd (List.set x46 (Int.toNat x45) t69) (Int.toNat x45); let t73 : Int := IntKind.wrap .i64 ((IntKind.wrap .i64 (Int.tdiv t65 64)) + 1); grd (decide (0 <= t73) && decide (t73 < (x49.length : Int))) (grd (decide (0 <= IntKind.wrap .i64 (64 - (Int.tmod t65 64)))) (let t74 : Int := IntKind.wrap .u64 ((rd x49 (Int.toNat t73)) * 2 ^ (Nat.min (Int.toNat (IntKind.wrap .i64 (64 - (Int.tmod t65 64)))) 64)); grd (decide (0 <= x45) && decide (x45 < ((List.set x46 (Int.toNat x45) t69).length : Int))) (let t75 : List Int := List.set (List.set x46 (Int.toNat x45) t69) (Int.toNat x45) (ibits .or .u64 t72 t74); again3 (IntKind.wrap .i64 (x45 + 1)) t75))))) else (again3 (IntKind.wrap .i64 (x45 + 1)) (List.set x46 (Int.toNat x45) t69))
def Z3.l3.b (n : Nat) (x42 : Int) (x43 : Int) (x44 : Int) (x47 : List Int) (x48 : Int) (x49 : List Int) (x50 : Int) (x51 : Int) (again3 : Int -> List Int -> Prop) (x45 : Int) (x46 : List Int) (Kx0w3 : Int -> List Int -> List Int -> Int -> Int -> Prop) : Prop :=
 if (decide (x45 < x44)) = true then (let t65 : Int := IntKind.wrap .i64 (x42 + (IntKind.wrap .i64 (64 * x45))); grd (decide (0 <= IntKind.wrap .i64 (Int.tdiv t65 64)) && decide (IntKind.wrap .i64 (Int.tdiv t65 64) < (x49.length : Int))) (let t68 : Int := rd x49 (Int.toNat (IntKind.wrap .i64 (Int.tdiv t65 64))); grd (decide (0 <= Int.tmod t65 64)) (let t69 : Int := Int.fdiv t68 (2 ^ (Nat.min (Int.toNat (Int.tmod t65 64)) 64)); grd (decide (0 <= x45) && decide (x45 < (x46.length : Int))) (if (!(decide (Int.tmod t65 64 = 0))) = true then (let t76 : Int := IntKind.wrap .i64 ((IntKind.wrap .i64 (Int.tdiv t65 64)) + 1); Z3.j3 again3 t65 t69 x45 x46 x49 (decide (t76 < (x49.length : Int)))) else (Z3.j3 again3 t65 t69 x45 x46 x49 false))))) else (Kx0w3 x43 x46 x47 x50 x51)
def Z3.l3 : Nat -> Int -> Int -> Int -> List Int -> Int -> List Int -> Int -> Int -> Int -> List Int -> (Int -> List Int -> List Int -> Int -> Int -> Prop) -> Prop
 | 0, _, _, _, _, _, _, _, _, _, _, _ => False
 | n + 1, x42, x43, x44, x47, x48, x49, x50, x51, x45, x46, Kx0w3 => Z3.l3.b n  x42 x43 x44 x47 x48 x49 x50 x51 (fun x45q x46q => Z3.l3 n x42 x43 x44 x47 x48 x49 x50 x51 x45q x46q Kx0w3) x45 x46 Kx0w3
def Z3.w (n : Nat) (lp3 : Int -> Int -> Int -> List Int -> Int -> List Int -> Int -> Int -> Int -> List Int -> (Int -> List Int -> List Int -> Int -> Int -> Prop) -> Prop) (a1 : Int) (a2 : List Int) (a3 : Int) (a4 : Int) (K : Int -> List Int -> Prop) : Prop :=
 Z34.c n a4 (fun r5 r6 => lp3 a3 a4 (r6.length : Int) ([] : List (Int)) a1 a2 0 r5 0 r6 (fun y82 y83 y84 y85 y86 => if (!(decide (Int.tmod y82 64 = 0))) = true then (grd (decide (0 <= IntKind.wrap .i64 ((y83.length : Int) - 1)) && decide (IntKind.wrap .i64 ((y83.length : Int) - 1) < (y83.length : Int))) (let t92 : Nat := Int.toNat (IntKind.wrap .i64 ((y83.length : Int) - 1)); grd (decide (0 <= Int.tmod y82 64)) (let t93 : Int := IntKind.wrap .u64 (1 * 2 ^ (Nat.min (Int.toNat (Int.tmod y82 64)) 64)); let t94 : Int := ibits .and .u64 (rd y83 t92) (IntKind.wrap .u64 (t93 - 1)); grd (decide (0 <= IntKind.wrap .i64 ((y83.length : Int) - 1)) && decide (IntKind.wrap .i64 ((y83.length : Int) - 1) < (y83.length : Int))) (let t95 : Nat := Int.toNat (IntKind.wrap .i64 ((y83.length : Int) - 1)); K y86 (List.set y83 t95 t94))))) else (K y86 y83)))
def Z3.c : Nat -> Int -> List Int -> Int -> Int -> (Int -> List Int -> Prop) -> Prop
 | 0, _, _, _, _, _ => False
 | n + 1, a1, a2, a3, a4, K => Z3.w n (Z3.l3 n) a1 a2 a3 a4 K
def Z76.w (n : Nat) (a1 : List Int) (K : List Int -> Prop) : Prop :=
 (a1.length = 0 -> (K ([] : List (Int)))) /\ (grd (decide (([] : List (Int)).length + a1.length <= 7818749353073)) (K (([] : List (Int)) ++ a1)))
def Z76.c : Nat -> List Int -> (List Int -> Prop) -> Prop
 | 0, _, _ => False
 | n + 1, a1, K => Z76.w n  a1 K
def Z19.w (n : Nat) (a1 : Int) (a2 : List Int) (K : Int -> List Int -> Prop) : Prop :=
 (Z76.c n a2 (fun r6 => K a1 r6)) /\ (Z76.c n a2 (fun r7 => K a1 r7))
def Z19.c : Nat -> Int -> List Int -> (Int -> List Int -> Prop) -> Prop
 | 0, _, _, _ => False
 | n + 1, a1, a2, K => Z19.w n  a1 a2 K
def Z9.w (n : Nat) (a1 : Int) (a2 : List Int) (a3 : Int) (K : Int -> List Int -> Prop) : Prop :=
 grd (!(decide (a1 = 0))) (if (decide (Int.tmod a3 a1 = 0)) = true then (Z19.c n a1 a2 (fun r6 r7 => K r6 r7)) else (let p75 : Prop := (let p61 : Prop := (Z3.c n a1 a2 0 (IntKind.wrap .i64 (a1 - (Int.tmod a3 a1))) (fun r49 r50 => Z3.c n a1 a2 (IntKind.wrap .i64 (a1 - (Int.tmod a3 a1))) (Int.tmod a3 a1) (fun r51 r52 => Z4.c n r49 r50 r51 r52 (fun r53 r54 => K r53 r54)))); (p61 /\ p61)); ((Z3.c n a1 a2 0 (IntKind.wrap .i64 (a1 - (Int.tmod a3 a1))) (fun r43 r44 => Z3.c n a1 a2 (IntKind.wrap .i64 (a1 - (Int.tmod a3 a1))) (Int.tmod a3 a1) (fun r45 r46 => Z4.c n r43 r44 r45 r46 (fun r47 r48 => K r47 r48)))) /\ p75 /\ p75)))
def Z9.c : Nat -> Int -> List Int -> Int -> (Int -> List Int -> Prop) -> Prop
 | 0, _, _, _, _ => False
 | n + 1, a1, a2, a3, K => Z9.w n  a1 a2 a3 K
def Z6.l3.b (n : Nat) (x18 : Int) (x21 : List Int) (x22 : Int) (x23 : List Int) (x24 : Int) (x25 : Int) (again3 : Int -> List Int -> Prop) (x19 : Int) (x20 : List Int) (Kx0w3 : List Int -> List Int -> Int -> Int -> Prop) : Prop :=
 if (decide (x19 < x18)) = true then (Z5.c n x25 x20 (IntKind.wrap .i64 (x19 * x22)) x22 x23 (fun r28 r29 => again3 (IntKind.wrap .i64 (x19 + 1)) r29)) else (Kx0w3 x20 x21 x24 x25)
def Z6.l3 : Nat -> Int -> List Int -> Int -> List Int -> Int -> Int -> Int -> List Int -> (List Int -> List Int -> Int -> Int -> Prop) -> Prop
 | 0, _, _, _, _, _, _, _, _, _ => False
 | n + 1, x18, x21, x22, x23, x24, x25, x19, x20, Kx0w3 => Z6.l3.b n  x18 x21 x22 x23 x24 x25 (fun x19q x20q => Z6.l3 n x18 x21 x22 x23 x24 x25 x19q x20q Kx0w3) x19 x20 Kx0w3
def Z6.w (n : Nat) (lp3 : Int -> List Int -> Int -> List Int -> Int -> Int -> Int -> List Int -> (List Int -> List Int -> Int -> Int -> Prop) -> Prop) (a1 : Int) (a2 : List Int) (a3 : Int) (K : Int -> List Int -> Prop) : Prop :=
 Z34.c n (IntKind.wrap .i64 (a3 * a1)) (fun r4 r5 => lp3 a3 ([] : List (Int)) a1 a2 0 r4 0 r5 (fun y34 y35 y36 y37 => K y37 y34))
def Z6.c : Nat -> Int -> List Int -> Int -> (Int -> List Int -> Prop) -> Prop
 | 0, _, _, _, _ => False
 | n + 1, a1, a2, a3, K => Z6.w n (Z6.l3 n) a1 a2 a3 K
def Z2.w (n : Nat) (a1 : Int) (a2 : List Int) (a3 : Int) (K : Int -> Prop) : Prop :=
 grd (decide (0 <= IntKind.wrap .i64 (Int.tdiv a3 64)) && decide (IntKind.wrap .i64 (Int.tdiv a3 64) < (a2.length : Int))) (let t4 : Int := rd a2 (Int.toNat (IntKind.wrap .i64 (Int.tdiv a3 64))); grd (decide (0 <= Int.tmod a3 64)) (let t5 : Int := Int.fdiv t4 (2 ^ (Nat.min (Int.toNat (Int.tmod a3 64)) 64)); K (ibits .and .u64 t5 1)))
def Z2.c : Nat -> Int -> List Int -> Int -> (Int -> Prop) -> Prop
 | 0, _, _, _, _ => False
 | n + 1, a1, a2, a3, K => Z2.w n  a1 a2 a3 K
def Z8.w (n : Nat) (a1 : Int) (a2 : List Int) (a3 : Int) (K : Int -> List Int -> Prop) : Prop :=
 grd (decide (0 <= IntKind.wrap .i64 (Int.tdiv a3 64)) && decide (IntKind.wrap .i64 (Int.tdiv a3 64) < (a2.length : Int))) (let t4 : Nat := Int.toNat (IntKind.wrap .i64 (Int.tdiv a3 64)); grd (decide (0 <= Int.tmod a3 64)) (let t5 : Int := IntKind.wrap .u64 (1 * 2 ^ (Nat.min (Int.toNat (Int.tmod a3 64)) 64)); grd (decide (0 <= IntKind.wrap .i64 (Int.tdiv a3 64)) && decide (IntKind.wrap .i64 (Int.tdiv a3 64) < (a2.length : Int))) (let t6 : Nat := Int.toNat (IntKind.wrap .i64 (Int.tdiv a3 64)); let t7 : List Int := List.set a2 t6 (ibits .or .u64 (rd a2 t4) t5); K a1 t7)))
def Z8.c : Nat -> Int -> List Int -> Int -> (Int -> List Int -> Prop) -> Prop
 | 0, _, _, _, _ => False
 | n + 1, a1, a2, a3, K => Z8.w n  a1 a2 a3 K
def Z10.l5.b (n : Nat) (x23 : Int) (x26 : List Int) (x27 : Int) (x28 : List Int) (x29 : Int) (x30 : Int) (again5 : Int -> List Int -> Prop) (x24 : Int) (x25 : List Int) (Kx0w5 : List Int -> List Int -> Int -> Int -> Prop) : Prop :=
 if (decide (x24 < x23)) = true then (Z8.c n x30 x25 (IntKind.wrap .i64 (x27 + x24)) (fun r33 r34 => again5 (IntKind.wrap .i64 (x24 + 1)) r34)) else (Kx0w5 x25 x26 x29 x30)
def Z10.l5 : Nat -> Int -> List Int -> Int -> List Int -> Int -> Int -> Int -> List Int -> (List Int -> List Int -> Int -> Int -> Prop) -> Prop
 | 0, _, _, _, _, _, _, _, _, _ => False
 | n + 1, x23, x26, x27, x28, x29, x30, x24, x25, Kx0w5 => Z10.l5.b n  x23 x26 x27 x28 x29 x30 (fun x24q x25q => Z10.l5 n x23 x26 x27 x28 x29 x30 x24q x25q Kx0w5) x24 x25 Kx0w5
def Z10.w (n : Nat) (lp5 : Int -> List Int -> Int -> List Int -> Int -> Int -> Int -> List Int -> (List Int -> List Int -> Int -> Int -> Prop) -> Prop) (a1 : Int) (a2 : List Int) (a3 : Int) (a4 : Bool) (K : Int -> List Int -> Prop) : Prop :=
 Z34.c n (IntKind.wrap .i64 (a1 + a3)) (fun r5 r6 => Z5.c n r5 r6 0 a1 a2 (fun r7 r8 => if a4 = true then (Z2.c n a1 a2 (IntKind.wrap .i64 (a1 - 1)) (fun r54 => if (decide (r54 = 1)) = true then (lp5 a3 ([] : List (Int)) a1 a2 0 r5 0 r8 (fun y55 y56 y57 y58 => K y58 y55)) else (K r5 r8))) else (K r5 r8)))
def Z10.c : Nat -> Int -> List Int -> Int -> Bool -> (Int -> List Int -> Prop) -> Prop
 | 0, _, _, _, _, _ => False
 | n + 1, a1, a2, a3, a4, K => Z10.w n (Z10.l5 n) a1 a2 a3 a4 K
def Z16.l9.b (n : Nat) (x16 : List (tBits)) (x17 : Int) (x19 : List Int) (x20 : Int) (again9 : Int -> Int -> List Int -> Prop) (x18 : Int) (x21 : Int) (x22 : List Int) (Kx1w9 : List Int -> Int -> Int -> List Int -> Prop) : Prop :=
 if (decide (x18 < x17)) = true then (grd (decide (0 <= x18) && decide (x18 < (x16.length : Int))) (Z4.c n x21 x22 ((rd x16 (Int.toNat x18)).1) ((rd x16 (Int.toNat x18)).2) (fun r25 r26 => again9 (IntKind.wrap .i64 (x18 + 1)) r25 r26))) else (Kx1w9 x19 x20 x21 x22)
def Z16.l9 : Nat -> List (tBits) -> Int -> List Int -> Int -> Int -> Int -> List Int -> (List Int -> Int -> Int -> List Int -> Prop) -> Prop
 | 0, _, _, _, _, _, _, _, _ => False
 | n + 1, x16, x17, x19, x20, x18, x21, x22, Kx1w9 => Z16.l9.b n  x16 x17 x19 x20 (fun x18q x21q x22q => Z16.l9 n x16 x17 x19 x20 x18q x21q x22q Kx1w9) x18 x21 x22 Kx1w9
def Z16.w (n : Nat) (lp9 : List (tBits) -> Int -> List Int -> Int -> Int -> Int -> List Int -> (List Int -> Int -> Int -> List Int -> Prop) -> Prop) (a1 : tTNode) (a2 : List (tBits)) (a3 : List (tBits)) (K : Int -> List Int -> Prop) : Prop :=
 if (decide (a1.1 = 1)) = true then (grd (decide (0 <= a1.2.1) && decide (a1.2.1 < (a2.length : Int))) (K ((rd a2 (Int.toNat a1.2.1)).1) ((rd a2 (Int.toNat a1.2.1)).2))) else (if (decide (a1.1 = 2)) = true then (K a1.2.2.2.2.1 a1.2.2.2.2.2.1) else (if (decide (a1.1 = 3)) = true then (grd (decide (0 < (a3.length : Int))) (grd (decide (1 <= (a3.length : Int))) (let t41 : List (tBits) := List.drop 1 (List.take (Int.toNat (a3.length : Int)) a3); lp9 t41 (t41.length : Int) ([] : List (Int)) 0 0 ((rd a3 0).1) ((rd a3 0).2) (fun y42 y43 y44 y45 => K y44 y45)))) else (grd (decide (0 < (a3.length : Int))) (if (decide (a1.1 = 4)) = true then (let t69 : Int := IntKind.wrap .i64 ((IntKind.wrap .i64 (a1.2.2.1 - a1.2.2.2.1)) + 1); Z3.c n ((rd a3 0).1) ((rd a3 0).2) a1.2.2.2.1 t69 (fun r70 r71 => K r70 r71)) else (if (decide (a1.1 = 7)) = true then (Z9.c n ((rd a3 0).1) ((rd a3 0).2) a1.2.2.1 (fun r74 r75 => K r74 r75)) else (if (decide (a1.1 = 8)) = true then (grd (!(decide ((rd a3 0).1 = 0))) (let t79 : Int := IntKind.wrap .i64 (((rd a3 0).1) - (Int.tmod a1.2.2.1 ((rd a3 0).1))); Z9.c n ((rd a3 0).1) ((rd a3 0).2) t79 (fun r80 r81 => K r80 r81))) else (if (decide (a1.1 = 9)) = true then (Z6.c n ((rd a3 0).1) ((rd a3 0).2) a1.2.2.1 (fun r84 r85 => K r84 r85)) else (Z10.c n ((rd a3 0).1) ((rd a3 0).2) a1.2.2.1 (decide (a1.1 = 6)) (fun r88 r89 => K r88 r89)))))))))
def Z16.c : Nat -> tTNode -> List (tBits) -> List (tBits) -> (Int -> List Int -> Prop) -> Prop
 | 0, _, _, _, _ => False
 | n + 1, a1, a2, a3, K => Z16.w n (Z16.l9 n) a1 a2 a3 K
def Z23.l8.b (n : Nat) (x31 : List (tBits)) (x32 : Int) (x33 : tTNode) (x34 : Int) (x35 : Int) (x36 : List Int) (x37 : Int) (x39 : List (tBits)) (x41 : List Int) (x42 : List (tTNode)) (x43 : Int) (again8 : Int -> List (tBits) -> Prop) (x38 : Int) (x40 : List (tBits)) (Kx2w8 : List (tBits) -> Int -> tTNode -> Int -> Int -> List (tBits) -> List (tBits) -> List Int -> List (tTNode) -> Int -> Prop) : Prop :=
 if (decide (x38 < x37)) = true then (grd (decide (0 <= x38) && decide (x38 < (x36.length : Int))) (grd (decide (0 <= rd x36 (Int.toNat x38)) && decide (rd x36 (Int.toNat x38) < (x39.length : Int))) (let t46 : Int := (rd x39 (Int.toNat (rd x36 (Int.toNat x38)))).1; let t47 : List Int := (rd x39 (Int.toNat (rd x36 (Int.toNat x38)))).2; grd (decide (0 <= x38) && decide (x38 < (x40.length : Int))) (again8 (IntKind.wrap .i64 (x38 + 1)) (List.set x40 (Int.toNat x38) (t46, t47)))))) else (Kx2w8 x31 x32 x33 x34 x35 x39 x40 x41 x42 x43)
def Z23.l8 : Nat -> List (tBits) -> Int -> tTNode -> Int -> Int -> List Int -> Int -> List (tBits) -> List Int -> List (tTNode) -> Int -> Int -> List (tBits) -> (List (tBits) -> Int -> tTNode -> Int -> Int -> List (tBits) -> List (tBits) -> List Int -> List (tTNode) -> Int -> Prop) -> Prop
 | 0, _, _, _, _, _, _, _, _, _, _, _, _, _, _ => False
 | n + 1, x31, x32, x33, x34, x35, x36, x37, x39, x41, x42, x43, x38, x40, Kx2w8 => Z23.l8.b n  x31 x32 x33 x34 x35 x36 x37 x39 x41 x42 x43 (fun x38q x40q => Z23.l8 n x31 x32 x33 x34 x35 x36 x37 x39 x41 x42 x43 x38q x40q Kx2w8) x38 x40 Kx2w8
def Z23.l3.b (n : Nat) (lp8 : List (tBits) -> Int -> tTNode -> Int -> Int -> List Int -> Int -> List (tBits) -> List Int -> List (tTNode) -> Int -> Int -> List (tBits) -> (List (tBits) -> Int -> tTNode -> Int -> Int -> List (tBits) -> List (tBits) -> List Int -> List (tTNode) -> Int -> Prop) -> Prop) (again3 : List (tBits) -> Int -> Int -> List (tBits) -> List Int -> List (tTNode) -> Int -> Prop) (x97 : List (tBits)) (x98 : Int) (x99 : Int) (x100 : List (tBits)) (x101 : List Int) (x102 : List (tTNode)) (x103 : Int) (Kx0w3 : List (tBits) -> List Int -> Int -> Prop) : Prop :=
 if (decide (x99 < x98)) = true then (grd (decide (0 <= x99) && decide (x99 < (x102.length : Int))) (let t130 : List Int := ((((((rd x102 (Int.toNat x99)).2).2).2).2).2).2; grd ((decide (0 <= (t130.length : Int)) && decide ((t130.length : Int) <= 2132386187201)) && decide ((t130.length : Int) = (t130.length : Int))) (let t131 : List (tBits) := List.replicate (Int.toNat (t130.length : Int)) (0, ([] : List (Int))); let t143 : List Int := ((((((rd x102 (Int.toNat x99)).2).2).2).2).2).2; lp8 x97 x99 (rd x102 (Int.toNat x99)) x98 x99 t143 (t143.length : Int) x100 x101 x102 x103 0 t131 (fun y144 y145 y146 y147 y148 y149 y150 y151 y152 y153 => Z16.c n y146 y144 y150 (fun r154 r155 => grd (decide (0 <= y145) && decide (y145 < (y149.length : Int))) (again3 y144 y147 (IntKind.wrap .i64 (y148 + 1)) (List.set y149 (Int.toNat y145) (r154, r155)) y151 y152 y153)))))) else (Kx0w3 x100 x101 x103)
def Z23.l3 : Nat -> List (tBits) -> Int -> Int -> List (tBits) -> List Int -> List (tTNode) -> Int -> (List (tBits) -> List Int -> Int -> Prop) -> Prop
 | 0, _, _, _, _, _, _, _, _ => False
 | n + 1, x97, x98, x99, x100, x101, x102, x103, Kx0w3 => Z23.l3.b n (Z23.l8 n)  (fun x97q x98q x99q x100q x101q x102q x103q => Z23.l3 n x97q x98q x99q x100q x101q x102q x103q Kx0w3) x97 x98 x99 x100 x101 x102 x103 Kx0w3
def Z23.w (n : Nat) (lp3 : List (tBits) -> Int -> Int -> List (tBits) -> List Int -> List (tTNode) -> Int -> (List (tBits) -> List Int -> Int -> Prop) -> Prop) (a1 : List (tBits)) (a2 : List (tTNode)) (K : Int -> List Int -> Prop) : Prop :=
 grd ((decide (0 <= (a2.length : Int)) && decide ((a2.length : Int) <= 2132386187201)) && decide ((a2.length : Int) = (a2.length : Int))) (let t3 : List (tBits) := List.replicate (Int.toNat (a2.length : Int)) (0, ([] : List (Int))); lp3 a1 (a2.length : Int) 0 t3 ([] : List (Int)) a2 0 (fun y159 y160 y161 => grd (decide (0 <= IntKind.wrap .i64 ((y159.length : Int) - 1)) && decide (IntKind.wrap .i64 ((y159.length : Int) - 1) < (y159.length : Int))) (let t162 : Nat := Int.toNat (IntKind.wrap .i64 ((y159.length : Int) - 1)); Z19.c n ((rd y159 t162).1) ((rd y159 t162).2) (fun r163 r164 => K r163 r164))))
def Z23.c : Nat -> List (tBits) -> List (tTNode) -> (Int -> List Int -> Prop) -> Prop
 | 0, _, _, _ => False
 | n + 1, a1, a2, K => Z23.w n (Z23.l3 n) a1 a2 K
def Z79.l4.b (n : Nat) (x13 : List Int) (x14 : List Int) (x15 : Int) (again4 : Int -> Prop) (x16 : Int) (Kx0w4 : Prop) (Kr4 : Bool -> Prop) : Prop :=
 if (decide (x16 < x15)) = true then (grd (decide (0 <= x16) && decide (x16 < (x13.length : Int))) (grd (decide (0 <= x16) && decide (x16 < (x14.length : Int))) (let t20 : Bool := !(decide (rd x13 (Int.toNat x16) = rd x14 (Int.toNat x16))); if t20 = true then (Kr4 false) else (again4 (IntKind.wrap .i64 (x16 + 1)))))) else (Kx0w4)
def Z79.l4 : Nat -> List Int -> List Int -> Int -> Int -> Prop -> (Bool -> Prop) -> Prop
 | 0, _, _, _, _, _, _ => False
 | n + 1, x13, x14, x15, x16, Kx0w4, Kr4 => Z79.l4.b n  x13 x14 x15 (fun x16q => Z79.l4 n x13 x14 x15 x16q Kx0w4 Kr4) x16 Kx0w4 Kr4
def Z79.w (n : Nat) (lp4 : List Int -> List Int -> Int -> Int -> Prop -> (Bool -> Prop) -> Prop) (a1 : List Int) (a2 : List Int) (K : Bool -> Prop) : Prop :=
 let t4 : Bool := !(decide ((a1.length : Int) = (a2.length : Int))); if t4 = true then (K false) else (lp4 a1 a2 (a1.length : Int) 0 (K true) (fun y22 => K y22))
def Z79.c : Nat -> List Int -> List Int -> (Bool -> Prop) -> Prop
 | 0, _, _, _ => False
 | n + 1, a1, a2, K => Z79.w n (Z79.l4 n) a1 a2 K
def Z7.w (n : Nat) (a1 : Int) (a2 : List Int) (a3 : Int) (a4 : List Int) (K : Bool -> Prop) : Prop :=
 if (decide (a1 = a3)) = true then (Z79.c n a2 a4 (fun r7 => K r7)) else (K false)
def Z7.c : Nat -> Int -> List Int -> Int -> List Int -> (Bool -> Prop) -> Prop
 | 0, _, _, _, _, _ => False
 | n + 1, a1, a2, a3, a4, K => Z7.w n  a1 a2 a3 a4 K
def Z12.w (n : Nat) (a1 : tLiteral) (a2 : List (tBits)) (K : Bool -> Prop) : Prop :=
 (Z23.c n a2 a1.2.2.1 (fun r38 r39 => (Z23.c n a2 a1.2.2.2 (fun r40 r41 => (Z7.c n r38 r39 r40 r41 (fun r42 => K (r42 == a1.2.1))) /\ (Z7.c n r38 r39 r40 r41 (fun r43 => K (r43 == a1.2.1))))) /\ (Z23.c n a2 a1.2.2.2 (fun r44 r45 => Z7.c n r38 r39 r44 r45 (fun r46 => K (r46 == a1.2.1)))))) /\ ((Z23.c n a2 a1.2.2.1 (fun r47 r48 => (Z23.c n a2 a1.2.2.2 (fun r49 r50 => (Z7.c n r47 r48 r49 r50 (fun r51 => K (r51 == a1.2.1))) /\ (Z7.c n r47 r48 r49 r50 (fun r52 => K (r52 == a1.2.1))))) /\ (Z23.c n a2 a1.2.2.2 (fun r53 r54 => Z7.c n r47 r48 r53 r54 (fun r55 => K (r55 == a1.2.1)))))) /\ (Z23.c n a2 a1.2.2.1 (fun r56 r57 => Z23.c n a2 a1.2.2.2 (fun r58 r59 => Z7.c n r56 r57 r58 r59 (fun r60 => K (r60 == a1.2.1)))))) /\ (let p71 : Prop := (Z23.c n a2 a1.2.2.1 (fun r61 r62 => Z23.c n a2 a1.2.2.2 (fun r63 r64 => Z7.c n r61 r62 r63 r64 (fun r65 => K (r65 == a1.2.1))))); (p71 /\ p71))
def Z12.c : Nat -> tLiteral -> List (tBits) -> (Bool -> Prop) -> Prop
 | 0, _, _, _ => False
 | n + 1, a1, a2, K => Z12.w n  a1 a2 K
def Z39.l4.b (n : Nat) (x12 : List Int) (x13 : List Int) (again4 : Int -> Prop) (x14 : Int) (Kx0w4 : Prop) (Kr4 : Bool -> Prop) : Prop :=
 if (decide (x14 < (x12.length : Int))) = true then (grd (decide (0 <= x14) && decide (x14 < (x12.length : Int))) (grd (decide (0 <= x14) && decide (x14 < (x13.length : Int))) (let t18 : Bool := !(decide (rd x12 (Int.toNat x14) = rd x13 (Int.toNat x14))); if t18 = true then (Kr4 false) else (again4 (IntKind.wrap .i64 (x14 + 1)))))) else (Kx0w4)
def Z39.l4 : Nat -> List Int -> List Int -> Int -> Prop -> (Bool -> Prop) -> Prop
 | 0, _, _, _, _, _ => False
 | n + 1, x12, x13, x14, Kx0w4, Kr4 => Z39.l4.b n  x12 x13 (fun x14q => Z39.l4 n x12 x13 x14q Kx0w4 Kr4) x14 Kx0w4 Kr4
def Z39.w (n : Nat) (lp4 : List Int -> List Int -> Int -> Prop -> (Bool -> Prop) -> Prop) (a1 : List Int) (a2 : List Int) (K : Bool -> Prop) : Prop :=
 let t4 : Bool := !(decide ((a1.length : Int) = (a2.length : Int))); if t4 = true then (K false) else (lp4 a1 a2 0 (K true) (fun y20 => K y20))
def Z39.c : Nat -> List Int -> List Int -> (Bool -> Prop) -> Prop
 | 0, _, _, _ => False
 | n + 1, a1, a2, K => Z39.w n (Z39.l4 n) a1 a2 K
def Z37.w (n : Nat) (a1 : List UInt8) (a2 : Int) (a3 : List UInt8) (a4 : Int) (K : Bool -> Prop) : Prop :=
 if (!(a1 == a3)) = true then (K false) else (if (!(decide (a2 = a4))) = true then (K false) else (K true))
def Z37.c : Nat -> List UInt8 -> Int -> List UInt8 -> Int -> (Bool -> Prop) -> Prop
 | 0, _, _, _, _, _ => False
 | n + 1, a1, a2, a3, a4, K => Z37.w n  a1 a2 a3 a4 K
def Z38.l4.b (n : Nat) (x12 : List (tDecl)) (x13 : List (tDecl)) (again4 : Int -> Prop) (x14 : Int) (Kx0w4 : Prop) (Kr4 : Bool -> Prop) : Prop :=
 if (decide (x14 < (x12.length : Int))) = true then (grd (decide (0 <= x14) && decide (x14 < (x12.length : Int))) (grd (decide (0 <= x14) && decide (x14 < (x13.length : Int))) (Z37.c n ((rd x12 (Int.toNat x14)).1) ((rd x12 (Int.toNat x14)).2) ((rd x13 (Int.toNat x14)).1) ((rd x13 (Int.toNat x14)).2) (fun r18 => if (!r18) = true then (Kr4 false) else (again4 (IntKind.wrap .i64 (x14 + 1))))))) else (Kx0w4)
def Z38.l4 : Nat -> List (tDecl) -> List (tDecl) -> Int -> Prop -> (Bool -> Prop) -> Prop
 | 0, _, _, _, _, _ => False
 | n + 1, x12, x13, x14, Kx0w4, Kr4 => Z38.l4.b n  x12 x13 (fun x14q => Z38.l4 n x12 x13 x14q Kx0w4 Kr4) x14 Kx0w4 Kr4
def Z38.w (n : Nat) (lp4 : List (tDecl) -> List (tDecl) -> Int -> Prop -> (Bool -> Prop) -> Prop) (a1 : List (tDecl)) (a2 : List (tDecl)) (K : Bool -> Prop) : Prop :=
 let t4 : Bool := !(decide ((a1.length : Int) = (a2.length : Int))); if t4 = true then (K false) else (lp4 a1 a2 0 (K true) (fun y20 => K y20))
def Z38.c : Nat -> List (tDecl) -> List (tDecl) -> (Bool -> Prop) -> Prop
 | 0, _, _, _ => False
 | n + 1, a1, a2, K => Z38.w n (Z38.l4 n) a1 a2 K
def Z45.l4.b (n : Nat) (x12 : List Int) (x13 : List Int) (again4 : Int -> Prop) (x14 : Int) (Kx0w4 : Prop) (Kr4 : Bool -> Prop) : Prop :=
 if (decide (x14 < (x12.length : Int))) = true then (grd (decide (0 <= x14) && decide (x14 < (x12.length : Int))) (grd (decide (0 <= x14) && decide (x14 < (x13.length : Int))) (let t18 : Bool := !(decide (rd x12 (Int.toNat x14) = rd x13 (Int.toNat x14))); if t18 = true then (Kr4 false) else (again4 (IntKind.wrap .i64 (x14 + 1)))))) else (Kx0w4)
def Z45.l4 : Nat -> List Int -> List Int -> Int -> Prop -> (Bool -> Prop) -> Prop
 | 0, _, _, _, _, _ => False
 | n + 1, x12, x13, x14, Kx0w4, Kr4 => Z45.l4.b n  x12 x13 (fun x14q => Z45.l4 n x12 x13 x14q Kx0w4 Kr4) x14 Kx0w4 Kr4
def Z45.w (n : Nat) (lp4 : List Int -> List Int -> Int -> Prop -> (Bool -> Prop) -> Prop) (a1 : List Int) (a2 : List Int) (K : Bool -> Prop) : Prop :=
 let t4 : Bool := !(decide ((a1.length : Int) = (a2.length : Int))); if t4 = true then (K false) else (lp4 a1 a2 0 (K true) (fun y20 => K y20))
def Z45.c : Nat -> List Int -> List Int -> (Bool -> Prop) -> Prop
 | 0, _, _, _ => False
 | n + 1, a1, a2, K => Z45.w n (Z45.l4 n) a1 a2 K
end Go.Vsi
end

section
set_option linter.unusedVariables false
set_option synthInstance.maxSize 4096
namespace Go.Vsi
def Z35.w (n : Nat) (a1 : Int) (a2 : List Int) (a3 : Int) (a4 : List Int) (K : Bool -> Prop) : Prop :=
 if (!(decide (a1 = a3))) = true then (K false) else (Z45.c n a2 a4 (fun r6 => if (!r6) = true then (K false) else (K true)))
def Z35.c : Nat -> Int -> List Int -> Int -> List Int -> (Bool -> Prop) -> Prop
 | 0, _, _, _, _, _ => False
 | n + 1, a1, a2, a3, a4, K => Z35.w n  a1 a2 a3 a4 K
def Z42.w (n : Nat) (a1 : Int) (a2 : Int) (a3 : Int) (a4 : Int) (a5 : Int) (a6 : List Int) (a7 : List Int) (a8 : Int) (a9 : Int) (a10 : Int) (a11 : Int) (a12 : Int) (a13 : List Int) (a14 : List Int) (K : Bool -> Prop) : Prop :=
 if (!(decide (a1 = a8))) = true then (K false) else (if (!(decide (a2 = a9))) = true then (K false) else (if (!(decide (a3 = a10))) = true then (K false) else (if (!(decide (a4 = a11))) = true then (K false) else (Z35.c n a5 a6 a12 a13 (fun r16 => if (!r16) = true then (K false) else (Z39.c n a7 a14 (fun r18 => if (!r18) = true then (K false) else (K true))))))))
def Z42.c : Nat -> Int -> Int -> Int -> Int -> Int -> List Int -> List Int -> Int -> Int -> Int -> Int -> Int -> List Int -> List Int -> (Bool -> Prop) -> Prop
 | 0, _, _, _, _, _, _, _, _, _, _, _, _, _, _, _ => False
 | n + 1, a1, a2, a3, a4, a5, a6, a7, a8, a9, a10, a11, a12, a13, a14, K => Z42.w n  a1 a2 a3 a4 a5 a6 a7 a8 a9 a10 a11 a12 a13 a14 K
def Z43.l4.b (n : Nat) (x12 : List (tTNode)) (x13 : List (tTNode)) (again4 : Int -> Prop) (x14 : Int) (Kx0w4 : Prop) (Kr4 : Bool -> Prop) : Prop :=
 if (decide (x14 < (x12.length : Int))) = true then (grd (decide (0 <= x14) && decide (x14 < (x12.length : Int))) (let t30 : List Int := ((((((rd x12 (Int.toNat x14)).2).2).2).2).2).1; let t31 : List Int := ((((((rd x12 (Int.toNat x14)).2).2).2).2).2).2; grd (decide (0 <= x14) && decide (x14 < (x13.length : Int))) (let t32 : List Int := ((((((rd x13 (Int.toNat x14)).2).2).2).2).2).1; let t33 : List Int := ((((((rd x13 (Int.toNat x14)).2).2).2).2).2).2; Z42.c n ((rd x12 (Int.toNat x14)).1) (((rd x12 (Int.toNat x14)).2).1) ((((rd x12 (Int.toNat x14)).2).2).1) (((((rd x12 (Int.toNat x14)).2).2).2).1) ((((((rd x12 (Int.toNat x14)).2).2).2).2).1) t30 t31 ((rd x13 (Int.toNat x14)).1) (((rd x13 (Int.toNat x14)).2).1) ((((rd x13 (Int.toNat x14)).2).2).1) (((((rd x13 (Int.toNat x14)).2).2).2).1) ((((((rd x13 (Int.toNat x14)).2).2).2).2).1) t32 t33 (fun r34 => if (!r34) = true then (Kr4 false) else (again4 (IntKind.wrap .i64 (x14 + 1))))))) else (Kx0w4)
def Z43.l4 : Nat -> List (tTNode) -> List (tTNode) -> Int -> Prop -> (Bool -> Prop) -> Prop
 | 0, _, _, _, _, _ => False
 | n + 1, x12, x13, x14, Kx0w4, Kr4 => Z43.l4.b n  x12 x13 (fun x14q => Z43.l4 n x12 x13 x14q Kx0w4 Kr4) x14 Kx0w4 Kr4
def Z43.w (n : Nat) (lp4 : List (tTNode) -> List (tTNode) -> Int -> Prop -> (Bool -> Prop) -> Prop) (a1 : List (tTNode)) (a2 : List (tTNode)) (K : Bool -> Prop) : Prop :=
 let t4 : Bool := !(decide ((a1.length : Int) = (a2.length : Int))); if t4 = true then (K false) else (lp4 a1 a2 0 (K true) (fun y36 => K y36))
def Z43.c : Nat -> List (tTNode) -> List (tTNode) -> (Bool -> Prop) -> Prop
 | 0, _, _, _ => False
 | n + 1, a1, a2, K => Z43.w n (Z43.l4 n) a1 a2 K
def Z44.w (n : Nat) (a1 : List (tTNode)) (a2 : List (tTNode)) (K : Bool -> Prop) : Prop :=
 Z43.c n a1 a2 (fun r4 => if (!r4) = true then (K false) else (K true))
def Z44.c : Nat -> List (tTNode) -> List (tTNode) -> (Bool -> Prop) -> Prop
 | 0, _, _, _ => False
 | n + 1, a1, a2, K => Z44.w n  a1 a2 K
def Z40.w (n : Nat) (a1 : Int) (a2 : Bool) (a3 : List (tTNode)) (a4 : List (tTNode)) (a5 : Int) (a6 : Bool) (a7 : List (tTNode)) (a8 : List (tTNode)) (K : Bool -> Prop) : Prop :=
 if (!(decide (a1 = a5))) = true then (K false) else (if (!(a2 == a6)) = true then (K false) else (Z44.c n a3 a7 (fun r10 => if (!r10) = true then (K false) else (Z44.c n a4 a8 (fun r12 => if (!r12) = true then (K false) else (K true))))))
def Z40.c : Nat -> Int -> Bool -> List (tTNode) -> List (tTNode) -> Int -> Bool -> List (tTNode) -> List (tTNode) -> (Bool -> Prop) -> Prop
 | 0, _, _, _, _, _, _, _, _, _ => False
 | n + 1, a1, a2, a3, a4, a5, a6, a7, a8, K => Z40.w n  a1 a2 a3 a4 a5 a6 a7 a8 K
def Z41.l4.b (n : Nat) (x12 : List (tLiteral)) (x13 : List (tLiteral)) (again4 : Int -> Prop) (x14 : Int) (Kx0w4 : Prop) (Kr4 : Bool -> Prop) : Prop :=
 if (decide (x14 < (x12.length : Int))) = true then (grd (decide (0 <= x14) && decide (x14 < (x12.length : Int))) (grd (decide (0 <= x14) && decide (x14 < (x13.length : Int))) (Z40.c n ((rd x12 (Int.toNat x14)).1) (((rd x12 (Int.toNat x14)).2).1) ((((rd x12 (Int.toNat x14)).2).2).1) ((((rd x12 (Int.toNat x14)).2).2).2) ((rd x13 (Int.toNat x14)).1) (((rd x13 (Int.toNat x14)).2).1) ((((rd x13 (Int.toNat x14)).2).2).1) ((((rd x13 (Int.toNat x14)).2).2).2) (fun r18 => if (!r18) = true then (Kr4 false) else (again4 (IntKind.wrap .i64 (x14 + 1))))))) else (Kx0w4)
def Z41.l4 : Nat -> List (tLiteral) -> List (tLiteral) -> Int -> Prop -> (Bool -> Prop) -> Prop
 | 0, _, _, _, _, _ => False
 | n + 1, x12, x13, x14, Kx0w4, Kr4 => Z41.l4.b n  x12 x13 (fun x14q => Z41.l4 n x12 x13 x14q Kx0w4 Kr4) x14 Kx0w4 Kr4
def Z41.w (n : Nat) (lp4 : List (tLiteral) -> List (tLiteral) -> Int -> Prop -> (Bool -> Prop) -> Prop) (a1 : List (tLiteral)) (a2 : List (tLiteral)) (K : Bool -> Prop) : Prop :=
 let t4 : Bool := !(decide ((a1.length : Int) = (a2.length : Int))); if t4 = true then (K false) else (lp4 a1 a2 0 (K true) (fun y20 => K y20))
def Z41.c : Nat -> List (tLiteral) -> List (tLiteral) -> (Bool -> Prop) -> Prop
 | 0, _, _, _ => False
 | n + 1, a1, a2, K => Z41.w n (Z41.l4 n) a1 a2 K
def Z36.l4.b (n : Nat) (x12 : List (tBits)) (x13 : List (tBits)) (again4 : Int -> Prop) (x14 : Int) (Kx0w4 : Prop) (Kr4 : Bool -> Prop) : Prop :=
 if (decide (x14 < (x12.length : Int))) = true then (grd (decide (0 <= x14) && decide (x14 < (x12.length : Int))) (grd (decide (0 <= x14) && decide (x14 < (x13.length : Int))) (Z35.c n ((rd x12 (Int.toNat x14)).1) ((rd x12 (Int.toNat x14)).2) ((rd x13 (Int.toNat x14)).1) ((rd x13 (Int.toNat x14)).2) (fun r18 => if (!r18) = true then (Kr4 false) else (again4 (IntKind.wrap .i64 (x14 + 1))))))) else (Kx0w4)
def Z36.l4 : Nat -> List (tBits) -> List (tBits) -> Int -> Prop -> (Bool -> Prop) -> Prop
 | 0, _, _, _, _, _ => False
 | n + 1, x12, x13, x14, Kx0w4, Kr4 => Z36.l4.b n  x12 x13 (fun x14q => Z36.l4 n x12 x13 x14q Kx0w4 Kr4) x14 Kx0w4 Kr4
def Z36.w (n : Nat) (lp4 : List (tBits) -> List (tBits) -> Int -> Prop -> (Bool -> Prop) -> Prop) (a1 : List (tBits)) (a2 : List (tBits)) (K : Bool -> Prop) : Prop :=
 let t4 : Bool := !(decide ((a1.length : Int) = (a2.length : Int))); if t4 = true then (K false) else (lp4 a1 a2 0 (K true) (fun y20 => K y20))
def Z36.c : Nat -> List (tBits) -> List (tBits) -> (Bool -> Prop) -> Prop
 | 0, _, _, _ => False
 | n + 1, a1, a2, K => Z36.w n (Z36.l4 n) a1 a2 K
def Z53.l4.b (n : Nat) (again4 : Int -> List UInt8 -> Prop) (x5 : Int) (x6 : List UInt8) (Kx0w4 : List UInt8 -> Prop) : Prop :=
 if (decide (x5 > 0)) = true then (let t7 : Int := IntKind.wrap .u8 (IntKind.wrap .i64 (48 + (Int.tmod x5 10))); grd (decide ((bytesStr ([t7] : List (Int))).length + x6.length <= 9223372036854775807)) (again4 (IntKind.wrap .i64 (Int.tdiv x5 10)) ((bytesStr ([t7] : List (Int))) ++ x6))) else (Kx0w4 x6)
def Z53.l4 : Nat -> Int -> List UInt8 -> (List UInt8 -> Prop) -> Prop
 | 0, _, _, _ => False
 | n + 1, x5, x6, Kx0w4 => Z53.l4.b n   (fun x5q x6q => Z53.l4 n x5q x6q Kx0w4) x5 x6 Kx0w4
def Z53.w (n : Nat) (lp4 : Int -> List UInt8 -> (List UInt8 -> Prop) -> Prop) (a1 : Int) (K : List UInt8 -> Prop) : Prop :=
 if (decide (a1 <= 0)) = true then (K ([109, 48] : List UInt8)) else (lp4 a1 ([] : List UInt8) (fun y9 => grd (decide (([109] : List UInt8).length + y9.length <= 9223372036854775807)) (K (([109] : List UInt8) ++ y9))))
def Z53.c : Nat -> Int -> (List UInt8 -> Prop) -> Prop
 | 0, _, _ => False
 | n + 1, a1, K => Z53.w n (Z53.l4 n) a1 K
def Z49.l2.b (n : Nat) (again2 : Int -> Int -> List (tDecl) -> Prop) (x14 : Int) (x15 : Int) (x16 : List (tDecl)) (Kx0w2 : Int -> List (tDecl) -> Prop) : Prop :=
 if (decide (x15 < (x16.length : Int))) = true then (Z53.c n x14 (fun r21 => grd (decide (0 <= x15) && decide (x15 < (x16.length : Int))) (let t22 : List (tDecl) := List.set x16 (Int.toNat x15) (r21, (rd x16 (Int.toNat x15)).2); grd (decide (0 <= x15) && decide (x15 < (t22.length : Int))) (let t23 : List (tDecl) := List.set t22 (Int.toNat x15) ((rd t22 (Int.toNat x15)).1, IntKind.wrap .i64 (x14 + 1)); let t24 : Int := IntKind.wrap .i64 ((IntKind.wrap .i64 (x14 + 1)) + 1); again2 t24 (IntKind.wrap .i64 (x15 + 1)) t23)))) else (Kx0w2 x14 x16)
def Z49.l2 : Nat -> Int -> Int -> List (tDecl) -> (Int -> List (tDecl) -> Prop) -> Prop
 | 0, _, _, _, _ => False
 | n + 1, x14, x15, x16, Kx0w2 => Z49.l2.b n   (fun x14q x15q x16q => Z49.l2 n x14q x15q x16q Kx0w2) x14 x15 x16 Kx0w2
def Z49.w (n : Nat) (lp2 : Int -> Int -> List (tDecl) -> (Int -> List (tDecl) -> Prop) -> Prop) (a1 : List (tDecl)) (a2 : Int) (K : Int -> List (tDecl) -> Prop) : Prop :=
 lp2 a2 0 a1 (fun y27 y28 => K y27 y28)
def Z49.c : Nat -> List (tDecl) -> Int -> (Int -> List (tDecl) -> Prop) -> Prop
 | 0, _, _, _ => False
 | n + 1, a1, a2, K => Z49.w n (Z49.l2 n) a1 a2 K
def Z54.l2.b (n : Nat) (again2 : Int -> Int -> List Int -> Prop) (x8 : Int) (x9 : Int) (x10 : List Int) (Kx0w2 : Int -> List Int -> Prop) : Prop :=
 if (decide (x9 < (x10.length : Int))) = true then (grd (decide (0 <= x9) && decide (x9 < (x10.length : Int))) (let t12 : List Int := List.set x10 (Int.toNat x9) (IntKind.wrap .u64 x8); again2 (IntKind.wrap .i64 (x8 + 1)) (IntKind.wrap .i64 (x9 + 1)) t12)) else (Kx0w2 x8 x10)
def Z54.l2 : Nat -> Int -> Int -> List Int -> (Int -> List Int -> Prop) -> Prop
 | 0, _, _, _, _ => False
 | n + 1, x8, x9, x10, Kx0w2 => Z54.l2.b n   (fun x8q x9q x10q => Z54.l2 n x8q x9q x10q Kx0w2) x8 x9 x10 Kx0w2
def Z54.w (n : Nat) (lp2 : Int -> Int -> List Int -> (Int -> List Int -> Prop) -> Prop) (a1 : List Int) (a2 : Int) (K : Int -> List Int -> Prop) : Prop :=
 lp2 a2 0 a1 (fun y15 y16 => K y15 y16)
def Z54.c : Nat -> List Int -> Int -> (Int -> List Int -> Prop) -> Prop
 | 0, _, _, _ => False
 | n + 1, a1, a2, K => Z54.w n (Z54.l2 n) a1 a2 K
def Z50.l2.b (n : Nat) (again2 : Int -> Int -> List Int -> Prop) (x6 : Int) (x7 : Int) (x8 : List Int) (Kx0w2 : Int -> List Int -> Prop) : Prop :=
 if (decide (x7 < (x8.length : Int))) = true then (grd (decide (0 <= x7) && decide (x7 < (x8.length : Int))) (again2 (IntKind.wrap .i64 (x6 + 1)) (IntKind.wrap .i64 (x7 + 1)) (List.set x8 (Int.toNat x7) x6))) else (Kx0w2 x6 x8)
def Z50.l2 : Nat -> Int -> Int -> List Int -> (Int -> List Int -> Prop) -> Prop
 | 0, _, _, _, _ => False
 | n + 1, x6, x7, x8, Kx0w2 => Z50.l2.b n   (fun x6q x7q x8q => Z50.l2 n x6q x7q x8q Kx0w2) x6 x7 x8 Kx0w2
def Z50.w (n : Nat) (lp2 : Int -> Int -> List Int -> (Int -> List Int -> Prop) -> Prop) (a1 : List Int) (a2 : Int) (K : Int -> List Int -> Prop) : Prop :=
 lp2 a2 0 a1 (fun y11 y12 => K y11 y12)
def Z50.c : Nat -> List Int -> Int -> (Int -> List Int -> Prop) -> Prop
 | 0, _, _, _ => False
 | n + 1, a1, a2, K => Z50.w n (Z50.l2 n) a1 a2 K
def Z52.l2.b (n : Nat) (again2 : Int -> Int -> List (tTNode) -> Prop) (x32 : Int) (x33 : Int) (x34 : List (tTNode)) (Kx0w2 : Int -> List (tTNode) -> Prop) : Prop :=
 if (decide (x33 < (x34.length : Int))) = true then (grd (decide (0 <= x33) && decide (x33 < (x34.length : Int))) (let t48 : List (tTNode) := List.set x34 (Int.toNat x33) (x32, ((rd x34 (Int.toNat x33)).2).1, (((rd x34 (Int.toNat x33)).2).2).1, ((((rd x34 (Int.toNat x33)).2).2).2).1, (((((rd x34 (Int.toNat x33)).2).2).2).2).1, ((((((rd x34 (Int.toNat x33)).2).2).2).2).2).1, ((((((rd x34 (Int.toNat x33)).2).2).2).2).2).2); grd (decide (0 <= x33) && decide (x33 < (t48.length : Int))) (let t49 : List (tTNode) := List.set t48 (Int.toNat x33) ((rd t48 (Int.toNat x33)).1, IntKind.wrap .i64 (x32 + 1), (((rd t48 (Int.toNat x33)).2).2).1, ((((rd t48 (Int.toNat x33)).2).2).2).1, (((((rd t48 (Int.toNat x33)).2).2).2).2).1, ((((((rd t48 (Int.toNat x33)).2).2).2).2).2).1, ((((((rd t48 (Int.toNat x33)).2).2).2).2).2).2); let t50 : Int := IntKind.wrap .i64 ((IntKind.wrap .i64 (x32 + 1)) + 1); grd (decide (0 <= x33) && decide (x33 < (t49.length : Int))) (let t51 : List (tTNode) := List.set t49 (Int.toNat x33) ((rd t49 (Int.toNat x33)).1, ((rd t49 (Int.toNat x33)).2).1, t50, ((((rd t49 (Int.toNat x33)).2).2).2).1, (((((rd t49 (Int.toNat x33)).2).2).2).2).1, ((((((rd t49 (Int.toNat x33)).2).2).2).2).2).1, ((((((rd t49 (Int.toNat x33)).2).2).2).2).2).2); grd (decide (0 <= x33) && decide (x33 < (t51.length : Int))) (let t52 : List (tTNode) := List.set t51 (Int.toNat x33) ((rd t51 (Int.toNat x33)).1, ((rd t51 (Int.toNat x33)).2).1, (((rd t51 (Int.toNat x33)).2).2).1, IntKind.wrap .i64 (t50 + 1), (((((rd t51 (Int.toNat x33)).2).2).2).2).1, ((((((rd t51 (Int.toNat x33)).2).2).2).2).2).1, ((((((rd t51 (Int.toNat x33)).2).2).2).2).2).2); let t53 : Int := IntKind.wrap .i64 ((IntKind.wrap .i64 (t50 + 1)) + 1); grd (decide (0 <= x33) && decide (x33 < (t52.length : Int))) (let t54 : List (tTNode) := List.set t52 (Int.toNat x33) ((rd t52 (Int.toNat x33)).1, ((rd t52 (Int.toNat x33)).2).1, (((rd t52 (Int.toNat x33)).2).2).1, ((((rd t52 (Int.toNat x33)).2).2).2).1, t53, ((((((rd t52 (Int.toNat x33)).2).2).2).2).2).1, ((((((rd t52 (Int.toNat x33)).2).2).2).2).2).2); grd (decide (0 <= x33) && decide (x33 < (t54.length : Int))) (Z54.c n (((((((rd t54 (Int.toNat x33)).2).2).2).2).2).1) (IntKind.wrap .i64 (t53 + 1)) (fun r55 r56 => let t57 : List (tTNode) := List.set t54 (Int.toNat x33) ((rd t54 (Int.toNat x33)).1, ((rd t54 (Int.toNat x33)).2).1, (((rd t54 (Int.toNat x33)).2).2).1, ((((rd t54 (Int.toNat x33)).2).2).2).1, (((((rd t54 (Int.toNat x33)).2).2).2).2).1, r56, ((((((rd t54 (Int.toNat x33)).2).2).2).2).2).2); grd (decide (0 <= x33) && decide (x33 < (t57.length : Int))) (Z50.c n (((((((rd t57 (Int.toNat x33)).2).2).2).2).2).2) r55 (fun r58 r59 => let t60 : List (tTNode) := List.set t57 (Int.toNat x33) ((rd t57 (Int.toNat x33)).1, ((rd t57 (Int.toNat x33)).2).1, (((rd t57 (Int.toNat x33)).2).2).1, ((((rd t57 (Int.toNat x33)).2).2).2).1, (((((rd t57 (Int.toNat x33)).2).2).2).2).1, ((((((rd t57 (Int.toNat x33)).2).2).2).2).2).1, r59); again2 r58 (IntKind.wrap .i64 (x33 + 1)) t60)))))))))) else (Kx0w2 x32 x34)
def Z52.l2 : Nat -> Int -> Int -> List (tTNode) -> (Int -> List (tTNode) -> Prop) -> Prop
 | 0, _, _, _, _ => False
 | n + 1, x32, x33, x34, Kx0w2 => Z52.l2.b n   (fun x32q x33q x34q => Z52.l2 n x32q x33q x34q Kx0w2) x32 x33 x34 Kx0w2
def Z52.w (n : Nat) (lp2 : Int -> Int -> List (tTNode) -> (Int -> List (tTNode) -> Prop) -> Prop) (a1 : List (tTNode)) (a2 : Int) (K : Int -> List (tTNode) -> Prop) : Prop :=
 lp2 a2 0 a1 (fun y63 y64 => K y63 y64)
def Z52.c : Nat -> List (tTNode) -> Int -> (Int -> List (tTNode) -> Prop) -> Prop
 | 0, _, _, _ => False
 | n + 1, a1, a2, K => Z52.w n (Z52.l2 n) a1 a2 K
def Z51.l2.b (n : Nat) (again2 : Int -> Int -> List (tLiteral) -> Prop) (x26 : Int) (x27 : Int) (x28 : List (tLiteral)) (Kx0w2 : Int -> List (tLiteral) -> Prop) : Prop :=
 if (decide (x27 < (x28.length : Int))) = true then (grd (decide (0 <= x27) && decide (x27 < (x28.length : Int))) (let t39 : List (tLiteral) := List.set x28 (Int.toNat x27) (x26, ((rd x28 (Int.toNat x27)).2).1, (((rd x28 (Int.toNat x27)).2).2).1, (((rd x28 (Int.toNat x27)).2).2).2); let t40 : Bool := decide (Int.tmod (IntKind.wrap .i64 (x26 + 1)) 3 = 0); grd (decide (0 <= x27) && decide (x27 < (t39.length : Int))) (let t41 : List (tLiteral) := List.set t39 (Int.toNat x27) ((rd t39 (Int.toNat x27)).1, t40, (((rd t39 (Int.toNat x27)).2).2).1, (((rd t39 (Int.toNat x27)).2).2).2); let t42 : Int := IntKind.wrap .i64 ((IntKind.wrap .i64 (x26 + 1)) + 1); grd (decide (0 <= x27) && decide (x27 < (t41.length : Int))) (Z52.c n ((((rd t41 (Int.toNat x27)).2).2).1) t42 (fun r43 r44 => let t45 : List (tLiteral) := List.set t41 (Int.toNat x27) ((rd t41 (Int.toNat x27)).1, ((rd t41 (Int.toNat x27)).2).1, r44, (((rd t41 (Int.toNat x27)).2).2).2); grd (decide (0 <= x27) && decide (x27 < (t45.length : Int))) (Z52.c n ((((rd t45 (Int.toNat x27)).2).2).2) r43 (fun r46 r47 => let t48 : List (tLiteral) := List.set t45 (Int.toNat x27) ((rd t45 (Int.toNat x27)).1, ((rd t45 (Int.toNat x27)).2).1, (((rd t45 (Int.toNat x27)).2).2).1, r47); again2 r46 (IntKind.wrap .i64 (x27 + 1)) t48))))))) else (Kx0w2 x26 x28)
def Z51.l2 : Nat -> Int -> Int -> List (tLiteral) -> (Int -> List (tLiteral) -> Prop) -> Prop
 | 0, _, _, _, _ => False
 | n + 1, x26, x27, x28, Kx0w2 => Z51.l2.b n   (fun x26q x27q x28q => Z51.l2 n x26q x27q x28q Kx0w2) x26 x27 x28 Kx0w2
def Z51.w (n : Nat) (lp2 : Int -> Int -> List (tLiteral) -> (Int -> List (tLiteral) -> Prop) -> Prop) (a1 : List (tLiteral)) (a2 : Int) (K : Int -> List (tLiteral) -> Prop) : Prop :=
 lp2 a2 0 a1 (fun y51 y52 => K y51 y52)
def Z51.c : Nat -> List (tLiteral) -> Int -> (Int -> List (tLiteral) -> Prop) -> Prop
 | 0, _, _, _ => False
 | n + 1, a1, a2, K => Z51.w n (Z51.l2 n) a1 a2 K
def Z55.l2.b (n : Nat) (again2 : Int -> Int -> List Int -> Prop) (x8 : Int) (x9 : Int) (x10 : List Int) (Kx0w2 : Int -> List Int -> Prop) : Prop :=
 if (decide (x9 < (x10.length : Int))) = true then (grd (decide (0 <= x9) && decide (x9 < (x10.length : Int))) (let t12 : List Int := List.set x10 (Int.toNat x9) (IntKind.wrap .u64 x8); again2 (IntKind.wrap .i64 (x8 + 1)) (IntKind.wrap .i64 (x9 + 1)) t12)) else (Kx0w2 x8 x10)
def Z55.l2 : Nat -> Int -> Int -> List Int -> (Int -> List Int -> Prop) -> Prop
 | 0, _, _, _, _ => False
 | n + 1, x8, x9, x10, Kx0w2 => Z55.l2.b n   (fun x8q x9q x10q => Z55.l2 n x8q x9q x10q Kx0w2) x8 x9 x10 Kx0w2
def Z55.w (n : Nat) (lp2 : Int -> Int -> List Int -> (Int -> List Int -> Prop) -> Prop) (a1 : List Int) (a2 : Int) (K : Int -> List Int -> Prop) : Prop :=
 lp2 a2 0 a1 (fun y15 y16 => K y15 y16)
def Z55.c : Nat -> List Int -> Int -> (Int -> List Int -> Prop) -> Prop
 | 0, _, _, _ => False
 | n + 1, a1, a2, K => Z55.w n (Z55.l2 n) a1 a2 K
def Z48.l2.b (n : Nat) (again2 : Int -> Int -> List (tBits) -> Prop) (x14 : Int) (x15 : Int) (x16 : List (tBits)) (Kx0w2 : Int -> List (tBits) -> Prop) : Prop :=
 if (decide (x15 < (x16.length : Int))) = true then (grd (decide (0 <= x15) && decide (x15 < (x16.length : Int))) (let t21 : List (tBits) := List.set x16 (Int.toNat x15) (x14, (rd x16 (Int.toNat x15)).2); grd (decide (0 <= x15) && decide (x15 < (t21.length : Int))) (Z55.c n ((rd t21 (Int.toNat x15)).2) (IntKind.wrap .i64 (x14 + 1)) (fun r22 r23 => let t24 : List (tBits) := List.set t21 (Int.toNat x15) ((rd t21 (Int.toNat x15)).1, r23); again2 r22 (IntKind.wrap .i64 (x15 + 1)) t24)))) else (Kx0w2 x14 x16)
def Z48.l2 : Nat -> Int -> Int -> List (tBits) -> (Int -> List (tBits) -> Prop) -> Prop
 | 0, _, _, _, _ => False
 | n + 1, x14, x15, x16, Kx0w2 => Z48.l2.b n   (fun x14q x15q x16q => Z48.l2 n x14q x15q x16q Kx0w2) x14 x15 x16 Kx0w2
def Z48.w (n : Nat) (lp2 : Int -> Int -> List (tBits) -> (Int -> List (tBits) -> Prop) -> Prop) (a1 : List (tBits)) (a2 : Int) (K : Int -> List (tBits) -> Prop) : Prop :=
 lp2 a2 0 a1 (fun y27 y28 => K y27 y28)
def Z48.c : Nat -> List (tBits) -> Int -> (Int -> List (tBits) -> Prop) -> Prop
 | 0, _, _, _ => False
 | n + 1, a1, a2, K => Z48.w n (Z48.l2 n) a1 a2 K
def Z94.l4.b (n : Nat) (x8 : List (tDecl)) (again4 : Int -> Int -> List Int -> Prop) (x9 : Int) (x10 : Int) (x11 : List Int) (Kx0w4 : Int -> List Int -> Prop) : Prop :=
 if (decide (x10 < (x8.length : Int))) = true then (grd (decide (x11.length + ([x9] : List (Int)).length <= 7818749353073)) (grd (decide (0 <= x10) && decide (x10 < (x8.length : Int))) (let t13 : Int := IntKind.wrap .i64 (x9 + ((rd x8 (Int.toNat x10)).2)); again4 t13 (IntKind.wrap .i64 (x10 + 1)) (x11 ++ ([x9] : List (Int)))))) else (Kx0w4 x9 x11)
def Z94.l4 : Nat -> List (tDecl) -> Int -> Int -> List Int -> (Int -> List Int -> Prop) -> Prop
 | 0, _, _, _, _, _ => False
 | n + 1, x8, x9, x10, x11, Kx0w4 => Z94.l4.b n  x8 (fun x9q x10q x11q => Z94.l4 n x8 x9q x10q x11q Kx0w4) x9 x10 x11 Kx0w4
def Z94.w (n : Nat) (lp4 : List (tDecl) -> Int -> Int -> List Int -> (Int -> List Int -> Prop) -> Prop) (a1 : List (tDecl)) (K : List Int -> Int -> Prop) : Prop :=
 lp4 a1 0 0 ([] : List (Int)) (fun y16 y17 => K y17 y16)
def Z94.c : Nat -> List (tDecl) -> (List Int -> Int -> Prop) -> Prop
 | 0, _, _ => False
 | n + 1, a1, K => Z94.w n (Z94.l4 n) a1 K
def Z103.w (n : Nat) (a1 : List (tDecl)) (a2 : List (tLiteral)) (K : Int -> Prop) : Prop :=
 Z87.c n a1 a2 (fun r4 => if (!r4) = true then (K (-1)) else (Z94.c n a1 (fun r5 r6 => if (decide (r6 > 14)) = true then (K (-1)) else (K r6))))
def Z103.c : Nat -> List (tDecl) -> List (tLiteral) -> (Int -> Prop) -> Prop
 | 0, _, _, _ => False
 | n + 1, a1, a2, K => Z103.w n  a1 a2 K
def Z83.l5.b (n : Nat) (x14 : Int) (x18 : List Int) (x19 : Int) (again5 : Int -> Int -> List Int -> Prop) (x15 : Int) (x16 : Int) (x17 : List Int) (Kx0w5 : Int -> List Int -> List Int -> Int -> Prop) : Prop :=
 if (decide (x16 < x14)) = true then (let t21 : List Int := ([IntKind.wrap .u8 (Int.tmod x15 2)] : List (Int)); grd (decide (x17.length + t21.length <= 35184372088832)) (again5 (IntKind.wrap .i64 (Int.tdiv x15 2)) (IntKind.wrap .i64 (x16 + 1)) (x17 ++ t21))) else (Kx0w5 x15 x17 x18 x19)
def Z83.l5 : Nat -> Int -> List Int -> Int -> Int -> Int -> List Int -> (Int -> List Int -> List Int -> Int -> Prop) -> Prop
 | 0, _, _, _, _, _, _, _ => False
 | n + 1, x14, x18, x19, x15, x16, x17, Kx0w5 => Z83.l5.b n  x14 x18 x19 (fun x15q x16q x17q => Z83.l5 n x14 x18 x19 x15q x16q x17q Kx0w5) x15 x16 x17 Kx0w5
def Z83.j0 (K : Int -> List Int -> Bool -> Prop) (a1 : Int) (a2 : Int) (lp5 : Int -> List Int -> Int -> Int -> Int -> List Int -> (Int -> List Int -> List Int -> Int -> Prop) -> Prop) (n : Nat) : Prop :=
 lp5 a1 ([] : List (Int)) 0 a2 0 ([] : List (Int)) (fun y26 y27 y28 y29 => if (decide (y26 > 0)) = true then (K 0 ([] : List (Int)) false) else (Z97.c n y27 (fun r30 r31 r32 => K r30 r31 r32)))
def Z83.w (n : Nat) (lp5 : Int -> List Int -> Int -> Int -> Int -> List Int -> (Int -> List Int -> List Int -> Int -> Prop) -> Prop) (a1 : Int) (a2 : Int) (K : Int -> List Int -> Bool -> Prop) : Prop :=
 Z98.c n a1 1 4096 (fun r35 => if (!r35) = false then (if (decide (a2 < 0)) = true then (K 0 ([] : List (Int)) false) else (Z83.j0 K a1 a2 lp5 n)) else (K 0 ([] : List (Int)) false))
def Z83.c : Nat -> Int -> Int -> (Int -> List Int -> Bool -> Prop) -> Prop
 | 0, _, _, _ => False
 | n + 1, a1, a2, K => Z83.w n (Z83.l5 n) a1 a2 K
def Z102.l3.b (n : Nat) (x22 : List (tDecl)) (again3 : Int -> Int -> List (tBits) -> Prop) (x23 : Int) (x24 : Int) (x25 : List (tBits)) (Kx0w3 : List (tBits) -> Prop) : Prop :=
 if (decide (x24 >= 0)) = true then (grd (decide (0 <= x24) && decide (x24 < (x22.length : Int))) (let t34 : Int := IntKind.wrap .u64 ((rd x22 (Int.toNat x24)).2); grd (decide (0 <= t34)) (let t35 : Int := IntKind.wrap .i64 (1 * 2 ^ (Nat.min (Int.toNat t34) 64)); grd (decide (0 <= x24) && decide (x24 < (x22.length : Int))) (grd (!(decide (t35 = 0))) (Z83.c n ((rd x22 (Int.toNat x24)).2) (Int.tmod x23 t35) (fun r39 r40 r41 => grd (decide (0 <= x24) && decide (x24 < (x25.length : Int))) (grd (!(decide (t35 = 0))) (again3 (IntKind.wrap .i64 (Int.tdiv x23 t35)) (IntKind.wrap .i64 (x24 - 1)) (List.set x25 (Int.toNat x24) (r39, r40)))))))))) else (Kx0w3 x25)
def Z102.l3 : Nat -> List (tDecl) -> Int -> Int -> List (tBits) -> (List (tBits) -> Prop) -> Prop
 | 0, _, _, _, _, _ => False
 | n + 1, x22, x23, x24, x25, Kx0w3 => Z102.l3.b n  x22 (fun x23q x24q x25q => Z102.l3 n x22 x23q x24q x25q Kx0w3) x23 x24 x25 Kx0w3
def Z102.w (n : Nat) (lp3 : List (tDecl) -> Int -> Int -> List (tBits) -> (List (tBits) -> Prop) -> Prop) (a1 : List (tDecl)) (a2 : Int) (K : List (tBits) -> Prop) : Prop :=
 grd ((decide (0 <= (a1.length : Int)) && decide ((a1.length : Int) <= 2132386187201)) && decide ((a1.length : Int) = (a1.length : Int))) (let t3 : List (tBits) := List.replicate (Int.toNat (a1.length : Int)) (0, ([] : List (Int))); lp3 a1 a2 (IntKind.wrap .i64 ((a1.length : Int) - 1)) t3 (fun y43 => K y43))
def Z102.c : Nat -> List (tDecl) -> Int -> (List (tBits) -> Prop) -> Prop
 | 0, _, _, _ => False
 | n + 1, a1, a2, K => Z102.w n (Z102.l3 n) a1 a2 K
def Z101.l2.b (n : Nat) (x148 : List (tBits)) (x149 : List (tLiteral)) (again2 : Int -> Prop) (x150 : Int) (Kx0w2 : Prop) (Kr2 : Bool -> Prop) : Prop :=
 if (decide (x150 < (x149.length : Int))) = true then (grd (decide (0 <= x150) && decide (x150 < (x149.length : Int))) (grd (decide (0 <= x150) && decide (x150 < (x149.length : Int))) (grd (decide (0 <= x150) && decide (x150 < (x149.length : Int))) ((Z110.c n x148 ((((rd x149 (Int.toNat x150)).2).2).1) (fun r288 r289 => (Z110.c n x148 ((((rd x149 (Int.toNat x150)).2).2).2) (fun r290 r291 => let p296 : Prop := (Z107.c n r288 r289 r290 r291 (fun r292 => let t293 : Bool := !(r292 == (((rd x149 (Int.toNat x150)).2).1)); if t293 = true then (Kr2 false) else (again2 (IntKind.wrap .i64 (x150 + 1))))); (p296 /\ p296))) /\ (Z110.c n x148 ((((rd x149 (Int.toNat x150)).2).2).2) (fun r297 r298 => Z107.c n r288 r289 r297 r298 (fun r299 => let t300 : Bool := !(r299 == (((rd x149 (Int.toNat x150)).2).1)); if t300 = true then (Kr2 false) else (again2 (IntKind.wrap .i64 (x150 + 1)))))))) /\ ((Z110.c n x148 ((((rd x149 (Int.toNat x150)).2).2).1) (fun r301 r302 => (Z110.c n x148 ((((rd x149 (Int.toNat x150)).2).2).2) (fun r303 r304 => let p309 : Prop := (Z107.c n r301 r302 r303 r304 (fun r305 => let t306 : Bool := !(r305 == (((rd x149 (Int.toNat x150)).2).1)); if t306 = true then (Kr2 false) else (again2 (IntKind.wrap .i64 (x150 + 1))))); (p309 /\ p309))) /\ (Z110.c n x148 ((((rd x149 (Int.toNat x150)).2).2).2) (fun r310 r311 => Z107.c n r301 r302 r310 r311 (fun r312 => let t313 : Bool := !(r312 == (((rd x149 (Int.toNat x150)).2).1)); if t313 = true then (Kr2 false) else (again2 (IntKind.wrap .i64 (x150 + 1)))))))) /\ (Z110.c n x148 ((((rd x149 (Int.toNat x150)).2).2).1) (fun r314 r315 => Z110.c n x148 ((((rd x149 (Int.toNat x150)).2).2).2) (fun r316 r317 => Z107.c n r314 r315 r316 r317 (fun r318 => let t319 : Bool := !(r318 == (((rd x149 (Int.toNat x150)).2).1)); if t319 = true then (Kr2 false) else (again2 (IntKind.wrap .i64 (x150 + 1)))))))) /\ (let p332 : Prop := (Z110.c n x148 ((((rd x149 (Int.toNat x150)).2).2).1) (fun r320 r321 => Z110.c n x148 ((((rd x149 (Int.toNat x150)).2).2).2) (fun r322 r323 => Z107.c n r320 r321 r322 r323 (fun r324 => let t325 : Bool := !(r324 == (((rd x149 (Int.toNat x150)).2).1)); if t325 = true then (Kr2 false) else (again2 (IntKind.wrap .i64 (x150 + 1))))))); (p332 /\ p332)))))) else (Kx0w2)
def Z101.l2 : Nat -> List (tBits) -> List (tLiteral) -> Int -> Prop -> (Bool -> Prop) -> Prop
 | 0, _, _, _, _, _ => False
 | n + 1, x148, x149, x150, Kx0w2, Kr2 => Z101.l2.b n  x148 x149 (fun x150q => Z101.l2 n x148 x149 x150q Kx0w2 Kr2) x150 Kx0w2 Kr2
def Z101.w (n : Nat) (lp2 : List (tBits) -> List (tLiteral) -> Int -> Prop -> (Bool -> Prop) -> Prop) (a1 : List (tBits)) (a2 : List (tLiteral)) (K : Bool -> Prop) : Prop :=
 lp2 a1 a2 0 (K true) (fun y334 => K y334)
def Z101.c : Nat -> List (tBits) -> List (tLiteral) -> (Bool -> Prop) -> Prop
 | 0, _, _, _ => False
 | n + 1, a1, a2, K => Z101.w n (Z101.l2 n) a1 a2 K
def Z13.w (n : Nat) (a1 : List (tDecl)) (a2 : List (tLiteral)) (K : Bool -> Prop) : Prop :=
 Z11.c n a1 (fun r6 => if r6 = true then (Z25.c n a1 a2 (fun r7 => K r7)) else (K false))
def Z13.c : Nat -> List (tDecl) -> List (tLiteral) -> (Bool -> Prop) -> Prop
 | 0, _, _, _ => False
 | n + 1, a1, a2, K => Z13.w n  a1 a2 K
def Z30.l3.b (n : Nat) (x9 : List (tDecl)) (x10 : Int) (again3 : Int -> Int -> Prop) (x8 : Int) (x11 : Int) (Kx0w3 : Int -> Prop) : Prop :=
 if (decide (x11 < x10)) = true then (grd (decide (0 <= x11) && decide (x11 < (x9.length : Int))) (let t13 : Int := IntKind.wrap .i64 (x8 + ((rd x9 (Int.toNat x11)).2)); again3 t13 (IntKind.wrap .i64 (x11 + 1)))) else (Kx0w3 x8)
def Z30.l3 : Nat -> List (tDecl) -> Int -> Int -> Int -> (Int -> Prop) -> Prop
 | 0, _, _, _, _, _ => False
 | n + 1, x9, x10, x8, x11, Kx0w3 => Z30.l3.b n  x9 x10 (fun x8q x11q => Z30.l3 n x9 x10 x8q x11q Kx0w3) x8 x11 Kx0w3
def Z30.w (n : Nat) (lp3 : List (tDecl) -> Int -> Int -> Int -> (Int -> Prop) -> Prop) (a1 : List (tDecl)) (K : Int -> Prop) : Prop :=
 lp3 a1 (a1.length : Int) 0 0 (fun y15 => K y15)
def Z30.c : Nat -> List (tDecl) -> (Int -> Prop) -> Prop
 | 0, _, _ => False
 | n + 1, a1, K => Z30.w n (Z30.l3 n) a1 K
def Z20.w (n : Nat) (a1 : List (tDecl)) (a2 : List (tLiteral)) (K : Bool -> Prop) : Prop :=
 Z13.c n a1 a2 (fun r6 => if r6 = true then (Z30.c n a1 (fun r7 => K (decide (r7 <= 14)))) else (K false))
def Z20.c : Nat -> List (tDecl) -> List (tLiteral) -> (Bool -> Prop) -> Prop
 | 0, _, _, _ => False
 | n + 1, a1, a2, K => Z20.w n  a1 a2 K
def Z0.j0 (K : Int -> List Int -> Bool -> Prop) (a1 : Int) (a2 : Int) (n : Nat) (j12 : Bool) : Prop :=
 if j12 = true then (K 0 ([] : List (Int)) false) else (Z34.c n a1 (fun r13 r14 => grd (decide (0 < (r14.length : Int))) (K r13 (List.set r14 0 (IntKind.wrap .u64 a2)) true)))
def Z0.w (n : Nat) (a1 : Int) (a2 : Int) (K : Int -> List Int -> Bool -> Prop) : Prop :=
 Z24.c n a1 1 4096 (fun r15 => if (!r15) = false then (if (decide (a2 < 0)) = false then (if (decide (a1 < 63)) = true then (grd (decide (0 <= a1)) (let t16 : Int := Int.fdiv a2 (2 ^ (Nat.min (Int.toNat a1) 64)); Z0.j0 K a1 a2 n (!(decide (t16 = 0))))) else (Z0.j0 K a1 a2 n false)) else (Z0.j0 K a1 a2 n true)) else (Z0.j0 K a1 a2 n true))
def Z0.c : Nat -> Int -> Int -> (Int -> List Int -> Bool -> Prop) -> Prop
 | 0, _, _, _ => False
 | n + 1, a1, a2, K => Z0.w n  a1 a2 K
def Z29.l3.b (n : Nat) (x20 : List (tDecl)) (again3 : Int -> Int -> List (tBits) -> Prop) (x21 : Int) (x22 : Int) (x23 : List (tBits)) (Kx0w3 : List (tBits) -> Prop) : Prop :=
 if (decide (x22 >= 0)) = true then (grd (decide (0 <= x22) && decide (x22 < (x20.length : Int))) (grd (decide (0 <= (rd x20 (Int.toNat x22)).2)) (let t30 : Int := IntKind.wrap .i64 (1 * 2 ^ (Nat.min (Int.toNat ((rd x20 (Int.toNat x22)).2)) 64)); let t31 : Int := ibits .and .i64 x21 (IntKind.wrap .i64 (t30 - 1)); Z0.c n ((rd x20 (Int.toNat x22)).2) t31 (fun r32 r33 r34 => grd (decide (0 <= x22) && decide (x22 < (x23.length : Int))) (grd (decide (0 <= (rd x20 (Int.toNat x22)).2)) (let t35 : Int := Int.fdiv x21 (2 ^ (Nat.min (Int.toNat ((rd x20 (Int.toNat x22)).2)) 64)); again3 t35 (IntKind.wrap .i64 (x22 - 1)) (List.set x23 (Int.toNat x22) (r32, r33)))))))) else (Kx0w3 x23)
def Z29.l3 : Nat -> List (tDecl) -> Int -> Int -> List (tBits) -> (List (tBits) -> Prop) -> Prop
 | 0, _, _, _, _, _ => False
 | n + 1, x20, x21, x22, x23, Kx0w3 => Z29.l3.b n  x20 (fun x21q x22q x23q => Z29.l3 n x20 x21q x22q x23q Kx0w3) x21 x22 x23 Kx0w3
def Z29.w (n : Nat) (lp3 : List (tDecl) -> Int -> Int -> List (tBits) -> (List (tBits) -> Prop) -> Prop) (a1 : List (tDecl)) (a2 : Int) (K : List (tBits) -> Prop) : Prop :=
 grd ((decide (0 <= (a1.length : Int)) && decide ((a1.length : Int) <= 2132386187201)) && decide ((a1.length : Int) = (a1.length : Int))) (let t3 : List (tBits) := List.replicate (Int.toNat (a1.length : Int)) (0, ([] : List (Int))); lp3 a1 a2 (IntKind.wrap .i64 ((a1.length : Int) - 1)) t3 (fun y37 => K y37))
def Z29.c : Nat -> List (tDecl) -> Int -> (List (tBits) -> Prop) -> Prop
 | 0, _, _, _ => False
 | n + 1, a1, a2, K => Z29.w n (Z29.l3 n) a1 a2 K
def Z26.w (n : Nat) (a1 : Int) (a2 : Bool) (a3 : List (tTNode)) (a4 : List (tTNode)) (a5 : List (tBits)) (K : Bool -> Prop) : Prop :=
 Z12.c n (a1, a2, a3, a4) a5 (fun r6 => K (!r6))
def Z26.c : Nat -> Int -> Bool -> List (tTNode) -> List (tTNode) -> List (tBits) -> (Bool -> Prop) -> Prop
 | 0, _, _, _, _, _, _ => False
 | n + 1, a1, a2, a3, a4, a5, K => Z26.w n  a1 a2 a3 a4 a5 K
def Z81.l2.b (n : Nat) (x9 : List (tLiteral)) (x10 : List (tBits)) (x11 : Int) (again2 : Int -> Prop) (x12 : Int) (Kx0w2 : Prop) (Kr2 : Int -> Prop) : Prop :=
 if (decide (x12 < x11)) = true then (grd (decide (0 <= x12) && decide (x12 < (x9.length : Int))) (Z26.c n ((rd x9 (Int.toNat x12)).1) (((rd x9 (Int.toNat x12)).2).1) ((((rd x9 (Int.toNat x12)).2).2).1) ((((rd x9 (Int.toNat x12)).2).2).2) x10 (fun r14 => if r14 = true then (Kr2 x12) else (again2 (IntKind.wrap .i64 (x12 + 1)))))) else (Kx0w2)
def Z81.l2 : Nat -> List (tLiteral) -> List (tBits) -> Int -> Int -> Prop -> (Int -> Prop) -> Prop
 | 0, _, _, _, _, _, _ => False
 | n + 1, x9, x10, x11, x12, Kx0w2, Kr2 => Z81.l2.b n  x9 x10 x11 (fun x12q => Z81.l2 n x9 x10 x11 x12q Kx0w2 Kr2) x12 Kx0w2 Kr2
def Z81.w (n : Nat) (lp2 : List (tLiteral) -> List (tBits) -> Int -> Int -> Prop -> (Int -> Prop) -> Prop) (a1 : List (tLiteral)) (a2 : List (tBits)) (K : Int -> Prop) : Prop :=
 lp2 a1 a2 (a1.length : Int) 0 (K (-1)) (fun y16 => K y16)
def Z81.c : Nat -> List (tLiteral) -> List (tBits) -> (Int -> Prop) -> Prop
 | 0, _, _, _ => False
 | n + 1, a1, a2, K => Z81.w n (Z81.l2 n) a1 a2 K
def Z77.w (n : Nat) (a1 : List (tLiteral)) (a2 : List (tBits)) (K : Bool -> Prop) : Prop :=
 Z81.c n a1 a2 (fun r3 => K (decide (r3 >= 0)))
def Z77.c : Nat -> List (tLiteral) -> List (tBits) -> (Bool -> Prop) -> Prop
 | 0, _, _, _ => False
 | n + 1, a1, a2, K => Z77.w n  a1 a2 K
def Z88.l5.b (n : Nat) (x20 : List (tDecl)) (x21 : List (tLiteral)) (x23 : Int) (again5 : Int -> Int -> Prop) (x22 : Int) (x24 : Int) (Kx0w5 : Prop) (Kr5 : Bool -> List (tBits) -> Prop) : Prop :=
 grd (decide (0 <= IntKind.wrap .u64 x23)) (let t26 : Int := IntKind.wrap .i64 (1 * 2 ^ (Nat.min (Int.toNat (IntKind.wrap .u64 x23)) 64)); if (decide (x24 < t26)) = true then (Z102.c n x20 x24 (fun r31 => Z101.c n r31 x21 (fun r33 => if (!r33) = true then (again5 x22 (IntKind.wrap .i64 (x24 + 1))) else (if (decide (x22 = 0)) = true then (Kr5 true r31) else (again5 (IntKind.wrap .i64 (x22 - 1)) (IntKind.wrap .i64 (x24 + 1))))))) else (Kx0w5))
def Z88.l5 : Nat -> List (tDecl) -> List (tLiteral) -> Int -> Int -> Int -> Prop -> (Bool -> List (tBits) -> Prop) -> Prop
 | 0, _, _, _, _, _, _, _ => False
 | n + 1, x20, x21, x23, x22, x24, Kx0w5, Kr5 => Z88.l5.b n  x20 x21 x23 (fun x22q x24q => Z88.l5 n x20 x21 x23 x22q x24q Kx0w5 Kr5) x22 x24 Kx0w5 Kr5
def Z88.w (n : Nat) (lp5 : List (tDecl) -> List (tLiteral) -> Int -> Int -> Int -> Prop -> (Bool -> List (tBits) -> Prop) -> Prop) (a1 : List (tDecl)) (a2 : List (tLiteral)) (a3 : Int) (K : List (tBits) -> Bool -> Prop) : Prop :=
 Z103.c n a1 a2 (fun r4 => if (decide (r4 < 0)) = false then (if (decide (a3 < 0)) = true then (K ([] : List (tBits)) false) else (lp5 a1 a2 r4 a3 0 (K ([] : List (tBits)) false) (fun y45 y46 => K y46 y45))) else (K ([] : List (tBits)) false))
def Z88.c : Nat -> List (tDecl) -> List (tLiteral) -> Int -> (List (tBits) -> Bool -> Prop) -> Prop
 | 0, _, _, _, _ => False
 | n + 1, a1, a2, a3, K => Z88.w n (Z88.l5 n) a1 a2 a3 K
def Z15.w (n : Nat) (a1 : Int) (a2 : Int) (a3 : Int) (K : Bool -> Int -> Int -> Prop) : Prop :=
 if (decide (a2 = 0)) = true then (K (decide (a1 < 0)) (IntKind.wrap .i64 (a2 - 1)) a1) else (K (decide (a3 < 0)) (IntKind.wrap .i64 (a2 - 1)) a3)
def Z15.c : Nat -> Int -> Int -> Int -> (Bool -> Int -> Int -> Prop) -> Prop
 | 0, _, _, _, _ => False
 | n + 1, a1, a2, a3, K => Z15.w n  a1 a2 a3 K
def Z27.l1.b (n : Nat) (x27 : List (tDecl)) (x28 : List (tLiteral)) (x29 : Int) (again1 : Int -> Int -> Int -> Prop) (x30 : Int) (x31 : Int) (x32 : Int) (Kx0w1 : Int -> Int -> Prop) (Kr1 : Int -> Int -> Prop) : Prop :=
 if (decide (x30 < x29)) = true then (Z29.c n x27 x30 (fun r41 => Z77.c n x28 r41 (fun r43 => if r43 = true then (again1 (IntKind.wrap .i64 (x30 + 1)) x31 x32) else (Z15.c n x30 x31 x32 (fun r44 r45 r46 => if (!r44) = true then (Kr1 r45 r46) else (again1 (IntKind.wrap .i64 (x30 + 1)) r45 r46)))))) else (Kx0w1 x31 x32)
def Z27.l1 : Nat -> List (tDecl) -> List (tLiteral) -> Int -> Int -> Int -> Int -> (Int -> Int -> Prop) -> (Int -> Int -> Prop) -> Prop
 | 0, _, _, _, _, _, _, _, _ => False
 | n + 1, x27, x28, x29, x30, x31, x32, Kx0w1, Kr1 => Z27.l1.b n  x27 x28 x29 (fun x30q x31q x32q => Z27.l1 n x27 x28 x29 x30q x31q x32q Kx0w1 Kr1) x30 x31 x32 Kx0w1 Kr1
def Z27.w (n : Nat) (lp1 : List (tDecl) -> List (tLiteral) -> Int -> Int -> Int -> Int -> (Int -> Int -> Prop) -> (Int -> Int -> Prop) -> Prop) (a1 : List (tDecl)) (a2 : List (tLiteral)) (a3 : Int) (a4 : Int) (K : Int -> Int -> Prop) : Prop :=
 Z30.c n a1 (fun r5 => grd (decide (0 <= r5)) (let t6 : Int := IntKind.wrap .i64 (1 * 2 ^ (Nat.min (Int.toNat r5) 64)); lp1 a1 a2 t6 0 a3 a4 (fun y47 y48 => K y47 y48) (fun y49 y50 => K y49 y50)))
def Z27.c : Nat -> List (tDecl) -> List (tLiteral) -> Int -> Int -> (Int -> Int -> Prop) -> Prop
 | 0, _, _, _, _, _ => False
 | n + 1, a1, a2, a3, a4, K => Z27.w n (Z27.l1 n) a1 a2 a3 a4 K
def Z14.j0 (K : List (tBits) -> Bool -> Prop) (a1 : List (tDecl)) (a2 : List (tLiteral)) (a3 : Int) (n : Nat) : Prop :=
 Z27.c n a1 a2 a3 (-1) (fun r7 r8 => if (decide (r8 < 0)) = true then (K ([] : List (tBits)) false) else (Z29.c n a1 r8 (fun r9 => K r9 true)))
def Z14.w (n : Nat) (a1 : List (tDecl)) (a2 : List (tLiteral)) (a3 : Int) (K : List (tBits) -> Bool -> Prop) : Prop :=
 Z20.c n a1 a2 (fun r12 => if (!r12) = false then (if (decide (a3 < 0)) = true then (K ([] : List (tBits)) false) else (Z14.j0 K a1 a2 a3 n)) else (K ([] : List (tBits)) false))
def Z14.c : Nat -> List (tDecl) -> List (tLiteral) -> Int -> (List (tBits) -> Bool -> Prop) -> Prop
 | 0, _, _, _, _ => False
 | n + 1, a1, a2, a3, K => Z14.w n  a1 a2 a3 K
def Z47.l2.b (n : Nat) (x10 : List Int) (again2 : Int -> Int -> Prop) (x11 : Int) (x12 : Int) (Kx0w2 : Int -> Prop) (Kr2 : Int -> Prop) : Prop :=
 if (decide (x12 < (x10.length : Int))) = true then (grd (decide (0 <= x12) && decide (x12 < (x10.length : Int))) (let t16 : Bool := !(decide (rd x10 (Int.toNat x12) = IntKind.wrap .u64 x11)); if t16 = true then (Kr2 (-1)) else (again2 (IntKind.wrap .i64 (x11 + 1)) (IntKind.wrap .i64 (x12 + 1))))) else (Kx0w2 x11)
def Z47.l2 : Nat -> List Int -> Int -> Int -> (Int -> Prop) -> (Int -> Prop) -> Prop
 | 0, _, _, _, _, _ => False
 | n + 1, x10, x11, x12, Kx0w2, Kr2 => Z47.l2.b n  x10 (fun x11q x12q => Z47.l2 n x10 x11q x12q Kx0w2 Kr2) x11 x12 Kx0w2 Kr2
def Z47.w (n : Nat) (lp2 : List Int -> Int -> Int -> (Int -> Prop) -> (Int -> Prop) -> Prop) (a1 : List Int) (a2 : Int) (K : Int -> Prop) : Prop :=
 lp2 a1 a2 0 (fun y19 => K y19) (fun y20 => K y20)
def Z47.c : Nat -> List Int -> Int -> (Int -> Prop) -> Prop
 | 0, _, _, _ => False
 | n + 1, a1, a2, K => Z47.w n (Z47.l2 n) a1 a2 K
def Z46.l2.b (n : Nat) (x8 : List (tBits)) (again2 : Int -> Int -> Prop) (x9 : Int) (x10 : Int) (Kx0w2 : Int -> Prop) (Kr2 : Int -> Prop) : Prop :=
 if (decide (x10 < (x8.length : Int))) = true then (grd (decide (0 <= x10) && decide (x10 < (x8.length : Int))) (if (!(decide ((rd x8 (Int.toNat x10)).1 = x9))) = true then (Kr2 (-1)) else (grd (decide (0 <= x10) && decide (x10 < (x8.length : Int))) (Z47.c n ((rd x8 (Int.toNat x10)).2) (IntKind.wrap .i64 (x9 + 1)) (fun r12 => if (decide (r12 < 0)) = true then (Kr2 (-1)) else (again2 r12 (IntKind.wrap .i64 (x10 + 1)))))))) else (Kx0w2 x9)
def Z46.l2 : Nat -> List (tBits) -> Int -> Int -> (Int -> Prop) -> (Int -> Prop) -> Prop
 | 0, _, _, _, _, _ => False
 | n + 1, x8, x9, x10, Kx0w2, Kr2 => Z46.l2.b n  x8 (fun x9q x10q => Z46.l2 n x8 x9q x10q Kx0w2 Kr2) x9 x10 Kx0w2 Kr2
def Z46.w (n : Nat) (lp2 : List (tBits) -> Int -> Int -> (Int -> Prop) -> (Int -> Prop) -> Prop) (a1 : List (tBits)) (a2 : Int) (K : Int -> Prop) : Prop :=
 lp2 a1 a2 0 (fun y15 => K y15) (fun y16 => K y16)
def Z46.c : Nat -> List (tBits) -> Int -> (Int -> Prop) -> Prop
 | 0, _, _, _ => False
 | n + 1, a1, a2, K => Z46.w n (Z46.l2 n) a1 a2 K
def laws_FnExactNthValues.q22.b (n : Nat) (x38 : List (tDecl)) (x39 : List (tLiteral)) (x40 : Int) (x41 : Bool) (x42 : Bool) (x43 : List (tBits)) (x44 : List (tBits)) (Kc22w0 : Bool -> Prop) (Kc22w1 : List (tDecl) -> List (tLiteral) -> Int -> Bool -> List (tBits) -> List (tBits) -> Prop) : Prop :=
 if x42 = true then (Kc22w0 false) else (Kc22w1 x38 x39 x40 x41 x43 x44)
def laws_FnExactNthValues.q22 : Nat -> List (tDecl) -> List (tLiteral) -> Int -> Bool -> Bool -> List (tBits) -> List (tBits) -> (Bool -> Prop) -> (List (tDecl) -> List (tLiteral) -> Int -> Bool -> List (tBits) -> List (tBits) -> Prop) -> Prop
 | 0, _, _, _, _, _, _, _, _, _ => False
 | n + 1, x38, x39, x40, x41, x42, x43, x44, Kc22w0, Kc22w1 => laws_FnExactNthValues.q22.b n  x38 x39 x40 x41 x42 x43 x44  Kc22w0 Kc22w1
def laws_FnExactNthValues.j0 (Kc14w0 : Bool -> Prop) (n : Nat) (r72 : Int) (r73 : List (tBits)) : Prop :=
 Z46.c n r73 1 (fun r82 => if (decide (r82 < 0)) = true then (Kc14w0 false) else (if (!(decide (r82 = r72))) = true then (Kc14w0 false) else (Kc14w0 true)))
def laws_FnExactNthValues.j1 (Kc14w0 : Bool -> Prop) (n : Nat) (j66 : List (tDecl)) (j67 : List (tLiteral)) (j68 : Int) (j69 : Bool) (j70 : List (tBits)) (j71 : List (tBits)) : Prop :=
 Z48.c n j71 1 (fun r72 r73 => Z46.c n r73 1 (fun r74 => if (decide (r74 < 0)) = true then (Kc14w0 false) else (if (!(decide (r74 = r72))) = true then (Kc14w0 false) else (Z68.c n j66 (fun r75 => Z71.c n j67 (fun r76 => Z14.c n r75 r76 j68 (fun r77 r78 => Z36.c n r77 j70 (fun r85 => if (!r85) = false then (if (!(r78 == j69)) = true then (Kc14w0 false) else (laws_FnExactNthValues.j0 Kc14w0 n r72 r73)) else (Kc14w0 false)))))))))
def laws_FnExactNthValues.q14.b (n : Nat) (lpq22 : List (tDecl) -> List (tLiteral) -> Int -> Bool -> Bool -> List (tBits) -> List (tBits) -> (Bool -> Prop) -> (List (tDecl) -> List (tLiteral) -> Int -> Bool -> List (tBits) -> List (tBits) -> Prop) -> Prop) (x16 : List (tDecl)) (x17 : List (tLiteral)) (x18 : Int) (x19 : Bool) (x20 : Bool) (x21 : List (tBits)) (x22 : List (tDecl)) (x23 : List (tLiteral)) (x24 : List (tBits)) (Kc14w0 : Bool -> Prop) : Prop :=
 Z68.c n x16 (fun r27 => Z38.c n x22 r27 (fun r28 => if (!r28) = true then (Kc14w0 false) else (Z71.c n x17 (fun r31 => Z41.c n x23 r31 (fun r32 => if (!r32) = true then (Kc14w0 false) else (Z49.c n x22 1 (fun r33 r34 => Z51.c n x23 r33 (fun r35 r36 => if (decide (r35 < 0)) = false then (Z36.c n x24 x21 (fun r86 => if (!r86) = false then (lpq22 x16 x17 x18 x19 (!(x20 == x19)) x21 x24 (fun y87 => Kc14w0 y87) (fun y88 y89 y90 y91 y92 y93 => laws_FnExactNthValues.j1 Kc14w0 n y88 y89 y90 y91 y92 y93)) else (lpq22 x16 x17 x18 x19 true x21 x24 (fun y94 => Kc14w0 y94) (fun y95 y96 y97 y98 y99 y100 => laws_FnExactNthValues.j1 Kc14w0 n y95 y96 y97 y98 y99 y100)))) else (lpq22 x16 x17 x18 x19 true x21 x24 (fun y101 => Kc14w0 y101) (fun y102 y103 y104 y105 y106 y107 => laws_FnExactNthValues.j1 Kc14w0 n y102 y103 y104 y105 y106 y107))))))))))
def laws_FnExactNthValues.q14 : Nat -> List (tDecl) -> List (tLiteral) -> Int -> Bool -> Bool -> List (tBits) -> List (tDecl) -> List (tLiteral) -> List (tBits) -> (Bool -> Prop) -> Prop
 | 0, _, _, _, _, _, _, _, _, _, _ => False
 | n + 1, x16, x17, x18, x19, x20, x21, x22, x23, x24, Kc14w0 => laws_FnExactNthValues.q14.b n (laws_FnExactNthValues.q22 n) x16 x17 x18 x19 x20 x21 x22 x23 x24  Kc14w0
def laws_FnExactNthValues.w (n : Nat) (lpq14 : List (tDecl) -> List (tLiteral) -> Int -> Bool -> Bool -> List (tBits) -> List (tDecl) -> List (tLiteral) -> List (tBits) -> (Bool -> Prop) -> Prop) (a1 : List (tDecl)) (a2 : List (tLiteral)) (a3 : Int) (K : Bool -> Prop) : Prop :=
 Z58.c n a1 1048576 (fun r4 => if (decide (r4 < 0)) = true then (K true) else (Z61.c n a2 r4 (fun r5 => if (decide (r5 < 0)) = true then (K true) else (Z68.c n a1 (fun r6 => Z71.c n a2 (fun r7 => Z88.c n r6 r7 a3 (fun r8 r9 => Z68.c n a1 (fun r10 => Z71.c n a2 (fun r11 => Z14.c n r10 r11 a3 (fun r12 r13 => Z36.c n r12 r8 (fun r109 => if (!r109) = false then (if (!(r13 == r9)) = true then (K false) else (lpq14 a1 a2 a3 r9 r13 r8 r10 r11 r12 (fun y110 => K y110))) else (K false))))))))))))
def laws_FnExactNthValues.c : Nat -> List (tDecl) -> List (tLiteral) -> Int -> (Bool -> Prop) -> Prop
 | 0, _, _, _, _ => False
 | n + 1, a1, a2, a3, K => laws_FnExactNthValues.w n (laws_FnExactNthValues.q14 n) a1 a2 a3 K
end Go.Vsi
end
