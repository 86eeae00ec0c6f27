/- Go functions, told on plain data. No statement is proved here. -/
import Derived.Test.YtglikghdpmkioaaM1

section
set_option linter.unusedVariables false
set_option synthInstance.maxSize 4096
namespace Go.Vsi
abbrev tDecl : Type := List UInt8 × Int
instance : DecidableEq tDecl := inferInstance
abbrev tTNode : Type := Int × Int × Int × Int × Int × List (Int) × List (Int)
instance : DecidableEq tTNode := inferInstance
abbrev tBits : Type := Int × List (Int)
instance : DecidableEq tBits := inferInstance
abbrev twriter : Type := List (tTNode) × List (Int)
instance : DecidableEq twriter := inferInstance
def laws_szDecl.w (n : Nat) (a1 : List UInt8) (a2 : Int) (a3 : Int) (K : Int → Prop) : Prop :=
 let t5 : Bool := decide (IntKind.wrap .i64 (a3 - (a1.length : Int)) < 0); if t5 = true then (K (-1)) else (K (IntKind.wrap .i64 (a3 - (a1.length : Int))))
def laws_szDecl.c : Nat → List UInt8 → Int → Int → (Int → Prop) → Prop
 | 0, _, _, _, _ => False
 | n + 1, a1, a2, a3, K => laws_szDecl.w n  a1 a2 a3 K
def laws_szDeclS.l5.b (n : Nat) (x10 : List (tDecl)) (again5 : Int → Int → Prop) (x11 : Int) (x12 : Int) (Kx0w5 : Int → Prop) (Kr5 : Int → Prop) : Prop :=
 if (decide (x12 < (x10.length : Int))) = true then (grd (decide (0 ≤ x12) && decide (x12 < (x10.length : Int))) (laws_szDecl.c n ((rd x10 (Int.toNat x12)).1) ((rd x10 (Int.toNat x12)).2) x11 (fun r14 => if (decide (r14 < 0)) = true then (Kr5 (-1)) else (again5 r14 (IntKind.wrap .i64 (x12 + 1)))))) else (Kx0w5 x11)
def laws_szDeclS.l5 : Nat → List (tDecl) → Int → Int → (Int → Prop) → (Int → Prop) → Prop
 | 0, _, _, _, _, _ => False
 | n + 1, x10, x11, x12, Kx0w5, Kr5 => laws_szDeclS.l5.b n  x10 (fun x11q x12q => laws_szDeclS.l5 n x10 x11q x12q Kx0w5 Kr5) x11 x12 Kx0w5 Kr5
def laws_szDeclS.w (n : Nat) (lp5 : List (tDecl) → Int → Int → (Int → Prop) → (Int → Prop) → Prop) (a1 : List (tDecl)) (a2 : Int) (K : Int → Prop) : Prop :=
 let t4 : Bool := decide (IntKind.wrap .i64 (a2 - (a1.length : Int)) < 0); if t4 = true then (K (-1)) else (lp5 a1 (IntKind.wrap .i64 (a2 - (a1.length : Int))) 0 (fun y17 => K y17) (fun y18 => K y18))
def laws_szDeclS.c : Nat → List (tDecl) → Int → (Int → Prop) → Prop
 | 0, _, _, _ => False
 | n + 1, a1, a2, K => laws_szDeclS.w n (laws_szDeclS.l5 n) a1 a2 K
def laws_szUint64S.w (n : Nat) (a1 : List Int) (a2 : Int) (K : Int → Prop) : Prop :=
 let t4 : Bool := decide (IntKind.wrap .i64 (a2 - (a1.length : Int)) < 0); if t4 = true then (K (-1)) else (K (IntKind.wrap .i64 (a2 - (a1.length : Int))))
def laws_szUint64S.c : Nat → List Int → Int → (Int → Prop) → Prop
 | 0, _, _, _ => False
 | n + 1, a1, a2, K => laws_szUint64S.w n  a1 a2 K
def laws_szBits.w (n : Nat) (a1 : Int) (a2 : List Int) (a3 : Int) (K : Int → Prop) : Prop :=
 laws_szUint64S.c n a2 a3 (fun r4 => if (decide (r4 < 0)) = true then (K (-1)) else (K r4))
def laws_szBits.c : Nat → Int → List Int → Int → (Int → Prop) → Prop
 | 0, _, _, _, _ => False
 | n + 1, a1, a2, a3, K => laws_szBits.w n  a1 a2 a3 K
def laws_szInt64S.w (n : Nat) (a1 : List Int) (a2 : Int) (K : Int → Prop) : Prop :=
 let t4 : Bool := decide (IntKind.wrap .i64 (a2 - (a1.length : Int)) < 0); if t4 = true then (K (-1)) else (K (IntKind.wrap .i64 (a2 - (a1.length : Int))))
def laws_szInt64S.c : Nat → List Int → Int → (Int → Prop) → Prop
 | 0, _, _, _ => False
 | n + 1, a1, a2, K => laws_szInt64S.w n  a1 a2 K
def laws_szTNode.w (n : Nat) (a1 : Int) (a2 : Int) (a3 : Int) (a4 : Int) (a5 : Int) (a6 : List Int) (a7 : List Int) (a8 : Int) (K : Int → Prop) : Prop :=
 laws_szBits.c n a5 a6 a8 (fun r9 => if (decide (r9 < 0)) = true then (K (-1)) else (laws_szInt64S.c n a7 r9 (fun r10 => if (decide (r10 < 0)) = true then (K (-1)) else (K r10))))
def laws_szTNode.c : Nat → Int → Int → Int → Int → Int → List Int → List Int → Int → (Int → Prop) → Prop
 | 0, _, _, _, _, _, _, _, _, _ => False
 | n + 1, a1, a2, a3, a4, a5, a6, a7, a8, K => laws_szTNode.w n  a1 a2 a3 a4 a5 a6 a7 a8 K
def laws_szTNodeS.l5.b (n : Nat) (x10 : List (tTNode)) (again5 : Int → Int → Prop) (x11 : Int) (x12 : Int) (Kx0w5 : Int → Prop) (Kr5 : Int → Prop) : Prop :=
 if (decide (x12 < (x10.length : Int))) = true then (grd (decide (0 ≤ x12) && decide (x12 < (x10.length : Int))) (let t16 : List Int := ((((((rd x10 (Int.toNat x12)).2).2).2).2).2).1; let t17 : List Int := ((((((rd x10 (Int.toNat x12)).2).2).2).2).2).2; laws_szTNode.c n ((rd x10 (Int.toNat x12)).1) (((rd x10 (Int.toNat x12)).2).1) ((((rd x10 (Int.toNat x12)).2).2).1) (((((rd x10 (Int.toNat x12)).2).2).2).1) ((((((rd x10 (Int.toNat x12)).2).2).2).2).1) t16 t17 x11 (fun r18 => if (decide (r18 < 0)) = true then (Kr5 (-1)) else (again5 r18 (IntKind.wrap .i64 (x12 + 1)))))) else (Kx0w5 x11)
def laws_szTNodeS.l5 : Nat → List (tTNode) → Int → Int → (Int → Prop) → (Int → Prop) → Prop
 | 0, _, _, _, _, _ => False
 | n + 1, x10, x11, x12, Kx0w5, Kr5 => laws_szTNodeS.l5.b n  x10 (fun x11q x12q => laws_szTNodeS.l5 n x10 x11q x12q Kx0w5 Kr5) x11 x12 Kx0w5 Kr5
def laws_szTNodeS.w (n : Nat) (lp5 : List (tTNode) → Int → Int → (Int → Prop) → (Int → Prop) → Prop) (a1 : List (tTNode)) (a2 : Int) (K : Int → Prop) : Prop :=
 let t4 : Bool := decide (IntKind.wrap .i64 (a2 - (a1.length : Int)) < 0); if t4 = true then (K (-1)) else (lp5 a1 (IntKind.wrap .i64 (a2 - (a1.length : Int))) 0 (fun y21 => K y21) (fun y22 => K y22))
def laws_szTNodeS.c : Nat → List (tTNode) → Int → (Int → Prop) → Prop
 | 0, _, _, _ => False
 | n + 1, a1, a2, K => laws_szTNodeS.w n (laws_szTNodeS.l5 n) a1 a2 K
def laws_szTerm.w (n : Nat) (a1 : List (tTNode)) (a2 : Int) (K : Int → Prop) : Prop :=
 laws_szTNodeS.c n a1 a2 (fun r3 => if (decide (r3 < 0)) = true then (K (-1)) else (K r3))
def laws_szTerm.c : Nat → List (tTNode) → Int → (Int → Prop) → Prop
 | 0, _, _, _ => False
 | n + 1, a1, a2, K => laws_szTerm.w n  a1 a2 K
def laws_toDecl.w (n : Nat) (a1 : List UInt8) (a2 : Int) (K : List UInt8 → Int → Prop) : Prop :=
 K a1 a2
def laws_toDecl.c : Nat → List UInt8 → Int → (List UInt8 → Int → Prop) → Prop
 | 0, _, _, _ => False
 | n + 1, a1, a2, K => laws_toDecl.w n  a1 a2 K
def laws_toDeclS.l3.b (n : Nat) (x10 : List (tDecl)) (again3 : Int → List (tDecl) → Prop) (x11 : Int) (x12 : List (tDecl)) (Kx0w3 : List (tDecl) → Prop) : Prop :=
 if (decide (x11 < (x10.length : Int))) = true then (grd (decide (0 ≤ x11) && decide (x11 < (x10.length : Int))) (laws_toDecl.c n ((rd x10 (Int.toNat x11)).1) ((rd x10 (Int.toNat x11)).2) (fun r15 r16 => grd (decide (0 ≤ x11) && decide (x11 < (x12.length : Int))) (again3 (IntKind.wrap .i64 (x11 + 1)) (List.set x12 (Int.toNat x11) (r15, r16)))))) else (Kx0w3 x12)
def laws_toDeclS.l3 : Nat → List (tDecl) → Int → List (tDecl) → (List (tDecl) → Prop) → Prop
 | 0, _, _, _, _ => False
 | n + 1, x10, x11, x12, Kx0w3 => laws_toDeclS.l3.b n  x10 (fun x11q x12q => laws_toDeclS.l3 n x10 x11q x12q Kx0w3) x11 x12 Kx0w3
def laws_toDeclS.w (n : Nat) (lp3 : List (tDecl) → Int → List (tDecl) → (List (tDecl) → Prop) → Prop) (a1 : List (tDecl)) (K : List (tDecl) → Prop) : Prop :=
 grd ((decide (0 ≤ (a1.length : Int)) && decide ((a1.length : Int) ≤ 2814749767106)) && decide ((a1.length : Int) = (a1.length : Int))) (let t2 : List (tDecl) := List.replicate (Int.toNat (a1.length : Int)) (([] : List UInt8), 0); lp3 a1 0 t2 (fun y18 => K y18))
def laws_toDeclS.c : Nat → List (tDecl) → (List (tDecl) → Prop) → Prop
 | 0, _, _ => False
 | n + 1, a1, K => laws_toDeclS.w n (laws_toDeclS.l3 n) a1 K
def laws_toUint64S.l3.b (n : Nat) (x8 : List Int) (again3 : Int → List Int → Prop) (x9 : Int) (x10 : List Int) (Kx0w3 : List Int → Prop) : Prop :=
 if (decide (x9 < (x8.length : Int))) = true then (grd (decide (0 ≤ x9) && decide (x9 < (x8.length : Int))) (grd (decide (0 ≤ x9) && decide (x9 < (x10.length : Int))) (let t12 : List Int := List.set x10 (Int.toNat x9) (rd x8 (Int.toNat x9)); again3 (IntKind.wrap .i64 (x9 + 1)) t12))) else (Kx0w3 x10)
def laws_toUint64S.l3 : Nat → List Int → Int → List Int → (List Int → Prop) → Prop
 | 0, _, _, _, _ => False
 | n + 1, x8, x9, x10, Kx0w3 => laws_toUint64S.l3.b n  x8 (fun x9q x10q => laws_toUint64S.l3 n x8 x9q x10q Kx0w3) x9 x10 Kx0w3
def laws_toUint64S.w (n : Nat) (lp3 : List Int → Int → List Int → (List Int → Prop) → Prop) (a1 : List Int) (K : List Int → Prop) : Prop :=
 grd ((decide (0 ≤ (a1.length : Int)) && decide ((a1.length : Int) ≤ 7818749353073)) && decide ((a1.length : Int) = (a1.length : Int))) (let t2 : List Int := List.replicate (Int.toNat (a1.length : Int)) 0; lp3 a1 0 t2 (fun y14 => K y14))
def laws_toUint64S.c : Nat → List Int → (List Int → Prop) → Prop
 | 0, _, _ => False
 | n + 1, a1, K => laws_toUint64S.w n (laws_toUint64S.l3 n) a1 K
def laws_toBits.w (n : Nat) (a1 : Int) (a2 : List Int) (K : Int → List Int → Prop) : Prop :=
 laws_toUint64S.c n a2 (fun r3 => K a1 r3)
def laws_toBits.c : Nat → Int → List Int → (Int → List Int → Prop) → Prop
 | 0, _, _, _ => False
 | n + 1, a1, a2, K => laws_toBits.w n  a1 a2 K
def laws_toInt64S.l3.b (n : Nat) (x8 : List Int) (again3 : Int → List Int → Prop) (x9 : Int) (x10 : List Int) (Kx0w3 : List Int → Prop) : Prop :=
 if (decide (x9 < (x8.length : Int))) = true then (grd (decide (0 ≤ x9) && decide (x9 < (x8.length : Int))) (grd (decide (0 ≤ x9) && decide (x9 < (x10.length : Int))) (let t12 : List Int := List.set x10 (Int.toNat x9) (rd x8 (Int.toNat x9)); again3 (IntKind.wrap .i64 (x9 + 1)) t12))) else (Kx0w3 x10)
def laws_toInt64S.l3 : Nat → List Int → Int → List Int → (List Int → Prop) → Prop
 | 0, _, _, _, _ => False
 | n + 1, x8, x9, x10, Kx0w3 => laws_toInt64S.l3.b n  x8 (fun x9q x10q => laws_toInt64S.l3 n x8 x9q x10q Kx0w3) x9 x10 Kx0w3
def laws_toInt64S.w (n : Nat) (lp3 : List Int → Int → List Int → (List Int → Prop) → Prop) (a1 : List Int) (K : List Int → Prop) : Prop :=
 grd ((decide (0 ≤ (a1.length : Int)) && decide ((a1.length : Int) ≤ 7818749353073)) && decide ((a1.length : Int) = (a1.length : Int))) (let t2 : List Int := List.replicate (Int.toNat (a1.length : Int)) 0; lp3 a1 0 t2 (fun y14 => K y14))
def laws_toInt64S.c : Nat → List Int → (List Int → Prop) → Prop
 | 0, _, _ => False
 | n + 1, a1, K => laws_toInt64S.w n (laws_toInt64S.l3 n) a1 K
def laws_toTNode.w (n : Nat) (a1 : Int) (a2 : Int) (a3 : Int) (a4 : Int) (a5 : Int) (a6 : List Int) (a7 : List Int) (K : Int → Int → Int → Int → Int → List Int → List Int → Prop) : Prop :=
 laws_toBits.c n a5 a6 (fun r8 r9 => laws_toInt64S.c n a7 (fun r10 => K a1 a2 a3 a4 r8 r9 r10))
def laws_toTNode.c : Nat → Int → Int → Int → Int → Int → List Int → List Int → (Int → Int → Int → Int → Int → List Int → List Int → Prop) → Prop
 | 0, _, _, _, _, _, _, _, _ => False
 | n + 1, a1, a2, a3, a4, a5, a6, a7, K => laws_toTNode.w n  a1 a2 a3 a4 a5 a6 a7 K
def laws_toTNodeS.l3.b (n : Nat) (x23 : List (tTNode)) (again3 : Int → List (tTNode) → Prop) (x24 : Int) (x25 : List (tTNode)) (Kx0w3 : List (tTNode) → Prop) : Prop :=
 if (decide (x24 < (x23.length : Int))) = true then (grd (decide (0 ≤ x24) && decide (x24 < (x23.length : Int))) (let t36 : List Int := ((((((rd x23 (Int.toNat x24)).2).2).2).2).2).1; let t37 : List Int := ((((((rd x23 (Int.toNat x24)).2).2).2).2).2).2; laws_toTNode.c n ((rd x23 (Int.toNat x24)).1) (((rd x23 (Int.toNat x24)).2).1) ((((rd x23 (Int.toNat x24)).2).2).1) (((((rd x23 (Int.toNat x24)).2).2).2).1) ((((((rd x23 (Int.toNat x24)).2).2).2).2).1) t36 t37 (fun r38 r39 r40 r41 r42 r43 r44 => grd (decide (0 ≤ x24) && decide (x24 < (x25.length : Int))) (let t45 : List (tTNode) := List.set x25 (Int.toNat x24) (r38, r39, r40, r41, r42, r43, r44); again3 (IntKind.wrap .i64 (x24 + 1)) t45)))) else (Kx0w3 x25)
def laws_toTNodeS.l3 : Nat → List (tTNode) → Int → List (tTNode) → (List (tTNode) → Prop) → Prop
 | 0, _, _, _, _ => False
 | n + 1, x23, x24, x25, Kx0w3 => laws_toTNodeS.l3.b n  x23 (fun x24q x25q => laws_toTNodeS.l3 n x23 x24q x25q Kx0w3) x24 x25 Kx0w3
def laws_toTNodeS.w (n : Nat) (lp3 : List (tTNode) → Int → List (tTNode) → (List (tTNode) → Prop) → Prop) (a1 : List (tTNode)) (K : List (tTNode) → Prop) : Prop :=
 let t2 : List (tTNode) := ([] : List (tTNode)); grd ((decide (0 ≤ (a1.length : Int)) && decide ((a1.length : Int) ≤ 790660046940)) && decide ((a1.length : Int) = (a1.length : Int))) (let t3 : List (tTNode) := List.replicate (Int.toNat (a1.length : Int)) (0, 0, 0, 0, 0, ([] : List (Int)), ([] : List (Int))); lp3 a1 0 t3 (fun y47 => K y47))
def laws_toTNodeS.c : Nat → List (tTNode) → (List (tTNode) → Prop) → Prop
 | 0, _, _ => False
 | n + 1, a1, K => laws_toTNodeS.w n (laws_toTNodeS.l3 n) a1 K
def laws_toTerm.w (n : Nat) (a1 : List (tTNode)) (K : List (tTNode) → Prop) : Prop :=
 let t2 : List (tTNode) := ([] : List (tTNode)); let t3 : List (tTNode) := ([] : List (tTNode)); laws_toTNodeS.c n a1 (fun r4 => K r4)
def laws_toTerm.c : Nat → List (tTNode) → (List (tTNode) → Prop) → Prop
 | 0, _, _ => False
 | n + 1, a1, K => laws_toTerm.w n  a1 K
def spec_l1Digit.w (n : Nat) (a1 : Int) (K : Bool → Prop) : Prop :=
 if (decide (a1 ≥ 48)) = true then (K (decide (a1 ≤ 57))) else (K false)
def spec_l1Digit.c : Nat → Int → (Bool → Prop) → Prop
 | 0, _, _ => False
 | n + 1, a1, K => spec_l1Digit.w n  a1 K
def spec_l1Name.l4.b (n : Nat) (x25 : List UInt8) (again4 : Int → Prop) (x26 : Int) (Kx0w4 : Prop) (Kr4 : Bool → Prop) : Prop :=
 if (decide (x26 < (x25.length : Int))) = true then (grd (decide (0 ≤ x26) && decide (x26 < (x25.length : Int))) (let t41 : Int := ((List.getD x25 (Int.toNat x26) 0).toNat : Int); spec_l1Digit.c n t41 (fun r42 => if (!r42) = true then (grd (decide (0 ≤ x26) && decide (x26 < (x25.length : Int))) (let t43 : Int := ((List.getD x25 (Int.toNat x26) 0).toNat : Int); if (decide (t43 < 97)) = false then (grd (decide (0 ≤ x26) && decide (x26 < (x25.length : Int))) (let t44 : Int := ((List.getD x25 (Int.toNat x26) 0).toNat : Int); if (decide (t44 > 122)) = true then (Kr4 false) else (again4 (IntKind.wrap .i64 (x26 + 1))))) else (Kr4 false))) else (again4 (IntKind.wrap .i64 (x26 + 1)))))) else (Kx0w4)
def spec_l1Name.l4 : Nat → List UInt8 → Int → Prop → (Bool → Prop) → Prop
 | 0, _, _, _, _ => False
 | n + 1, x25, x26, Kx0w4, Kr4 => spec_l1Name.l4.b n  x25 (fun x26q => spec_l1Name.l4 n x25 x26q Kx0w4 Kr4) x26 Kx0w4 Kr4
def spec_l1Name.w (n : Nat) (lp4 : List UInt8 → Int → Prop → (Bool → Prop) → Prop) (a1 : List UInt8) (K : Bool → Prop) : Prop :=
 if (decide ((a1.length : Int) < 1)) = false then (if (decide ((a1.length : Int) > 12)) = false then (grd (decide (0 < (a1.length : Int))) (spec_l1Digit.c n ((List.getD a1 0 0).toNat : Int) (fun r51 => if r51 = true then (K false) else (lp4 a1 0 (K true) (fun y53 => K y53))))) else (K false)) else (K false)
def spec_l1Name.c : Nat → List UInt8 → (Bool → Prop) → Prop
 | 0, _, _ => False
 | n + 1, a1, K => spec_l1Name.w n (spec_l1Name.l4 n) a1 K
def spec_l1In.w (n : Nat) (a1 : Int) (a2 : Int) (a3 : Int) (K : Bool → Prop) : Prop :=
 if (decide (a1 ≥ a2)) = true then (K (decide (a1 ≤ a3))) else (K false)
def spec_l1In.c : Nat → Int → Int → Int → (Bool → Prop) → Prop
 | 0, _, _, _, _ => False
 | n + 1, a1, a2, a3, K => spec_l1In.w n  a1 a2 a3 K
def spec_DeclsOk.l10.b (n : Nat) (x18 : List (tDecl)) (x19 : Int) (x20 : Int) (again10 : Int → Prop) (x21 : Int) (Kx2w10 : List (tDecl) → Int → Int → Prop) (Kr10 : Bool → Prop) : Prop :=
 if (decide (x21 < x20)) = true then (grd (decide (0 ≤ x21) && decide (x21 < (x18.length : Int))) (grd (decide (0 ≤ x20) && decide (x20 < (x18.length : Int))) (let t25 : Bool := (((rd x18 (Int.toNat x21)).1) == ((rd x18 (Int.toNat x20)).1)); if t25 = true then (Kr10 false) else (again10 (IntKind.wrap .i64 (x21 + 1)))))) else (Kx2w10 x18 x19 x20)
def spec_DeclsOk.l10 : Nat → List (tDecl) → Int → Int → Int → (List (tDecl) → Int → Int → Prop) → (Bool → Prop) → Prop
 | 0, _, _, _, _, _, _ => False
 | n + 1, x18, x19, x20, x21, Kx2w10, Kr10 => spec_DeclsOk.l10.b n  x18 x19 x20 (fun x21q => spec_DeclsOk.l10 n x18 x19 x20 x21q Kx2w10 Kr10) x21 Kx2w10 Kr10
def spec_DeclsOk.j3 (Kr5 : Bool → Prop) (again5 : List (tDecl) → Int → Int → Prop) (lp10 : List (tDecl) → Int → Int → Int → (List (tDecl) → Int → Int → Prop) → (Bool → Prop) → Prop) (x59 : List (tDecl)) (x60 : Int) (x61 : Int) : Prop :=
 lp10 x59 x60 x61 0 (fun y90 y91 y92 => grd (decide (0 ≤ y92) && decide (y92 < (y90.length : Int))) (let t93 : Int := IntKind.wrap .i64 (y91 + ((rd y90 (Int.toNat y92)).2)); again5 y90 t93 (IntKind.wrap .i64 (y92 + 1)))) (fun y94 => Kr5 y94)
def spec_DeclsOk.l5.b (n : Nat) (lp10 : List (tDecl) → Int → Int → Int → (List (tDecl) → Int → Int → Prop) → (Bool → Prop) → Prop) (again5 : List (tDecl) → Int → Int → Prop) (x59 : List (tDecl)) (x60 : Int) (x61 : Int) (Kx0w5 : Int → Prop) (Kr5 : Bool → Prop) : Prop :=
 if (decide (x61 < (x59.length : Int))) = true then (grd (decide (0 ≤ x61) && decide (x61 < (x59.length : Int))) (spec_l1Name.c n ((rd x59 (Int.toNat x61)).1) (fun r98 => if (!r98) = false then (grd (decide (0 ≤ x61) && decide (x61 < (x59.length : Int))) (spec_l1In.c n ((rd x59 (Int.toNat x61)).2) 1 4096 (fun r99 => if (!r99) = true then (Kr5 false) else (spec_DeclsOk.j3 Kr5 again5 lp10 x59 x60 x61)))) else (Kr5 false)))) else (Kx0w5 x60)
def spec_DeclsOk.l5 : Nat → List (tDecl) → Int → Int → (Int → Prop) → (Bool → Prop) → Prop
 | 0, _, _, _, _, _ => False
 | n + 1, x59, x60, x61, Kx0w5, Kr5 => spec_DeclsOk.l5.b n (spec_DeclsOk.l10 n)  (fun x59q x60q x61q => spec_DeclsOk.l5 n x59q x60q x61q Kx0w5 Kr5) x59 x60 x61 Kx0w5 Kr5
def spec_DeclsOk.w (n : Nat) (lp5 : List (tDecl) → Int → Int → (Int → Prop) → (Bool → Prop) → Prop) (a1 : List (tDecl)) (K : Bool → Prop) : Prop :=
 if (decide ((a1.length : Int) > 60)) = true then (K false) else (lp5 a1 0 0 (fun y102 => K (decide (y102 ≤ 20000))) (fun y103 => K y103))
def spec_DeclsOk.c : Nat → List (tDecl) → (Bool → Prop) → Prop
 | 0, _, _ => False
 | n + 1, a1, K => spec_DeclsOk.w n (spec_DeclsOk.l5 n) a1 K
def spec_l1Bit.w (n : Nat) (a1 : Int) (a2 : List Int) (a3 : Int) (K : Int → Prop) : Prop :=
 grd (decide (0 ≤ IntKind.wrap .i64 (Int.tdiv a3 64)) && decide (IntKind.wrap .i64 (Int.tdiv a3 64) < (a2.length : Int))) (let t4 : Int := rd a2 (Int.toNat (IntKind.wrap .i64 (Int.tdiv a3 64))); grd (decide (0 ≤ IntKind.wrap .u64 (Int.tmod a3 64))) (let t5 : Int := Int.fdiv t4 (2 ^ (Nat.min (Int.toNat (IntKind.wrap .u64 (Int.tmod a3 64))) 64)); K (IntKind.wrap .u8 (ibits .and .u64 t5 1))))
def spec_l1Bit.c : Nat → Int → List Int → Int → (Int → Prop) → Prop
 | 0, _, _, _, _ => False
 | n + 1, a1, a2, a3, K => spec_l1Bit.w n  a1 a2 a3 K
def spec_BitsOk.l4.b (n : Nat) (x16 : Int) (x17 : List Int) (again4 : Int → Prop) (x15 : Int) (Kx0w4 : Prop) (Kr4 : Bool → Prop) : Prop :=
 let t19 : Bool := decide (x15 < IntKind.wrap .i64 (64 * (x17.length : Int))); if t19 = true then (spec_l1Bit.c n x16 x17 x15 (fun r21 => if (!(decide (r21 = 0))) = true then (Kr4 false) else (again4 (IntKind.wrap .i64 (x15 + 1))))) else (Kx0w4)
def spec_BitsOk.l4 : Nat → Int → List Int → Int → Prop → (Bool → Prop) → Prop
 | 0, _, _, _, _, _ => False
 | n + 1, x16, x17, x15, Kx0w4, Kr4 => spec_BitsOk.l4.b n  x16 x17 (fun x15q => spec_BitsOk.l4 n x16 x17 x15q Kx0w4 Kr4) x15 Kx0w4 Kr4
def spec_BitsOk.w (n : Nat) (lp4 : Int → List Int → Int → Prop → (Bool → Prop) → Prop) (a1 : Int) (a2 : List Int) (K : Bool → Prop) : Prop :=
 spec_l1In.c n a1 1 4096 (fun r29 => if (!r29) = false then (let t30 : Int := IntKind.wrap .i64 (Int.tdiv (IntKind.wrap .i64 (a1 + 63)) 64); if (!(decide ((a2.length : Int) = t30))) = true then (K false) else (lp4 a1 a2 a1 (K true) (fun y32 => K y32))) else (K false))
def spec_BitsOk.c : Nat → Int → List Int → (Bool → Prop) → Prop
 | 0, _, _, _ => False
 | n + 1, a1, a2, K => spec_BitsOk.w n (spec_BitsOk.l4 n) a1 a2 K
def spec_l3NoBits.w (n : Nat) (a1 : Int) (a2 : List Int) (K : Bool → Prop) : Prop :=
 if (decide (a1 = 0)) = true then (K (decide ((a2.length : Int) = 0))) else (K false)
def spec_l3NoBits.c : Nat → Int → List Int → (Bool → Prop) → Prop
 | 0, _, _, _ => False
 | n + 1, a1, a2, K => spec_l3NoBits.w n  a1 a2 K
def spec_l3One.w (n : Nat) (a1 : Int) (K : Bool → Prop) : Prop :=
 spec_l1In.c n a1 4 9 (fun r2 => K r2)
def spec_l3One.c : Nat → Int → (Bool → Prop) → Prop
 | 0, _, _ => False
 | n + 1, a1, K => spec_l3One.w n  a1 K
def spec_l3Form.l2.b (n : Nat) (x22 : List (tDecl)) (x23 : Int) (x25 : Int) (x26 : Int) (x27 : Int) (x28 : Int) (x29 : Int) (x30 : List Int) (x31 : List Int) (again2 : Int → Prop) (x24 : Int) (Kx0w2 : List (tDecl) → Int → Int → Int → Int → Int → List Int → List Int → Prop) (Kr2 : Bool → Prop) : Prop :=
 if (decide (x24 < (x31.length : Int))) = true then (grd (decide (0 ≤ x24) && decide (x24 < (x31.length : Int))) (spec_l1In.c n (rd x31 (Int.toNat x24)) 0 (IntKind.wrap .i64 (x23 - 1)) (fun r33 => if (!r33) = true then (Kr2 false) else (again2 (IntKind.wrap .i64 (x24 + 1)))))) else (Kx0w2 x22 x25 x26 x27 x28 x29 x30 x31)
def spec_l3Form.l2 : Nat → List (tDecl) → Int → Int → Int → Int → Int → Int → List Int → List Int → Int → (List (tDecl) → Int → Int → Int → Int → Int → List Int → List Int → Prop) → (Bool → Prop) → Prop
 | 0, _, _, _, _, _, _, _, _, _, _, _, _ => False
 | n + 1, x22, x23, x25, x26, x27, x28, x29, x30, x31, x24, Kx0w2, Kr2 => spec_l3Form.l2.b n  x22 x23 x25 x26 x27 x28 x29 x30 x31 (fun x24q => spec_l3Form.l2 n x22 x23 x25 x26 x27 x28 x29 x30 x31 x24q Kx0w2 Kr2) x24 Kx0w2 Kr2
def spec_l3Form.q7.b (n : Nat) (x53 : List (tDecl)) (x54 : Bool) (x55 : Int) (x56 : Int) (x57 : Int) (x58 : Int) (x59 : Int) (x60 : List Int) (x61 : List Int) (Kc7w0 : Bool → Prop) (Kc7w1 : List (tDecl) → Int → Int → Int → Int → Int → List Int → List Int → Prop) : Prop :=
 if x54 = true then (Kc7w0 false) else (Kc7w1 x53 x55 x56 x57 x58 x59 x60 x61)
def spec_l3Form.q7 : Nat → List (tDecl) → Bool → Int → Int → Int → Int → Int → List Int → List Int → (Bool → Prop) → (List (tDecl) → Int → Int → Int → Int → Int → List Int → List Int → Prop) → Prop
 | 0, _, _, _, _, _, _, _, _, _, _, _ => False
 | n + 1, x53, x54, x55, x56, x57, x58, x59, x60, x61, Kc7w0, Kc7w1 => spec_l3Form.q7.b n  x53 x54 x55 x56 x57 x58 x59 x60 x61  Kc7w0 Kc7w1
def spec_l3Form.q8.b (n : Nat) (x71 : List (tDecl)) (x72 : Int) (x73 : Int) (x74 : Int) (x75 : Int) (x76 : Int) (x77 : List Int) (x78 : List Int) (Kc8w0 : Bool → Prop) : Prop :=
 if (decide (x72 = 1)) = true then (if (decide ((x78.length : Int) = 0)) = true then (spec_l1In.c n x73 0 (IntKind.wrap .i64 ((x71.length : Int) - 1)) (fun r88 => Kc8w0 r88)) else (Kc8w0 false)) else (if (decide (x72 = 2)) = true then (if (decide ((x78.length : Int) = 0)) = true then (spec_BitsOk.c n x76 x77 (fun r91 => Kc8w0 r91)) else (Kc8w0 false)) else (if (decide (x72 = 3)) = true then (Kc8w0 (decide ((x78.length : Int) ≥ 2))) else (spec_l3One.c n x72 (fun r92 => if r92 = true then (Kc8w0 (decide ((x78.length : Int) = 1))) else (Kc8w0 false)))))
def spec_l3Form.q8 : Nat → List (tDecl) → Int → Int → Int → Int → Int → List Int → List Int → (Bool → Prop) → Prop
 | 0, _, _, _, _, _, _, _, _, _ => False
 | n + 1, x71, x72, x73, x74, x75, x76, x77, x78, Kc8w0 => spec_l3Form.q8.b n  x71 x72 x73 x74 x75 x76 x77 x78  Kc8w0
def spec_l3Form.w (n : Nat) (lp2 : List (tDecl) → Int → Int → Int → Int → Int → Int → List Int → List Int → Int → (List (tDecl) → Int → Int → Int → Int → Int → List Int → List Int → Prop) → (Bool → Prop) → Prop) (lpq7 : List (tDecl) → Bool → Int → Int → Int → Int → Int → List Int → List Int → (Bool → Prop) → (List (tDecl) → Int → Int → Int → Int → Int → List Int → List Int → Prop) → Prop) (lpq8 : List (tDecl) → Int → Int → Int → Int → Int → List Int → List Int → (Bool → Prop) → Prop) (a1 : List (tDecl)) (a2 : Int) (a3 : Int) (a4 : Int) (a5 : Int) (a6 : Int) (a7 : List Int) (a8 : List Int) (a9 : Int) (K : Bool → Prop) : Prop :=
 lp2 a1 a9 a2 a3 a4 a5 a6 a7 a8 0 (fun y43 y44 y45 y46 y47 y48 y49 y50 => if (!(decide (y44 = 1))) = true then (if (!(decide (y45 = 0))) = false then (if (!(decide (y44 = 2))) = true then (spec_l3NoBits.c n y48 y49 (fun r51 => if (!r51) = false then (if (!(decide (y44 = 4))) = true then (if (!(decide (y47 = 0))) = false then (spec_l3One.c n y44 (fun r52 => if (!r52) = true then (lpq7 y43 (!(decide (y46 = 0))) y44 y45 y46 y47 y48 y49 y50 (fun y62 => K y62) (fun y63 y64 y65 y66 y67 y68 y69 y70 => lpq8 y63 y64 y65 y66 y67 y68 y69 y70 (fun y93 => K y93))) else (lpq7 y43 false y44 y45 y46 y47 y48 y49 y50 (fun y94 => K y94) (fun y95 y96 y97 y98 y99 y100 y101 y102 => lpq8 y95 y96 y97 y98 y99 y100 y101 y102 (fun y103 => K y103))))) else (lpq7 y43 true y44 y45 y46 y47 y48 y49 y50 (fun y104 => K y104) (fun y105 y106 y107 y108 y109 y110 y111 y112 => lpq8 y105 y106 y107 y108 y109 y110 y111 y112 (fun y113 => K y113)))) else (spec_l3One.c n y44 (fun r114 => if (!r114) = true then (lpq7 y43 (!(decide (y46 = 0))) y44 y45 y46 y47 y48 y49 y50 (fun y115 => K y115) (fun y116 y117 y118 y119 y120 y121 y122 y123 => lpq8 y116 y117 y118 y119 y120 y121 y122 y123 (fun y124 => K y124))) else (lpq7 y43 false y44 y45 y46 y47 y48 y49 y50 (fun y125 => K y125) (fun y126 y127 y128 y129 y130 y131 y132 y133 => lpq8 y126 y127 y128 y129 y130 y131 y132 y133 (fun y134 => K y134)))))) else (lpq7 y43 true y44 y45 y46 y47 y48 y49 y50 (fun y135 => K y135) (fun y136 y137 y138 y139 y140 y141 y142 y143 => lpq8 y136 y137 y138 y139 y140 y141 y142 y143 (fun y144 => K y144))))) else (if (!(decide (y44 = 4))) = true then (if (!(decide (y47 = 0))) = false then (spec_l3One.c n y44 (fun r145 => if (!r145) = true then (lpq7 y43 (!(decide (y46 = 0))) y44 y45 y46 y47 y48 y49 y50 (fun y146 => K y146) (fun y147 y148 y149 y150 y151 y152 y153 y154 => lpq8 y147 y148 y149 y150 y151 y152 y153 y154 (fun y155 => K y155))) else (lpq7 y43 false y44 y45 y46 y47 y48 y49 y50 (fun y156 => K y156) (fun y157 y158 y159 y160 y161 y162 y163 y164 => lpq8 y157 y158 y159 y160 y161 y162 y163 y164 (fun y165 => K y165))))) else (lpq7 y43 true y44 y45 y46 y47 y48 y49 y50 (fun y166 => K y166) (fun y167 y168 y169 y170 y171 y172 y173 y174 => lpq8 y167 y168 y169 y170 y171 y172 y173 y174 (fun y175 => K y175)))) else (spec_l3One.c n y44 (fun r176 => if (!r176) = true then (lpq7 y43 (!(decide (y46 = 0))) y44 y45 y46 y47 y48 y49 y50 (fun y177 => K y177) (fun y178 y179 y180 y181 y182 y183 y184 y185 => lpq8 y178 y179 y180 y181 y182 y183 y184 y185 (fun y186 => K y186))) else (lpq7 y43 false y44 y45 y46 y47 y48 y49 y50 (fun y187 => K y187) (fun y188 y189 y190 y191 y192 y193 y194 y195 => lpq8 y188 y189 y190 y191 y192 y193 y194 y195 (fun y196 => K y196))))))) else (lpq7 y43 true y44 y45 y46 y47 y48 y49 y50 (fun y197 => K y197) (fun y198 y199 y200 y201 y202 y203 y204 y205 => lpq8 y198 y199 y200 y201 y202 y203 y204 y205 (fun y206 => K y206)))) else (if (!(decide (y44 = 2))) = true then (spec_l3NoBits.c n y48 y49 (fun r207 => if (!r207) = false then (if (!(decide (y44 = 4))) = true then (if (!(decide (y47 = 0))) = false then (spec_l3One.c n y44 (fun r208 => if (!r208) = true then (lpq7 y43 (!(decide (y46 = 0))) y44 y45 y46 y47 y48 y49 y50 (fun y209 => K y209) (fun y210 y211 y212 y213 y214 y215 y216 y217 => lpq8 y210 y211 y212 y213 y214 y215 y216 y217 (fun y218 => K y218))) else (lpq7 y43 false y44 y45 y46 y47 y48 y49 y50 (fun y219 => K y219) (fun y220 y221 y222 y223 y224 y225 y226 y227 => lpq8 y220 y221 y222 y223 y224 y225 y226 y227 (fun y228 => K y228))))) else (lpq7 y43 true y44 y45 y46 y47 y48 y49 y50 (fun y229 => K y229) (fun y230 y231 y232 y233 y234 y235 y236 y237 => lpq8 y230 y231 y232 y233 y234 y235 y236 y237 (fun y238 => K y238)))) else (spec_l3One.c n y44 (fun r239 => if (!r239) = true then (lpq7 y43 (!(decide (y46 = 0))) y44 y45 y46 y47 y48 y49 y50 (fun y240 => K y240) (fun y241 y242 y243 y244 y245 y246 y247 y248 => lpq8 y241 y242 y243 y244 y245 y246 y247 y248 (fun y249 => K y249))) else (lpq7 y43 false y44 y45 y46 y47 y48 y49 y50 (fun y250 => K y250) (fun y251 y252 y253 y254 y255 y256 y257 y258 => lpq8 y251 y252 y253 y254 y255 y256 y257 y258 (fun y259 => K y259)))))) else (lpq7 y43 true y44 y45 y46 y47 y48 y49 y50 (fun y260 => K y260) (fun y261 y262 y263 y264 y265 y266 y267 y268 => lpq8 y261 y262 y263 y264 y265 y266 y267 y268 (fun y269 => K y269))))) else (if (!(decide (y44 = 4))) = true then (if (!(decide (y47 = 0))) = false then (spec_l3One.c n y44 (fun r270 => if (!r270) = true then (lpq7 y43 (!(decide (y46 = 0))) y44 y45 y46 y47 y48 y49 y50 (fun y271 => K y271) (fun y272 y273 y274 y275 y276 y277 y278 y279 => lpq8 y272 y273 y274 y275 y276 y277 y278 y279 (fun y280 => K y280))) else (lpq7 y43 false y44 y45 y46 y47 y48 y49 y50 (fun y281 => K y281) (fun y282 y283 y284 y285 y286 y287 y288 y289 => lpq8 y282 y283 y284 y285 y286 y287 y288 y289 (fun y290 => K y290))))) else (lpq7 y43 true y44 y45 y46 y47 y48 y49 y50 (fun y291 => K y291) (fun y292 y293 y294 y295 y296 y297 y298 y299 => lpq8 y292 y293 y294 y295 y296 y297 y298 y299 (fun y300 => K y300)))) else (spec_l3One.c n y44 (fun r301 => if (!r301) = true then (lpq7 y43 (!(decide (y46 = 0))) y44 y45 y46 y47 y48 y49 y50 (fun y302 => K y302) (fun y303 y304 y305 y306 y307 y308 y309 y310 => lpq8 y303 y304 y305 y306 y307 y308 y309 y310 (fun y311 => K y311))) else (lpq7 y43 false y44 y45 y46 y47 y48 y49 y50 (fun y312 => K y312) (fun y313 y314 y315 y316 y317 y318 y319 y320 => lpq8 y313 y314 y315 y316 y317 y318 y319 y320 (fun y321 => K y321)))))))) (fun y322 => K y322)
def spec_l3Form.c : Nat → List (tDecl) → Int → Int → Int → Int → Int → List Int → List Int → Int → (Bool → Prop) → Prop
 | 0, _, _, _, _, _, _, _, _, _, _ => False
 | n + 1, a1, a2, a3, a4, a5, a6, a7, a8, a9, K => spec_l3Form.w n (spec_l3Form.l2 n) (spec_l3Form.q7 n) (spec_l3Form.q8 n) a1 a2 a3 a4 a5 a6 a7 a8 a9 K
def spec_l3Wide.l3.b (n : Nat) (x23 : List (tDecl)) (x24 : List Int) (x27 : Int) (x28 : Int) (x29 : Int) (x30 : Int) (x31 : Int) (x32 : List Int) (x33 : List Int) (again3 : Int → Int → Prop) (x25 : Int) (x26 : Int) (Kx0w3 : List (tDecl) → Int → Int → Int → Int → Int → Int → List Int → List Int → Prop) : Prop :=
 if (decide (x26 < (x33.length : Int))) = true then (grd (decide (0 ≤ x26) && decide (x26 < (x33.length : Int))) (grd (decide (0 ≤ rd x33 (Int.toNat x26)) && decide (rd x33 (Int.toNat x26) < (x24.length : Int))) (let t35 : Int := IntKind.wrap .i64 (x25 + (rd x24 (Int.toNat (rd x33 (Int.toNat x26))))); again3 (if t35 < 8192 then t35 else 8192) (IntKind.wrap .i64 (x26 + 1))))) else (Kx0w3 x23 x25 x27 x28 x29 x30 x31 x32 x33)
def spec_l3Wide.l3 : Nat → List (tDecl) → List Int → Int → Int → Int → Int → Int → List Int → List Int → Int → Int → (List (tDecl) → Int → Int → Int → Int → Int → Int → List Int → List Int → Prop) → Prop
 | 0, _, _, _, _, _, _, _, _, _, _, _, _ => False
 | n + 1, x23, x24, x27, x28, x29, x30, x31, x32, x33, x25, x26, Kx0w3 => spec_l3Wide.l3.b n  x23 x24 x27 x28 x29 x30 x31 x32 x33 (fun x25q x26q => spec_l3Wide.l3 n x23 x24 x27 x28 x29 x30 x31 x32 x33 x25q x26q Kx0w3) x25 x26 Kx0w3
def spec_l3Wide.j2 (K : Int → Prop) (n : Nat) (y46 : Int) (y47 : Int) (y49 : Int) (j74 : Bool) : Prop :=
 if j74 = true then (spec_l1In.c n y49 0 4096 (fun r75 => if (!r75) = true then (K (-1)) else (K y46))) else (if (decide (y47 = 9)) = true then (spec_l1In.c n y49 1 4096 (fun r77 => if (!r77) = true then (K (-1)) else (K (IntKind.wrap .i64 (y46 * y49))))) else (K y46))
def spec_l3Wide.j3 (K : Int → Prop) (n : Nat) (y46 : Int) (y47 : Int) (y49 : Int) (j71 : Bool) : Prop :=
 if j71 = true then (spec_l1In.c n y49 0 4096 (fun r73 => if (!r73) = true then (K (-1)) else (K (IntKind.wrap .i64 (y46 + y49))))) else (if (decide (y47 = 7)) = true then (spec_l3Wide.j2 K n y46 y47 y49 true) else (spec_l3Wide.j2 K n y46 y47 y49 (decide (y47 = 8))))
def spec_l3Wide.w (n : Nat) (lp3 : List (tDecl) → List Int → Int → Int → Int → Int → Int → List Int → List Int → Int → Int → (List (tDecl) → Int → Int → Int → Int → Int → Int → List Int → List Int → Prop) → Prop) (a1 : List (tDecl)) (a2 : Int) (a3 : Int) (a4 : Int) (a5 : Int) (a6 : Int) (a7 : List Int) (a8 : List Int) (a9 : List Int) (K : Int → Prop) : Prop :=
 lp3 a1 a9 a2 a3 a4 a5 a6 a7 a8 0 0 (fun y45 y46 y47 y48 y49 y50 y51 y52 y53 => if (decide (y47 = 1)) = true then (grd (decide (0 ≤ y48) && decide (y48 < (y45.length : Int))) (K ((rd y45 (Int.toNat y48)).2))) else (if (decide (y47 = 2)) = true then (K y51) else (if (decide (y47 = 4)) = true then (if (decide (y50 < 0)) = false then (if (decide (y49 < y50)) = false then (if (decide (y49 ≥ y46)) = true then (K (-1)) else (let t70 : Int := IntKind.wrap .i64 ((IntKind.wrap .i64 (y49 - y50)) + 1); K t70)) else (K (-1))) else (K (-1))) else (if (decide (y47 = 5)) = true then (spec_l3Wide.j3 K n y46 y47 y49 true) else (spec_l3Wide.j3 K n y46 y47 y49 (decide (y47 = 6)))))))
def spec_l3Wide.c : Nat → List (tDecl) → Int → Int → Int → Int → Int → List Int → List Int → List Int → (Int → Prop) → Prop
 | 0, _, _, _, _, _, _, _, _, _, _ => False
 | n + 1, a1, a2, a3, a4, a5, a6, a7, a8, a9, K => spec_l3Wide.w n (spec_l3Wide.l3 n) a1 a2 a3 a4 a5 a6 a7 a8 a9 K
def spec_l3Widths.l16.b (n : Nat) (x37 : List (tDecl)) (x38 : Int) (x40 : List Int) (x42 : List Int) (x43 : List (tTNode)) (again16 : Int → List Bool → Prop) (x39 : Int) (x41 : List Bool) (Kx2w16 : List (tDecl) → Int → List Int → List Bool → List Int → List (tTNode) → Prop) : Prop :=
 grd (decide (0 ≤ x38) && decide (x38 < (x43.length : Int))) (let t45 : List Int := ((((((rd x43 (Int.toNat x38)).2).2).2).2).2).2; if (decide (x39 < (t45.length : Int))) = true then (grd (decide (0 ≤ x38) && decide (x38 < (x43.length : Int))) (let t48 : List Int := ((((((rd x43 (Int.toNat x38)).2).2).2).2).2).2; grd (decide (0 ≤ x39) && decide (x39 < (t48.length : Int))) (grd (decide (0 ≤ rd t48 (Int.toNat x39)) && decide (rd t48 (Int.toNat x39) < (x41.length : Int))) (let t49 : List Bool := List.set x41 (Int.toNat (rd t48 (Int.toNat x39))) true; again16 (IntKind.wrap .i64 (x39 + 1)) t49)))) else (Kx2w16 x37 x38 x40 x41 x42 x43))
def spec_l3Widths.l16 : Nat → List (tDecl) → Int → List Int → List Int → List (tTNode) → Int → List Bool → (List (tDecl) → Int → List Int → List Bool → List Int → List (tTNode) → Prop) → Prop
 | 0, _, _, _, _, _, _, _, _ => False
 | n + 1, x37, x38, x40, x42, x43, x39, x41, Kx2w16 => spec_l3Widths.l16.b n  x37 x38 x40 x42 x43 (fun x39q x41q => spec_l3Widths.l16 n x37 x38 x40 x42 x43 x39q x41q Kx2w16) x39 x41 Kx2w16
def spec_l3Widths.l7.b (n : Nat) (lp16 : List (tDecl) → Int → List Int → List Int → List (tTNode) → Int → List Bool → (List (tDecl) → Int → List Int → List Bool → List Int → List (tTNode) → Prop) → Prop) (again7 : List (tDecl) → Int → List Int → List Int → List Bool → List (tTNode) → Prop) (x73 : List (tDecl)) (x74 : Int) (x75 : List Int) (x76 : List Int) (x77 : List Bool) (x78 : List (tTNode)) (Kx0w7 : List Int → List Int → List Bool → Prop) (Kr7 : List Int → Prop) : Prop :=
 if (decide (x74 < (x78.length : Int))) = true then (grd (decide (0 ≤ x74) && decide (x74 < (x78.length : Int))) (let t99 : List Int := ((((((rd x78 (Int.toNat x74)).2).2).2).2).2).1; let t100 : List Int := ((((((rd x78 (Int.toNat x74)).2).2).2).2).2).2; spec_l3Form.c n x73 ((rd x78 (Int.toNat x74)).1) (((rd x78 (Int.toNat x74)).2).1) ((((rd x78 (Int.toNat x74)).2).2).1) (((((rd x78 (Int.toNat x74)).2).2).2).1) ((((((rd x78 (Int.toNat x74)).2).2).2).2).1) t99 t100 x74 (fun r101 => if (!r101) = true then (Kr7 x76) else (grd (decide (0 ≤ x74) && decide (x74 < (x78.length : Int))) (let t102 : List Int := ((((((rd x78 (Int.toNat x74)).2).2).2).2).2).1; let t103 : List Int := ((((((rd x78 (Int.toNat x74)).2).2).2).2).2).2; spec_l3Wide.c n x73 ((rd x78 (Int.toNat x74)).1) (((rd x78 (Int.toNat x74)).2).1) ((((rd x78 (Int.toNat x74)).2).2).1) (((((rd x78 (Int.toNat x74)).2).2).2).1) ((((((rd x78 (Int.toNat x74)).2).2).2).2).1) t102 t103 x75 (fun r104 => spec_l1In.c n r104 1 4096 (fun r106 => if (!r106) = true then (Kr7 x76) else (grd (decide (x75.length + ([r104] : List (Int)).length ≤ 7818749353073)) (lp16 x73 x74 x76 (x75 ++ ([r104] : List (Int))) x78 0 x77 (fun y107 y108 y109 y110 y111 y112 => again7 y107 (IntKind.wrap .i64 (y108 + 1)) y111 y109 y110 y112)))))))))) else (Kx0w7 x75 x76 x77)
def spec_l3Widths.l7 : Nat → List (tDecl) → Int → List Int → List Int → List Bool → List (tTNode) → (List Int → List Int → List Bool → Prop) → (List Int → Prop) → Prop
 | 0, _, _, _, _, _, _, _, _ => False
 | n + 1, x73, x74, x75, x76, x77, x78, Kx0w7, Kr7 => spec_l3Widths.l7.b n (spec_l3Widths.l16 n)  (fun x73q x74q x75q x76q x77q x78q => spec_l3Widths.l7 n x73q x74q x75q x76q x77q x78q Kx0w7 Kr7) x73 x74 x75 x76 x77 x78 Kx0w7 Kr7
def spec_l3Widths.l20.b (n : Nat) (x127 : List Int) (x128 : List Int) (x129 : List Bool) (again20 : Int → Prop) (x126 : Int) (Kx4w20 : List Int → Prop) (Kr20 : List Int → Prop) : Prop :=
 let t131 : Bool := decide (IntKind.wrap .i64 (x126 + 1) < (x129.length : Int)); if t131 = true then (grd (decide (0 ≤ x126) && decide (x126 < (x129.length : Int))) (if (!(rd x129 (Int.toNat x126))) = true then (Kr20 x128) else (again20 (IntKind.wrap .i64 (x126 + 1))))) else (Kx4w20 x127)
def spec_l3Widths.l20 : Nat → List Int → List Int → List Bool → Int → (List Int → Prop) → (List Int → Prop) → Prop
 | 0, _, _, _, _, _, _ => False
 | n + 1, x127, x128, x129, x126, Kx4w20, Kr20 => spec_l3Widths.l20.b n  x127 x128 x129 (fun x126q => spec_l3Widths.l20 n x127 x128 x129 x126q Kx4w20 Kr20) x126 Kx4w20 Kr20
def spec_l3Widths.j0 (K : List Int → Prop) (a1 : List (tDecl)) (a2 : List (tTNode)) (lp7 : List (tDecl) → Int → List Int → List Int → List Bool → List (tTNode) → (List Int → List Int → List Bool → Prop) → (List Int → Prop) → Prop) (lp20 : List Int → List Int → List Bool → Int → (List Int → Prop) → (List Int → Prop) → Prop) : Prop :=
 grd ((decide (0 ≤ (a2.length : Int)) && decide ((a2.length : Int) ≤ 35184372088832)) && decide ((a2.length : Int) = (a2.length : Int))) (let t6 : List Bool := List.replicate (Int.toNat (a2.length : Int)) false; lp7 a1 0 ([] : List (Int)) ([] : List (Int)) t6 a2 (fun y117 y118 y119 => lp20 y117 y118 y119 0 (fun y134 => K y134) (fun y135 => K y135)) (fun y136 => K y136))
def spec_l3Widths.w (n : Nat) (lp7 : List (tDecl) → Int → List Int → List Int → List Bool → List (tTNode) → (List Int → List Int → List Bool → Prop) → (List Int → Prop) → Prop) (lp20 : List Int → List Int → List Bool → Int → (List Int → Prop) → (List Int → Prop) → Prop) (a1 : List (tDecl)) (a2 : List (tTNode)) (K : List Int → Prop) : Prop :=
 spec_DeclsOk.c n a1 (fun r139 => if (!r139) = false then (if (decide ((a2.length : Int) < 1)) = false then (if (decide ((a2.length : Int) > 400)) = true then (K ([] : List (Int))) else (spec_l3Widths.j0 K a1 a2 lp7 lp20)) else (K ([] : List (Int)))) else (K ([] : List (Int))))
def spec_l3Widths.c : Nat → List (tDecl) → List (tTNode) → (List Int → Prop) → Prop
 | 0, _, _, _ => False
 | n + 1, a1, a2, K => spec_l3Widths.w n (spec_l3Widths.l7 n) (spec_l3Widths.l20 n) a1 a2 K
def spec_l1List.l3.b (n : Nat) (x11 : Int) (x12 : List Int) (again3 : Int → List Int → Prop) (x9 : Int) (x10 : List Int) (Kx0w3 : List Int → Prop) : Prop :=
 if (decide (x9 < x11)) = true then (spec_l1Bit.c n x11 x12 x9 (fun r14 => grd (decide (x10.length + ([r14] : List (Int)).length ≤ 35184372088832)) (again3 (IntKind.wrap .i64 (x9 + 1)) (x10 ++ ([r14] : List (Int)))))) else (Kx0w3 x10)
def spec_l1List.l3 : Nat → Int → List Int → Int → List Int → (List Int → Prop) → Prop
 | 0, _, _, _, _, _ => False
 | n + 1, x11, x12, x9, x10, Kx0w3 => spec_l1List.l3.b n  x11 x12 (fun x9q x10q => spec_l1List.l3 n x11 x12 x9q x10q Kx0w3) x9 x10 Kx0w3
def spec_l1List.w (n : Nat) (lp3 : Int → List Int → Int → List Int → (List Int → Prop) → Prop) (a1 : Int) (a2 : List Int) (K : List Int → Prop) : Prop :=
 lp3 a1 a2 0 ([] : List (Int)) (fun y16 => K y16)
def spec_l1List.c : Nat → Int → List Int → (List Int → Prop) → Prop
 | 0, _, _, _ => False
 | n + 1, a1, a2, K => spec_l1List.w n (spec_l1List.l3 n) a1 a2 K
def spec_l1From.l5.b (n : Nat) (x18 : List Int) (x21 : List Int) (x22 : Int) (x23 : Int) (again5 : Int → List Int → Prop) (x19 : Int) (x20 : List Int) (Kx0w5 : List Int → List Int → Int → Int → Prop) : Prop :=
 if (decide (x19 < (x18.length : Int))) = true then (grd (decide (0 ≤ IntKind.wrap .i64 (Int.tdiv x19 64)) && decide (IntKind.wrap .i64 (Int.tdiv x19 64) < (x20.length : Int))) (let t28 : Nat := Int.toNat (IntKind.wrap .i64 (Int.tdiv x19 64)); grd (decide (0 ≤ x19) && decide (x19 < (x18.length : Int))) (grd (decide (0 ≤ IntKind.wrap .u64 (Int.tmod x19 64))) (let t29 : Int := IntKind.wrap .u64 ((IntKind.wrap .u64 (rd x18 (Int.toNat x19))) * 2 ^ (Nat.min (Int.toNat (IntKind.wrap .u64 (Int.tmod x19 64))) 64)); grd (decide (0 ≤ IntKind.wrap .i64 (Int.tdiv x19 64)) && decide (IntKind.wrap .i64 (Int.tdiv x19 64) < (x20.length : Int))) (let t30 : Nat := Int.toNat (IntKind.wrap .i64 (Int.tdiv x19 64)); let t31 : List Int := List.set x20 t30 (ibits .or .u64 (rd x20 t28) t29); again5 (IntKind.wrap .i64 (x19 + 1)) t31))))) else (Kx0w5 x20 x21 x22 x23)
def spec_l1From.l5 : Nat → List Int → List Int → Int → Int → Int → List Int → (List Int → List Int → Int → Int → Prop) → Prop
 | 0, _, _, _, _, _, _, _ => False
 | n + 1, x18, x21, x22, x23, x19, x20, Kx0w5 => spec_l1From.l5.b n  x18 x21 x22 x23 (fun x19q x20q => spec_l1From.l5 n x18 x21 x22 x23 x19q x20q Kx0w5) x19 x20 Kx0w5
def spec_l1From.j0 (K : Int → List Int → Bool → Prop) (a1 : List Int) (lp5 : List Int → List Int → Int → Int → Int → List Int → (List Int → List Int → Int → Int → Prop) → Prop) : Prop :=
 let t3 : Int := IntKind.wrap .i64 (Int.tdiv (IntKind.wrap .i64 ((a1.length : Int) + 63)) 64); grd ((decide (0 ≤ t3) && decide (t3 ≤ 7818749353073)) && decide (t3 = t3)) (lp5 a1 ([] : List (Int)) 0 (a1.length : Int) 0 (List.replicate (Int.toNat t3) 0) (fun y36 y37 y38 y39 => K y39 y36 true))
def spec_l1From.w (n : Nat) (lp5 : List Int → List Int → Int → Int → Int → List Int → (List Int → List Int → Int → Int → Prop) → Prop) (a1 : List Int) (K : Int → List Int → Bool → Prop) : Prop :=
 if (decide ((a1.length : Int) < 1)) = false then (if (decide ((a1.length : Int) > 4096)) = true then (K 0 ([] : List (Int)) false) else (spec_l1From.j0 K a1 lp5)) else (K 0 ([] : List (Int)) false)
def spec_l1From.c : Nat → List Int → (Int → List Int → Bool → Prop) → Prop
 | 0, _, _ => False
 | n + 1, a1, K => spec_l1From.w n (spec_l1From.l5 n) a1 K
def spec_JoinBits.j0 (K : Int → List Int → Bool → Prop) (a1 : Int) (a2 : List Int) (a3 : Int) (a4 : List Int) (n : Nat) : Prop :=
 (spec_l1List.c n a3 a4 (fun r23 => spec_l1List.c n a1 a2 (fun r24 => grd (decide (r23.length + r24.length ≤ 35184372088832)) (spec_l1From.c n (r23 ++ r24) (fun r25 r26 r27 => K r25 r26 r27))))) ∧ (spec_l1List.c n a3 a4 (fun r28 => spec_l1List.c n a1 a2 (fun r29 => grd (decide (r28.length + r29.length ≤ 35184372088832)) (spec_l1From.c n (r28 ++ r29) (fun r30 r31 r32 => K r30 r31 r32)))))
def spec_JoinBits.w (n : Nat) (a1 : Int) (a2 : List Int) (a3 : Int) (a4 : List Int) (K : Int → List Int → Bool → Prop) : Prop :=
 spec_BitsOk.c n a1 a2 (fun r36 => if (!r36) = false then (spec_BitsOk.c n a3 a4 (fun r37 => if (!r37) = true then (K 0 ([] : List (Int)) false) else (spec_JoinBits.j0 K a1 a2 a3 a4 n))) else (K 0 ([] : List (Int)) false))
def spec_JoinBits.c : Nat → Int → List Int → Int → List Int → (Int → List Int → Bool → Prop) → Prop
 | 0, _, _, _, _, _ => False
 | n + 1, a1, a2, a3, a4, K => spec_JoinBits.w n  a1 a2 a3 a4 K
def spec_PartOf.j0 (K : Int → List Int → Bool → Prop) (a1 : Int) (a2 : List Int) (a3 : Int) (a4 : Int) (n : Nat) : Prop :=
 spec_l1List.c n a1 a2 (fun r8 => grd ((decide (0 ≤ a4) && (decide (0 ≤ IntKind.wrap .i64 (a3 + 1)) && decide (IntKind.wrap .i64 (a3 + 1) ≤ (r8.length : Int)))) && decide (a4 ≤ IntKind.wrap .i64 (a3 + 1))) (spec_l1From.c n (List.drop (Int.toNat a4) (List.take (Int.toNat (IntKind.wrap .i64 (a3 + 1))) r8)) (fun r9 r10 r11 => K r9 r10 r11)))
def spec_PartOf.w (n : Nat) (a1 : Int) (a2 : List Int) (a3 : Int) (a4 : Int) (K : Int → List Int → Bool → Prop) : Prop :=
 spec_BitsOk.c n a1 a2 (fun r14 => if (!r14) = false then (if (decide (a4 < 0)) = false then (if (decide (a3 < a4)) = false then (if (decide (a3 ≥ a1)) = true then (K 0 ([] : List (Int)) false) else (spec_PartOf.j0 K a1 a2 a3 a4 n)) else (K 0 ([] : List (Int)) false)) else (K 0 ([] : List (Int)) false)) else (K 0 ([] : List (Int)) false))
def spec_PartOf.c : Nat → Int → List Int → Int → Int → (Int → List Int → Bool → Prop) → Prop
 | 0, _, _, _, _, _ => False
 | n + 1, a1, a2, a3, a4, K => spec_PartOf.w n  a1 a2 a3 a4 K
def spec_WidenBits.l8.b (n : Nat) (x19 : Int) (x20 : Int) (x23 : List Int) (x24 : Int) (again8 : Int → List Int → Prop) (x21 : Int) (x22 : List Int) (Kx0w8 : List Int → List Int → Int → Prop) : Prop :=
 if (decide (x21 < x19)) = true then (grd (decide (x22.length + ([x20] : List (Int)).length ≤ 35184372088832)) (again8 (IntKind.wrap .i64 (x21 + 1)) (x22 ++ ([x20] : List (Int))))) else (Kx0w8 x22 x23 x24)
def spec_WidenBits.l8 : Nat → Int → Int → List Int → Int → Int → List Int → (List Int → List Int → Int → Prop) → Prop
 | 0, _, _, _, _, _, _, _ => False
 | n + 1, x19, x20, x23, x24, x21, x22, Kx0w8 => spec_WidenBits.l8.b n  x19 x20 x23 x24 (fun x21q x22q => spec_WidenBits.l8 n x19 x20 x23 x24 x21q x22q Kx0w8) x21 x22 Kx0w8
def spec_WidenBits.j0 (K : Int → List Int → Bool → Prop) (a1 : Int) (a2 : List Int) (a3 : Int) (a4 : Bool) (lp8 : Int → Int → List Int → Int → Int → List Int → (List Int → List Int → Int → Prop) → Prop) (n : Nat) : Prop :=
 spec_l1List.c n a1 a2 (fun r10 => if a4 = true then (grd (decide (0 ≤ IntKind.wrap .i64 ((r10.length : Int) - 1)) && decide (IntKind.wrap .i64 ((r10.length : Int) - 1) < (r10.length : Int))) (let t34 : Nat := Int.toNat (IntKind.wrap .i64 ((r10.length : Int) - 1)); lp8 a3 (rd r10 t34) ([] : List (Int)) 0 0 r10 (fun y38 y39 y40 => spec_l1From.c n y38 (fun r41 r42 r43 => K r41 r42 r43)))) else (lp8 a3 0 ([] : List (Int)) 0 0 r10 (fun y47 y48 y49 => spec_l1From.c n y47 (fun r50 r51 r52 => K r50 r51 r52))))
def spec_WidenBits.w (n : Nat) (lp8 : Int → Int → List Int → Int → Int → List Int → (List Int → List Int → Int → Prop) → Prop) (a1 : Int) (a2 : List Int) (a3 : Int) (a4 : Bool) (K : Int → List Int → Bool → Prop) : Prop :=
 spec_BitsOk.c n a1 a2 (fun r56 => if (!r56) = false then (spec_l1In.c n a3 0 4096 (fun r57 => if (!r57) = true then (K 0 ([] : List (Int)) false) else (spec_WidenBits.j0 K a1 a2 a3 a4 lp8 n))) else (K 0 ([] : List (Int)) false))
def spec_WidenBits.c : Nat → Int → List Int → Int → Bool → (Int → List Int → Bool → Prop) → Prop
 | 0, _, _, _, _, _ => False
 | n + 1, a1, a2, a3, a4, K => spec_WidenBits.w n (spec_WidenBits.l8 n) a1 a2 a3 a4 K
def spec_TurnBits.l6.b (n : Nat) (x21 : Int) (x23 : List Int) (x25 : List Int) (x26 : Int) (again6 : Int → List Int → Prop) (x22 : Int) (x24 : List Int) (Kx0w6 : List Int → List Int → Int → Prop) : Prop :=
 if (decide (x22 < (x23.length : Int))) = true then (grd (!(decide ((x23.length : Int) = 0))) (let t29 : Int := Int.tmod (IntKind.wrap .i64 (x22 + x21)) (x23.length : Int); grd (decide (0 ≤ x22) && decide (x22 < (x23.length : Int))) (grd (decide (0 ≤ t29) && decide (t29 < (x24.length : Int))) (let t30 : List Int := List.set x24 (Int.toNat t29) (rd x23 (Int.toNat x22)); again6 (IntKind.wrap .i64 (x22 + 1)) t30)))) else (Kx0w6 x24 x25 x26)
def spec_TurnBits.l6 : Nat → Int → List Int → List Int → Int → Int → List Int → (List Int → List Int → Int → Prop) → Prop
 | 0, _, _, _, _, _, _, _ => False
 | n + 1, x21, x23, x25, x26, x22, x24, Kx0w6 => spec_TurnBits.l6.b n  x21 x23 x25 x26 (fun x22q x24q => spec_TurnBits.l6 n x21 x23 x25 x26 x22q x24q Kx0w6) x22 x24 Kx0w6
def spec_TurnBits.j0 (K : Int → List Int → Bool → Prop) (a1 : Int) (a2 : List Int) (a3 : Int) (lp6 : Int → List Int → List Int → Int → Int → List Int → (List Int → List Int → Int → Prop) → Prop) (n : Nat) : Prop :=
 spec_l1List.c n a1 a2 (fun r9 => grd ((decide (0 ≤ (r9.length : Int)) && decide ((r9.length : Int) ≤ 35184372088832)) && decide ((r9.length : Int) = (r9.length : Int))) (let t10 : List Int := List.replicate (Int.toNat (r9.length : Int)) 0; lp6 a3 r9 ([] : List (Int)) 0 0 t10 (fun y34 y35 y36 => spec_l1From.c n y34 (fun r37 r38 r39 => K r37 r38 r39))))
def spec_TurnBits.w (n : Nat) (lp6 : Int → List Int → List Int → Int → Int → List Int → (List Int → List Int → Int → Prop) → Prop) (a1 : Int) (a2 : List Int) (a3 : Int) (K : Int → List Int → Bool → Prop) : Prop :=
 spec_BitsOk.c n a1 a2 (fun r43 => if (!r43) = false then (spec_l1In.c n a3 0 4096 (fun r44 => if (!r44) = true then (K 0 ([] : List (Int)) false) else (spec_TurnBits.j0 K a1 a2 a3 lp6 n))) else (K 0 ([] : List (Int)) false))
def spec_TurnBits.c : Nat → Int → List Int → Int → (Int → List Int → Bool → Prop) → Prop
 | 0, _, _, _, _ => False
 | n + 1, a1, a2, a3, K => spec_TurnBits.w n (spec_TurnBits.l6 n) a1 a2 a3 K
def spec_RepeatBits.l6.b (n : Nat) (x16 : Int) (x19 : List Int) (x20 : List Int) (x21 : Int) (again6 : Int → List Int → Prop) (x17 : Int) (x18 : List Int) (Kx0w6 : List Int → List Int → Int → Prop) : Prop :=
 if (decide (x17 < x16)) = true then (grd (decide (x18.length + x19.length ≤ 35184372088832)) (again6 (IntKind.wrap .i64 (x17 + 1)) (x18 ++ x19))) else (Kx0w6 x18 x20 x21)
def spec_RepeatBits.l6 : Nat → Int → List Int → List Int → Int → Int → List Int → (List Int → List Int → Int → Prop) → Prop
 | 0, _, _, _, _, _, _, _ => False
 | n + 1, x16, x19, x20, x21, x17, x18, Kx0w6 => spec_RepeatBits.l6.b n  x16 x19 x20 x21 (fun x17q x18q => spec_RepeatBits.l6 n x16 x19 x20 x21 x17q x18q Kx0w6) x17 x18 Kx0w6
def spec_RepeatBits.j0 (K : Int → List Int → Bool → Prop) (a1 : Int) (a2 : List Int) (a3 : Int) (lp6 : Int → List Int → List Int → Int → Int → List Int → (List Int → List Int → Int → Prop) → Prop) (n : Nat) (j33 : Bool) : Prop :=
 if j33 = true then (K 0 ([] : List (Int)) false) else (spec_l1List.c n a1 a2 (fun r34 => lp6 a3 r34 ([] : List (Int)) 0 0 ([] : List (Int)) (fun y38 y39 y40 => spec_l1From.c n y38 (fun r41 r42 r43 => K r41 r42 r43))))
def spec_RepeatBits.w (n : Nat) (lp6 : Int → List Int → List Int → Int → Int → List Int → (List Int → List Int → Int → Prop) → Prop) (a1 : Int) (a2 : List Int) (a3 : Int) (K : Int → List Int → Bool → Prop) : Prop :=
 spec_BitsOk.c n a1 a2 (fun r44 => if (!r44) = false then (spec_l1In.c n a3 1 4096 (fun r45 => if (!r45) = false then (spec_RepeatBits.j0 K a1 a2 a3 lp6 n (decide (IntKind.wrap .i64 (a1 * a3) > 4096))) else (spec_RepeatBits.j0 K a1 a2 a3 lp6 n true))) else (spec_RepeatBits.j0 K a1 a2 a3 lp6 n true))
def spec_RepeatBits.c : Nat → Int → List Int → Int → (Int → List Int → Bool → Prop) → Prop
 | 0, _, _, _, _ => False
 | n + 1, a1, a2, a3, K => spec_RepeatBits.w n (spec_RepeatBits.l6 n) a1 a2 a3 K
def spec_l4Node.l10.b (n : Nat) (x22 : List (tBits)) (x24 : List Int) (x25 : Int) (again10 : Int → Int → List Int → Prop) (x23 : Int) (x26 : Int) (x27 : List Int) (Kx1w10 : List Int → Int → Int → List Int → Prop) : Prop :=
 if (decide (x23 < (x22.length : Int))) = true then (grd (decide (0 ≤ x23) && decide (x23 < (x22.length : Int))) (spec_JoinBits.c n x26 x27 ((rd x22 (Int.toNat x23)).1) ((rd x22 (Int.toNat x23)).2) (fun r31 r32 r33 => again10 (IntKind.wrap .i64 (x23 + 1)) r31 r32))) else (Kx1w10 x24 x25 x26 x27)
def spec_l4Node.l10 : Nat → List (tBits) → List Int → Int → Int → Int → List Int → (List Int → Int → Int → List Int → Prop) → Prop
 | 0, _, _, _, _, _, _, _ => False
 | n + 1, x22, x24, x25, x23, x26, x27, Kx1w10 => spec_l4Node.l10.b n  x22 x24 x25 (fun x23q x26q x27q => spec_l4Node.l10 n x22 x24 x25 x23q x26q x27q Kx1w10) x23 x26 x27 Kx1w10
def spec_l4Node.w (n : Nat) (lp10 : List (tBits) → List Int → Int → Int → Int → List Int → (List Int → Int → Int → List Int → Prop) → Prop) (a1 : List (tBits)) (a2 : Int) (a3 : Int) (a4 : Int) (a5 : Int) (a6 : Int) (a7 : List Int) (a8 : List Int) (a9 : List (tBits)) (K : Int → List Int → Prop) : Prop :=
 if (decide (a2 = 1)) = true then (grd (decide (0 ≤ a3) && decide (a3 < (a1.length : Int))) (K ((rd a1 (Int.toNat a3)).1) ((rd a1 (Int.toNat a3)).2))) else (if (decide (a2 = 2)) = true then (K a6 a7) else (if (decide (a2 = 3)) = true then (grd (decide (0 < (a9.length : Int))) (lp10 a9 ([] : List (Int)) 0 1 ((rd a9 0).1) ((rd a9 0).2) (fun y61 y62 y63 y64 => K y63 y64))) else (if (decide (a2 = 4)) = true then (grd (decide (0 < (a9.length : Int))) (spec_PartOf.c n ((rd a9 0).1) ((rd a9 0).2) a4 a5 (fun r65 r66 r67 => K r65 r66))) else (if (decide (a2 = 5)) = true then (grd (decide (0 < (a9.length : Int))) (spec_WidenBits.c n ((rd a9 0).1) ((rd a9 0).2) a4 false (fun r68 r69 r70 => K r68 r69))) else (if (decide (a2 = 6)) = true then (grd (decide (0 < (a9.length : Int))) (spec_WidenBits.c n ((rd a9 0).1) ((rd a9 0).2) a4 true (fun r71 r72 r73 => K r71 r72))) else (if (decide (a2 = 7)) = true then (grd (decide (0 < (a9.length : Int))) (spec_TurnBits.c n ((rd a9 0).1) ((rd a9 0).2) a4 (fun r74 r75 r76 => K r74 r75))) else (if (decide (a2 = 8)) = true then (grd (decide (0 < (a9.length : Int))) (grd (decide (0 < (a9.length : Int))) (grd (!(decide ((rd a9 0).1 = 0))) (let t77 : Int := IntKind.wrap .i64 (((rd a9 0).1) - (Int.tmod a4 ((rd a9 0).1))); grd (!(decide ((rd a9 0).1 = 0))) (spec_TurnBits.c n ((rd a9 0).1) ((rd a9 0).2) (Int.tmod t77 ((rd a9 0).1)) (fun r78 r79 r80 => K r78 r79)))))) else (if (decide (a2 = 9)) = true then (grd (decide (0 < (a9.length : Int))) (spec_RepeatBits.c n ((rd a9 0).1) ((rd a9 0).2) a4 (fun r81 r82 r83 => K r81 r82))) else (K 0 ([] : List (Int)))))))))))
def spec_l4Node.c : Nat → List (tBits) → Int → Int → Int → Int → Int → List Int → List Int → List (tBits) → (Int → List Int → Prop) → Prop
 | 0, _, _, _, _, _, _, _, _, _, _ => False
 | n + 1, a1, a2, a3, a4, a5, a6, a7, a8, a9, K => spec_l4Node.w n (spec_l4Node.l10 n) a1 a2 a3 a4 a5 a6 a7 a8 a9 K
def impl_nameOk.l4.b (n : Nat) (x35 : List UInt8) (again4 : Int → Prop) (x36 : Int) (Kx0w4 : Prop) (Kr4 : Bool → Prop) : Prop :=
 if (decide (x36 < (x35.length : Int))) = true then (grd (decide (0 ≤ x36) && decide (x36 < (x35.length : Int))) (let t57 : Int := ((List.getD x35 (Int.toNat x36) 0).toNat : Int); if (decide (t57 < 97)) = false then (grd (decide (0 ≤ x36) && decide (x36 < (x35.length : Int))) (let t58 : Int := ((List.getD x35 (Int.toNat x36) 0).toNat : Int); if (decide (t58 > 122)) = true then (grd (decide (0 ≤ x36) && decide (x36 < (x35.length : Int))) (let t59 : Int := ((List.getD x35 (Int.toNat x36) 0).toNat : Int); if (decide (t59 < 48)) = false then (grd (decide (0 ≤ x36) && decide (x36 < (x35.length : Int))) (let t60 : Int := ((List.getD x35 (Int.toNat x36) 0).toNat : Int); if (decide (t60 > 57)) = true then (Kr4 false) else (again4 (IntKind.wrap .i64 (x36 + 1))))) else (Kr4 false))) else (again4 (IntKind.wrap .i64 (x36 + 1))))) else (grd (decide (0 ≤ x36) && decide (x36 < (x35.length : Int))) (let t61 : Int := ((List.getD x35 (Int.toNat x36) 0).toNat : Int); if (decide (t61 < 48)) = false then (grd (decide (0 ≤ x36) && decide (x36 < (x35.length : Int))) (let t62 : Int := ((List.getD x35 (Int.toNat x36) 0).toNat : Int); if (decide (t62 > 57)) = true then (Kr4 false) else (again4 (IntKind.wrap .i64 (x36 + 1))))) else (Kr4 false))))) else (Kx0w4)
def impl_nameOk.l4 : Nat → List UInt8 → Int → Prop → (Bool → Prop) → Prop
 | 0, _, _, _, _ => False
 | n + 1, x35, x36, Kx0w4, Kr4 => impl_nameOk.l4.b n  x35 (fun x36q => impl_nameOk.l4 n x35 x36q Kx0w4 Kr4) x36 Kx0w4 Kr4
def impl_nameOk.w (n : Nat) (lp4 : List UInt8 → Int → Prop → (Bool → Prop) → Prop) (a1 : List UInt8) (K : Bool → Prop) : Prop :=
 if (decide ((a1.length : Int) < 1)) = false then (if (decide ((a1.length : Int) > 12)) = false then (grd (decide (0 < (a1.length : Int))) (let t70 : Bool := decide (((List.getD a1 0 0).toNat : Int) < 97); if t70 = false then (grd (decide (0 < (a1.length : Int))) (let t71 : Bool := decide (((List.getD a1 0 0).toNat : Int) > 122); if t71 = true then (K false) else (lp4 a1 0 (K true) (fun y73 => K y73)))) else (K false))) else (K false)) else (K false)
def impl_nameOk.c : Nat → List UInt8 → (Bool → Prop) → Prop
 | 0, _, _ => False
 | n + 1, a1, K => impl_nameOk.w n (impl_nameOk.l4 n) a1 K
def impl_inside.w (n : Nat) (a1 : Int) (a2 : Int) (a3 : Int) (K : Bool → Prop) : Prop :=
 if (decide (a1 ≥ a2)) = true then (K (decide (a1 ≤ a3))) else (K false)
def impl_inside.c : Nat → Int → Int → Int → (Bool → Prop) → Prop
 | 0, _, _, _, _ => False
 | n + 1, a1, a2, a3, K => impl_inside.w n  a1 a2 a3 K
def impl_declared_1.w (n : Nat) (a1 : List UInt8) (a2 : Int) (a3 : List UInt8) (K : Bool → Prop) : Prop :=
 K (a1 == a3)
def impl_declared_1.c : Nat → List UInt8 → Int → List UInt8 → (Bool → Prop) → Prop
 | 0, _, _, _, _ => False
 | n + 1, a1, a2, a3, K => impl_declared_1.w n  a1 a2 a3 K
def slices_IndexFunc_Decl__impl_declared_1.l2.b (n : Nat) (x9 : List (tDecl)) (x10 : List UInt8) (x11 : Int) (again2 : Int → Prop) (x12 : Int) (Kx0w2 : Prop) (Kr2 : Int → Prop) : Prop :=
 if (decide (x12 < x11)) = true then (grd (decide (0 ≤ x12) && decide (x12 < (x9.length : Int))) (impl_declared_1.c n ((rd x9 (Int.toNat x12)).1) ((rd x9 (Int.toNat x12)).2) x10 (fun r14 => if r14 = true then (Kr2 x12) else (again2 (IntKind.wrap .i64 (x12 + 1)))))) else (Kx0w2)
def slices_IndexFunc_Decl__impl_declared_1.l2 : Nat → List (tDecl) → List UInt8 → Int → Int → Prop → (Int → Prop) → Prop
 | 0, _, _, _, _, _, _ => False
 | n + 1, x9, x10, x11, x12, Kx0w2, Kr2 => slices_IndexFunc_Decl__impl_declared_1.l2.b n  x9 x10 x11 (fun x12q => slices_IndexFunc_Decl__impl_declared_1.l2 n x9 x10 x11 x12q Kx0w2 Kr2) x12 Kx0w2 Kr2
def slices_IndexFunc_Decl__impl_declared_1.w (n : Nat) (lp2 : List (tDecl) → List UInt8 → Int → Int → Prop → (Int → Prop) → Prop) (a1 : List (tDecl)) (a2 : List UInt8) (K : Int → Prop) : Prop :=
 lp2 a1 a2 (a1.length : Int) 0 (K (-1)) (fun y16 => K y16)
def slices_IndexFunc_Decl__impl_declared_1.c : Nat → List (tDecl) → List UInt8 → (Int → Prop) → Prop
 | 0, _, _, _ => False
 | n + 1, a1, a2, K => slices_IndexFunc_Decl__impl_declared_1.w n (slices_IndexFunc_Decl__impl_declared_1.l2 n) a1 a2 K
def impl_declared.w (n : Nat) (a1 : List (tDecl)) (a2 : List UInt8) (K : Int → Prop) : Prop :=
 slices_IndexFunc_Decl__impl_declared_1.c n a1 a2 (fun r3 => K r3)
def impl_declared.c : Nat → List (tDecl) → List UInt8 → (Int → Prop) → Prop
 | 0, _, _, _ => False
 | n + 1, a1, a2, K => impl_declared.w n  a1 a2 K
def impl_DeclsOk.l5.b (n : Nat) (x42 : List (tDecl)) (x44 : List (tDecl)) (x45 : Int) (again5 : Int → Int → Prop) (x43 : Int) (x46 : Int) (Kx0w5 : Int → Prop) (Kr5 : Bool → Prop) : Prop :=
 if (decide (x46 < x45)) = true then (grd (decide (0 ≤ x46) && decide (x46 < (x44.length : Int))) (impl_nameOk.c n ((rd x44 (Int.toNat x46)).1) (fun r78 => if (!r78) = false then (impl_inside.c n ((rd x44 (Int.toNat x46)).2) 1 4096 (fun r79 => if (!r79) = false then (grd ((decide (0 ≤ x46) && decide (x46 ≤ (x42.length : Int))) && decide (0 ≤ x46)) (impl_declared.c n (List.drop 0 (List.take (Int.toNat x46) x42)) ((rd x44 (Int.toNat x46)).1) (fun r80 => if (decide (r80 ≥ 0)) = true then (Kr5 false) else (let t81 : Int := IntKind.wrap .i64 (x43 + ((rd x44 (Int.toNat x46)).2)); again5 t81 (IntKind.wrap .i64 (x46 + 1)))))) else (Kr5 false))) else (Kr5 false)))) else (Kx0w5 x43)
def impl_DeclsOk.l5 : Nat → List (tDecl) → List (tDecl) → Int → Int → Int → (Int → Prop) → (Bool → Prop) → Prop
 | 0, _, _, _, _, _, _, _ => False
 | n + 1, x42, x44, x45, x43, x46, Kx0w5, Kr5 => impl_DeclsOk.l5.b n  x42 x44 x45 (fun x43q x46q => impl_DeclsOk.l5 n x42 x44 x45 x43q x46q Kx0w5 Kr5) x43 x46 Kx0w5 Kr5
def impl_DeclsOk.w (n : Nat) (lp5 : List (tDecl) → List (tDecl) → Int → Int → Int → (Int → Prop) → (Bool → Prop) → Prop) (a1 : List (tDecl)) (K : Bool → Prop) : Prop :=
 if (decide ((a1.length : Int) > 60)) = true then (K false) else (lp5 a1 a1 (a1.length : Int) 0 0 (fun y84 => K (decide (y84 ≤ 20000))) (fun y85 => K y85))
def impl_DeclsOk.c : Nat → List (tDecl) → (Bool → Prop) → Prop
 | 0, _, _ => False
 | n + 1, a1, K => impl_DeclsOk.w n (impl_DeclsOk.l5 n) a1 K
def impl_wordsFor.w (n : Nat) (a1 : Int) (K : Int → Prop) : Prop :=
 let t2 : Int := IntKind.wrap .i64 (Int.tdiv (IntKind.wrap .i64 (a1 + 63)) 64); K t2
def impl_wordsFor.c : Nat → Int → (Int → Prop) → Prop
 | 0, _, _ => False
 | n + 1, a1, K => impl_wordsFor.w n  a1 K
def impl_BitsOk.j0 (K : Bool → Prop) (a1 : Int) (a2 : List Int) : Prop :=
 if (decide (Int.tmod a1 64 = 0)) = false then (grd (decide (0 ≤ IntKind.wrap .i64 ((a2.length : Int) - 1)) && decide (IntKind.wrap .i64 ((a2.length : Int) - 1) < (a2.length : Int))) (let t13 : Int := rd a2 (Int.toNat (IntKind.wrap .i64 ((a2.length : Int) - 1))); grd (decide (0 ≤ Int.tmod a1 64)) (let t14 : Int := Int.fdiv t13 (2 ^ (Nat.min (Int.toNat (Int.tmod a1 64)) 64)); K (decide (t14 = 0))))) else (K true)
def impl_BitsOk.w (n : Nat) (a1 : Int) (a2 : List Int) (K : Bool → Prop) : Prop :=
 impl_inside.c n a1 1 4096 (fun r19 => if (!r19) = false then ((impl_wordsFor.c n a1 (fun r20 => if (!(decide ((a2.length : Int) = r20))) = true then (K false) else (impl_BitsOk.j0 K a1 a2))) ∧ (impl_wordsFor.c n a1 (fun r21 => if (!(decide ((a2.length : Int) = r21))) = true then (K false) else (impl_BitsOk.j0 K a1 a2)))) else ((K false) ∧ (K false)))
def impl_BitsOk.c : Nat → Int → List Int → (Bool → Prop) → Prop
 | 0, _, _, _ => False
 | n + 1, a1, a2, K => impl_BitsOk.w n  a1 a2 K
end Go.Vsi
end

section
set_option linter.unusedVariables false
set_option synthInstance.maxSize 4096
namespace Go.Vsi
def impl_TNode_width.l11.b (n : Nat) (x24 : List Int) (x25 : Int) (again11 : Int → Int → Prop) (x23 : Int) (x26 : Int) (Kx1w11 : Int → Prop) : Prop :=
 if (decide (x26 < x25)) = true then (grd (decide (0 ≤ x26) && decide (x26 < (x24.length : Int))) (let t28 : Int := IntKind.wrap .i64 (x23 + (rd x24 (Int.toNat x26))); again11 t28 (IntKind.wrap .i64 (x26 + 1)))) else (Kx1w11 x23)
def impl_TNode_width.l11 : Nat → List Int → Int → Int → Int → (Int → Prop) → Prop
 | 0, _, _, _, _, _ => False
 | n + 1, x24, x25, x23, x26, Kx1w11 => impl_TNode_width.l11.b n  x24 x25 (fun x23q x26q => impl_TNode_width.l11 n x24 x25 x23q x26q Kx1w11) x23 x26 Kx1w11
def impl_TNode_width.j0 (Kc21w0 : Int → Prop) (Kc21w1 : Prop) (n : Nat) (x35 : tTNode) (x36 : Int) (j40 : Bool) : Prop :=
 if j40 = true then (Kc21w0 x36) else (if (decide (x35.1 = 9)) = true then (impl_inside.c n x35.2.2.1 1 4096 (fun r43 => if r43 = true then (Kc21w0 (IntKind.wrap .i64 (x36 * x35.2.2.1))) else (Kc21w1))) else (Kc21w1))
def impl_TNode_width.q21.b (n : Nat) (x35 : tTNode) (x36 : Int) (x37 : Bool) (Kc21w0 : Int → Prop) (Kc21w1 : Prop) : Prop :=
 if x37 = true then (Kc21w0 (IntKind.wrap .i64 (x36 + x35.2.2.1))) else (if (decide (x35.1 = 7)) = false then (if (decide (x35.1 = 8)) = true then (impl_inside.c n x35.2.2.1 0 4096 (fun r44 => impl_TNode_width.j0 Kc21w0 Kc21w1 n x35 x36 r44)) else (impl_TNode_width.j0 Kc21w0 Kc21w1 n x35 x36 false)) else (impl_inside.c n x35.2.2.1 0 4096 (fun r45 => impl_TNode_width.j0 Kc21w0 Kc21w1 n x35 x36 r45)))
def impl_TNode_width.q21 : Nat → tTNode → Int → Bool → (Int → Prop) → Prop → Prop
 | 0, _, _, _, _, _ => False
 | n + 1, x35, x36, x37, Kc21w0, Kc21w1 => impl_TNode_width.q21.b n  x35 x36 x37  Kc21w0 Kc21w1
def impl_TNode_width.j1 (Kc9w0 : Int → Prop) (Kc9w1 : Prop) (lpq21 : tTNode → Int → Bool → (Int → Prop) → Prop → Prop) (n : Nat) (x13 : tTNode) (x15 : Int) (j31 : Bool) : Prop :=
 if j31 = true then (let t33 : Int := IntKind.wrap .i64 ((IntKind.wrap .i64 (x13.2.2.1 - x13.2.2.2.1)) + 1); Kc9w0 t33) else (if (decide (x13.1 = 5)) = false then (if (decide (x13.1 = 6)) = true then (impl_inside.c n x13.2.2.1 0 4096 (fun r34 => lpq21 x13 x15 r34 (fun y46 => Kc9w0 y46) (Kc9w1))) else (lpq21 x13 x15 false (fun y47 => Kc9w0 y47) (Kc9w1))) else (impl_inside.c n x13.2.2.1 0 4096 (fun r48 => lpq21 x13 x15 r48 (fun y49 => Kc9w0 y49) (Kc9w1))))
def impl_TNode_width.q9.b (n : Nat) (lp11 : List Int → Int → Int → Int → (Int → Prop) → Prop) (lpq21 : tTNode → Int → Bool → (Int → Prop) → Prop → Prop) (x13 : tTNode) (x14 : List Int) (x15 : Int) (x16 : Bool) (Kc9w0 : Int → Prop) (Kc9w1 : Prop) : Prop :=
 if x16 = true then (lp11 x14 (x14.length : Int) 0 0 (fun y30 => Kc9w0 y30)) else (if (!(decide ((x14.length : Int) = 1))) = true then (Kc9w0 (-1)) else (if (decide (x13.1 = 4)) = true then (if (decide (x13.2.2.2.1 ≥ 0)) = true then (if (decide (x13.2.2.2.1 ≤ x13.2.2.1)) = true then (impl_TNode_width.j1 Kc9w0 Kc9w1 lpq21 n x13 x15 (decide (x13.2.2.1 < x15))) else (impl_TNode_width.j1 Kc9w0 Kc9w1 lpq21 n x13 x15 false)) else (impl_TNode_width.j1 Kc9w0 Kc9w1 lpq21 n x13 x15 false)) else (impl_TNode_width.j1 Kc9w0 Kc9w1 lpq21 n x13 x15 false)))
def impl_TNode_width.q9 : Nat → tTNode → List Int → Int → Bool → (Int → Prop) → Prop → Prop
 | 0, _, _, _, _, _, _ => False
 | n + 1, x13, x14, x15, x16, Kc9w0, Kc9w1 => impl_TNode_width.q9.b n (impl_TNode_width.l11 n) (impl_TNode_width.q21 n) x13 x14 x15 x16  Kc9w0 Kc9w1
def impl_TNode_width.j2 (Kc5w0 : Int → Prop) (Kc5w1 : Prop) (lpq9 : tTNode → List Int → Int → Bool → (Int → Prop) → Prop → Prop) (x6 : tTNode) (x8 : List Int) (x9 : Int) (j12 : Bool) : Prop :=
 if j12 = true then (Kc5w0 x6.2.2.2.2.1) else (if (decide (x6.1 = 3)) = true then (lpq9 x6 x8 x9 (decide ((x8.length : Int) > 1)) (fun y50 => Kc5w0 y50) (Kc5w1)) else (lpq9 x6 x8 x9 false (fun y51 => Kc5w0 y51) (Kc5w1)))
def impl_TNode_width.q5.b (n : Nat) (lpq9 : tTNode → List Int → Int → Bool → (Int → Prop) → Prop → Prop) (x6 : tTNode) (x7 : List (tDecl)) (x8 : List Int) (x9 : Int) (x10 : Bool) (Kc5w0 : Int → Prop) (Kc5w1 : Prop) : Prop :=
 if x10 = true then (grd (decide (0 ≤ x6.2.1) && decide (x6.2.1 < (x7.length : Int))) (Kc5w0 ((rd x7 (Int.toNat x6.2.1)).2))) else (if (decide (x6.1 = 2)) = true then (if (decide ((x8.length : Int) = 0)) = true then (impl_BitsOk.c n x6.2.2.2.2.1 x6.2.2.2.2.2.1 (fun r52 => impl_TNode_width.j2 Kc5w0 Kc5w1 lpq9 x6 x8 x9 r52)) else (impl_TNode_width.j2 Kc5w0 Kc5w1 lpq9 x6 x8 x9 false)) else (impl_TNode_width.j2 Kc5w0 Kc5w1 lpq9 x6 x8 x9 false))
def impl_TNode_width.q5 : Nat → tTNode → List (tDecl) → List Int → Int → Bool → (Int → Prop) → Prop → Prop
 | 0, _, _, _, _, _, _, _ => False
 | n + 1, x6, x7, x8, x9, x10, Kc5w0, Kc5w1 => impl_TNode_width.q5.b n (impl_TNode_width.q9 n) x6 x7 x8 x9 x10  Kc5w0 Kc5w1
def impl_TNode_width.j3 (K : Int → Prop) (a1 : tTNode) (a2 : List (tDecl)) (a3 : List Int) (lpq5 : tTNode → List (tDecl) → List Int → Int → Bool → (Int → Prop) → Prop → Prop) (n : Nat) (j4 : Int) : Prop :=
 if (decide (a1.1 = 1)) = true then (if (decide ((a3.length : Int) = 0)) = true then (impl_inside.c n a1.2.1 0 (IntKind.wrap .i64 ((a2.length : Int) - 1)) (fun r56 => lpq5 a1 a2 a3 j4 r56 (fun y57 => K y57) (K (-1)))) else (lpq5 a1 a2 a3 j4 false (fun y58 => K y58) (K (-1)))) else (lpq5 a1 a2 a3 j4 false (fun y59 => K y59) (K (-1)))
def impl_TNode_width.w (n : Nat) (lpq5 : tTNode → List (tDecl) → List Int → Int → Bool → (Int → Prop) → Prop → Prop) (a1 : tTNode) (a2 : List (tDecl)) (a3 : List Int) (K : Int → Prop) : Prop :=
 if (decide ((a3.length : Int) > 0)) = true then (grd (decide (0 < (a3.length : Int))) (impl_TNode_width.j3 K a1 a2 a3 lpq5 n (rd a3 0))) else (impl_TNode_width.j3 K a1 a2 a3 lpq5 n 0)
def impl_TNode_width.c : Nat → tTNode → List (tDecl) → List Int → (Int → Prop) → Prop
 | 0, _, _, _, _ => False
 | n + 1, a1, a2, a3, K => impl_TNode_width.w n (impl_TNode_width.q5 n) a1 a2 a3 K
def impl_TNode_plain.q3.b (n : Nat) (x4 : tTNode) (x5 : Bool) (Kc3w0 : Bool → Prop) (Kc3w1 : tTNode → Prop) : Prop :=
 if x5 = true then (Kc3w0 false) else (Kc3w1 x4)
def impl_TNode_plain.q3 : Nat → tTNode → Bool → (Bool → Prop) → (tTNode → Prop) → Prop
 | 0, _, _, _, _ => False
 | n + 1, x4, x5, Kc3w0, Kc3w1 => impl_TNode_plain.q3.b n  x4 x5  Kc3w0 Kc3w1
def impl_TNode_plain.j0 (Kc2w0 : Bool → Prop) (j28 : tTNode) : Prop :=
 if (decide (j28.1 = 2)) = false then (if (decide (j28.2.2.2.2.1 = 0)) = true then (Kc2w0 (decide ((j28.2.2.2.2.2.1.length : Int) = 0))) else (Kc2w0 false)) else (Kc2w0 true)
def impl_TNode_plain.q2.b (n : Nat) (lpq3 : tTNode → Bool → (Bool → Prop) → (tTNode → Prop) → Prop) (x2 : tTNode) (x3 : Bool) (Kc2w0 : Bool → Prop) : Prop :=
 if (!x3) = true then (if (!(decide (x2.2.2.1 = 0))) = false then (if (!(decide (x2.1 = 4))) = true then (if (!(decide (x2.2.2.2.1 = 0))) = false then (if (!(decide (x2.1 = 1))) = true then (lpq3 x2 (!(decide (x2.2.1 = 0))) (fun y30 => Kc2w0 y30) (fun y31 => impl_TNode_plain.j0 Kc2w0 y31)) else (lpq3 x2 false (fun y32 => Kc2w0 y32) (fun y33 => impl_TNode_plain.j0 Kc2w0 y33))) else (lpq3 x2 true (fun y34 => Kc2w0 y34) (fun y35 => impl_TNode_plain.j0 Kc2w0 y35))) else (if (!(decide (x2.1 = 1))) = true then (lpq3 x2 (!(decide (x2.2.1 = 0))) (fun y36 => Kc2w0 y36) (fun y37 => impl_TNode_plain.j0 Kc2w0 y37)) else (lpq3 x2 false (fun y38 => Kc2w0 y38) (fun y39 => impl_TNode_plain.j0 Kc2w0 y39)))) else (lpq3 x2 true (fun y40 => Kc2w0 y40) (fun y41 => impl_TNode_plain.j0 Kc2w0 y41))) else (if (!(decide (x2.1 = 4))) = true then (if (!(decide (x2.2.2.2.1 = 0))) = false then (if (!(decide (x2.1 = 1))) = true then (lpq3 x2 (!(decide (x2.2.1 = 0))) (fun y42 => Kc2w0 y42) (fun y43 => impl_TNode_plain.j0 Kc2w0 y43)) else (lpq3 x2 false (fun y44 => Kc2w0 y44) (fun y45 => impl_TNode_plain.j0 Kc2w0 y45))) else (lpq3 x2 true (fun y46 => Kc2w0 y46) (fun y47 => impl_TNode_plain.j0 Kc2w0 y47))) else (if (!(decide (x2.1 = 1))) = true then (lpq3 x2 (!(decide (x2.2.1 = 0))) (fun y48 => Kc2w0 y48) (fun y49 => impl_TNode_plain.j0 Kc2w0 y49)) else (lpq3 x2 false (fun y50 => Kc2w0 y50) (fun y51 => impl_TNode_plain.j0 Kc2w0 y51))))
def impl_TNode_plain.q2 : Nat → tTNode → Bool → (Bool → Prop) → Prop
 | 0, _, _, _ => False
 | n + 1, x2, x3, Kc2w0 => impl_TNode_plain.q2.b n (impl_TNode_plain.q3 n) x2 x3  Kc2w0
def impl_TNode_plain.w (n : Nat) (lpq2 : tTNode → Bool → (Bool → Prop) → Prop) (a1 : tTNode) (K : Bool → Prop) : Prop :=
 if (decide (a1.1 ≥ 4)) = true then (lpq2 a1 (decide (a1.1 ≤ 9)) (fun y52 => K y52)) else (lpq2 a1 false (fun y53 => K y53))
def impl_TNode_plain.c : Nat → tTNode → (Bool → Prop) → Prop
 | 0, _, _ => False
 | n + 1, a1, K => impl_TNode_plain.w n (impl_TNode_plain.q2 n) a1 K
def slices_Index_bool.l2.b (n : Nat) (x7 : List Bool) (x8 : Bool) (x9 : Int) (again2 : Int → Prop) (x10 : Int) (Kx0w2 : Prop) (Kr2 : Int → Prop) : Prop :=
 if (decide (x10 < x9)) = true then (grd (decide (0 ≤ x10) && decide (x10 < (x7.length : Int))) (if (x8 == (rd x7 (Int.toNat x10))) = true then (Kr2 x10) else (again2 (IntKind.wrap .i64 (x10 + 1))))) else (Kx0w2)
def slices_Index_bool.l2 : Nat → List Bool → Bool → Int → Int → Prop → (Int → Prop) → Prop
 | 0, _, _, _, _, _, _ => False
 | n + 1, x7, x8, x9, x10, Kx0w2, Kr2 => slices_Index_bool.l2.b n  x7 x8 x9 (fun x10q => slices_Index_bool.l2 n x7 x8 x9 x10q Kx0w2 Kr2) x10 Kx0w2 Kr2
def slices_Index_bool.w (n : Nat) (lp2 : List Bool → Bool → Int → Int → Prop → (Int → Prop) → Prop) (a1 : List Bool) (a2 : Bool) (K : Int → Prop) : Prop :=
 lp2 a1 a2 (a1.length : Int) 0 (K (-1)) (fun y12 => K y12)
def slices_Index_bool.c : Nat → List Bool → Bool → (Int → Prop) → Prop
 | 0, _, _, _ => False
 | n + 1, a1, a2, K => slices_Index_bool.w n (slices_Index_bool.l2 n) a1 a2 K
def slices_Contains_bool.w (n : Nat) (a1 : List Bool) (a2 : Bool) (K : Bool → Prop) : Prop :=
 slices_Index_bool.c n a1 a2 (fun r3 => K (decide (r3 ≥ 0)))
def slices_Contains_bool.c : Nat → List Bool → Bool → (Bool → Prop) → Prop
 | 0, _, _, _ => False
 | n + 1, a1, a2, K => slices_Contains_bool.w n  a1 a2 K
def impl_widths.l13.b (n : Nat) (x43 : List (tDecl)) (x44 : Int) (x45 : Int) (x46 : tTNode) (x47 : Int) (x48 : Int) (x49 : List Int) (x50 : Int) (x52 : List Int) (x55 : List (tTNode)) (again13 : Int → List Bool → List Int → Prop) (x51 : Int) (x53 : List Bool) (x54 : List Int) (Kx2w13 : List (tDecl) → Int → Int → tTNode → Int → Int → List Int → List Bool → List Int → List (tTNode) → Prop) (Kr13 : Bool → List Int → Prop) : Prop :=
 if (decide (x51 < x50)) = true then (grd (decide (0 ≤ x51) && decide (x51 < (x49.length : Int))) (impl_inside.c n (rd x49 (Int.toNat x51)) 0 (IntKind.wrap .i64 (x45 - 1)) (fun r61 => if (!r61) = true then (Kr13 false ([] : List (Int))) else (grd (decide (0 ≤ rd x49 (Int.toNat x51)) && decide (rd x49 (Int.toNat x51) < (x52.length : Int))) (grd (decide (0 ≤ rd x49 (Int.toNat x51)) && decide (rd x49 (Int.toNat x51) < (x53.length : Int))) (let t62 : List Bool := List.set x53 (Int.toNat (rd x49 (Int.toNat x51))) true; grd (decide (0 ≤ x51) && decide (x51 < (x54.length : Int))) (let t63 : List Int := List.set x54 (Int.toNat x51) (rd x52 (Int.toNat (rd x49 (Int.toNat x51)))); again13 (IntKind.wrap .i64 (x51 + 1)) t62 t63))))))) else (Kx2w13 x43 x44 x45 x46 x47 x48 x52 x53 x54 x55)
def impl_widths.l13 : Nat → List (tDecl) → Int → Int → tTNode → Int → Int → List Int → Int → List Int → List (tTNode) → Int → List Bool → List Int → (List (tDecl) → Int → Int → tTNode → Int → Int → List Int → List Bool → List Int → List (tTNode) → Prop) → (Bool → List Int → Prop) → Prop
 | 0, _, _, _, _, _, _, _, _, _, _, _, _, _, _, _ => False
 | n + 1, x43, x44, x45, x46, x47, x48, x49, x50, x52, x55, x51, x53, x54, Kx2w13, Kr13 => impl_widths.l13.b n  x43 x44 x45 x46 x47 x48 x49 x50 x52 x55 (fun x51q x53q x54q => impl_widths.l13 n x43 x44 x45 x46 x47 x48 x49 x50 x52 x55 x51q x53q x54q Kx2w13 Kr13) x51 x53 x54 Kx2w13 Kr13
def impl_widths.l6.b (n : Nat) (lp13 : List (tDecl) → Int → Int → tTNode → Int → Int → List Int → Int → List Int → List (tTNode) → Int → List Bool → List Int → (List (tDecl) → Int → Int → tTNode → Int → Int → List Int → List Bool → List Int → List (tTNode) → Prop) → (Bool → List Int → Prop) → Prop) (again6 : List (tDecl) → Int → Int → Int → List Int → List Bool → List (tTNode) → Prop) (x142 : List (tDecl)) (x143 : Int) (x144 : Int) (x145 : Int) (x146 : List Int) (x147 : List Bool) (x148 : List (tTNode)) (Kx0w6 : Int → List Int → List Bool → Prop) (Kr6 : Bool → List Int → Prop) : Prop :=
 if (decide (x145 < x144)) = true then (grd (decide (0 ≤ x145) && decide (x145 < (x148.length : Int))) (let t195 : List Int := ((((((rd x148 (Int.toNat x145)).2).2).2).2).2).2; if (decide ((t195.length : Int) > 4096)) = true then (Kr6 false ([] : List (Int))) else (let t196 : List Int := ((((((rd x148 (Int.toNat x145)).2).2).2).2).2).2; grd ((decide (0 ≤ (t196.length : Int)) && decide ((t196.length : Int) ≤ 7818749353073)) && decide ((t196.length : Int) = (t196.length : Int))) (let t197 : List Int := List.replicate (Int.toNat (t196.length : Int)) 0; let t211 : List Int := ((((((rd x148 (Int.toNat x145)).2).2).2).2).2).2; lp13 x142 x143 x145 (rd x148 (Int.toNat x145)) x144 x145 t211 (t211.length : Int) x146 x148 0 x147 t197 (fun y212 y213 y214 y215 y216 y217 y218 y219 y220 y221 => impl_TNode_width.c n y215 y212 y220 (fun r222 => grd (decide (0 ≤ y214) && decide (y214 < (y218.length : Int))) (impl_TNode_plain.c n y215 (fun r227 => if (!r227) = false then (grd (decide (0 ≤ y214) && decide (y214 < ((List.set y218 (Int.toNat y214) r222).length : Int))) (let t228 : Int := rd (List.set y218 (Int.toNat y214) r222) (Int.toNat y214); impl_inside.c n t228 1 4096 (fun r229 => if (!r229) = true then (Kr6 false ([] : List (Int))) else (again6 y212 y213 y216 (IntKind.wrap .i64 (y217 + 1)) (List.set y218 (Int.toNat y214) r222) y219 y221)))) else (Kr6 false ([] : List (Int))))))) (fun y230 y231 => Kr6 y230 y231))))) else (Kx0w6 x143 x146 x147)
def impl_widths.l6 : Nat → List (tDecl) → Int → Int → Int → List Int → List Bool → List (tTNode) → (Int → List Int → List Bool → Prop) → (Bool → List Int → Prop) → Prop
 | 0, _, _, _, _, _, _, _, _, _ => False
 | n + 1, x142, x143, x144, x145, x146, x147, x148, Kx0w6, Kr6 => impl_widths.l6.b n (impl_widths.l13 n)  (fun x142q x143q x144q x145q x146q x147q x148q => impl_widths.l6 n x142q x143q x144q x145q x146q x147q x148q Kx0w6 Kr6) x142 x143 x144 x145 x146 x147 x148 Kx0w6 Kr6
def impl_widths.j0 (K : List Int → Bool → Prop) (a1 : List (tDecl)) (a2 : List (tTNode)) (lp6 : List (tDecl) → Int → Int → Int → List Int → List Bool → List (tTNode) → (Int → List Int → List Bool → Prop) → (Bool → List Int → Prop) → Prop) (n : Nat) (j8 : List Int) (j9 : List Bool) : Prop :=
 lp6 a1 (a2.length : Int) (a2.length : Int) 0 j8 j9 a2 (fun y237 y238 y239 => grd ((decide (0 ≤ IntKind.wrap .i64 (y237 - 1)) && decide (IntKind.wrap .i64 (y237 - 1) ≤ (y239.length : Int))) && decide (0 ≤ IntKind.wrap .i64 (y237 - 1))) (slices_Contains_bool.c n (List.drop 0 (List.take (Int.toNat (IntKind.wrap .i64 (y237 - 1))) y239)) false (fun r240 => K y238 (!r240)))) (fun y241 y242 => K y242 y241)
def impl_widths.j1 (K : List Int → Bool → Prop) (a1 : List (tDecl)) (a2 : List (tTNode)) (lp6 : List (tDecl) → Int → Int → Int → List Int → List Bool → List (tTNode) → (Int → List Int → List Bool → Prop) → (Bool → List Int → Prop) → Prop) (n : Nat) : Prop :=
 (grd ((decide (0 ≤ (a2.length : Int)) && decide ((a2.length : Int) ≤ 7818749353073)) && decide ((a2.length : Int) = (a2.length : Int))) (let t243 : List Int := List.replicate (Int.toNat (a2.length : Int)) 0; grd ((decide (0 ≤ (a2.length : Int)) && decide ((a2.length : Int) ≤ 35184372088832)) && decide ((a2.length : Int) = (a2.length : Int))) (let t244 : List Bool := List.replicate (Int.toNat (a2.length : Int)) false; impl_widths.j0 K a1 a2 lp6 n t243 t244))) ∧ (grd ((decide (0 ≤ (a2.length : Int)) && decide ((a2.length : Int) ≤ 35184372088832)) && decide ((a2.length : Int) = (a2.length : Int))) (let t245 : List Bool := List.replicate (Int.toNat (a2.length : Int)) false; grd ((decide (0 ≤ (a2.length : Int)) && decide ((a2.length : Int) ≤ 7818749353073)) && decide ((a2.length : Int) = (a2.length : Int))) (let t246 : List Int := List.replicate (Int.toNat (a2.length : Int)) 0; impl_widths.j0 K a1 a2 lp6 n t246 t245)))
def impl_widths.w (n : Nat) (lp6 : List (tDecl) → Int → Int → Int → List Int → List Bool → List (tTNode) → (Int → List Int → List Bool → Prop) → (Bool → List Int → Prop) → Prop) (a1 : List (tDecl)) (a2 : List (tTNode)) (K : List Int → Bool → Prop) : Prop :=
 if (decide ((a2.length : Int) < 1)) = false then (if (decide ((a2.length : Int) > 400)) = true then (K ([] : List (Int)) false) else (impl_widths.j1 K a1 a2 lp6 n)) else (K ([] : List (Int)) false)
def impl_widths.c : Nat → List (tDecl) → List (tTNode) → (List Int → Bool → Prop) → Prop
 | 0, _, _, _ => False
 | n + 1, a1, a2, K => impl_widths.w n (impl_widths.l6 n) a1 a2 K
def laws_eqUint64S.l4.b (n : Nat) (x12 : List Int) (x13 : List Int) (again4 : Int → Prop) (x14 : Int) (Kx0w4 : Prop) (Kr4 : Bool → Prop) : Prop :=
 if (decide (x14 < (x12.length : Int))) = true then (grd (decide (0 ≤ x14) && decide (x14 < (x12.length : Int))) (grd (decide (0 ≤ x14) && decide (x14 < (x13.length : Int))) (let t18 : Bool := !(decide (rd x12 (Int.toNat x14) = rd x13 (Int.toNat x14))); if t18 = true then (Kr4 false) else (again4 (IntKind.wrap .i64 (x14 + 1)))))) else (Kx0w4)
def laws_eqUint64S.l4 : Nat → List Int → List Int → Int → Prop → (Bool → Prop) → Prop
 | 0, _, _, _, _, _ => False
 | n + 1, x12, x13, x14, Kx0w4, Kr4 => laws_eqUint64S.l4.b n  x12 x13 (fun x14q => laws_eqUint64S.l4 n x12 x13 x14q Kx0w4 Kr4) x14 Kx0w4 Kr4
def laws_eqUint64S.w (n : Nat) (lp4 : List Int → List Int → Int → Prop → (Bool → Prop) → Prop) (a1 : List Int) (a2 : List Int) (K : Bool → Prop) : Prop :=
 let t4 : Bool := !(decide ((a1.length : Int) = (a2.length : Int))); if t4 = true then (K false) else (lp4 a1 a2 0 (K true) (fun y20 => K y20))
def laws_eqUint64S.c : Nat → List Int → List Int → (Bool → Prop) → Prop
 | 0, _, _, _ => False
 | n + 1, a1, a2, K => laws_eqUint64S.w n (laws_eqUint64S.l4 n) a1 a2 K
def laws_eqBits.w (n : Nat) (a1 : Int) (a2 : List Int) (a3 : Int) (a4 : List Int) (K : Bool → Prop) : Prop :=
 if (!(decide (a1 = a3))) = true then (K false) else (laws_eqUint64S.c n a2 a4 (fun r6 => if (!r6) = true then (K false) else (K true)))
def laws_eqBits.c : Nat → Int → List Int → Int → List Int → (Bool → Prop) → Prop
 | 0, _, _, _, _, _ => False
 | n + 1, a1, a2, a3, a4, K => laws_eqBits.w n  a1 a2 a3 a4 K
def laws_eqDecl.w (n : Nat) (a1 : List UInt8) (a2 : Int) (a3 : List UInt8) (a4 : Int) (K : Bool → Prop) : Prop :=
 if (!(a1 == a3)) = true then (K false) else (if (!(decide (a2 = a4))) = true then (K false) else (K true))
def laws_eqDecl.c : Nat → List UInt8 → Int → List UInt8 → Int → (Bool → Prop) → Prop
 | 0, _, _, _, _, _ => False
 | n + 1, a1, a2, a3, a4, K => laws_eqDecl.w n  a1 a2 a3 a4 K
def laws_eqDeclS.l4.b (n : Nat) (x12 : List (tDecl)) (x13 : List (tDecl)) (again4 : Int → Prop) (x14 : Int) (Kx0w4 : Prop) (Kr4 : Bool → Prop) : Prop :=
 if (decide (x14 < (x12.length : Int))) = true then (grd (decide (0 ≤ x14) && decide (x14 < (x12.length : Int))) (grd (decide (0 ≤ x14) && decide (x14 < (x13.length : Int))) (laws_eqDecl.c n ((rd x12 (Int.toNat x14)).1) ((rd x12 (Int.toNat x14)).2) ((rd x13 (Int.toNat x14)).1) ((rd x13 (Int.toNat x14)).2) (fun r18 => if (!r18) = true then (Kr4 false) else (again4 (IntKind.wrap .i64 (x14 + 1))))))) else (Kx0w4)
def laws_eqDeclS.l4 : Nat → List (tDecl) → List (tDecl) → Int → Prop → (Bool → Prop) → Prop
 | 0, _, _, _, _, _ => False
 | n + 1, x12, x13, x14, Kx0w4, Kr4 => laws_eqDeclS.l4.b n  x12 x13 (fun x14q => laws_eqDeclS.l4 n x12 x13 x14q Kx0w4 Kr4) x14 Kx0w4 Kr4
def laws_eqDeclS.w (n : Nat) (lp4 : List (tDecl) → List (tDecl) → Int → Prop → (Bool → Prop) → Prop) (a1 : List (tDecl)) (a2 : List (tDecl)) (K : Bool → Prop) : Prop :=
 let t4 : Bool := !(decide ((a1.length : Int) = (a2.length : Int))); if t4 = true then (K false) else (lp4 a1 a2 0 (K true) (fun y20 => K y20))
def laws_eqDeclS.c : Nat → List (tDecl) → List (tDecl) → (Bool → Prop) → Prop
 | 0, _, _, _ => False
 | n + 1, a1, a2, K => laws_eqDeclS.w n (laws_eqDeclS.l4 n) a1 a2 K
def laws_eqInt64S.l4.b (n : Nat) (x12 : List Int) (x13 : List Int) (again4 : Int → Prop) (x14 : Int) (Kx0w4 : Prop) (Kr4 : Bool → Prop) : Prop :=
 if (decide (x14 < (x12.length : Int))) = true then (grd (decide (0 ≤ x14) && decide (x14 < (x12.length : Int))) (grd (decide (0 ≤ x14) && decide (x14 < (x13.length : Int))) (let t18 : Bool := !(decide (rd x12 (Int.toNat x14) = rd x13 (Int.toNat x14))); if t18 = true then (Kr4 false) else (again4 (IntKind.wrap .i64 (x14 + 1)))))) else (Kx0w4)
def laws_eqInt64S.l4 : Nat → List Int → List Int → Int → Prop → (Bool → Prop) → Prop
 | 0, _, _, _, _, _ => False
 | n + 1, x12, x13, x14, Kx0w4, Kr4 => laws_eqInt64S.l4.b n  x12 x13 (fun x14q => laws_eqInt64S.l4 n x12 x13 x14q Kx0w4 Kr4) x14 Kx0w4 Kr4
def laws_eqInt64S.w (n : Nat) (lp4 : List Int → List Int → Int → Prop → (Bool → Prop) → Prop) (a1 : List Int) (a2 : List Int) (K : Bool → Prop) : Prop :=
 let t4 : Bool := !(decide ((a1.length : Int) = (a2.length : Int))); if t4 = true then (K false) else (lp4 a1 a2 0 (K true) (fun y20 => K y20))
def laws_eqInt64S.c : Nat → List Int → List Int → (Bool → Prop) → Prop
 | 0, _, _, _ => False
 | n + 1, a1, a2, K => laws_eqInt64S.w n (laws_eqInt64S.l4 n) a1 a2 K
def laws_eqTNode.w (n : Nat) (a1 : Int) (a2 : Int) (a3 : Int) (a4 : Int) (a5 : Int) (a6 : List Int) (a7 : List Int) (a8 : Int) (a9 : Int) (a10 : Int) (a11 : Int) (a12 : Int) (a13 : List Int) (a14 : List Int) (K : Bool → Prop) : Prop :=
 if (!(decide (a1 = a8))) = true then (K false) else (if (!(decide (a2 = a9))) = true then (K false) else (if (!(decide (a3 = a10))) = true then (K false) else (if (!(decide (a4 = a11))) = true then (K false) else (laws_eqBits.c n a5 a6 a12 a13 (fun r16 => if (!r16) = true then (K false) else (laws_eqInt64S.c n a7 a14 (fun r18 => if (!r18) = true then (K false) else (K true))))))))
def laws_eqTNode.c : Nat → Int → Int → Int → Int → Int → List Int → List Int → Int → Int → Int → Int → Int → List Int → List Int → (Bool → Prop) → Prop
 | 0, _, _, _, _, _, _, _, _, _, _, _, _, _, _, _ => False
 | n + 1, a1, a2, a3, a4, a5, a6, a7, a8, a9, a10, a11, a12, a13, a14, K => laws_eqTNode.w n  a1 a2 a3 a4 a5 a6 a7 a8 a9 a10 a11 a12 a13 a14 K
def laws_eqTNodeS.l4.b (n : Nat) (x12 : List (tTNode)) (x13 : List (tTNode)) (again4 : Int → Prop) (x14 : Int) (Kx0w4 : Prop) (Kr4 : Bool → Prop) : Prop :=
 if (decide (x14 < (x12.length : Int))) = true then (grd (decide (0 ≤ x14) && decide (x14 < (x12.length : Int))) (let t30 : List Int := ((((((rd x12 (Int.toNat x14)).2).2).2).2).2).1; let t31 : List Int := ((((((rd x12 (Int.toNat x14)).2).2).2).2).2).2; grd (decide (0 ≤ x14) && decide (x14 < (x13.length : Int))) (let t32 : List Int := ((((((rd x13 (Int.toNat x14)).2).2).2).2).2).1; let t33 : List Int := ((((((rd x13 (Int.toNat x14)).2).2).2).2).2).2; laws_eqTNode.c n ((rd x12 (Int.toNat x14)).1) (((rd x12 (Int.toNat x14)).2).1) ((((rd x12 (Int.toNat x14)).2).2).1) (((((rd x12 (Int.toNat x14)).2).2).2).1) ((((((rd x12 (Int.toNat x14)).2).2).2).2).1) t30 t31 ((rd x13 (Int.toNat x14)).1) (((rd x13 (Int.toNat x14)).2).1) ((((rd x13 (Int.toNat x14)).2).2).1) (((((rd x13 (Int.toNat x14)).2).2).2).1) ((((((rd x13 (Int.toNat x14)).2).2).2).2).1) t32 t33 (fun r34 => if (!r34) = true then (Kr4 false) else (again4 (IntKind.wrap .i64 (x14 + 1))))))) else (Kx0w4)
def laws_eqTNodeS.l4 : Nat → List (tTNode) → List (tTNode) → Int → Prop → (Bool → Prop) → Prop
 | 0, _, _, _, _, _ => False
 | n + 1, x12, x13, x14, Kx0w4, Kr4 => laws_eqTNodeS.l4.b n  x12 x13 (fun x14q => laws_eqTNodeS.l4 n x12 x13 x14q Kx0w4 Kr4) x14 Kx0w4 Kr4
def laws_eqTNodeS.w (n : Nat) (lp4 : List (tTNode) → List (tTNode) → Int → Prop → (Bool → Prop) → Prop) (a1 : List (tTNode)) (a2 : List (tTNode)) (K : Bool → Prop) : Prop :=
 let t4 : Bool := !(decide ((a1.length : Int) = (a2.length : Int))); if t4 = true then (K false) else (lp4 a1 a2 0 (K true) (fun y36 => K y36))
def laws_eqTNodeS.c : Nat → List (tTNode) → List (tTNode) → (Bool → Prop) → Prop
 | 0, _, _, _ => False
 | n + 1, a1, a2, K => laws_eqTNodeS.w n (laws_eqTNodeS.l4 n) a1 a2 K
def laws_eqTerm.w (n : Nat) (a1 : List (tTNode)) (a2 : List (tTNode)) (K : Bool → Prop) : Prop :=
 laws_eqTNodeS.c n a1 a2 (fun r4 => if (!r4) = true then (K false) else (K true))
def laws_eqTerm.c : Nat → List (tTNode) → List (tTNode) → (Bool → Prop) → Prop
 | 0, _, _, _ => False
 | n + 1, a1, a2, K => laws_eqTerm.w n  a1 a2 K
def laws_markText.l4.b (n : Nat) (again4 : Int → List UInt8 → Prop) (x5 : Int) (x6 : List UInt8) (Kx0w4 : List UInt8 → Prop) : Prop :=
 if (decide (x5 > 0)) = true then (let t7 : Int := IntKind.wrap .u8 (IntKind.wrap .i64 (48 + (Int.tmod x5 10))); grd (decide ((bytesStr ([t7] : List (Int))).length + x6.length ≤ 9223372036854775807)) (again4 (IntKind.wrap .i64 (Int.tdiv x5 10)) ((bytesStr ([t7] : List (Int))) ++ x6))) else (Kx0w4 x6)
def laws_markText.l4 : Nat → Int → List UInt8 → (List UInt8 → Prop) → Prop
 | 0, _, _, _ => False
 | n + 1, x5, x6, Kx0w4 => laws_markText.l4.b n   (fun x5q x6q => laws_markText.l4 n x5q x6q Kx0w4) x5 x6 Kx0w4
def laws_markText.w (n : Nat) (lp4 : Int → List UInt8 → (List UInt8 → Prop) → Prop) (a1 : Int) (K : List UInt8 → Prop) : Prop :=
 if (decide (a1 ≤ 0)) = true then (K ([109, 48] : List UInt8)) else (lp4 a1 ([] : List UInt8) (fun y9 => grd (decide (([109] : List UInt8).length + y9.length ≤ 9223372036854775807)) (K (([109] : List UInt8) ++ y9))))
def laws_markText.c : Nat → Int → (List UInt8 → Prop) → Prop
 | 0, _, _ => False
 | n + 1, a1, K => laws_markText.w n (laws_markText.l4 n) a1 K
def laws_markDeclS.l2.b (n : Nat) (again2 : Int → Int → List (tDecl) → Prop) (x14 : Int) (x15 : Int) (x16 : List (tDecl)) (Kx0w2 : Int → List (tDecl) → Prop) : Prop :=
 if (decide (x15 < (x16.length : Int))) = true then (laws_markText.c n x14 (fun r21 => grd (decide (0 ≤ x15) && decide (x15 < (x16.length : Int))) (let t22 : List (tDecl) := List.set x16 (Int.toNat x15) (r21, (rd x16 (Int.toNat x15)).2); grd (decide (0 ≤ x15) && decide (x15 < (t22.length : Int))) (let t23 : List (tDecl) := List.set t22 (Int.toNat x15) ((rd t22 (Int.toNat x15)).1, IntKind.wrap .i64 (x14 + 1)); let t24 : Int := IntKind.wrap .i64 ((IntKind.wrap .i64 (x14 + 1)) + 1); again2 t24 (IntKind.wrap .i64 (x15 + 1)) t23)))) else (Kx0w2 x14 x16)
def laws_markDeclS.l2 : Nat → Int → Int → List (tDecl) → (Int → List (tDecl) → Prop) → Prop
 | 0, _, _, _, _ => False
 | n + 1, x14, x15, x16, Kx0w2 => laws_markDeclS.l2.b n   (fun x14q x15q x16q => laws_markDeclS.l2 n x14q x15q x16q Kx0w2) x14 x15 x16 Kx0w2
def laws_markDeclS.w (n : Nat) (lp2 : Int → Int → List (tDecl) → (Int → List (tDecl) → Prop) → Prop) (a1 : List (tDecl)) (a2 : Int) (K : Int → List (tDecl) → Prop) : Prop :=
 lp2 a2 0 a1 (fun y27 y28 => K y27 y28)
def laws_markDeclS.c : Nat → List (tDecl) → Int → (Int → List (tDecl) → Prop) → Prop
 | 0, _, _, _ => False
 | n + 1, a1, a2, K => laws_markDeclS.w n (laws_markDeclS.l2 n) a1 a2 K
def laws_markUint64S.l2.b (n : Nat) (again2 : Int → Int → List Int → Prop) (x8 : Int) (x9 : Int) (x10 : List Int) (Kx0w2 : Int → List Int → Prop) : Prop :=
 if (decide (x9 < (x10.length : Int))) = true then (grd (decide (0 ≤ x9) && decide (x9 < (x10.length : Int))) (let t12 : List Int := List.set x10 (Int.toNat x9) (IntKind.wrap .u64 x8); again2 (IntKind.wrap .i64 (x8 + 1)) (IntKind.wrap .i64 (x9 + 1)) t12)) else (Kx0w2 x8 x10)
def laws_markUint64S.l2 : Nat → Int → Int → List Int → (Int → List Int → Prop) → Prop
 | 0, _, _, _, _ => False
 | n + 1, x8, x9, x10, Kx0w2 => laws_markUint64S.l2.b n   (fun x8q x9q x10q => laws_markUint64S.l2 n x8q x9q x10q Kx0w2) x8 x9 x10 Kx0w2
def laws_markUint64S.w (n : Nat) (lp2 : Int → Int → List Int → (Int → List Int → Prop) → Prop) (a1 : List Int) (a2 : Int) (K : Int → List Int → Prop) : Prop :=
 lp2 a2 0 a1 (fun y15 y16 => K y15 y16)
def laws_markUint64S.c : Nat → List Int → Int → (Int → List Int → Prop) → Prop
 | 0, _, _, _ => False
 | n + 1, a1, a2, K => laws_markUint64S.w n (laws_markUint64S.l2 n) a1 a2 K
def laws_markInt64S.l2.b (n : Nat) (again2 : Int → Int → List Int → Prop) (x6 : Int) (x7 : Int) (x8 : List Int) (Kx0w2 : Int → List Int → Prop) : Prop :=
 if (decide (x7 < (x8.length : Int))) = true then (grd (decide (0 ≤ x7) && decide (x7 < (x8.length : Int))) (again2 (IntKind.wrap .i64 (x6 + 1)) (IntKind.wrap .i64 (x7 + 1)) (List.set x8 (Int.toNat x7) x6))) else (Kx0w2 x6 x8)
def laws_markInt64S.l2 : Nat → Int → Int → List Int → (Int → List Int → Prop) → Prop
 | 0, _, _, _, _ => False
 | n + 1, x6, x7, x8, Kx0w2 => laws_markInt64S.l2.b n   (fun x6q x7q x8q => laws_markInt64S.l2 n x6q x7q x8q Kx0w2) x6 x7 x8 Kx0w2
def laws_markInt64S.w (n : Nat) (lp2 : Int → Int → List Int → (Int → List Int → Prop) → Prop) (a1 : List Int) (a2 : Int) (K : Int → List Int → Prop) : Prop :=
 lp2 a2 0 a1 (fun y11 y12 => K y11 y12)
def laws_markInt64S.c : Nat → List Int → Int → (Int → List Int → Prop) → Prop
 | 0, _, _, _ => False
 | n + 1, a1, a2, K => laws_markInt64S.w n (laws_markInt64S.l2 n) a1 a2 K
def laws_markTNodeS.l2.b (n : Nat) (again2 : Int → Int → List (tTNode) → Prop) (x32 : Int) (x33 : Int) (x34 : List (tTNode)) (Kx0w2 : Int → List (tTNode) → Prop) : Prop :=
 if (decide (x33 < (x34.length : Int))) = true then (grd (decide (0 ≤ x33) && decide (x33 < (x34.length : Int))) (let t48 : List (tTNode) := List.set x34 (Int.toNat x33) (x32, ((rd x34 (Int.toNat x33)).2).1, (((rd x34 (Int.toNat x33)).2).2).1, ((((rd x34 (Int.toNat x33)).2).2).2).1, (((((rd x34 (Int.toNat x33)).2).2).2).2).1, ((((((rd x34 (Int.toNat x33)).2).2).2).2).2).1, ((((((rd x34 (Int.toNat x33)).2).2).2).2).2).2); grd (decide (0 ≤ x33) && decide (x33 < (t48.length : Int))) (let t49 : List (tTNode) := List.set t48 (Int.toNat x33) ((rd t48 (Int.toNat x33)).1, IntKind.wrap .i64 (x32 + 1), (((rd t48 (Int.toNat x33)).2).2).1, ((((rd t48 (Int.toNat x33)).2).2).2).1, (((((rd t48 (Int.toNat x33)).2).2).2).2).1, ((((((rd t48 (Int.toNat x33)).2).2).2).2).2).1, ((((((rd t48 (Int.toNat x33)).2).2).2).2).2).2); let t50 : Int := IntKind.wrap .i64 ((IntKind.wrap .i64 (x32 + 1)) + 1); grd (decide (0 ≤ x33) && decide (x33 < (t49.length : Int))) (let t51 : List (tTNode) := List.set t49 (Int.toNat x33) ((rd t49 (Int.toNat x33)).1, ((rd t49 (Int.toNat x33)).2).1, t50, ((((rd t49 (Int.toNat x33)).2).2).2).1, (((((rd t49 (Int.toNat x33)).2).2).2).2).1, ((((((rd t49 (Int.toNat x33)).2).2).2).2).2).1, ((((((rd t49 (Int.toNat x33)).2).2).2).2).2).2); grd (decide (0 ≤ x33) && decide (x33 < (t51.length : Int))) (let t52 : List (tTNode) := List.set t51 (Int.toNat x33) ((rd t51 (Int.toNat x33)).1, ((rd t51 (Int.toNat x33)).2).1, (((rd t51 (Int.toNat x33)).2).2).1, IntKind.wrap .i64 (t50 + 1), (((((rd t51 (Int.toNat x33)).2).2).2).2).1, ((((((rd t51 (Int.toNat x33)).2).2).2).2).2).1, ((((((rd t51 (Int.toNat x33)).2).2).2).2).2).2); let t53 : Int := IntKind.wrap .i64 ((IntKind.wrap .i64 (t50 + 1)) + 1); grd (decide (0 ≤ x33) && decide (x33 < (t52.length : Int))) (let t54 : List (tTNode) := List.set t52 (Int.toNat x33) ((rd t52 (Int.toNat x33)).1, ((rd t52 (Int.toNat x33)).2).1, (((rd t52 (Int.toNat x33)).2).2).1, ((((rd t52 (Int.toNat x33)).2).2).2).1, t53, ((((((rd t52 (Int.toNat x33)).2).2).2).2).2).1, ((((((rd t52 (Int.toNat x33)).2).2).2).2).2).2); grd (decide (0 ≤ x33) && decide (x33 < (t54.length : Int))) (laws_markUint64S.c n (((((((rd t54 (Int.toNat x33)).2).2).2).2).2).1) (IntKind.wrap .i64 (t53 + 1)) (fun r55 r56 => let t57 : List (tTNode) := List.set t54 (Int.toNat x33) ((rd t54 (Int.toNat x33)).1, ((rd t54 (Int.toNat x33)).2).1, (((rd t54 (Int.toNat x33)).2).2).1, ((((rd t54 (Int.toNat x33)).2).2).2).1, (((((rd t54 (Int.toNat x33)).2).2).2).2).1, r56, ((((((rd t54 (Int.toNat x33)).2).2).2).2).2).2); grd (decide (0 ≤ x33) && decide (x33 < (t57.length : Int))) (laws_markInt64S.c n (((((((rd t57 (Int.toNat x33)).2).2).2).2).2).2) r55 (fun r58 r59 => let t60 : List (tTNode) := List.set t57 (Int.toNat x33) ((rd t57 (Int.toNat x33)).1, ((rd t57 (Int.toNat x33)).2).1, (((rd t57 (Int.toNat x33)).2).2).1, ((((rd t57 (Int.toNat x33)).2).2).2).1, (((((rd t57 (Int.toNat x33)).2).2).2).2).1, ((((((rd t57 (Int.toNat x33)).2).2).2).2).2).1, r59); again2 r58 (IntKind.wrap .i64 (x33 + 1)) t60)))))))))) else (Kx0w2 x32 x34)
def laws_markTNodeS.l2 : Nat → Int → Int → List (tTNode) → (Int → List (tTNode) → Prop) → Prop
 | 0, _, _, _, _ => False
 | n + 1, x32, x33, x34, Kx0w2 => laws_markTNodeS.l2.b n   (fun x32q x33q x34q => laws_markTNodeS.l2 n x32q x33q x34q Kx0w2) x32 x33 x34 Kx0w2
def laws_markTNodeS.w (n : Nat) (lp2 : Int → Int → List (tTNode) → (Int → List (tTNode) → Prop) → Prop) (a1 : List (tTNode)) (a2 : Int) (K : Int → List (tTNode) → Prop) : Prop :=
 lp2 a2 0 a1 (fun y63 y64 => K y63 y64)
def laws_markTNodeS.c : Nat → List (tTNode) → Int → (Int → List (tTNode) → Prop) → Prop
 | 0, _, _, _ => False
 | n + 1, a1, a2, K => laws_markTNodeS.w n (laws_markTNodeS.l2 n) a1 a2 K
def laws_markTerm.w (n : Nat) (a1 : List (tTNode)) (a2 : Int) (K : Int → List (tTNode) → Prop) : Prop :=
 laws_markTNodeS.c n a1 a2 (fun r3 r4 => K r3 r4)
def laws_markTerm.c : Nat → List (tTNode) → Int → (Int → List (tTNode) → Prop) → Prop
 | 0, _, _, _ => False
 | n + 1, a1, a2, K => laws_markTerm.w n  a1 a2 K
def spec_l15Node.w (n : Nat) (a1 : Int) (a2 : Int) (a3 : Int) (a4 : Int) (a5 : Int) (a6 : List Int) (a7 : List Int) (K : Int → List (tTNode) → Bool → Prop) : Prop :=
 let t8 : List (tTNode) := ([] : List (tTNode)); let t9 : List (tTNode) := ([(a1, a2, a3, a4, a5, a6, a7)] : List (tTNode)); K (-1) t9 true
def spec_l15Node.c : Nat → Int → Int → Int → Int → Int → List Int → List Int → (Int → List (tTNode) → Bool → Prop) → Prop
 | 0, _, _, _, _, _, _, _, _ => False
 | n + 1, a1, a2, a3, a4, a5, a6, a7, K => spec_l15Node.w n  a1 a2 a3 a4 a5 a6 a7 K
def spec_l15Const.l3.b (n : Nat) (x42 : List (tTNode)) (x43 : List (tTNode)) (x44 : Int) (x45 : Int) (x46 : Int) (x47 : Int) (x48 : Int) (x49 : List Int) (x50 : List Int) (x51 : Int) (again3 : Int → List (tBits) → Prop) (x40 : Int) (x41 : List (tBits)) (Kx0w3 : List (tBits) → List (tTNode) → Int → Int → Int → Int → Int → List Int → List Int → Int → Prop) (Kr3 : Bool → List (tTNode) → Int → Prop) : Prop :=
 if (decide (x40 < (x50.length : Int))) = true then (grd (decide (0 ≤ x40) && decide (x40 < (x50.length : Int))) (grd (decide (0 ≤ rd x50 (Int.toNat x40)) && decide (rd x50 (Int.toNat x40) < (x43.length : Int))) (let t65 : Int := (rd x43 (Int.toNat (rd x50 (Int.toNat x40)))).1; if (!(decide (t65 = 2))) = true then (let t66 : List (tTNode) := ([] : List (tTNode)); Kr3 false t66 0) else (grd (decide (0 ≤ x40) && decide (x40 < (x50.length : Int))) (grd (decide (0 ≤ rd x50 (Int.toNat x40)) && decide (rd x50 (Int.toNat x40) < (x43.length : Int))) (let t67 : Int := (((((rd x43 (Int.toNat (rd x50 (Int.toNat x40)))).2).2).2).2).1; let t68 : List Int := ((((((rd x43 (Int.toNat (rd x50 (Int.toNat x40)))).2).2).2).2).2).1; grd (decide (x41.length + ([(t67, t68)] : List (tBits)).length ≤ 2132386187201)) (let t69 : List (tBits) := x41 ++ ([(t67, t68)] : List (tBits)); again3 (IntKind.wrap .i64 (x40 + 1)) t69))))))) else (Kx0w3 x41 x42 x44 x45 x46 x47 x48 x49 x50 x51)
def spec_l15Const.l3 : Nat → List (tTNode) → List (tTNode) → Int → Int → Int → Int → Int → List Int → List Int → Int → Int → List (tBits) → (List (tBits) → List (tTNode) → Int → Int → Int → Int → Int → List Int → List Int → Int → Prop) → (Bool → List (tTNode) → Int → Prop) → Prop
 | 0, _, _, _, _, _, _, _, _, _, _, _, _, _, _ => False
 | n + 1, x42, x43, x44, x45, x46, x47, x48, x49, x50, x51, x40, x41, Kx0w3, Kr3 => spec_l15Const.l3.b n  x42 x43 x44 x45 x46 x47 x48 x49 x50 x51 (fun x40q x41q => spec_l15Const.l3 n x42 x43 x44 x45 x46 x47 x48 x49 x50 x51 x40q x41q Kx0w3 Kr3) x40 x41 Kx0w3 Kr3
def spec_l15Const.w (n : Nat) (lp3 : List (tTNode) → List (tTNode) → Int → Int → Int → Int → Int → List Int → List Int → Int → Int → List (tBits) → (List (tBits) → List (tTNode) → Int → Int → Int → Int → Int → List Int → List Int → Int → Prop) → (Bool → List (tTNode) → Int → Prop) → Prop) (a1 : List (tTNode)) (a2 : Int) (a3 : Int) (a4 : Int) (a5 : Int) (a6 : Int) (a7 : List Int) (a8 : List Int) (K : Int → List (tTNode) → Bool → Prop) : Prop :=
 let t9 : List (tTNode) := ([] : List (tTNode)); lp3 t9 a1 a2 a3 a4 a5 a6 a7 a8 0 0 ([] : List (tBits)) (fun y83 y84 y85 y86 y87 y88 y89 y90 y91 y92 => if (decide ((y83.length : Int) = 0)) = true then (let t94 : List (tTNode) := ([] : List (tTNode)); K 0 t94 false) else (spec_l4Node.c n ([] : List (tBits)) y85 y86 y87 y88 y89 y90 y91 y83 (fun r95 r96 => spec_l15Node.c n 2 0 0 0 r95 r96 ([] : List (Int)) (fun r97 r98 r99 => K r97 r98 r99)))) (fun y100 y101 y102 => K y102 y101 y100)
def spec_l15Const.c : Nat → List (tTNode) → Int → Int → Int → Int → Int → List Int → List Int → (Int → List (tTNode) → Bool → Prop) → Prop
 | 0, _, _, _, _, _, _, _, _, _ => False
 | n + 1, a1, a2, a3, a4, a5, a6, a7, a8, K => spec_l15Const.w n (spec_l15Const.l3 n) a1 a2 a3 a4 a5 a6 a7 a8 K
def spec_l15Kid.w (n : Nat) (a1 : Int) (K : Int → List (tTNode) → Bool → Prop) : Prop :=
 let t2 : List (tTNode) := ([] : List (tTNode)); let t3 : List (tTNode) := ([] : List (tTNode)); K a1 t3 true
def spec_l15Kid.c : Nat → Int → (Int → List (tTNode) → Bool → Prop) → Prop
 | 0, _, _ => False
 | n + 1, a1, K => spec_l15Kid.w n  a1 K
def spec_BitsOf.l5.b (n : Nat) (x14 : Int) (x18 : List Int) (x19 : Int) (again5 : Int → Int → List Int → Prop) (x15 : Int) (x16 : Int) (x17 : List Int) (Kx0w5 : Int → List Int → List Int → Int → Prop) : Prop :=
 if (decide (x16 < x14)) = true then (let t21 : List Int := ([IntKind.wrap .u8 (Int.tmod x15 2)] : List (Int)); grd (decide (x17.length + t21.length ≤ 35184372088832)) (again5 (IntKind.wrap .i64 (Int.tdiv x15 2)) (IntKind.wrap .i64 (x16 + 1)) (x17 ++ t21))) else (Kx0w5 x15 x17 x18 x19)
def spec_BitsOf.l5 : Nat → Int → List Int → Int → Int → Int → List Int → (Int → List Int → List Int → Int → Prop) → Prop
 | 0, _, _, _, _, _, _, _ => False
 | n + 1, x14, x18, x19, x15, x16, x17, Kx0w5 => spec_BitsOf.l5.b n  x14 x18 x19 (fun x15q x16q x17q => spec_BitsOf.l5 n x14 x18 x19 x15q x16q x17q Kx0w5) x15 x16 x17 Kx0w5
def spec_BitsOf.j0 (K : Int → List Int → Bool → Prop) (a1 : Int) (a2 : Int) (lp5 : Int → List Int → Int → Int → Int → List Int → (Int → List Int → List Int → Int → Prop) → Prop) (n : Nat) : Prop :=
 lp5 a1 ([] : List (Int)) 0 a2 0 ([] : List (Int)) (fun y26 y27 y28 y29 => if (decide (y26 > 0)) = true then (K 0 ([] : List (Int)) false) else (spec_l1From.c n y27 (fun r30 r31 r32 => K r30 r31 r32)))
def spec_BitsOf.w (n : Nat) (lp5 : Int → List Int → Int → Int → Int → List Int → (Int → List Int → List Int → Int → Prop) → Prop) (a1 : Int) (a2 : Int) (K : Int → List Int → Bool → Prop) : Prop :=
 spec_l1In.c n a1 1 4096 (fun r35 => if (!r35) = false then (if (decide (a2 < 0)) = true then (K 0 ([] : List (Int)) false) else (spec_BitsOf.j0 K a1 a2 lp5 n)) else (K 0 ([] : List (Int)) false))
def spec_BitsOf.c : Nat → Int → Int → (Int → List Int → Bool → Prop) → Prop
 | 0, _, _, _ => False
 | n + 1, a1, a2, K => spec_BitsOf.w n (spec_BitsOf.l5 n) a1 a2 K
def spec_l15Inner.j4 (Kr3 : Int → Int → Prop) (again3 : Int → Int → Prop) (x39 : List Int) (x42 : Int) (x43 : Int) (x50 : List Int) (j65 : Bool) : Prop :=
 if j65 = true then (grd (decide (0 ≤ x43) && decide (x43 < (x50.length : Int))) (Kr3 (rd x50 (Int.toNat x43)) x42)) else (let t66 : Int := IntKind.wrap .i64 (x42 + (rd x39 (Int.toNat (rd x50 (Int.toNat x43))))); again3 t66 (IntKind.wrap .i64 (x43 - 1)))
def spec_l15Inner.l3.b (n : Nat) (x39 : List Int) (x40 : Int) (x41 : Int) (x44 : Int) (x45 : Int) (x46 : Int) (x47 : Int) (x48 : Int) (x49 : List Int) (x50 : List Int) (again3 : Int → Int → Prop) (x42 : Int) (x43 : Int) (Kx0w3 : Prop) (Kr3 : Int → Int → Prop) : Prop :=
 if (decide (x43 ≥ 0)) = true then (grd (decide (0 ≤ x43) && decide (x43 < (x50.length : Int))) (grd (decide (0 ≤ rd x50 (Int.toNat x43)) && decide (rd x50 (Int.toNat x43) < (x39.length : Int))) (if (decide (x41 ≥ x42)) = true then (let t67 : Int := IntKind.wrap .i64 (x42 + (rd x39 (Int.toNat (rd x50 (Int.toNat x43))))); spec_l15Inner.j4 Kr3 again3 x39 x42 x43 x50 (decide (x40 < t67))) else (spec_l15Inner.j4 Kr3 again3 x39 x42 x43 x50 false)))) else (Kx0w3)
def spec_l15Inner.l3 : Nat → List Int → Int → Int → Int → Int → Int → Int → Int → List Int → List Int → Int → Int → Prop → (Int → Int → Prop) → Prop
 | 0, _, _, _, _, _, _, _, _, _, _, _, _, _, _ => False
 | n + 1, x39, x40, x41, x44, x45, x46, x47, x48, x49, x50, x42, x43, Kx0w3, Kr3 => spec_l15Inner.l3.b n  x39 x40 x41 x44 x45 x46 x47 x48 x49 x50 (fun x42q x43q => spec_l15Inner.l3 n x39 x40 x41 x44 x45 x46 x47 x48 x49 x50 x42q x43q Kx0w3 Kr3) x42 x43 Kx0w3 Kr3
def spec_l15Inner.w (n : Nat) (lp3 : List Int → Int → Int → Int → Int → Int → Int → Int → List Int → List Int → Int → Int → Prop → (Int → Int → Prop) → Prop) (a1 : Int) (a2 : Int) (a3 : Int) (a4 : Int) (a5 : Int) (a6 : List Int) (a7 : List Int) (a8 : List Int) (a9 : Int) (a10 : Int) (K : Int → Int → Prop) : Prop :=
 lp3 a8 a9 a10 a1 a2 a3 a4 a5 a6 a7 0 (IntKind.wrap .i64 ((a7.length : Int) - 1)) (K (-1) 0) (fun y70 y71 => K y70 y71)
def spec_l15Inner.c : Nat → Int → Int → Int → Int → Int → List Int → List Int → List Int → Int → Int → (Int → Int → Prop) → Prop
 | 0, _, _, _, _, _, _, _, _, _, _, _ => False
 | n + 1, a1, a2, a3, a4, a5, a6, a7, a8, a9, a10, K => spec_l15Inner.w n (spec_l15Inner.l3 n) a1 a2 a3 a4 a5 a6 a7 a8 a9 a10 K
def spec_l15Fit.q16.b (n : Nat) (x48 : Bool) (x49 : List (tTNode)) (x50 : Int) (x51 : Int) (x52 : Int) (x53 : Int) (x54 : Int) (x55 : Int) (x56 : List Int) (x57 : List Int) (x58 : Int) (x59 : Int) (x60 : Int) (x61 : Int) (x62 : Int) (x63 : List Int) (x64 : List Int) (Kc16w0 : Bool → List (tTNode) → Int → Prop) (Kc16w1 : List (tTNode) → Int → Prop) : Prop :=
 if x48 = true then (grd (decide (0 < (x64.length : Int))) (((((spec_l15Node.c n 4 0 (IntKind.wrap .i64 (x53 + x61)) (IntKind.wrap .i64 (x54 + x61)) 0 ([] : List (Int)) ([rd x64 0] : List (Int)) (fun r263 r264 r265 => Kc16w0 r265 r264 r263)) ∧ (spec_l15Node.c n 4 0 (IntKind.wrap .i64 (x53 + x61)) (IntKind.wrap .i64 (x54 + x61)) 0 ([] : List (Int)) ([rd x64 0] : List (Int)) (fun r266 r267 r268 => Kc16w0 r268 r267 r266))) ∧ ((spec_l15Node.c n 4 0 (IntKind.wrap .i64 (x53 + x61)) (IntKind.wrap .i64 (x54 + x61)) 0 ([] : List (Int)) ([rd x64 0] : List (Int)) (fun r269 r270 r271 => Kc16w0 r271 r270 r269)) ∧ (spec_l15Node.c n 4 0 (IntKind.wrap .i64 (x53 + x61)) (IntKind.wrap .i64 (x54 + x61)) 0 ([] : List (Int)) ([rd x64 0] : List (Int)) (fun r272 r273 r274 => Kc16w0 r274 r273 r272))) ∧ (spec_l15Node.c n 4 0 (IntKind.wrap .i64 (x53 + x61)) (IntKind.wrap .i64 (x54 + x61)) 0 ([] : List (Int)) ([rd x64 0] : List (Int)) (fun r275 r276 r277 => Kc16w0 r277 r276 r275))) ∧ (((spec_l15Node.c n 4 0 (IntKind.wrap .i64 (x53 + x61)) (IntKind.wrap .i64 (x54 + x61)) 0 ([] : List (Int)) ([rd x64 0] : List (Int)) (fun r278 r279 r280 => Kc16w0 r280 r279 r278)) ∧ (spec_l15Node.c n 4 0 (IntKind.wrap .i64 (x53 + x61)) (IntKind.wrap .i64 (x54 + x61)) 0 ([] : List (Int)) ([rd x64 0] : List (Int)) (fun r281 r282 r283 => Kc16w0 r283 r282 r281))) ∧ ((spec_l15Node.c n 4 0 (IntKind.wrap .i64 (x53 + x61)) (IntKind.wrap .i64 (x54 + x61)) 0 ([] : List (Int)) ([rd x64 0] : List (Int)) (fun r284 r285 r286 => Kc16w0 r286 r285 r284)) ∧ (spec_l15Node.c n 4 0 (IntKind.wrap .i64 (x53 + x61)) (IntKind.wrap .i64 (x54 + x61)) 0 ([] : List (Int)) ([rd x64 0] : List (Int)) (fun r287 r288 r289 => Kc16w0 r289 r288 r287))) ∧ (spec_l15Node.c n 4 0 (IntKind.wrap .i64 (x53 + x61)) (IntKind.wrap .i64 (x54 + x61)) 0 ([] : List (Int)) ([rd x64 0] : List (Int)) (fun r290 r291 r292 => Kc16w0 r292 r291 r290))) ∧ (((spec_l15Node.c n 4 0 (IntKind.wrap .i64 (x53 + x61)) (IntKind.wrap .i64 (x54 + x61)) 0 ([] : List (Int)) ([rd x64 0] : List (Int)) (fun r293 r294 r295 => Kc16w0 r295 r294 r293)) ∧ (spec_l15Node.c n 4 0 (IntKind.wrap .i64 (x53 + x61)) (IntKind.wrap .i64 (x54 + x61)) 0 ([] : List (Int)) ([rd x64 0] : List (Int)) (fun r296 r297 r298 => Kc16w0 r298 r297 r296))) ∧ ((spec_l15Node.c n 4 0 (IntKind.wrap .i64 (x53 + x61)) (IntKind.wrap .i64 (x54 + x61)) 0 ([] : List (Int)) ([rd x64 0] : List (Int)) (fun r299 r300 r301 => Kc16w0 r301 r300 r299)) ∧ (spec_l15Node.c n 4 0 (IntKind.wrap .i64 (x53 + x61)) (IntKind.wrap .i64 (x54 + x61)) 0 ([] : List (Int)) ([rd x64 0] : List (Int)) (fun r302 r303 r304 => Kc16w0 r304 r303 r302))) ∧ (spec_l15Node.c n 4 0 (IntKind.wrap .i64 (x53 + x61)) (IntKind.wrap .i64 (x54 + x61)) 0 ([] : List (Int)) ([rd x64 0] : List (Int)) (fun r305 r306 r307 => Kc16w0 r307 r306 r305))) ∧ (spec_l15Node.c n 4 0 (IntKind.wrap .i64 (x53 + x61)) (IntKind.wrap .i64 (x54 + x61)) 0 ([] : List (Int)) ([rd x64 0] : List (Int)) (fun r308 r309 r310 => Kc16w0 r310 r309 r308))) ∧ ((((spec_l15Node.c n 4 0 (IntKind.wrap .i64 (x53 + x61)) (IntKind.wrap .i64 (x54 + x61)) 0 ([] : List (Int)) ([rd x64 0] : List (Int)) (fun r311 r312 r313 => Kc16w0 r313 r312 r311)) ∧ (spec_l15Node.c n 4 0 (IntKind.wrap .i64 (x53 + x61)) (IntKind.wrap .i64 (x54 + x61)) 0 ([] : List (Int)) ([rd x64 0] : List (Int)) (fun r314 r315 r316 => Kc16w0 r316 r315 r314))) ∧ ((spec_l15Node.c n 4 0 (IntKind.wrap .i64 (x53 + x61)) (IntKind.wrap .i64 (x54 + x61)) 0 ([] : List (Int)) ([rd x64 0] : List (Int)) (fun r317 r318 r319 => Kc16w0 r319 r318 r317)) ∧ (spec_l15Node.c n 4 0 (IntKind.wrap .i64 (x53 + x61)) (IntKind.wrap .i64 (x54 + x61)) 0 ([] : List (Int)) ([rd x64 0] : List (Int)) (fun r320 r321 r322 => Kc16w0 r322 r321 r320))) ∧ (spec_l15Node.c n 4 0 (IntKind.wrap .i64 (x53 + x61)) (IntKind.wrap .i64 (x54 + x61)) 0 ([] : List (Int)) ([rd x64 0] : List (Int)) (fun r323 r324 r325 => Kc16w0 r325 r324 r323))) ∧ (((spec_l15Node.c n 4 0 (IntKind.wrap .i64 (x53 + x61)) (IntKind.wrap .i64 (x54 + x61)) 0 ([] : List (Int)) ([rd x64 0] : List (Int)) (fun r326 r327 r328 => Kc16w0 r328 r327 r326)) ∧ (spec_l15Node.c n 4 0 (IntKind.wrap .i64 (x53 + x61)) (IntKind.wrap .i64 (x54 + x61)) 0 ([] : List (Int)) ([rd x64 0] : List (Int)) (fun r329 r330 r331 => Kc16w0 r331 r330 r329))) ∧ ((spec_l15Node.c n 4 0 (IntKind.wrap .i64 (x53 + x61)) (IntKind.wrap .i64 (x54 + x61)) 0 ([] : List (Int)) ([rd x64 0] : List (Int)) (fun r332 r333 r334 => Kc16w0 r334 r333 r332)) ∧ (spec_l15Node.c n 4 0 (IntKind.wrap .i64 (x53 + x61)) (IntKind.wrap .i64 (x54 + x61)) 0 ([] : List (Int)) ([rd x64 0] : List (Int)) (fun r335 r336 r337 => Kc16w0 r337 r336 r335))) ∧ (spec_l15Node.c n 4 0 (IntKind.wrap .i64 (x53 + x61)) (IntKind.wrap .i64 (x54 + x61)) 0 ([] : List (Int)) ([rd x64 0] : List (Int)) (fun r338 r339 r340 => Kc16w0 r340 r339 r338))) ∧ (((spec_l15Node.c n 4 0 (IntKind.wrap .i64 (x53 + x61)) (IntKind.wrap .i64 (x54 + x61)) 0 ([] : List (Int)) ([rd x64 0] : List (Int)) (fun r341 r342 r343 => Kc16w0 r343 r342 r341)) ∧ (spec_l15Node.c n 4 0 (IntKind.wrap .i64 (x53 + x61)) (IntKind.wrap .i64 (x54 + x61)) 0 ([] : List (Int)) ([rd x64 0] : List (Int)) (fun r344 r345 r346 => Kc16w0 r346 r345 r344))) ∧ ((spec_l15Node.c n 4 0 (IntKind.wrap .i64 (x53 + x61)) (IntKind.wrap .i64 (x54 + x61)) 0 ([] : List (Int)) ([rd x64 0] : List (Int)) (fun r347 r348 r349 => Kc16w0 r349 r348 r347)) ∧ (spec_l15Node.c n 4 0 (IntKind.wrap .i64 (x53 + x61)) (IntKind.wrap .i64 (x54 + x61)) 0 ([] : List (Int)) ([rd x64 0] : List (Int)) (fun r350 r351 r352 => Kc16w0 r352 r351 r350))) ∧ (spec_l15Node.c n 4 0 (IntKind.wrap .i64 (x53 + x61)) (IntKind.wrap .i64 (x54 + x61)) 0 ([] : List (Int)) ([rd x64 0] : List (Int)) (fun r353 r354 r355 => Kc16w0 r355 r354 r353))) ∧ (spec_l15Node.c n 4 0 (IntKind.wrap .i64 (x53 + x61)) (IntKind.wrap .i64 (x54 + x61)) 0 ([] : List (Int)) ([rd x64 0] : List (Int)) (fun r356 r357 r358 => Kc16w0 r358 r357 r356))) ∧ ((((spec_l15Node.c n 4 0 (IntKind.wrap .i64 (x53 + x61)) (IntKind.wrap .i64 (x54 + x61)) 0 ([] : List (Int)) ([rd x64 0] : List (Int)) (fun r359 r360 r361 => Kc16w0 r361 r360 r359)) ∧ (spec_l15Node.c n 4 0 (IntKind.wrap .i64 (x53 + x61)) (IntKind.wrap .i64 (x54 + x61)) 0 ([] : List (Int)) ([rd x64 0] : List (Int)) (fun r362 r363 r364 => Kc16w0 r364 r363 r362))) ∧ ((spec_l15Node.c n 4 0 (IntKind.wrap .i64 (x53 + x61)) (IntKind.wrap .i64 (x54 + x61)) 0 ([] : List (Int)) ([rd x64 0] : List (Int)) (fun r365 r366 r367 => Kc16w0 r367 r366 r365)) ∧ (spec_l15Node.c n 4 0 (IntKind.wrap .i64 (x53 + x61)) (IntKind.wrap .i64 (x54 + x61)) 0 ([] : List (Int)) ([rd x64 0] : List (Int)) (fun r368 r369 r370 => Kc16w0 r370 r369 r368))) ∧ (spec_l15Node.c n 4 0 (IntKind.wrap .i64 (x53 + x61)) (IntKind.wrap .i64 (x54 + x61)) 0 ([] : List (Int)) ([rd x64 0] : List (Int)) (fun r371 r372 r373 => Kc16w0 r373 r372 r371))) ∧ (((spec_l15Node.c n 4 0 (IntKind.wrap .i64 (x53 + x61)) (IntKind.wrap .i64 (x54 + x61)) 0 ([] : List (Int)) ([rd x64 0] : List (Int)) (fun r374 r375 r376 => Kc16w0 r376 r375 r374)) ∧ (spec_l15Node.c n 4 0 (IntKind.wrap .i64 (x53 + x61)) (IntKind.wrap .i64 (x54 + x61)) 0 ([] : List (Int)) ([rd x64 0] : List (Int)) (fun r377 r378 r379 => Kc16w0 r379 r378 r377))) ∧ ((spec_l15Node.c n 4 0 (IntKind.wrap .i64 (x53 + x61)) (IntKind.wrap .i64 (x54 + x61)) 0 ([] : List (Int)) ([rd x64 0] : List (Int)) (fun r380 r381 r382 => Kc16w0 r382 r381 r380)) ∧ (spec_l15Node.c n 4 0 (IntKind.wrap .i64 (x53 + x61)) (IntKind.wrap .i64 (x54 + x61)) 0 ([] : List (Int)) ([rd x64 0] : List (Int)) (fun r383 r384 r385 => Kc16w0 r385 r384 r383))) ∧ (spec_l15Node.c n 4 0 (IntKind.wrap .i64 (x53 + x61)) (IntKind.wrap .i64 (x54 + x61)) 0 ([] : List (Int)) ([rd x64 0] : List (Int)) (fun r386 r387 r388 => Kc16w0 r388 r387 r386))) ∧ (((spec_l15Node.c n 4 0 (IntKind.wrap .i64 (x53 + x61)) (IntKind.wrap .i64 (x54 + x61)) 0 ([] : List (Int)) ([rd x64 0] : List (Int)) (fun r389 r390 r391 => Kc16w0 r391 r390 r389)) ∧ (spec_l15Node.c n 4 0 (IntKind.wrap .i64 (x53 + x61)) (IntKind.wrap .i64 (x54 + x61)) 0 ([] : List (Int)) ([rd x64 0] : List (Int)) (fun r392 r393 r394 => Kc16w0 r394 r393 r392))) ∧ ((spec_l15Node.c n 4 0 (IntKind.wrap .i64 (x53 + x61)) (IntKind.wrap .i64 (x54 + x61)) 0 ([] : List (Int)) ([rd x64 0] : List (Int)) (fun r395 r396 r397 => Kc16w0 r397 r396 r395)) ∧ (spec_l15Node.c n 4 0 (IntKind.wrap .i64 (x53 + x61)) (IntKind.wrap .i64 (x54 + x61)) 0 ([] : List (Int)) ([rd x64 0] : List (Int)) (fun r398 r399 r400 => Kc16w0 r400 r399 r398))) ∧ (spec_l15Node.c n 4 0 (IntKind.wrap .i64 (x53 + x61)) (IntKind.wrap .i64 (x54 + x61)) 0 ([] : List (Int)) ([rd x64 0] : List (Int)) (fun r401 r402 r403 => Kc16w0 r403 r402 r401))) ∧ (spec_l15Node.c n 4 0 (IntKind.wrap .i64 (x53 + x61)) (IntKind.wrap .i64 (x54 + x61)) 0 ([] : List (Int)) ([rd x64 0] : List (Int)) (fun r404 r405 r406 => Kc16w0 r406 r405 r404))) ∧ ((((spec_l15Node.c n 4 0 (IntKind.wrap .i64 (x53 + x61)) (IntKind.wrap .i64 (x54 + x61)) 0 ([] : List (Int)) ([rd x64 0] : List (Int)) (fun r407 r408 r409 => Kc16w0 r409 r408 r407)) ∧ (spec_l15Node.c n 4 0 (IntKind.wrap .i64 (x53 + x61)) (IntKind.wrap .i64 (x54 + x61)) 0 ([] : List (Int)) ([rd x64 0] : List (Int)) (fun r410 r411 r412 => Kc16w0 r412 r411 r410))) ∧ ((spec_l15Node.c n 4 0 (IntKind.wrap .i64 (x53 + x61)) (IntKind.wrap .i64 (x54 + x61)) 0 ([] : List (Int)) ([rd x64 0] : List (Int)) (fun r413 r414 r415 => Kc16w0 r415 r414 r413)) ∧ (spec_l15Node.c n 4 0 (IntKind.wrap .i64 (x53 + x61)) (IntKind.wrap .i64 (x54 + x61)) 0 ([] : List (Int)) ([rd x64 0] : List (Int)) (fun r416 r417 r418 => Kc16w0 r418 r417 r416))) ∧ (spec_l15Node.c n 4 0 (IntKind.wrap .i64 (x53 + x61)) (IntKind.wrap .i64 (x54 + x61)) 0 ([] : List (Int)) ([rd x64 0] : List (Int)) (fun r419 r420 r421 => Kc16w0 r421 r420 r419))) ∧ (((spec_l15Node.c n 4 0 (IntKind.wrap .i64 (x53 + x61)) (IntKind.wrap .i64 (x54 + x61)) 0 ([] : List (Int)) ([rd x64 0] : List (Int)) (fun r422 r423 r424 => Kc16w0 r424 r423 r422)) ∧ (spec_l15Node.c n 4 0 (IntKind.wrap .i64 (x53 + x61)) (IntKind.wrap .i64 (x54 + x61)) 0 ([] : List (Int)) ([rd x64 0] : List (Int)) (fun r425 r426 r427 => Kc16w0 r427 r426 r425))) ∧ ((spec_l15Node.c n 4 0 (IntKind.wrap .i64 (x53 + x61)) (IntKind.wrap .i64 (x54 + x61)) 0 ([] : List (Int)) ([rd x64 0] : List (Int)) (fun r428 r429 r430 => Kc16w0 r430 r429 r428)) ∧ (spec_l15Node.c n 4 0 (IntKind.wrap .i64 (x53 + x61)) (IntKind.wrap .i64 (x54 + x61)) 0 ([] : List (Int)) ([rd x64 0] : List (Int)) (fun r431 r432 r433 => Kc16w0 r433 r432 r431))) ∧ (spec_l15Node.c n 4 0 (IntKind.wrap .i64 (x53 + x61)) (IntKind.wrap .i64 (x54 + x61)) 0 ([] : List (Int)) ([rd x64 0] : List (Int)) (fun r434 r435 r436 => Kc16w0 r436 r435 r434))) ∧ (((spec_l15Node.c n 4 0 (IntKind.wrap .i64 (x53 + x61)) (IntKind.wrap .i64 (x54 + x61)) 0 ([] : List (Int)) ([rd x64 0] : List (Int)) (fun r437 r438 r439 => Kc16w0 r439 r438 r437)) ∧ (spec_l15Node.c n 4 0 (IntKind.wrap .i64 (x53 + x61)) (IntKind.wrap .i64 (x54 + x61)) 0 ([] : List (Int)) ([rd x64 0] : List (Int)) (fun r440 r441 r442 => Kc16w0 r442 r441 r440))) ∧ ((spec_l15Node.c n 4 0 (IntKind.wrap .i64 (x53 + x61)) (IntKind.wrap .i64 (x54 + x61)) 0 ([] : List (Int)) ([rd x64 0] : List (Int)) (fun r443 r444 r445 => Kc16w0 r445 r444 r443)) ∧ (spec_l15Node.c n 4 0 (IntKind.wrap .i64 (x53 + x61)) (IntKind.wrap .i64 (x54 + x61)) 0 ([] : List (Int)) ([rd x64 0] : List (Int)) (fun r446 r447 r448 => Kc16w0 r448 r447 r446))) ∧ (spec_l15Node.c n 4 0 (IntKind.wrap .i64 (x53 + x61)) (IntKind.wrap .i64 (x54 + x61)) 0 ([] : List (Int)) ([rd x64 0] : List (Int)) (fun r449 r450 r451 => Kc16w0 r451 r450 r449))) ∧ (spec_l15Node.c n 4 0 (IntKind.wrap .i64 (x53 + x61)) (IntKind.wrap .i64 (x54 + x61)) 0 ([] : List (Int)) ([rd x64 0] : List (Int)) (fun r452 r453 r454 => Kc16w0 r454 r453 r452))) ∧ (spec_l15Node.c n 4 0 (IntKind.wrap .i64 (x53 + x61)) (IntKind.wrap .i64 (x54 + x61)) 0 ([] : List (Int)) ([rd x64 0] : List (Int)) (fun r455 r456 r457 => Kc16w0 r457 r456 r455)))) else (Kc16w1 x49 x50)
def spec_l15Fit.q16 : Nat → Bool → List (tTNode) → Int → Int → Int → Int → Int → Int → List Int → List Int → Int → Int → Int → Int → Int → List Int → List Int → (Bool → List (tTNode) → Int → Prop) → (List (tTNode) → Int → Prop) → Prop
 | 0, _, _, _, _, _, _, _, _, _, _, _, _, _, _, _, _, _, _, _ => False
 | n + 1, x48, x49, x50, x51, x52, x53, x54, x55, x56, x57, x58, x59, x60, x61, x62, x63, x64, Kc16w0, Kc16w1 => spec_l15Fit.q16.b n  x48 x49 x50 x51 x52 x53 x54 x55 x56 x57 x58 x59 x60 x61 x62 x63 x64  Kc16w0 Kc16w1
def spec_l15Fit.l34.b (n : Nat) (x513 : Int) (x515 : List Int) (x516 : List (tTNode)) (x518 : Int) (x519 : Int) (x520 : Int) (x521 : Int) (x522 : Int) (x523 : Int) (x524 : List Int) (x525 : List Int) (x526 : Int) (x527 : Int) (x528 : Int) (x529 : Int) (x530 : Int) (again34 : Int → List Int → Prop) (x514 : Int) (x517 : List Int) (Kx1w34 : List Int → List (tTNode) → List Int → Int → Int → Int → Int → Int → Int → Prop) : Prop :=
 if (decide (x514 < x521)) = true then (grd (decide (x517.length + ([x513] : List (Int)).length ≤ 7818749353073)) (again34 (IntKind.wrap .i64 (x514 + 1)) (x517 ++ ([x513] : List (Int))))) else (Kx1w34 x515 x516 x517 x518 x526 x527 x528 x529 x530)
def spec_l15Fit.l34 : Nat → Int → List Int → List (tTNode) → Int → Int → Int → Int → Int → Int → List Int → List Int → Int → Int → Int → Int → Int → Int → List Int → (List Int → List (tTNode) → List Int → Int → Int → Int → Int → Int → Int → Prop) → Prop
 | 0, _, _, _, _, _, _, _, _, _, _, _, _, _, _, _, _, _, _, _ => False
 | n + 1, x513, x515, x516, x518, x519, x520, x521, x522, x523, x524, x525, x526, x527, x528, x529, x530, x514, x517, Kx1w34 => spec_l15Fit.l34.b n  x513 x515 x516 x518 x519 x520 x521 x522 x523 x524 x525 x526 x527 x528 x529 x530 (fun x514q x517q => spec_l15Fit.l34 n x513 x515 x516 x518 x519 x520 x521 x522 x523 x524 x525 x526 x527 x528 x529 x530 x514q x517q Kx1w34) x514 x517 Kx1w34
def spec_l15Fit.j4 (Kr43 : Bool → List (tTNode) → Int → Prop) (again43 : Int → Prop) (n : Nat) (x594 : Int) (x596 : List (tTNode)) (x604 : List Int) : Prop :=
 grd (decide (0 ≤ x594) && decide (x594 < (x604.length : Int))) (grd (decide (0 ≤ rd x604 (Int.toNat x594)) && decide (rd x604 (Int.toNat x594) < (x596.length : Int))) (let t618 : tTNode := rd x596 (Int.toNat (rd x604 (Int.toNat x594))); if (decide (t618.1 = 3)) = true then (grd ((decide (0 ≤ x594) && decide (x594 ≤ (x604.length : Int))) && decide (0 ≤ x594)) (let t619 : List Int := List.drop 0 (List.take (Int.toNat x594) x604); grd (decide (([] : List (Int)).length + t619.length ≤ 7818749353073)) (grd (decide (0 ≤ x594) && decide (x594 < (x604.length : Int))) (grd (decide (0 ≤ rd x604 (Int.toNat x594)) && decide (rd x604 (Int.toNat x594) < (x596.length : Int))) (let t622 : tTNode := rd x596 (Int.toNat (rd x604 (Int.toNat x594))); grd (decide ((([] : List (Int)) ++ t619).length + t622.2.2.2.2.2.2.length ≤ 7818749353073)) (let t623 : List Int := (([] : List (Int)) ++ t619) ++ t622.2.2.2.2.2.2; grd ((decide (0 ≤ IntKind.wrap .i64 (x594 + 1)) && true) && decide (IntKind.wrap .i64 (x594 + 1) ≤ (x604.length : Int))) (let t624 : List Int := List.drop (Int.toNat (IntKind.wrap .i64 (x594 + 1))) (List.take (Int.toNat (x604.length : Int)) x604); grd (decide (t623.length + t624.length ≤ 7818749353073)) (spec_l15Node.c n 3 0 0 0 0 ([] : List (Int)) (t623 ++ t624) (fun r625 r626 r627 => Kr43 r627 r626 r625))))))))) else (again43 (IntKind.wrap .i64 (x594 + 1)))))
def spec_l15Fit.l43.b (n : Nat) (x595 : List (tTNode)) (x596 : List (tTNode)) (x597 : Int) (x598 : Int) (x599 : Int) (x600 : Int) (x601 : Int) (x602 : Int) (x603 : List Int) (x604 : List Int) (again43 : Int → Prop) (x594 : Int) (Kx3w43 : List (tTNode) → Int → Prop) (Kr43 : Bool → List (tTNode) → Int → Prop) : Prop :=
 if (decide (x598 = 3)) = true then (if (decide (x594 < (x604.length : Int))) = true then (spec_l15Fit.j4 Kr43 again43 n x594 x596 x604) else (Kx3w43 x595 x597)) else (Kx3w43 x595 x597)
def spec_l15Fit.l43 : Nat → List (tTNode) → List (tTNode) → Int → Int → Int → Int → Int → Int → List Int → List Int → Int → (List (tTNode) → Int → Prop) → (Bool → List (tTNode) → Int → Prop) → Prop
 | 0, _, _, _, _, _, _, _, _, _, _, _, _, _ => False
 | n + 1, x595, x596, x597, x598, x599, x600, x601, x602, x603, x604, x594, Kx3w43, Kr43 => spec_l15Fit.l43.b n  x595 x596 x597 x598 x599 x600 x601 x602 x603 x604 (fun x594q => spec_l15Fit.l43 n x595 x596 x597 x598 x599 x600 x601 x602 x603 x604 x594q Kx3w43 Kr43) x594 Kx3w43 Kr43
def spec_l15Fit.j6 (Kc10w0 : Bool → List (tTNode) → Int → Prop) (j640 : List (tTNode)) (j641 : Int) : Prop :=
 let t642 : List (tTNode) := ([] : List (tTNode)); Kc10w0 false t642 0
def spec_l15Fit.j7 (Kc10w0 : Bool → List (tTNode) → Int → Prop) (Kc10w4 : Bool → List (tTNode) → Int → Prop) (n : Nat) (x21 : Int) (x22 : Int) (x24 : List (tTNode)) (x26 : Int) (x29 : Int) (j667 : Bool) : Prop :=
 if j667 = true then (grd (!(decide (x22 = 0))) (spec_l15Node.c n 7 0 (IntKind.wrap .i64 (x22 - (Int.tmod x29 x22))) 0 0 ([] : List (Int)) ([x21] : List (Int)) (fun r668 r669 r670 => Kc10w4 r670 r669 r668))) else (spec_l15Fit.j6 Kc10w0 x24 x26)
def spec_l15Fit.j8 (Kc10w0 : Bool → List (tTNode) → Int → Prop) (Kc10w6 : Bool → List (tTNode) → Int → Prop) (n : Nat) (x21 : Int) (x24 : List (tTNode)) (x26 : Int) (x29 : Int) (j681 : Bool) : Prop :=
 if j681 = true then (spec_BitsOf.c n x29 0 (fun r682 r683 r684 => let t685 : List (tTNode) := ([(2, 0, 0, 0, r682, r683, ([] : List (Int))), (3, 0, 0, 0, 0, ([] : List (Int)), ([(-1), x21] : List (Int)))] : List (tTNode)); Kc10w6 true t685 (-1))) else (spec_l15Fit.j6 Kc10w0 x24 x26)
def spec_l15Fit.j9 (Kc10w0 : Bool → List (tTNode) → Int → Prop) (Kc10w7 : Bool → List (tTNode) → Int → Prop) (lp34 : Int → List Int → List (tTNode) → Int → Int → Int → Int → Int → Int → List Int → List Int → Int → Int → Int → Int → Int → Int → List Int → (List Int → List (tTNode) → List Int → Int → Int → Int → Int → Int → Int → Prop) → Prop) (n : Nat) (x21 : Int) (x24 : List (tTNode)) (x26 : Int) (x27 : Int) (x28 : Int) (x29 : Int) (x30 : Int) (x31 : Int) (x32 : List Int) (x33 : List Int) (j686 : Bool) : Prop :=
 if j686 = true then (lp34 x21 ([] : List (Int)) x24 x26 x27 x28 x29 x30 x31 x32 x33 3 0 0 0 0 0 ([] : List (Int)) (fun y696 y697 y698 y699 y700 y701 y702 y703 y704 => spec_l15Node.c n y700 y701 y702 y703 y704 y696 y698 (fun r705 r706 r707 => Kc10w7 r707 r706 r705))) else (spec_l15Fit.j6 Kc10w0 x24 x26)
def spec_l15Fit.j10 (Kc10w0 : Bool → List (tTNode) → Int → Prop) (Kc10w10 : Bool → List (tTNode) → Int → Prop) (n : Nat) (x19 : List Int) (x24 : List (tTNode)) (x26 : Int) (x29 : Int) (x30 : Int) (x34 : Int) (x35 : Int) (x36 : Int) (x37 : Int) (x38 : Int) (x39 : List Int) (x40 : List Int) (j720 : Bool) : Prop :=
 if j720 = true then (spec_l15Inner.c n x34 x35 x36 x37 x38 x39 x40 x19 x29 x30 (fun r721 r722 => if (decide (r721 ≥ 0)) = true then (spec_l15Node.c n 4 0 (IntKind.wrap .i64 (x29 - r722)) (IntKind.wrap .i64 (x30 - r722)) 0 ([] : List (Int)) ([r721] : List (Int)) (fun r723 r724 r725 => Kc10w10 r725 r724 r723)) else (spec_l15Fit.j6 Kc10w0 x24 x26))) else (spec_l15Fit.j6 Kc10w0 x24 x26)
def spec_l15Fit.q10.b (n : Nat) (lp34 : Int → List Int → List (tTNode) → Int → Int → Int → Int → Int → Int → List Int → List Int → Int → Int → Int → Int → Int → Int → List Int → (List Int → List (tTNode) → List Int → Int → Int → Int → Int → Int → Int → Prop) → Prop) (lp43 : List (tTNode) → List (tTNode) → Int → Int → Int → Int → Int → Int → List Int → List Int → Int → (List (tTNode) → Int → Prop) → (Bool → List (tTNode) → Int → Prop) → Prop) (lpq16 : Bool → List (tTNode) → Int → Int → Int → Int → Int → Int → List Int → List Int → Int → Int → Int → Int → Int → List Int → List Int → (Bool → List (tTNode) → Int → Prop) → (List (tTNode) → Int → Prop) → Prop) (x19 : List Int) (x20 : Int) (x21 : Int) (x22 : Int) (x23 : Bool) (x24 : List (tTNode)) (x25 : List (tTNode)) (x26 : Int) (x27 : Int) (x28 : Int) (x29 : Int) (x30 : Int) (x31 : Int) (x32 : List Int) (x33 : List Int) (x34 : Int) (x35 : Int) (x36 : Int) (x37 : Int) (x38 : Int) (x39 : List Int) (x40 : List Int) (Kc10w0 : Bool → List (tTNode) → Int → Prop) (Kc10w1 : Bool → List (tTNode) → Int → Prop) (Kc10w2 : Bool → List (tTNode) → Int → Prop) (Kc10w3 : Bool → List (tTNode) → Int → Prop) (Kc10w4 : Bool → List (tTNode) → Int → Prop) (Kc10w5 : Bool → List (tTNode) → Int → Prop) (Kc10w6 : Bool → List (tTNode) → Int → Prop) (Kc10w7 : Bool → List (tTNode) → Int → Prop) (Kc10w8 : Bool → List (tTNode) → Int → Prop) (Kc10w9 : Bool → List (tTNode) → Int → Prop) (Kc10w10 : Bool → List (tTNode) → Int → Prop) : Prop :=
 if (decide (x20 = 1)) = true then (if (decide (x27 = 4)) = true then (if (decide (x29 = IntKind.wrap .i64 (x22 - 1))) = true then (if (decide (x30 = 0)) = true then (spec_l15Kid.c n x21 (fun r647 r648 r649 => Kc10w1 r649 r648 r647)) else (spec_l15Fit.j6 Kc10w0 x24 x26)) else (spec_l15Fit.j6 Kc10w0 x24 x26)) else (spec_l15Fit.j6 Kc10w0 x24 x26)) else (if (decide (x20 = 2)) = true then (if (decide (x27 = 4)) = true then (lpq16 (decide (x34 = 4)) x24 x26 x27 x28 x29 x30 x31 x32 x33 x34 x35 x36 x37 x38 x39 x40 (fun y650 y651 y652 => Kc10w2 y650 y651 y652) (fun y653 y654 => spec_l15Fit.j6 Kc10w0 y653 y654)) else (lpq16 false x24 x26 x27 x28 x29 x30 x31 x32 x33 x34 x35 x36 x37 x38 x39 x40 (fun y655 y656 y657 => Kc10w2 y655 y656 y657) (fun y658 y659 => spec_l15Fit.j6 Kc10w0 y658 y659))) else (if (decide (x20 = 3)) = true then (if x23 = true then (grd (!(decide (x22 = 0))) (if (decide (Int.tmod x29 x22 = 0)) = true then (spec_l15Kid.c n x21 (fun r664 r665 r666 => Kc10w3 r666 r665 r664)) else (spec_l15Fit.j6 Kc10w0 x24 x26))) else (spec_l15Fit.j6 Kc10w0 x24 x26)) else (if (decide (x20 = 4)) = true then (if (decide (x27 = 8)) = true then (grd (!(decide (x22 = 0))) (spec_l15Fit.j7 Kc10w0 Kc10w4 n x21 x22 x24 x26 x29 (!(decide (Int.tmod x29 x22 = 0))))) else (spec_l15Fit.j7 Kc10w0 Kc10w4 n x21 x22 x24 x26 x29 false)) else (if (decide (x20 = 5)) = true then (if (decide (x27 = 5)) = false then (if (decide (x27 = 6)) = true then (if (decide (x29 = 0)) = true then (spec_l15Kid.c n x21 (fun r675 r676 r677 => Kc10w5 r677 r676 r675)) else (spec_l15Fit.j6 Kc10w0 x24 x26)) else (spec_l15Fit.j6 Kc10w0 x24 x26)) else (if (decide (x29 = 0)) = true then (spec_l15Kid.c n x21 (fun r678 r679 r680 => Kc10w5 r680 r679 r678)) else (spec_l15Fit.j6 Kc10w0 x24 x26))) else (if (decide (x20 = 6)) = true then (if (decide (x27 = 5)) = true then (spec_l15Fit.j8 Kc10w0 Kc10w6 n x21 x24 x26 x29 (decide (x29 > 0))) else (spec_l15Fit.j8 Kc10w0 Kc10w6 n x21 x24 x26 x29 false)) else (if (decide (x20 = 7)) = true then (if (decide (x27 = 9)) = true then (spec_l15Fit.j9 Kc10w0 Kc10w7 lp34 n x21 x24 x26 x27 x28 x29 x30 x31 x32 x33 (decide (x29 > 1))) else (spec_l15Fit.j9 Kc10w0 Kc10w7 lp34 n x21 x24 x26 x27 x28 x29 x30 x31 x32 x33 false)) else (if (decide (x20 = 8)) = true then (if (decide (x27 = 9)) = true then (if (decide (x29 = 1)) = true then (spec_l15Kid.c n x21 (fun r712 r713 r714 => Kc10w8 r714 r713 r712)) else (spec_l15Fit.j6 Kc10w0 x24 x26)) else (spec_l15Fit.j6 Kc10w0 x24 x26)) else (if (decide (x20 = 9)) = true then (lp43 x24 x25 x26 x27 x28 x29 x30 x31 x32 x33 0 (fun y715 y716 => spec_l15Fit.j6 Kc10w0 y715 y716) (fun y717 y718 y719 => Kc10w9 y717 y718 y719)) else (if (decide (x20 = 11)) = true then (if (decide (x27 = 4)) = true then (spec_l15Fit.j10 Kc10w0 Kc10w10 n x19 x24 x26 x29 x30 x34 x35 x36 x37 x38 x39 x40 (decide (x34 = 3))) else (spec_l15Fit.j10 Kc10w0 Kc10w10 n x19 x24 x26 x29 x30 x34 x35 x36 x37 x38 x39 x40 false)) else (spec_l15Fit.j6 Kc10w0 x24 x26))))))))))
def spec_l15Fit.q10 : Nat → List Int → Int → Int → Int → Bool → List (tTNode) → List (tTNode) → Int → Int → Int → Int → Int → Int → List Int → List Int → Int → Int → Int → Int → Int → List Int → List Int → (Bool → List (tTNode) → Int → Prop) → (Bool → List (tTNode) → Int → Prop) → (Bool → List (tTNode) → Int → Prop) → (Bool → List (tTNode) → Int → Prop) → (Bool → List (tTNode) → Int → Prop) → (Bool → List (tTNode) → Int → Prop) → (Bool → List (tTNode) → Int → Prop) → (Bool → List (tTNode) → Int → Prop) → (Bool → List (tTNode) → Int → Prop) → (Bool → List (tTNode) → Int → Prop) → (Bool → List (tTNode) → Int → Prop) → Prop
 | 0, _, _, _, _, _, _, _, _, _, _, _, _, _, _, _, _, _, _, _, _, _, _, _, _, _, _, _, _, _, _, _, _, _ => False
 | n + 1, x19, x20, x21, x22, x23, x24, x25, x26, x27, x28, x29, x30, x31, x32, x33, x34, x35, x36, x37, x38, x39, x40, Kc10w0, Kc10w1, Kc10w2, Kc10w3, Kc10w4, Kc10w5, Kc10w6, Kc10w7, Kc10w8, Kc10w9, Kc10w10 => spec_l15Fit.q10.b n (spec_l15Fit.l34 n) (spec_l15Fit.l43 n) (spec_l15Fit.q16 n) x19 x20 x21 x22 x23 x24 x25 x26 x27 x28 x29 x30 x31 x32 x33 x34 x35 x36 x37 x38 x39 x40  Kc10w0 Kc10w1 Kc10w2 Kc10w3 Kc10w4 Kc10w5 Kc10w6 Kc10w7 Kc10w8 Kc10w9 Kc10w10
def spec_l15Fit.w (n : Nat) (lpq10 : List Int → Int → Int → Int → Bool → List (tTNode) → List (tTNode) → Int → Int → Int → Int → Int → Int → List Int → List Int → Int → Int → Int → Int → Int → List Int → List Int → (Bool → List (tTNode) → Int → Prop) → (Bool → List (tTNode) → Int → Prop) → (Bool → List (tTNode) → Int → Prop) → (Bool → List (tTNode) → Int → Prop) → (Bool → List (tTNode) → Int → Prop) → (Bool → List (tTNode) → Int → Prop) → (Bool → List (tTNode) → Int → Prop) → (Bool → List (tTNode) → Int → Prop) → (Bool → List (tTNode) → Int → Prop) → (Bool → List (tTNode) → Int → Prop) → (Bool → List (tTNode) → Int → Prop) → Prop) (a1 : List (tTNode)) (a2 : List Int) (a3 : Int) (a4 : Int) (K : Int → List (tTNode) → Bool → Prop) : Prop :=
 let t5 : List (tTNode) := ([] : List (tTNode)); grd (decide (0 ≤ a3) && decide (a3 < (a1.length : Int))) (if (decide (a4 = 10)) = true then (spec_l15Const.c n a1 ((rd a1 (Int.toNat a3)).1) (((rd a1 (Int.toNat a3)).2).1) ((((rd a1 (Int.toNat a3)).2).2).1) (((((rd a1 (Int.toNat a3)).2).2).2).1) ((((((rd a1 (Int.toNat a3)).2).2).2).2).1) (((((((rd a1 (Int.toNat a3)).2).2).2).2).2).1) (((((((rd a1 (Int.toNat a3)).2).2).2).2).2).2) (fun r9 r10 r11 => K r9 r10 r11)) else (let t14 : Int := ((((((((rd a1 (Int.toNat a3)).2).2).2).2).2).2).length : Int); if (decide (t14 = 0)) = true then (let t15 : List (tTNode) := ([] : List (tTNode)); K 0 t15 false) else (grd (decide (0 < ((((((((rd a1 (Int.toNat a3)).2).2).2).2).2).2).length : Int))) (let t16 : Int := rd (((((((rd a1 (Int.toNat a3)).2).2).2).2).2).2) 0; grd (decide (0 ≤ t16) && decide (t16 < (a1.length : Int))) (let t17 : List Int := ((((((rd a1 (Int.toNat t16)).2).2).2).2).2).1; let t18 : List Int := ((((((rd a1 (Int.toNat t16)).2).2).2).2).2).2; grd (decide (0 ≤ t16) && decide (t16 < (a2.length : Int))) (if (decide ((rd a1 (Int.toNat a3)).1 = 7)) = false then (lpq10 a2 a4 t16 (rd a2 (Int.toNat t16)) (decide ((rd a1 (Int.toNat a3)).1 = 8)) t5 a1 0 ((rd a1 (Int.toNat a3)).1) (((rd a1 (Int.toNat a3)).2).1) ((((rd a1 (Int.toNat a3)).2).2).1) (((((rd a1 (Int.toNat a3)).2).2).2).1) ((((((rd a1 (Int.toNat a3)).2).2).2).2).1) (((((((rd a1 (Int.toNat a3)).2).2).2).2).2).1) (((((((rd a1 (Int.toNat a3)).2).2).2).2).2).2) ((rd a1 (Int.toNat t16)).1) (((rd a1 (Int.toNat t16)).2).1) ((((rd a1 (Int.toNat t16)).2).2).1) (((((rd a1 (Int.toNat t16)).2).2).2).1) ((((((rd a1 (Int.toNat t16)).2).2).2).2).1) t17 t18 (fun y726 y727 y728 => K y728 y727 y726) (fun y729 y730 y731 => K y731 y730 y729) (fun y732 y733 y734 => K y734 y733 y732) (fun y735 y736 y737 => K y737 y736 y735) (fun y738 y739 y740 => K y740 y739 y738) (fun y741 y742 y743 => K y743 y742 y741) (fun y744 y745 y746 => K y746 y745 y744) (fun y747 y748 y749 => K y749 y748 y747) (fun y750 y751 y752 => K y752 y751 y750) (fun y753 y754 y755 => K y755 y754 y753) (fun y756 y757 y758 => K y758 y757 y756)) else (lpq10 a2 a4 t16 (rd a2 (Int.toNat t16)) true t5 a1 0 ((rd a1 (Int.toNat a3)).1) (((rd a1 (Int.toNat a3)).2).1) ((((rd a1 (Int.toNat a3)).2).2).1) (((((rd a1 (Int.toNat a3)).2).2).2).1) ((((((rd a1 (Int.toNat a3)).2).2).2).2).1) (((((((rd a1 (Int.toNat a3)).2).2).2).2).2).1) (((((((rd a1 (Int.toNat a3)).2).2).2).2).2).2) ((rd a1 (Int.toNat t16)).1) (((rd a1 (Int.toNat t16)).2).1) ((((rd a1 (Int.toNat t16)).2).2).1) (((((rd a1 (Int.toNat t16)).2).2).2).1) ((((((rd a1 (Int.toNat t16)).2).2).2).2).1) t17 t18 (fun y759 y760 y761 => K y761 y760 y759) (fun y762 y763 y764 => K y764 y763 y762) (fun y765 y766 y767 => K y767 y766 y765) (fun y768 y769 y770 => K y770 y769 y768) (fun y771 y772 y773 => K y773 y772 y771) (fun y774 y775 y776 => K y776 y775 y774) (fun y777 y778 y779 => K y779 y778 y777) (fun y780 y781 y782 => K y782 y781 y780) (fun y783 y784 y785 => K y785 y784 y783) (fun y786 y787 y788 => K y788 y787 y786) (fun y789 y790 y791 => K y791 y790 y789))))))))
def spec_l15Fit.c : Nat → List (tTNode) → List Int → Int → Int → (Int → List (tTNode) → Bool → Prop) → Prop
 | 0, _, _, _, _, _ => False
 | n + 1, a1, a2, a3, a4, K => spec_l15Fit.w n (spec_l15Fit.q10 n) a1 a2 a3 a4 K
end Go.Vsi
end

section
set_option linter.unusedVariables false
set_option synthInstance.maxSize 4096
namespace Go.Vsi
def spec_Rules.l6.b (n : Nat) (x21 : Int) (x24 : List Int) (x25 : List (tTNode)) (again6 : Int → List Int → Prop) (x22 : Int) (x23 : List Int) (Kx0w6 : List Int → Prop) : Prop :=
 if (decide (x22 ≤ 11)) = true then (spec_l15Fit.c n x25 x24 x21 x22 (fun r30 r31 r32 => let t33 : List (tTNode) := ([] : List (tTNode)); if r32 = true then (grd (decide (x23.length + ([x22] : List (Int)).length ≤ 7818749353073)) (again6 (IntKind.wrap .i64 (x22 + 1)) (x23 ++ ([x22] : List (Int))))) else (again6 (IntKind.wrap .i64 (x22 + 1)) x23))) else (Kx0w6 x23)
def spec_Rules.l6 : Nat → Int → List Int → List (tTNode) → Int → List Int → (List Int → Prop) → Prop
 | 0, _, _, _, _, _, _ => False
 | n + 1, x21, x24, x25, x22, x23, Kx0w6 => spec_Rules.l6.b n  x21 x24 x25 (fun x22q x23q => spec_Rules.l6 n x21 x24 x25 x22q x23q Kx0w6) x22 x23 Kx0w6
def spec_Rules.w (n : Nat) (lp6 : Int → List Int → List (tTNode) → Int → List Int → (List Int → Prop) → Prop) (a1 : List (tDecl)) (a2 : List (tTNode)) (a3 : Int) (K : List Int → Prop) : Prop :=
 spec_l3Widths.c n a1 a2 (fun r4 => if (decide ((r4.length : Int) = 0)) = false then (spec_l1In.c n a3 0 (IntKind.wrap .i64 ((a2.length : Int) - 1)) (fun r40 => if (!r40) = true then (K ([] : List (Int))) else (lp6 a3 r4 a2 1 ([] : List (Int)) (fun y42 => K y42)))) else (K ([] : List (Int))))
def spec_Rules.c : Nat → List (tDecl) → List (tTNode) → Int → (List Int → Prop) → Prop
 | 0, _, _, _, _ => False
 | n + 1, a1, a2, a3, K => spec_Rules.w n (spec_Rules.l6 n) a1 a2 a3 K
def impl_writer_kid.w (n : Nat) (a1 : twriter) (a2 : tTNode) (K : tTNode → Prop) : Prop :=
 grd (decide (0 < (a2.2.2.2.2.2.2.length : Int))) (grd (decide (0 ≤ rd a2.2.2.2.2.2.2 0) && decide (rd a2.2.2.2.2.2.2 0 < (a1.1.length : Int))) (K (rd a1.1 (Int.toNat (rd a2.2.2.2.2.2.2 0)))))
def impl_writer_kid.c : Nat → twriter → tTNode → (tTNode → Prop) → Prop
 | 0, _, _, _ => False
 | n + 1, a1, a2, K => impl_writer_kid.w n  a1 a2 K
def impl_writer_catKid_1.w (n : Nat) (a1 : Int) (a2 : twriter) (K : Bool → Prop) : Prop :=
 grd (decide (0 ≤ a1) && decide (a1 < (a2.1.length : Int))) (K (decide ((rd a2.1 (Int.toNat a1)).1 = 3)))
def impl_writer_catKid_1.c : Nat → Int → twriter → (Bool → Prop) → Prop
 | 0, _, _, _ => False
 | n + 1, a1, a2, K => impl_writer_catKid_1.w n  a1 a2 K
def slices_IndexFunc_int64__impl_writer_catKid_1.l2.b (n : Nat) (x9 : List Int) (x10 : twriter) (x11 : Int) (again2 : Int → Prop) (x12 : Int) (Kx0w2 : Prop) (Kr2 : Int → Prop) : Prop :=
 if (decide (x12 < x11)) = true then (grd (decide (0 ≤ x12) && decide (x12 < (x9.length : Int))) (impl_writer_catKid_1.c n (rd x9 (Int.toNat x12)) x10 (fun r14 => if r14 = true then (Kr2 x12) else (again2 (IntKind.wrap .i64 (x12 + 1)))))) else (Kx0w2)
def slices_IndexFunc_int64__impl_writer_catKid_1.l2 : Nat → List Int → twriter → Int → Int → Prop → (Int → Prop) → Prop
 | 0, _, _, _, _, _, _ => False
 | n + 1, x9, x10, x11, x12, Kx0w2, Kr2 => slices_IndexFunc_int64__impl_writer_catKid_1.l2.b n  x9 x10 x11 (fun x12q => slices_IndexFunc_int64__impl_writer_catKid_1.l2 n x9 x10 x11 x12q Kx0w2 Kr2) x12 Kx0w2 Kr2
def slices_IndexFunc_int64__impl_writer_catKid_1.w (n : Nat) (lp2 : List Int → twriter → Int → Int → Prop → (Int → Prop) → Prop) (a1 : List Int) (a2 : twriter) (K : Int → Prop) : Prop :=
 lp2 a1 a2 (a1.length : Int) 0 (K (-1)) (fun y16 => K y16)
def slices_IndexFunc_int64__impl_writer_catKid_1.c : Nat → List Int → twriter → (Int → Prop) → Prop
 | 0, _, _, _ => False
 | n + 1, a1, a2, K => slices_IndexFunc_int64__impl_writer_catKid_1.w n (slices_IndexFunc_int64__impl_writer_catKid_1.l2 n) a1 a2 K
def impl_writer_catKid.w (n : Nat) (a1 : twriter) (a2 : tTNode) (K : Int → Prop) : Prop :=
 slices_IndexFunc_int64__impl_writer_catKid_1.c n a2.2.2.2.2.2.2 a1 (fun r3 => K r3)
def impl_writer_catKid.c : Nat → twriter → tTNode → (Int → Prop) → Prop
 | 0, _, _, _ => False
 | n + 1, a1, a2, K => impl_writer_catKid.w n  a1 a2 K
def impl_writer_fits_1.w (n : Nat) (a1 : Int) (a2 : twriter) (K : Bool → Prop) : Prop :=
 grd (decide (0 ≤ a1) && decide (a1 < (a2.1.length : Int))) (K (!(decide ((rd a2.1 (Int.toNat a1)).1 = 2))))
def impl_writer_fits_1.c : Nat → Int → twriter → (Bool → Prop) → Prop
 | 0, _, _, _ => False
 | n + 1, a1, a2, K => impl_writer_fits_1.w n  a1 a2 K
def slices_IndexFunc_int64__impl_writer_fits_1.l2.b (n : Nat) (x9 : List Int) (x10 : twriter) (x11 : Int) (again2 : Int → Prop) (x12 : Int) (Kx0w2 : Prop) (Kr2 : Int → Prop) : Prop :=
 if (decide (x12 < x11)) = true then (grd (decide (0 ≤ x12) && decide (x12 < (x9.length : Int))) (impl_writer_fits_1.c n (rd x9 (Int.toNat x12)) x10 (fun r14 => if r14 = true then (Kr2 x12) else (again2 (IntKind.wrap .i64 (x12 + 1)))))) else (Kx0w2)
def slices_IndexFunc_int64__impl_writer_fits_1.l2 : Nat → List Int → twriter → Int → Int → Prop → (Int → Prop) → Prop
 | 0, _, _, _, _, _, _ => False
 | n + 1, x9, x10, x11, x12, Kx0w2, Kr2 => slices_IndexFunc_int64__impl_writer_fits_1.l2.b n  x9 x10 x11 (fun x12q => slices_IndexFunc_int64__impl_writer_fits_1.l2 n x9 x10 x11 x12q Kx0w2 Kr2) x12 Kx0w2 Kr2
def slices_IndexFunc_int64__impl_writer_fits_1.w (n : Nat) (lp2 : List Int → twriter → Int → Int → Prop → (Int → Prop) → Prop) (a1 : List Int) (a2 : twriter) (K : Int → Prop) : Prop :=
 lp2 a1 a2 (a1.length : Int) 0 (K (-1)) (fun y16 => K y16)
def slices_IndexFunc_int64__impl_writer_fits_1.c : Nat → List Int → twriter → (Int → Prop) → Prop
 | 0, _, _, _ => False
 | n + 1, a1, a2, K => slices_IndexFunc_int64__impl_writer_fits_1.w n (slices_IndexFunc_int64__impl_writer_fits_1.l2 n) a1 a2 K
def slices_ContainsFunc_int64__impl_writer_fits_1.w (n : Nat) (a1 : List Int) (a2 : twriter) (K : Bool → Prop) : Prop :=
 slices_IndexFunc_int64__impl_writer_fits_1.c n a1 a2 (fun r3 => K (decide (r3 ≥ 0)))
def slices_ContainsFunc_int64__impl_writer_fits_1.c : Nat → List Int → twriter → (Bool → Prop) → Prop
 | 0, _, _, _ => False
 | n + 1, a1, a2, K => slices_ContainsFunc_int64__impl_writer_fits_1.w n  a1 a2 K
def impl_writer_within.j3 (again3 : Int → Int → Prop) (x26 : twriter) (x27 : tTNode) (x30 : Int) (x31 : Int) : Prop :=
 grd (decide (0 ≤ rd x27.2.2.2.2.2.2 (Int.toNat x31)) && decide (rd x27.2.2.2.2.2.2 (Int.toNat x31) < (x26.2.length : Int))) (let t42 : Int := rd x26.2 (Int.toNat (rd x27.2.2.2.2.2.2 (Int.toNat x31))); again3 (IntKind.wrap .i64 (x30 + t42)) (IntKind.wrap .i64 (x31 - 1)))
def impl_writer_within.l3.b (n : Nat) (x26 : twriter) (x27 : tTNode) (x28 : Int) (x29 : Int) (again3 : Int → Int → Prop) (x30 : Int) (x31 : Int) (Kx0w3 : Prop) (Kr3 : Int → Int → Bool → Prop) : Prop :=
 if (decide (x31 ≥ 0)) = true then (grd (decide (0 ≤ x31) && decide (x31 < (x27.2.2.2.2.2.2.length : Int))) (if (decide (x28 ≥ x30)) = true then (grd (decide (0 ≤ rd x27.2.2.2.2.2.2 (Int.toNat x31)) && decide (rd x27.2.2.2.2.2.2 (Int.toNat x31) < (x26.2.length : Int))) (let t45 : Int := rd x26.2 (Int.toNat (rd x27.2.2.2.2.2.2 (Int.toNat x31))); if (decide (x29 < IntKind.wrap .i64 (x30 + t45))) = true then (Kr3 (rd x27.2.2.2.2.2.2 (Int.toNat x31)) x30 true) else (impl_writer_within.j3 again3 x26 x27 x30 x31))) else (impl_writer_within.j3 again3 x26 x27 x30 x31))) else (Kx0w3)
def impl_writer_within.l3 : Nat → twriter → tTNode → Int → Int → Int → Int → Prop → (Int → Int → Bool → Prop) → Prop
 | 0, _, _, _, _, _, _, _, _ => False
 | n + 1, x26, x27, x28, x29, x30, x31, Kx0w3, Kr3 => impl_writer_within.l3.b n  x26 x27 x28 x29 (fun x30q x31q => impl_writer_within.l3 n x26 x27 x28 x29 x30q x31q Kx0w3 Kr3) x30 x31 Kx0w3 Kr3
def impl_writer_within.w (n : Nat) (lp3 : twriter → tTNode → Int → Int → Int → Int → Prop → (Int → Int → Bool → Prop) → Prop) (a1 : twriter) (a2 : tTNode) (a3 : Int) (a4 : Int) (K : Int → Int → Bool → Prop) : Prop :=
 let t49 : Int := IntKind.wrap .i64 ((a2.2.2.2.2.2.2.length : Int) - 1); lp3 a1 a2 a3 a4 0 t49 (K 0 0 false) (fun y50 y51 y52 => K y50 y51 y52)
def impl_writer_within.c : Nat → twriter → tTNode → Int → Int → (Int → Int → Bool → Prop) → Prop
 | 0, _, _, _, _, _ => False
 | n + 1, a1, a2, a3, a4, K => impl_writer_within.w n (impl_writer_within.l3 n) a1 a2 a3 a4 K
def impl_writer_fits.j1 (K : Bool → Prop) (a1 : twriter) (a2 : Int) (n : Nat) : Prop :=
 ((impl_writer_kid.c n a1 (rd a1.1 (Int.toNat a2)) (fun r295 => impl_writer_within.c n a1 r295 (((((rd a1.1 (Int.toNat a2)).2).2).2).1) ((((rd a1.1 (Int.toNat a2)).2).2).1) (fun r296 r297 r298 => K r298))) ∧ ((impl_writer_kid.c n a1 (rd a1.1 (Int.toNat a2)) (fun r299 => impl_writer_within.c n a1 r299 (((((rd a1.1 (Int.toNat a2)).2).2).2).1) ((((rd a1.1 (Int.toNat a2)).2).2).1) (fun r300 r301 r302 => K r302))) ∧ (impl_writer_kid.c n a1 (rd a1.1 (Int.toNat a2)) (fun r303 => impl_writer_within.c n a1 r303 (((((rd a1.1 (Int.toNat a2)).2).2).2).1) ((((rd a1.1 (Int.toNat a2)).2).2).1) (fun r304 r305 r306 => K r306)))) ∧ ((impl_writer_kid.c n a1 (rd a1.1 (Int.toNat a2)) (fun r307 => impl_writer_within.c n a1 r307 (((((rd a1.1 (Int.toNat a2)).2).2).2).1) ((((rd a1.1 (Int.toNat a2)).2).2).1) (fun r308 r309 r310 => K r310))) ∧ (impl_writer_kid.c n a1 (rd a1.1 (Int.toNat a2)) (fun r311 => impl_writer_within.c n a1 r311 (((((rd a1.1 (Int.toNat a2)).2).2).2).1) ((((rd a1.1 (Int.toNat a2)).2).2).1) (fun r312 r313 r314 => K r314))))) ∧ (impl_writer_kid.c n a1 (rd a1.1 (Int.toNat a2)) (fun r315 => impl_writer_within.c n a1 r315 (((((rd a1.1 (Int.toNat a2)).2).2).2).1) ((((rd a1.1 (Int.toNat a2)).2).2).1) (fun r316 r317 r318 => K r318))) ∧ (((impl_writer_kid.c n a1 (rd a1.1 (Int.toNat a2)) (fun r319 => impl_writer_within.c n a1 r319 (((((rd a1.1 (Int.toNat a2)).2).2).2).1) ((((rd a1.1 (Int.toNat a2)).2).2).1) (fun r320 r321 r322 => K r322))) ∧ (impl_writer_kid.c n a1 (rd a1.1 (Int.toNat a2)) (fun r323 => impl_writer_within.c n a1 r323 (((((rd a1.1 (Int.toNat a2)).2).2).2).1) ((((rd a1.1 (Int.toNat a2)).2).2).1) (fun r324 r325 r326 => K r326)))) ∧ (impl_writer_kid.c n a1 (rd a1.1 (Int.toNat a2)) (fun r327 => impl_writer_within.c n a1 r327 (((((rd a1.1 (Int.toNat a2)).2).2).2).1) ((((rd a1.1 (Int.toNat a2)).2).2).1) (fun r328 r329 r330 => K r330))) ∧ ((impl_writer_kid.c n a1 (rd a1.1 (Int.toNat a2)) (fun r331 => impl_writer_within.c n a1 r331 (((((rd a1.1 (Int.toNat a2)).2).2).2).1) ((((rd a1.1 (Int.toNat a2)).2).2).1) (fun r332 r333 r334 => K r334))) ∧ (impl_writer_kid.c n a1 (rd a1.1 (Int.toNat a2)) (fun r335 => impl_writer_within.c n a1 r335 (((((rd a1.1 (Int.toNat a2)).2).2).2).1) ((((rd a1.1 (Int.toNat a2)).2).2).1) (fun r336 r337 r338 => K r338))))) ∧ (((impl_writer_kid.c n a1 (rd a1.1 (Int.toNat a2)) (fun r339 => impl_writer_within.c n a1 r339 (((((rd a1.1 (Int.toNat a2)).2).2).2).1) ((((rd a1.1 (Int.toNat a2)).2).2).1) (fun r340 r341 r342 => K r342))) ∧ (impl_writer_kid.c n a1 (rd a1.1 (Int.toNat a2)) (fun r343 => impl_writer_within.c n a1 r343 (((((rd a1.1 (Int.toNat a2)).2).2).2).1) ((((rd a1.1 (Int.toNat a2)).2).2).1) (fun r344 r345 r346 => K r346)))) ∧ (impl_writer_kid.c n a1 (rd a1.1 (Int.toNat a2)) (fun r347 => impl_writer_within.c n a1 r347 (((((rd a1.1 (Int.toNat a2)).2).2).2).1) ((((rd a1.1 (Int.toNat a2)).2).2).1) (fun r348 r349 r350 => K r350))) ∧ ((impl_writer_kid.c n a1 (rd a1.1 (Int.toNat a2)) (fun r351 => impl_writer_within.c n a1 r351 (((((rd a1.1 (Int.toNat a2)).2).2).2).1) ((((rd a1.1 (Int.toNat a2)).2).2).1) (fun r352 r353 r354 => K r354))) ∧ (impl_writer_kid.c n a1 (rd a1.1 (Int.toNat a2)) (fun r355 => impl_writer_within.c n a1 r355 (((((rd a1.1 (Int.toNat a2)).2).2).2).1) ((((rd a1.1 (Int.toNat a2)).2).2).1) (fun r356 r357 r358 => K r358)))))
def impl_writer_fits.w (n : Nat) (a1 : twriter) (a2 : Int) (a3 : Int) (K : Bool → Prop) : Prop :=
 grd (decide (0 ≤ a2) && decide (a2 < (a1.1.length : Int))) (if (decide (a3 = 1)) = true then (if (decide ((rd a1.1 (Int.toNat a2)).1 = 4)) = true then (let t188 : Bool := decide (((((rd a1.1 (Int.toNat a2)).2).2).2).1 = 0); if t188 = true then (let t189 : List Int := ((((((rd a1.1 (Int.toNat a2)).2).2).2).2).2).2; grd (decide (0 < (t189.length : Int))) (grd (decide (0 ≤ rd t189 0) && decide (rd t189 0 < (a1.2.length : Int))) (let t190 : Int := IntKind.wrap .i64 ((rd a1.2 (Int.toNat (rd t189 0))) - 1); let t191 : Bool := decide ((((rd a1.1 (Int.toNat a2)).2).2).1 = t190); K t191))) else (K false)) else (K false)) else (if (decide (a3 = 2)) = true then (if (decide ((rd a1.1 (Int.toNat a2)).1 = 4)) = true then (impl_writer_kid.c n a1 (rd a1.1 (Int.toNat a2)) (fun r194 => K (decide (r194.1 = 4)))) else (K false)) else (if (decide (a3 = 3)) = true then (if (decide ((rd a1.1 (Int.toNat a2)).1 = 7)) = false then (if (decide ((rd a1.1 (Int.toNat a2)).1 = 8)) = true then (grd (decide (0 ≤ a2) && decide (a2 < (a1.2.length : Int))) (grd (!(decide (rd a1.2 (Int.toNat a2) = 0))) (let t198 : Int := Int.tmod ((((rd a1.1 (Int.toNat a2)).2).2).1) (rd a1.2 (Int.toNat a2)); K (decide (t198 = 0))))) else (K false)) else (grd (decide (0 ≤ a2) && decide (a2 < (a1.2.length : Int))) (grd (!(decide (rd a1.2 (Int.toNat a2) = 0))) (let t199 : Int := Int.tmod ((((rd a1.1 (Int.toNat a2)).2).2).1) (rd a1.2 (Int.toNat a2)); K (decide (t199 = 0)))))) else (if (decide (a3 = 4)) = true then (if (decide ((rd a1.1 (Int.toNat a2)).1 = 8)) = true then (grd (decide (0 ≤ a2) && decide (a2 < (a1.2.length : Int))) (grd (!(decide (rd a1.2 (Int.toNat a2) = 0))) (let t202 : Int := Int.tmod ((((rd a1.1 (Int.toNat a2)).2).2).1) (rd a1.2 (Int.toNat a2)); K (!(decide (t202 = 0)))))) else (K false)) else (if (decide (a3 = 5)) = true then (if (decide ((rd a1.1 (Int.toNat a2)).1 = 5)) = false then (if (decide ((rd a1.1 (Int.toNat a2)).1 = 6)) = true then (let t206 : Bool := decide ((((rd a1.1 (Int.toNat a2)).2).2).1 = 0); K t206) else (K false)) else (let t207 : Bool := decide ((((rd a1.1 (Int.toNat a2)).2).2).1 = 0); K t207)) else (if (decide (a3 = 6)) = true then (if (decide ((rd a1.1 (Int.toNat a2)).1 = 5)) = true then (let t210 : Bool := decide ((((rd a1.1 (Int.toNat a2)).2).2).1 > 0); K t210) else (K false)) else (if (decide (a3 = 7)) = true then (if (decide ((rd a1.1 (Int.toNat a2)).1 = 9)) = true then (let t213 : Bool := decide ((((rd a1.1 (Int.toNat a2)).2).2).1 > 1); K t213) else (K false)) else (if (decide (a3 = 8)) = true then (if (decide ((rd a1.1 (Int.toNat a2)).1 = 9)) = true then (let t216 : Bool := decide ((((rd a1.1 (Int.toNat a2)).2).2).1 = 1); K t216) else (K false)) else (if (decide (a3 = 9)) = true then (if (decide ((rd a1.1 (Int.toNat a2)).1 = 3)) = true then (impl_writer_catKid.c n a1 (rd a1.1 (Int.toNat a2)) (fun r219 => K (decide (r219 ≥ 0)))) else (K false)) else (if (decide (a3 = 10)) = true then (let t224 : List Int := ((((((rd a1.1 (Int.toNat a2)).2).2).2).2).2).2; if (decide ((t224.length : Int) > 0)) = true then (let t225 : List Int := ((((((rd a1.1 (Int.toNat a2)).2).2).2).2).2).2; slices_ContainsFunc_int64__impl_writer_fits_1.c n t225 a1 (fun r226 => K (!r226))) else (K false)) else (if (decide (a3 = 11)) = true then (if (!(decide ((rd a1.1 (Int.toNat a2)).1 = 4))) = false then (impl_writer_kid.c n a1 (rd a1.1 (Int.toNat a2)) (fun r361 => if (!(decide (r361.1 = 3))) = true then (K false) else (impl_writer_fits.j1 K a1 a2 n))) else (K false)) else (K false))))))))))))
def impl_writer_fits.c : Nat → twriter → Int → Int → (Bool → Prop) → Prop
 | 0, _, _, _, _ => False
 | n + 1, a1, a2, a3, K => impl_writer_fits.w n  a1 a2 a3 K
def impl_Rules.l9.b (n : Nat) (x19 : Int) (x22 : List Int) (x23 : List (tTNode)) (again9 : Int → List Int → Prop) (x20 : Int) (x21 : List Int) (Kx0w9 : List Int → Prop) : Prop :=
 if (decide (x20 ≤ 11)) = true then (impl_writer_fits.c n (x23, x22) x19 x20 (fun r25 => if r25 = true then (grd (decide (x21.length + ([x20] : List (Int)).length ≤ 7818749353073)) (again9 (IntKind.wrap .i64 (x20 + 1)) (x21 ++ ([x20] : List (Int))))) else (again9 (IntKind.wrap .i64 (x20 + 1)) x21))) else (Kx0w9 x21)
def impl_Rules.l9 : Nat → Int → List Int → List (tTNode) → Int → List Int → (List Int → Prop) → Prop
 | 0, _, _, _, _, _, _ => False
 | n + 1, x19, x22, x23, x20, x21, Kx0w9 => impl_Rules.l9.b n  x19 x22 x23 (fun x20q x21q => impl_Rules.l9 n x19 x22 x23 x20q x21q Kx0w9) x20 x21 Kx0w9
def impl_Rules.j0 (K : List Int → Prop) (a2 : List (tTNode)) (a3 : Int) (lp9 : Int → List Int → List (tTNode) → Int → List Int → (List Int → Prop) → Prop) (r6 : List Int) : Prop :=
 let t11 : List (tTNode) := ([] : List (tTNode)); lp9 a3 r6 a2 1 ([] : List (Int)) (fun y27 => K y27)
def impl_Rules.w (n : Nat) (lp9 : Int → List Int → List (tTNode) → Int → List Int → (List Int → Prop) → Prop) (a1 : List (tDecl)) (a2 : List (tTNode)) (a3 : Int) (K : List Int → Prop) : Prop :=
 impl_DeclsOk.c n a1 (fun r5 => if (!r5) = true then (K ([] : List (Int))) else (impl_widths.c n a1 a2 (fun r6 r7 => if (!r7) = false then (impl_inside.c n a3 0 (IntKind.wrap .i64 ((a2.length : Int) - 1)) (fun r30 => if (!r30) = true then (K ([] : List (Int))) else (impl_Rules.j0 K a2 a3 lp9 r6))) else (K ([] : List (Int))))))
def impl_Rules.c : Nat → List (tDecl) → List (tTNode) → Int → (List Int → Prop) → Prop
 | 0, _, _, _, _ => False
 | n + 1, a1, a2, a3, K => impl_Rules.w n (impl_Rules.l9 n) a1 a2 a3 K
def laws_markInt64S_1.l2.b (n : Nat) (again2 : Int → Int → List Int → Prop) (x6 : Int) (x7 : Int) (x8 : List Int) (Kx0w2 : Int → List Int → Prop) : Prop :=
 if (decide (x7 < (x8.length : Int))) = true then (grd (decide (0 ≤ x7) && decide (x7 < (x8.length : Int))) (again2 (IntKind.wrap .i64 (x6 + 1)) (IntKind.wrap .i64 (x7 + 1)) (List.set x8 (Int.toNat x7) x6))) else (Kx0w2 x6 x8)
def laws_markInt64S_1.l2 : Nat → Int → Int → List Int → (Int → List Int → Prop) → Prop
 | 0, _, _, _, _ => False
 | n + 1, x6, x7, x8, Kx0w2 => laws_markInt64S_1.l2.b n   (fun x6q x7q x8q => laws_markInt64S_1.l2 n x6q x7q x8q Kx0w2) x6 x7 x8 Kx0w2
def laws_markInt64S_1.w (n : Nat) (lp2 : Int → Int → List Int → (Int → List Int → Prop) → Prop) (a1 : List Int) (a2 : Int) (K : Int → List Int → Prop) : Prop :=
 lp2 a2 0 a1 (fun y11 y12 => K y11 y12)
def laws_markInt64S_1.c : Nat → List Int → Int → (Int → List Int → Prop) → Prop
 | 0, _, _, _ => False
 | n + 1, a1, a2, K => laws_markInt64S_1.w n (laws_markInt64S_1.l2 n) a1 a2 K
def laws_heldInt64S.l2.b (n : Nat) (x6 : List Int) (again2 : Int → Int → Prop) (x7 : Int) (x8 : Int) (Kx0w2 : Int → Prop) (Kr2 : Int → Prop) : Prop :=
 if (decide (x8 < (x6.length : Int))) = true then (grd (decide (0 ≤ x8) && decide (x8 < (x6.length : Int))) (if (!(decide (rd x6 (Int.toNat x8) = x7))) = true then (Kr2 (-1)) else (again2 (IntKind.wrap .i64 (x7 + 1)) (IntKind.wrap .i64 (x8 + 1))))) else (Kx0w2 x7)
def laws_heldInt64S.l2 : Nat → List Int → Int → Int → (Int → Prop) → (Int → Prop) → Prop
 | 0, _, _, _, _, _ => False
 | n + 1, x6, x7, x8, Kx0w2, Kr2 => laws_heldInt64S.l2.b n  x6 (fun x7q x8q => laws_heldInt64S.l2 n x6 x7q x8q Kx0w2 Kr2) x7 x8 Kx0w2 Kr2
def laws_heldInt64S.w (n : Nat) (lp2 : List Int → Int → Int → (Int → Prop) → (Int → Prop) → Prop) (a1 : List Int) (a2 : Int) (K : Int → Prop) : Prop :=
 lp2 a1 a2 0 (fun y11 => K y11) (fun y12 => K y12)
def laws_heldInt64S.c : Nat → List Int → Int → (Int → Prop) → Prop
 | 0, _, _, _ => False
 | n + 1, a1, a2, K => laws_heldInt64S.w n (laws_heldInt64S.l2 n) a1 a2 K
def laws_FnExactRules.j0 (Kc18w0 : Bool → Prop) (n : Nat) (r42 : Int) (r43 : List Int) (x30 : List Int) (j51 : List Int) : Prop :=
 laws_eqInt64S.c n j51 x30 (fun r53 => if (!r53) = true then (Kc18w0 false) else (laws_heldInt64S.c n r43 1 (fun r54 => if (decide (r54 < 0)) = true then (Kc18w0 false) else (if (!(decide (r54 = r42))) = true then (Kc18w0 false) else (Kc18w0 true)))))
def laws_FnExactRules.j1 (Kc18w0 : Bool → Prop) (n : Nat) (x28 : List (tDecl)) (x29 : Int) (x30 : List Int) (x33 : List Int) (x34 : List (tTNode)) : Prop :=
 laws_markInt64S_1.c n x33 1 (fun r42 r43 => laws_heldInt64S.c n r43 1 (fun r44 => if (decide (r44 < 0)) = true then (Kc18w0 false) else (if (!(decide (r44 = r42))) = true then (Kc18w0 false) else ((laws_toDeclS.c n x28 (fun r55 => laws_toTerm.c n x34 (fun r56 => impl_Rules.c n r55 r56 x29 (fun r57 => laws_FnExactRules.j0 Kc18w0 n r42 r43 x30 r57)))) ∧ (laws_toDeclS.c n x28 (fun r58 => laws_toTerm.c n x34 (fun r59 => impl_Rules.c n r58 r59 x29 (fun r60 => laws_FnExactRules.j0 Kc18w0 n r42 r43 x30 r60))))))))
def laws_FnExactRules.q18.b (n : Nat) (x28 : List (tDecl)) (x29 : Int) (x30 : List Int) (x31 : List (tDecl)) (x32 : List (tTNode)) (x33 : List Int) (x34 : List (tTNode)) (Kc18w0 : Bool → Prop) : Prop :=
 laws_markDeclS.c n x31 1 (fun r35 r36 => laws_markTerm.c n x32 r35 (fun r37 r38 => if (decide (r37 < 0)) = false then (laws_eqInt64S.c n x33 x30 (fun r63 => if (!r63) = true then (Kc18w0 false) else (laws_FnExactRules.j1 Kc18w0 n x28 x29 x30 x33 x34))) else (Kc18w0 false)))
def laws_FnExactRules.q18 : Nat → List (tDecl) → Int → List Int → List (tDecl) → List (tTNode) → List Int → List (tTNode) → (Bool → Prop) → Prop
 | 0, _, _, _, _, _, _, _, _ => False
 | n + 1, x28, x29, x30, x31, x32, x33, x34, Kc18w0 => laws_FnExactRules.q18.b n  x28 x29 x30 x31 x32 x33 x34  Kc18w0
def laws_FnExactRules.j2 (K : Bool → Prop) (a1 : List (tDecl)) (a2 : List (tTNode)) (a3 : Int) (lpq18 : List (tDecl) → Int → List Int → List (tDecl) → List (tTNode) → List Int → List (tTNode) → (Bool → Prop) → Prop) (n : Nat) (j12 : List Int) : Prop :=
 laws_toDeclS.c n a1 (fun r13 => laws_toTerm.c n a2 (fun r14 => let t15 : List (tTNode) := ([] : List (tTNode)); impl_Rules.c n r13 r14 a3 (fun r16 => laws_eqInt64S.c n r16 j12 (fun r18 => if (!r18) = true then (K false) else (laws_toDeclS.c n a1 (fun r21 => laws_eqDeclS.c n r13 r21 (fun r22 => if (!r22) = true then (K false) else ((laws_toTerm.c n a2 (fun r65 => laws_eqTerm.c n r14 r65 (fun r66 => if (!r66) = true then (K false) else (lpq18 a1 a3 j12 r13 r14 r16 a2 (fun y67 => K y67))))) ∧ (laws_toTerm.c n a2 (fun r68 => laws_eqTerm.c n r14 r68 (fun r69 => if (!r69) = true then (K false) else (lpq18 a1 a3 j12 r13 r14 r16 a2 (fun y70 => K y70)))))))))))))
def laws_FnExactRules.w (n : Nat) (lpq18 : List (tDecl) → Int → List Int → List (tDecl) → List (tTNode) → List Int → List (tTNode) → (Bool → Prop) → Prop) (a1 : List (tDecl)) (a2 : List (tTNode)) (a3 : Int) (K : Bool → Prop) : Prop :=
 laws_szDeclS.c n a1 1048576 (fun r4 => if (decide (r4 < 0)) = true then (K true) else (laws_szTerm.c n a2 r4 (fun r5 => if (decide (r5 < 0)) = true then (K true) else ((laws_toDeclS.c n a1 (fun r71 => laws_toTerm.c n a2 (fun r72 => spec_Rules.c n r71 r72 a3 (fun r73 => laws_FnExactRules.j2 K a1 a2 a3 lpq18 n r73)))) ∧ (laws_toDeclS.c n a1 (fun r74 => laws_toTerm.c n a2 (fun r75 => spec_Rules.c n r74 r75 a3 (fun r76 => laws_FnExactRules.j2 K a1 a2 a3 lpq18 n r76))))))))
def laws_FnExactRules.c : Nat → List (tDecl) → List (tTNode) → Int → (Bool → Prop) → Prop
 | 0, _, _, _, _ => False
 | n + 1, a1, a2, a3, K => laws_FnExactRules.w n (laws_FnExactRules.q18 n) a1 a2 a3 K
end Go.Vsi
end
