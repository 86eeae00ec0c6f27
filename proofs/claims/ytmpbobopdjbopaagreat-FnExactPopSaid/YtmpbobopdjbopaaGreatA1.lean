/- Go functions, told on plain data. No statement is proved here. -/
import Derived.Test.YtmpbobopdjbopaaGreatM1

section
set_option linter.unusedVariables false
set_option synthInstance.maxSize 4096
namespace Go.Vsi
abbrev tDecl : Type := List UInt8 × Int
instance : DecidableEq tDecl := inferInstance
abbrev tTNode : Type := Int × Int × Int × Int × Int × List (Int) × List (Int)
instance : DecidableEq tTNode := inferInstance
abbrev tLiteral : Type := Int × Bool × List (tTNode) × List (tTNode)
instance : DecidableEq tLiteral := inferInstance
abbrev tScope : Type := Int × List (tLiteral)
instance : DecidableEq tScope := inferInstance
abbrev tSession : Type := List (tDecl) × List (tScope) × Int
instance : DecidableEq tSession := inferInstance
def laws_szDecl.w (n : Nat) (a1 : List UInt8) (a2 : Int) (a3 : Int) (K : Int → Prop) : Prop :=
 let t5 : Bool := decide (IntKind.wrap .i64 (a3 - (a1.length : Int)) < 0); if t5 = true then (K (-1)) else (K (IntKind.wrap .i64 (a3 - (a1.length : Int))))
def laws_szDecl.c : Nat → List UInt8 → Int → Int → (Int → Prop) → Prop
 | 0, _, _, _, _ => False
 | n + 1, a1, a2, a3, K => laws_szDecl.w n  a1 a2 a3 K
def laws_szDeclS.l5.b (n : Nat) (x10 : List (tDecl)) (again5 : Int → Int → Prop) (x11 : Int) (x12 : Int) (Kx0w5 : Int → Prop) (Kr5 : Int → Prop) : Prop :=
 if (decide (x12 < (x10.length : Int))) = true then (grd (decide (0 ≤ x12) && decide (x12 < (x10.length : Int))) (laws_szDecl.c n ((rd x10 (Int.toNat x12)).1) ((rd x10 (Int.toNat x12)).2) x11 (fun r14 => if (decide (r14 < 0)) = true then (Kr5 (-1)) else (again5 r14 (IntKind.wrap .i64 (x12 + 1)))))) else (Kx0w5 x11)
def laws_szDeclS.l5 : Nat → List (tDecl) → Int → Int → (Int → Prop) → (Int → Prop) → Prop
 | 0, _, _, _, _, _ => False
 | n + 1, x10, x11, x12, Kx0w5, Kr5 => laws_szDeclS.l5.b n  x10 (fun x11q x12q => laws_szDeclS.l5 n x10 x11q x12q Kx0w5 Kr5) x11 x12 Kx0w5 Kr5
def laws_szDeclS.w (n : Nat) (lp5 : List (tDecl) → Int → Int → (Int → Prop) → (Int → Prop) → Prop) (a1 : List (tDecl)) (a2 : Int) (K : Int → Prop) : Prop :=
 let t4 : Bool := decide (IntKind.wrap .i64 (a2 - (a1.length : Int)) < 0); if t4 = true then (K (-1)) else (lp5 a1 (IntKind.wrap .i64 (a2 - (a1.length : Int))) 0 (fun y17 => K y17) (fun y18 => K y18))
def laws_szDeclS.c : Nat → List (tDecl) → Int → (Int → Prop) → Prop
 | 0, _, _, _ => False
 | n + 1, a1, a2, K => laws_szDeclS.w n (laws_szDeclS.l5 n) a1 a2 K
def laws_szUint64S.w (n : Nat) (a1 : List Int) (a2 : Int) (K : Int → Prop) : Prop :=
 let t4 : Bool := decide (IntKind.wrap .i64 (a2 - (a1.length : Int)) < 0); if t4 = true then (K (-1)) else (K (IntKind.wrap .i64 (a2 - (a1.length : Int))))
def laws_szUint64S.c : Nat → List Int → Int → (Int → Prop) → Prop
 | 0, _, _, _ => False
 | n + 1, a1, a2, K => laws_szUint64S.w n  a1 a2 K
def laws_szBits.w (n : Nat) (a1 : Int) (a2 : List Int) (a3 : Int) (K : Int → Prop) : Prop :=
 laws_szUint64S.c n a2 a3 (fun r4 => if (decide (r4 < 0)) = true then (K (-1)) else (K r4))
def laws_szBits.c : Nat → Int → List Int → Int → (Int → Prop) → Prop
 | 0, _, _, _, _ => False
 | n + 1, a1, a2, a3, K => laws_szBits.w n  a1 a2 a3 K
def laws_szInt64S.w (n : Nat) (a1 : List Int) (a2 : Int) (K : Int → Prop) : Prop :=
 let t4 : Bool := decide (IntKind.wrap .i64 (a2 - (a1.length : Int)) < 0); if t4 = true then (K (-1)) else (K (IntKind.wrap .i64 (a2 - (a1.length : Int))))
def laws_szInt64S.c : Nat → List Int → Int → (Int → Prop) → Prop
 | 0, _, _, _ => False
 | n + 1, a1, a2, K => laws_szInt64S.w n  a1 a2 K
def laws_szTNode.w (n : Nat) (a1 : Int) (a2 : Int) (a3 : Int) (a4 : Int) (a5 : Int) (a6 : List Int) (a7 : List Int) (a8 : Int) (K : Int → Prop) : Prop :=
 laws_szBits.c n a5 a6 a8 (fun r9 => if (decide (r9 < 0)) = true then (K (-1)) else (laws_szInt64S.c n a7 r9 (fun r10 => if (decide (r10 < 0)) = true then (K (-1)) else (K r10))))
def laws_szTNode.c : Nat → Int → Int → Int → Int → Int → List Int → List Int → Int → (Int → Prop) → Prop
 | 0, _, _, _, _, _, _, _, _, _ => False
 | n + 1, a1, a2, a3, a4, a5, a6, a7, a8, K => laws_szTNode.w n  a1 a2 a3 a4 a5 a6 a7 a8 K
def laws_szTNodeS.l5.b (n : Nat) (x10 : List (tTNode)) (again5 : Int → Int → Prop) (x11 : Int) (x12 : Int) (Kx0w5 : Int → Prop) (Kr5 : Int → Prop) : Prop :=
 if (decide (x12 < (x10.length : Int))) = true then (grd (decide (0 ≤ x12) && decide (x12 < (x10.length : Int))) (let t16 : List Int := ((((((rd x10 (Int.toNat x12)).2).2).2).2).2).1; let t17 : List Int := ((((((rd x10 (Int.toNat x12)).2).2).2).2).2).2; laws_szTNode.c n ((rd x10 (Int.toNat x12)).1) (((rd x10 (Int.toNat x12)).2).1) ((((rd x10 (Int.toNat x12)).2).2).1) (((((rd x10 (Int.toNat x12)).2).2).2).1) ((((((rd x10 (Int.toNat x12)).2).2).2).2).1) t16 t17 x11 (fun r18 => if (decide (r18 < 0)) = true then (Kr5 (-1)) else (again5 r18 (IntKind.wrap .i64 (x12 + 1)))))) else (Kx0w5 x11)
def laws_szTNodeS.l5 : Nat → List (tTNode) → Int → Int → (Int → Prop) → (Int → Prop) → Prop
 | 0, _, _, _, _, _ => False
 | n + 1, x10, x11, x12, Kx0w5, Kr5 => laws_szTNodeS.l5.b n  x10 (fun x11q x12q => laws_szTNodeS.l5 n x10 x11q x12q Kx0w5 Kr5) x11 x12 Kx0w5 Kr5
def laws_szTNodeS.w (n : Nat) (lp5 : List (tTNode) → Int → Int → (Int → Prop) → (Int → Prop) → Prop) (a1 : List (tTNode)) (a2 : Int) (K : Int → Prop) : Prop :=
 let t4 : Bool := decide (IntKind.wrap .i64 (a2 - (a1.length : Int)) < 0); if t4 = true then (K (-1)) else (lp5 a1 (IntKind.wrap .i64 (a2 - (a1.length : Int))) 0 (fun y21 => K y21) (fun y22 => K y22))
def laws_szTNodeS.c : Nat → List (tTNode) → Int → (Int → Prop) → Prop
 | 0, _, _, _ => False
 | n + 1, a1, a2, K => laws_szTNodeS.w n (laws_szTNodeS.l5 n) a1 a2 K
def laws_szTerm.w (n : Nat) (a1 : List (tTNode)) (a2 : Int) (K : Int → Prop) : Prop :=
 laws_szTNodeS.c n a1 a2 (fun r3 => if (decide (r3 < 0)) = true then (K (-1)) else (K r3))
def laws_szTerm.c : Nat → List (tTNode) → Int → (Int → Prop) → Prop
 | 0, _, _, _ => False
 | n + 1, a1, a2, K => laws_szTerm.w n  a1 a2 K
def laws_szLiteral.w (n : Nat) (a1 : Int) (a2 : Bool) (a3 : List (tTNode)) (a4 : List (tTNode)) (a5 : Int) (K : Int → Prop) : Prop :=
 laws_szTerm.c n a3 a5 (fun r6 => if (decide (r6 < 0)) = true then (K (-1)) else (laws_szTerm.c n a4 r6 (fun r7 => if (decide (r7 < 0)) = true then (K (-1)) else (K r7))))
def laws_szLiteral.c : Nat → Int → Bool → List (tTNode) → List (tTNode) → Int → (Int → Prop) → Prop
 | 0, _, _, _, _, _, _ => False
 | n + 1, a1, a2, a3, a4, a5, K => laws_szLiteral.w n  a1 a2 a3 a4 a5 K
def laws_szLiteralS.l5.b (n : Nat) (x10 : List (tLiteral)) (again5 : Int → Int → Prop) (x11 : Int) (x12 : Int) (Kx0w5 : Int → Prop) (Kr5 : Int → Prop) : Prop :=
 if (decide (x12 < (x10.length : Int))) = true then (grd (decide (0 ≤ x12) && decide (x12 < (x10.length : Int))) (laws_szLiteral.c n ((rd x10 (Int.toNat x12)).1) (((rd x10 (Int.toNat x12)).2).1) ((((rd x10 (Int.toNat x12)).2).2).1) ((((rd x10 (Int.toNat x12)).2).2).2) x11 (fun r14 => if (decide (r14 < 0)) = true then (Kr5 (-1)) else (again5 r14 (IntKind.wrap .i64 (x12 + 1)))))) else (Kx0w5 x11)
def laws_szLiteralS.l5 : Nat → List (tLiteral) → Int → Int → (Int → Prop) → (Int → Prop) → Prop
 | 0, _, _, _, _, _ => False
 | n + 1, x10, x11, x12, Kx0w5, Kr5 => laws_szLiteralS.l5.b n  x10 (fun x11q x12q => laws_szLiteralS.l5 n x10 x11q x12q Kx0w5 Kr5) x11 x12 Kx0w5 Kr5
def laws_szLiteralS.w (n : Nat) (lp5 : List (tLiteral) → Int → Int → (Int → Prop) → (Int → Prop) → Prop) (a1 : List (tLiteral)) (a2 : Int) (K : Int → Prop) : Prop :=
 let t4 : Bool := decide (IntKind.wrap .i64 (a2 - (a1.length : Int)) < 0); if t4 = true then (K (-1)) else (lp5 a1 (IntKind.wrap .i64 (a2 - (a1.length : Int))) 0 (fun y17 => K y17) (fun y18 => K y18))
def laws_szLiteralS.c : Nat → List (tLiteral) → Int → (Int → Prop) → Prop
 | 0, _, _, _ => False
 | n + 1, a1, a2, K => laws_szLiteralS.w n (laws_szLiteralS.l5 n) a1 a2 K
def laws_szScope.w (n : Nat) (a1 : Int) (a2 : List (tLiteral)) (a3 : Int) (K : Int → Prop) : Prop :=
 laws_szLiteralS.c n a2 a3 (fun r4 => if (decide (r4 < 0)) = true then (K (-1)) else (K r4))
def laws_szScope.c : Nat → Int → List (tLiteral) → Int → (Int → Prop) → Prop
 | 0, _, _, _, _ => False
 | n + 1, a1, a2, a3, K => laws_szScope.w n  a1 a2 a3 K
def laws_szScopeS.l5.b (n : Nat) (x10 : List (tScope)) (again5 : Int → Int → Prop) (x11 : Int) (x12 : Int) (Kx0w5 : Int → Prop) (Kr5 : Int → Prop) : Prop :=
 if (decide (x12 < (x10.length : Int))) = true then (grd (decide (0 ≤ x12) && decide (x12 < (x10.length : Int))) (laws_szScope.c n ((rd x10 (Int.toNat x12)).1) ((rd x10 (Int.toNat x12)).2) x11 (fun r14 => if (decide (r14 < 0)) = true then (Kr5 (-1)) else (again5 r14 (IntKind.wrap .i64 (x12 + 1)))))) else (Kx0w5 x11)
def laws_szScopeS.l5 : Nat → List (tScope) → Int → Int → (Int → Prop) → (Int → Prop) → Prop
 | 0, _, _, _, _, _ => False
 | n + 1, x10, x11, x12, Kx0w5, Kr5 => laws_szScopeS.l5.b n  x10 (fun x11q x12q => laws_szScopeS.l5 n x10 x11q x12q Kx0w5 Kr5) x11 x12 Kx0w5 Kr5
def laws_szScopeS.w (n : Nat) (lp5 : List (tScope) → Int → Int → (Int → Prop) → (Int → Prop) → Prop) (a1 : List (tScope)) (a2 : Int) (K : Int → Prop) : Prop :=
 let t4 : Bool := decide (IntKind.wrap .i64 (a2 - (a1.length : Int)) < 0); if t4 = true then (K (-1)) else (lp5 a1 (IntKind.wrap .i64 (a2 - (a1.length : Int))) 0 (fun y17 => K y17) (fun y18 => K y18))
def laws_szScopeS.c : Nat → List (tScope) → Int → (Int → Prop) → Prop
 | 0, _, _, _ => False
 | n + 1, a1, a2, K => laws_szScopeS.w n (laws_szScopeS.l5 n) a1 a2 K
def laws_szSession.w (n : Nat) (a1 : List (tDecl)) (a2 : List (tScope)) (a3 : Int) (a4 : Int) (K : Int → Prop) : Prop :=
 laws_szDeclS.c n a1 a4 (fun r5 => if (decide (r5 < 0)) = true then (K (-1)) else (laws_szScopeS.c n a2 r5 (fun r6 => if (decide (r6 < 0)) = true then (K (-1)) else (K r6))))
def laws_szSession.c : Nat → List (tDecl) → List (tScope) → Int → Int → (Int → Prop) → Prop
 | 0, _, _, _, _, _ => False
 | n + 1, a1, a2, a3, a4, K => laws_szSession.w n  a1 a2 a3 a4 K
def laws_toDecl.w (n : Nat) (a1 : List UInt8) (a2 : Int) (K : List UInt8 → Int → Prop) : Prop :=
 K a1 a2
def laws_toDecl.c : Nat → List UInt8 → Int → (List UInt8 → Int → Prop) → Prop
 | 0, _, _, _ => False
 | n + 1, a1, a2, K => laws_toDecl.w n  a1 a2 K
def laws_toDeclS.l3.b (n : Nat) (x10 : List (tDecl)) (again3 : Int → List (tDecl) → Prop) (x11 : Int) (x12 : List (tDecl)) (Kx0w3 : List (tDecl) → Prop) : Prop :=
 if (decide (x11 < (x10.length : Int))) = true then (grd (decide (0 ≤ x11) && decide (x11 < (x10.length : Int))) (laws_toDecl.c n ((rd x10 (Int.toNat x11)).1) ((rd x10 (Int.toNat x11)).2) (fun r15 r16 => grd (decide (0 ≤ x11) && decide (x11 < (x12.length : Int))) (again3 (IntKind.wrap .i64 (x11 + 1)) (List.set x12 (Int.toNat x11) (r15, r16)))))) else (Kx0w3 x12)
def laws_toDeclS.l3 : Nat → List (tDecl) → Int → List (tDecl) → (List (tDecl) → Prop) → Prop
 | 0, _, _, _, _ => False
 | n + 1, x10, x11, x12, Kx0w3 => laws_toDeclS.l3.b n  x10 (fun x11q x12q => laws_toDeclS.l3 n x10 x11q x12q Kx0w3) x11 x12 Kx0w3
def laws_toDeclS.w (n : Nat) (lp3 : List (tDecl) → Int → List (tDecl) → (List (tDecl) → Prop) → Prop) (a1 : List (tDecl)) (K : List (tDecl) → Prop) : Prop :=
 grd ((decide (0 ≤ (a1.length : Int)) && decide ((a1.length : Int) ≤ 2814749767106)) && decide ((a1.length : Int) = (a1.length : Int))) (let t2 : List (tDecl) := List.replicate (Int.toNat (a1.length : Int)) (([] : List UInt8), 0); lp3 a1 0 t2 (fun y18 => K y18))
def laws_toDeclS.c : Nat → List (tDecl) → (List (tDecl) → Prop) → Prop
 | 0, _, _ => False
 | n + 1, a1, K => laws_toDeclS.w n (laws_toDeclS.l3 n) a1 K
def laws_toUint64S.l3.b (n : Nat) (x8 : List Int) (again3 : Int → List Int → Prop) (x9 : Int) (x10 : List Int) (Kx0w3 : List Int → Prop) : Prop :=
 if (decide (x9 < (x8.length : Int))) = true then (grd (decide (0 ≤ x9) && decide (x9 < (x8.length : Int))) (grd (decide (0 ≤ x9) && decide (x9 < (x10.length : Int))) (let t12 : List Int := List.set x10 (Int.toNat x9) (rd x8 (Int.toNat x9)); again3 (IntKind.wrap .i64 (x9 + 1)) t12))) else (Kx0w3 x10)
def laws_toUint64S.l3 : Nat → List Int → Int → List Int → (List Int → Prop) → Prop
 | 0, _, _, _, _ => False
 | n + 1, x8, x9, x10, Kx0w3 => laws_toUint64S.l3.b n  x8 (fun x9q x10q => laws_toUint64S.l3 n x8 x9q x10q Kx0w3) x9 x10 Kx0w3
def laws_toUint64S.w (n : Nat) (lp3 : List Int → Int → List Int → (List Int → Prop) → Prop) (a1 : List Int) (K : List Int → Prop) : Prop :=
 grd ((decide (0 ≤ (a1.length : Int)) && decide ((a1.length : Int) ≤ 7818749353073)) && decide ((a1.length : Int) = (a1.length : Int))) (let t2 : List Int := List.replicate (Int.toNat (a1.length : Int)) 0; lp3 a1 0 t2 (fun y14 => K y14))
def laws_toUint64S.c : Nat → List Int → (List Int → Prop) → Prop
 | 0, _, _ => False
 | n + 1, a1, K => laws_toUint64S.w n (laws_toUint64S.l3 n) a1 K
def laws_toBits.w (n : Nat) (a1 : Int) (a2 : List Int) (K : Int → List Int → Prop) : Prop :=
 laws_toUint64S.c n a2 (fun r3 => K a1 r3)
def laws_toBits.c : Nat → Int → List Int → (Int → List Int → Prop) → Prop
 | 0, _, _, _ => False
 | n + 1, a1, a2, K => laws_toBits.w n  a1 a2 K
def laws_toInt64S.l3.b (n : Nat) (x8 : List Int) (again3 : Int → List Int → Prop) (x9 : Int) (x10 : List Int) (Kx0w3 : List Int → Prop) : Prop :=
 if (decide (x9 < (x8.length : Int))) = true then (grd (decide (0 ≤ x9) && decide (x9 < (x8.length : Int))) (grd (decide (0 ≤ x9) && decide (x9 < (x10.length : Int))) (let t12 : List Int := List.set x10 (Int.toNat x9) (rd x8 (Int.toNat x9)); again3 (IntKind.wrap .i64 (x9 + 1)) t12))) else (Kx0w3 x10)
def laws_toInt64S.l3 : Nat → List Int → Int → List Int → (List Int → Prop) → Prop
 | 0, _, _, _, _ => False
 | n + 1, x8, x9, x10, Kx0w3 => laws_toInt64S.l3.b n  x8 (fun x9q x10q => laws_toInt64S.l3 n x8 x9q x10q Kx0w3) x9 x10 Kx0w3
def laws_toInt64S.w (n : Nat) (lp3 : List Int → Int → List Int → (List Int → Prop) → Prop) (a1 : List Int) (K : List Int → Prop) : Prop :=
 grd ((decide (0 ≤ (a1.length : Int)) && decide ((a1.length : Int) ≤ 7818749353073)) && decide ((a1.length : Int) = (a1.length : Int))) (let t2 : List Int := List.replicate (Int.toNat (a1.length : Int)) 0; lp3 a1 0 t2 (fun y14 => K y14))
def laws_toInt64S.c : Nat → List Int → (List Int → Prop) → Prop
 | 0, _, _ => False
 | n + 1, a1, K => laws_toInt64S.w n (laws_toInt64S.l3 n) a1 K
def laws_toTNode.w (n : Nat) (a1 : Int) (a2 : Int) (a3 : Int) (a4 : Int) (a5 : Int) (a6 : List Int) (a7 : List Int) (K : Int → Int → Int → Int → Int → List Int → List Int → Prop) : Prop :=
 laws_toBits.c n a5 a6 (fun r8 r9 => laws_toInt64S.c n a7 (fun r10 => K a1 a2 a3 a4 r8 r9 r10))
def laws_toTNode.c : Nat → Int → Int → Int → Int → Int → List Int → List Int → (Int → Int → Int → Int → Int → List Int → List Int → Prop) → Prop
 | 0, _, _, _, _, _, _, _, _ => False
 | n + 1, a1, a2, a3, a4, a5, a6, a7, K => laws_toTNode.w n  a1 a2 a3 a4 a5 a6 a7 K
def laws_toTNodeS.l3.b (n : Nat) (x23 : List (tTNode)) (again3 : Int → List (tTNode) → Prop) (x24 : Int) (x25 : List (tTNode)) (Kx0w3 : List (tTNode) → Prop) : Prop :=
 if (decide (x24 < (x23.length : Int))) = true then (grd (decide (0 ≤ x24) && decide (x24 < (x23.length : Int))) (let t36 : List Int := ((((((rd x23 (Int.toNat x24)).2).2).2).2).2).1; let t37 : List Int := ((((((rd x23 (Int.toNat x24)).2).2).2).2).2).2; laws_toTNode.c n ((rd x23 (Int.toNat x24)).1) (((rd x23 (Int.toNat x24)).2).1) ((((rd x23 (Int.toNat x24)).2).2).1) (((((rd x23 (Int.toNat x24)).2).2).2).1) ((((((rd x23 (Int.toNat x24)).2).2).2).2).1) t36 t37 (fun r38 r39 r40 r41 r42 r43 r44 => grd (decide (0 ≤ x24) && decide (x24 < (x25.length : Int))) (let t45 : List (tTNode) := List.set x25 (Int.toNat x24) (r38, r39, r40, r41, r42, r43, r44); again3 (IntKind.wrap .i64 (x24 + 1)) t45)))) else (Kx0w3 x25)
def laws_toTNodeS.l3 : Nat → List (tTNode) → Int → List (tTNode) → (List (tTNode) → Prop) → Prop
 | 0, _, _, _, _ => False
 | n + 1, x23, x24, x25, Kx0w3 => laws_toTNodeS.l3.b n  x23 (fun x24q x25q => laws_toTNodeS.l3 n x23 x24q x25q Kx0w3) x24 x25 Kx0w3
def laws_toTNodeS.w (n : Nat) (lp3 : List (tTNode) → Int → List (tTNode) → (List (tTNode) → Prop) → Prop) (a1 : List (tTNode)) (K : List (tTNode) → Prop) : Prop :=
 let t2 : List (tTNode) := ([] : List (tTNode)); grd ((decide (0 ≤ (a1.length : Int)) && decide ((a1.length : Int) ≤ 790660046940)) && decide ((a1.length : Int) = (a1.length : Int))) (let t3 : List (tTNode) := List.replicate (Int.toNat (a1.length : Int)) (0, 0, 0, 0, 0, ([] : List (Int)), ([] : List (Int))); lp3 a1 0 t3 (fun y47 => K y47))
def laws_toTNodeS.c : Nat → List (tTNode) → (List (tTNode) → Prop) → Prop
 | 0, _, _ => False
 | n + 1, a1, K => laws_toTNodeS.w n (laws_toTNodeS.l3 n) a1 K
def laws_toTerm.w (n : Nat) (a1 : List (tTNode)) (K : List (tTNode) → Prop) : Prop :=
 let t2 : List (tTNode) := ([] : List (tTNode)); let t3 : List (tTNode) := ([] : List (tTNode)); laws_toTNodeS.c n a1 (fun r4 => K r4)
def laws_toTerm.c : Nat → List (tTNode) → (List (tTNode) → Prop) → Prop
 | 0, _, _ => False
 | n + 1, a1, K => laws_toTerm.w n  a1 K
def laws_toLiteral.w (n : Nat) (a1 : Int) (a2 : Bool) (a3 : List (tTNode)) (a4 : List (tTNode)) (K : Int → Bool → List (tTNode) → List (tTNode) → Prop) : Prop :=
 let t5 : List (tTNode) := ([] : List (tTNode)); let t6 : List (tTNode) := ([] : List (tTNode)); let t7 : List (tTNode) := ([] : List (tTNode)); let t8 : List (tTNode) := ([] : List (tTNode)); laws_toTerm.c n a3 (fun r9 => laws_toTerm.c n a4 (fun r10 => K a1 a2 r9 r10))
def laws_toLiteral.c : Nat → Int → Bool → List (tTNode) → List (tTNode) → (Int → Bool → List (tTNode) → List (tTNode) → Prop) → Prop
 | 0, _, _, _, _, _ => False
 | n + 1, a1, a2, a3, a4, K => laws_toLiteral.w n  a1 a2 a3 a4 K
def laws_toLiteralS.l3.b (n : Nat) (x16 : List (tLiteral)) (again3 : Int → List (tLiteral) → Prop) (x17 : Int) (x18 : List (tLiteral)) (Kx0w3 : List (tLiteral) → Prop) : Prop :=
 if (decide (x17 < (x16.length : Int))) = true then (grd (decide (0 ≤ x17) && decide (x17 < (x16.length : Int))) (laws_toLiteral.c n ((rd x16 (Int.toNat x17)).1) (((rd x16 (Int.toNat x17)).2).1) ((((rd x16 (Int.toNat x17)).2).2).1) ((((rd x16 (Int.toNat x17)).2).2).2) (fun r24 r25 r26 r27 => grd (decide (0 ≤ x17) && decide (x17 < (x18.length : Int))) (let t28 : List (tLiteral) := List.set x18 (Int.toNat x17) (r24, r25, r26, r27); again3 (IntKind.wrap .i64 (x17 + 1)) t28)))) else (Kx0w3 x18)
def laws_toLiteralS.l3 : Nat → List (tLiteral) → Int → List (tLiteral) → (List (tLiteral) → Prop) → Prop
 | 0, _, _, _, _ => False
 | n + 1, x16, x17, x18, Kx0w3 => laws_toLiteralS.l3.b n  x16 (fun x17q x18q => laws_toLiteralS.l3 n x16 x17q x18q Kx0w3) x17 x18 Kx0w3
def laws_toLiteralS.w (n : Nat) (lp3 : List (tLiteral) → Int → List (tLiteral) → (List (tLiteral) → Prop) → Prop) (a1 : List (tLiteral)) (K : List (tLiteral) → Prop) : Prop :=
 let t2 : List (tLiteral) := ([] : List (tLiteral)); grd ((decide (0 ≤ (a1.length : Int)) && decide ((a1.length : Int) ≤ 1082596064271)) && decide ((a1.length : Int) = (a1.length : Int))) (let t3 : List (tLiteral) := List.replicate (Int.toNat (a1.length : Int)) (0, false, ([] : List (tTNode)), ([] : List (tTNode))); lp3 a1 0 t3 (fun y30 => K y30))
def laws_toLiteralS.c : Nat → List (tLiteral) → (List (tLiteral) → Prop) → Prop
 | 0, _, _ => False
 | n + 1, a1, K => laws_toLiteralS.w n (laws_toLiteralS.l3 n) a1 K
def laws_toScope.w (n : Nat) (a1 : Int) (a2 : List (tLiteral)) (K : Int → List (tLiteral) → Prop) : Prop :=
 let t3 : List (tLiteral) := ([] : List (tLiteral)); let t4 : List (tLiteral) := ([] : List (tLiteral)); laws_toLiteralS.c n a2 (fun r5 => K a1 r5)
def laws_toScope.c : Nat → Int → List (tLiteral) → (Int → List (tLiteral) → Prop) → Prop
 | 0, _, _, _ => False
 | n + 1, a1, a2, K => laws_toScope.w n  a1 a2 K
def laws_toScopeS.l3.b (n : Nat) (x11 : List (tScope)) (again3 : Int → List (tScope) → Prop) (x12 : Int) (x13 : List (tScope)) (Kx0w3 : List (tScope) → Prop) : Prop :=
 if (decide (x12 < (x11.length : Int))) = true then (grd (decide (0 ≤ x12) && decide (x12 < (x11.length : Int))) (laws_toScope.c n ((rd x11 (Int.toNat x12)).1) ((rd x11 (Int.toNat x12)).2) (fun r16 r17 => grd (decide (0 ≤ x12) && decide (x12 < (x13.length : Int))) (again3 (IntKind.wrap .i64 (x12 + 1)) (List.set x13 (Int.toNat x12) (r16, r17)))))) else (Kx0w3 x13)
def laws_toScopeS.l3 : Nat → List (tScope) → Int → List (tScope) → (List (tScope) → Prop) → Prop
 | 0, _, _, _, _ => False
 | n + 1, x11, x12, x13, Kx0w3 => laws_toScopeS.l3.b n  x11 (fun x12q x13q => laws_toScopeS.l3 n x11 x12q x13q Kx0w3) x12 x13 Kx0w3
def laws_toScopeS.w (n : Nat) (lp3 : List (tScope) → Int → List (tScope) → (List (tScope) → Prop) → Prop) (a1 : List (tScope)) (K : List (tScope) → Prop) : Prop :=
 let t2 : List (tScope) := ([] : List (tScope)); grd ((decide (0 ≤ (a1.length : Int)) && decide ((a1.length : Int) ≤ 2132386187201)) && decide ((a1.length : Int) = (a1.length : Int))) (let t3 : List (tScope) := List.replicate (Int.toNat (a1.length : Int)) (0, ([] : List (tLiteral))); lp3 a1 0 t3 (fun y19 => K y19))
def laws_toScopeS.c : Nat → List (tScope) → (List (tScope) → Prop) → Prop
 | 0, _, _ => False
 | n + 1, a1, K => laws_toScopeS.w n (laws_toScopeS.l3 n) a1 K
def laws_toSession.w (n : Nat) (a1 : List (tDecl)) (a2 : List (tScope)) (a3 : Int) (K : List (tDecl) → List (tScope) → Int → Prop) : Prop :=
 let t4 : List (tScope) := ([] : List (tScope)); let t5 : List (tScope) := ([] : List (tScope)); laws_toDeclS.c n a1 (fun r6 => laws_toScopeS.c n a2 (fun r7 => K r6 r7 a3))
def laws_toSession.c : Nat → List (tDecl) → List (tScope) → Int → (List (tDecl) → List (tScope) → Int → Prop) → Prop
 | 0, _, _, _, _ => False
 | n + 1, a1, a2, a3, K => laws_toSession.w n  a1 a2 a3 K
def spec_l1Digit.w (n : Nat) (a1 : Int) (K : Bool → Prop) : Prop :=
 if (decide (a1 ≥ 48)) = true then (K (decide (a1 ≤ 57))) else (K false)
def spec_l1Digit.c : Nat → Int → (Bool → Prop) → Prop
 | 0, _, _ => False
 | n + 1, a1, K => spec_l1Digit.w n  a1 K
def spec_l1Name.l4.b (n : Nat) (x25 : List UInt8) (again4 : Int → Prop) (x26 : Int) (Kx0w4 : Prop) (Kr4 : Bool → Prop) : Prop :=
 if (decide (x26 < (x25.length : Int))) = true then (grd (decide (0 ≤ x26) && decide (x26 < (x25.length : Int))) (let t41 : Int := ((List.getD x25 (Int.toNat x26) 0).toNat : Int); spec_l1Digit.c n t41 (fun r42 => if (!r42) = true then (grd (decide (0 ≤ x26) && decide (x26 < (x25.length : Int))) (let t43 : Int := ((List.getD x25 (Int.toNat x26) 0).toNat : Int); if (decide (t43 < 97)) = false then (grd (decide (0 ≤ x26) && decide (x26 < (x25.length : Int))) (let t44 : Int := ((List.getD x25 (Int.toNat x26) 0).toNat : Int); if (decide (t44 > 122)) = true then (Kr4 false) else (again4 (IntKind.wrap .i64 (x26 + 1))))) else (Kr4 false))) else (again4 (IntKind.wrap .i64 (x26 + 1)))))) else (Kx0w4)
def spec_l1Name.l4 : Nat → List UInt8 → Int → Prop → (Bool → Prop) → Prop
 | 0, _, _, _, _ => False
 | n + 1, x25, x26, Kx0w4, Kr4 => spec_l1Name.l4.b n  x25 (fun x26q => spec_l1Name.l4 n x25 x26q Kx0w4 Kr4) x26 Kx0w4 Kr4
def spec_l1Name.w (n : Nat) (lp4 : List UInt8 → Int → Prop → (Bool → Prop) → Prop) (a1 : List UInt8) (K : Bool → Prop) : Prop :=
 if (decide ((a1.length : Int) < 1)) = false then (if (decide ((a1.length : Int) > 12)) = false then (grd (decide (0 < (a1.length : Int))) (spec_l1Digit.c n ((List.getD a1 0 0).toNat : Int) (fun r51 => if r51 = true then (K false) else (lp4 a1 0 (K true) (fun y53 => K y53))))) else (K false)) else (K false)
def spec_l1Name.c : Nat → List UInt8 → (Bool → Prop) → Prop
 | 0, _, _ => False
 | n + 1, a1, K => spec_l1Name.w n (spec_l1Name.l4 n) a1 K
def spec_l1In.w (n : Nat) (a1 : Int) (a2 : Int) (a3 : Int) (K : Bool → Prop) : Prop :=
 if (decide (a1 ≥ a2)) = true then (K (decide (a1 ≤ a3))) else (K false)
def spec_l1In.c : Nat → Int → Int → Int → (Bool → Prop) → Prop
 | 0, _, _, _, _ => False
 | n + 1, a1, a2, a3, K => spec_l1In.w n  a1 a2 a3 K
def spec_DeclsOk.l10.b (n : Nat) (x18 : List (tDecl)) (x19 : Int) (x20 : Int) (again10 : Int → Prop) (x21 : Int) (Kx2w10 : List (tDecl) → Int → Int → Prop) (Kr10 : Bool → Prop) : Prop :=
 if (decide (x21 < x20)) = true then (grd (decide (0 ≤ x21) && decide (x21 < (x18.length : Int))) (grd (decide (0 ≤ x20) && decide (x20 < (x18.length : Int))) (let t25 : Bool := (((rd x18 (Int.toNat x21)).1) == ((rd x18 (Int.toNat x20)).1)); if t25 = true then (Kr10 false) else (again10 (IntKind.wrap .i64 (x21 + 1)))))) else (Kx2w10 x18 x19 x20)
def spec_DeclsOk.l10 : Nat → List (tDecl) → Int → Int → Int → (List (tDecl) → Int → Int → Prop) → (Bool → Prop) → Prop
 | 0, _, _, _, _, _, _ => False
 | n + 1, x18, x19, x20, x21, Kx2w10, Kr10 => spec_DeclsOk.l10.b n  x18 x19 x20 (fun x21q => spec_DeclsOk.l10 n x18 x19 x20 x21q Kx2w10 Kr10) x21 Kx2w10 Kr10
def spec_DeclsOk.j3 (Kr5 : Bool → Prop) (again5 : List (tDecl) → Int → Int → Prop) (lp10 : List (tDecl) → Int → Int → Int → (List (tDecl) → Int → Int → Prop) → (Bool → Prop) → Prop) (x59 : List (tDecl)) (x60 : Int) (x61 : Int) : Prop :=
 lp10 x59 x60 x61 0 (fun y90 y91 y92 => grd (decide (0 ≤ y92) && decide (y92 < (y90.length : Int))) (let t93 : Int := IntKind.wrap .i64 (y91 + ((rd y90 (Int.toNat y92)).2)); again5 y90 t93 (IntKind.wrap .i64 (y92 + 1)))) (fun y94 => Kr5 y94)
def spec_DeclsOk.l5.b (n : Nat) (lp10 : List (tDecl) → Int → Int → Int → (List (tDecl) → Int → Int → Prop) → (Bool → Prop) → Prop) (again5 : List (tDecl) → Int → Int → Prop) (x59 : List (tDecl)) (x60 : Int) (x61 : Int) (Kx0w5 : Int → Prop) (Kr5 : Bool → Prop) : Prop :=
 if (decide (x61 < (x59.length : Int))) = true then (grd (decide (0 ≤ x61) && decide (x61 < (x59.length : Int))) (spec_l1Name.c n ((rd x59 (Int.toNat x61)).1) (fun r98 => if (!r98) = false then (grd (decide (0 ≤ x61) && decide (x61 < (x59.length : Int))) (spec_l1In.c n ((rd x59 (Int.toNat x61)).2) 1 4096 (fun r99 => if (!r99) = true then (Kr5 false) else (spec_DeclsOk.j3 Kr5 again5 lp10 x59 x60 x61)))) else (Kr5 false)))) else (Kx0w5 x60)
def spec_DeclsOk.l5 : Nat → List (tDecl) → Int → Int → (Int → Prop) → (Bool → Prop) → Prop
 | 0, _, _, _, _, _ => False
 | n + 1, x59, x60, x61, Kx0w5, Kr5 => spec_DeclsOk.l5.b n (spec_DeclsOk.l10 n)  (fun x59q x60q x61q => spec_DeclsOk.l5 n x59q x60q x61q Kx0w5 Kr5) x59 x60 x61 Kx0w5 Kr5
def spec_DeclsOk.w (n : Nat) (lp5 : List (tDecl) → Int → Int → (Int → Prop) → (Bool → Prop) → Prop) (a1 : List (tDecl)) (K : Bool → Prop) : Prop :=
 if (decide ((a1.length : Int) > 60)) = true then (K false) else (lp5 a1 0 0 (fun y102 => K (decide (y102 ≤ 20000))) (fun y103 => K y103))
def spec_DeclsOk.c : Nat → List (tDecl) → (Bool → Prop) → Prop
 | 0, _, _ => False
 | n + 1, a1, K => spec_DeclsOk.w n (spec_DeclsOk.l5 n) a1 K
def spec_l3NoBits.w (n : Nat) (a1 : Int) (a2 : List Int) (K : Bool → Prop) : Prop :=
 if (decide (a1 = 0)) = true then (K (decide ((a2.length : Int) = 0))) else (K false)
def spec_l3NoBits.c : Nat → Int → List Int → (Bool → Prop) → Prop
 | 0, _, _, _ => False
 | n + 1, a1, a2, K => spec_l3NoBits.w n  a1 a2 K
def spec_l3One.w (n : Nat) (a1 : Int) (K : Bool → Prop) : Prop :=
 spec_l1In.c n a1 4 9 (fun r2 => K r2)
def spec_l3One.c : Nat → Int → (Bool → Prop) → Prop
 | 0, _, _ => False
 | n + 1, a1, K => spec_l3One.w n  a1 K
def spec_l1Bit.w (n : Nat) (a1 : Int) (a2 : List Int) (a3 : Int) (K : Int → Prop) : Prop :=
 grd (decide (0 ≤ IntKind.wrap .i64 (Int.tdiv a3 64)) && decide (IntKind.wrap .i64 (Int.tdiv a3 64) < (a2.length : Int))) (let t4 : Int := rd a2 (Int.toNat (IntKind.wrap .i64 (Int.tdiv a3 64))); grd (decide (0 ≤ IntKind.wrap .u64 (Int.tmod a3 64))) (let t5 : Int := Int.fdiv t4 (2 ^ (Nat.min (Int.toNat (IntKind.wrap .u64 (Int.tmod a3 64))) 64)); K (IntKind.wrap .u8 (ibits .and .u64 t5 1))))
def spec_l1Bit.c : Nat → Int → List Int → Int → (Int → Prop) → Prop
 | 0, _, _, _, _ => False
 | n + 1, a1, a2, a3, K => spec_l1Bit.w n  a1 a2 a3 K
def spec_BitsOk.l4.b (n : Nat) (x16 : Int) (x17 : List Int) (again4 : Int → Prop) (x15 : Int) (Kx0w4 : Prop) (Kr4 : Bool → Prop) : Prop :=
 let t19 : Bool := decide (x15 < IntKind.wrap .i64 (64 * (x17.length : Int))); if t19 = true then (spec_l1Bit.c n x16 x17 x15 (fun r21 => if (!(decide (r21 = 0))) = true then (Kr4 false) else (again4 (IntKind.wrap .i64 (x15 + 1))))) else (Kx0w4)
def spec_BitsOk.l4 : Nat → Int → List Int → Int → Prop → (Bool → Prop) → Prop
 | 0, _, _, _, _, _ => False
 | n + 1, x16, x17, x15, Kx0w4, Kr4 => spec_BitsOk.l4.b n  x16 x17 (fun x15q => spec_BitsOk.l4 n x16 x17 x15q Kx0w4 Kr4) x15 Kx0w4 Kr4
def spec_BitsOk.w (n : Nat) (lp4 : Int → List Int → Int → Prop → (Bool → Prop) → Prop) (a1 : Int) (a2 : List Int) (K : Bool → Prop) : Prop :=
 spec_l1In.c n a1 1 4096 (fun r29 => if (!r29) = false then (let t30 : Int := IntKind.wrap .i64 (Int.tdiv (IntKind.wrap .i64 (a1 + 63)) 64); if (!(decide ((a2.length : Int) = t30))) = true then (K false) else (lp4 a1 a2 a1 (K true) (fun y32 => K y32))) else (K false))
def spec_BitsOk.c : Nat → Int → List Int → (Bool → Prop) → Prop
 | 0, _, _, _ => False
 | n + 1, a1, a2, K => spec_BitsOk.w n (spec_BitsOk.l4 n) a1 a2 K
def spec_l3Form.l2.b (n : Nat) (x22 : List (tDecl)) (x23 : Int) (x25 : Int) (x26 : Int) (x27 : Int) (x28 : Int) (x29 : Int) (x30 : List Int) (x31 : List Int) (again2 : Int → Prop) (x24 : Int) (Kx0w2 : List (tDecl) → Int → Int → Int → Int → Int → List Int → List Int → Prop) (Kr2 : Bool → Prop) : Prop :=
 if (decide (x24 < (x31.length : Int))) = true then (grd (decide (0 ≤ x24) && decide (x24 < (x31.length : Int))) (spec_l1In.c n (rd x31 (Int.toNat x24)) 0 (IntKind.wrap .i64 (x23 - 1)) (fun r33 => if (!r33) = true then (Kr2 false) else (again2 (IntKind.wrap .i64 (x24 + 1)))))) else (Kx0w2 x22 x25 x26 x27 x28 x29 x30 x31)
def spec_l3Form.l2 : Nat → List (tDecl) → Int → Int → Int → Int → Int → Int → List Int → List Int → Int → (List (tDecl) → Int → Int → Int → Int → Int → List Int → List Int → Prop) → (Bool → Prop) → Prop
 | 0, _, _, _, _, _, _, _, _, _, _, _, _ => False
 | n + 1, x22, x23, x25, x26, x27, x28, x29, x30, x31, x24, Kx0w2, Kr2 => spec_l3Form.l2.b n  x22 x23 x25 x26 x27 x28 x29 x30 x31 (fun x24q => spec_l3Form.l2 n x22 x23 x25 x26 x27 x28 x29 x30 x31 x24q Kx0w2 Kr2) x24 Kx0w2 Kr2
def spec_l3Form.q7.b (n : Nat) (x53 : List (tDecl)) (x54 : Bool) (x55 : Int) (x56 : Int) (x57 : Int) (x58 : Int) (x59 : Int) (x60 : List Int) (x61 : List Int) (Kc7w0 : Bool → Prop) (Kc7w1 : List (tDecl) → Int → Int → Int → Int → Int → List Int → List Int → Prop) : Prop :=
 if x54 = true then (Kc7w0 false) else (Kc7w1 x53 x55 x56 x57 x58 x59 x60 x61)
def spec_l3Form.q7 : Nat → List (tDecl) → Bool → Int → Int → Int → Int → Int → List Int → List Int → (Bool → Prop) → (List (tDecl) → Int → Int → Int → Int → Int → List Int → List Int → Prop) → Prop
 | 0, _, _, _, _, _, _, _, _, _, _, _ => False
 | n + 1, x53, x54, x55, x56, x57, x58, x59, x60, x61, Kc7w0, Kc7w1 => spec_l3Form.q7.b n  x53 x54 x55 x56 x57 x58 x59 x60 x61  Kc7w0 Kc7w1
def spec_l3Form.q8.b (n : Nat) (x71 : List (tDecl)) (x72 : Int) (x73 : Int) (x74 : Int) (x75 : Int) (x76 : Int) (x77 : List Int) (x78 : List Int) (Kc8w0 : Bool → Prop) : Prop :=
 if (decide (x72 = 1)) = true then (if (decide ((x78.length : Int) = 0)) = true then (spec_l1In.c n x73 0 (IntKind.wrap .i64 ((x71.length : Int) - 1)) (fun r88 => Kc8w0 r88)) else (Kc8w0 false)) else (if (decide (x72 = 2)) = true then (if (decide ((x78.length : Int) = 0)) = true then (spec_BitsOk.c n x76 x77 (fun r91 => Kc8w0 r91)) else (Kc8w0 false)) else (if (decide (x72 = 3)) = true then (Kc8w0 (decide ((x78.length : Int) ≥ 2))) else (spec_l3One.c n x72 (fun r92 => if r92 = true then (Kc8w0 (decide ((x78.length : Int) = 1))) else (Kc8w0 false)))))
def spec_l3Form.q8 : Nat → List (tDecl) → Int → Int → Int → Int → Int → List Int → List Int → (Bool → Prop) → Prop
 | 0, _, _, _, _, _, _, _, _, _ => False
 | n + 1, x71, x72, x73, x74, x75, x76, x77, x78, Kc8w0 => spec_l3Form.q8.b n  x71 x72 x73 x74 x75 x76 x77 x78  Kc8w0
def spec_l3Form.w (n : Nat) (lp2 : List (tDecl) → Int → Int → Int → Int → Int → Int → List Int → List Int → Int → (List (tDecl) → Int → Int → Int → Int → Int → List Int → List Int → Prop) → (Bool → Prop) → Prop) (lpq7 : List (tDecl) → Bool → Int → Int → Int → Int → Int → List Int → List Int → (Bool → Prop) → (List (tDecl) → Int → Int → Int → Int → Int → List Int → List Int → Prop) → Prop) (lpq8 : List (tDecl) → Int → Int → Int → Int → Int → List Int → List Int → (Bool → Prop) → Prop) (a1 : List (tDecl)) (a2 : Int) (a3 : Int) (a4 : Int) (a5 : Int) (a6 : Int) (a7 : List Int) (a8 : List Int) (a9 : Int) (K : Bool → Prop) : Prop :=
 lp2 a1 a9 a2 a3 a4 a5 a6 a7 a8 0 (fun y43 y44 y45 y46 y47 y48 y49 y50 => if (!(decide (y44 = 1))) = true then (if (!(decide (y45 = 0))) = false then (if (!(decide (y44 = 2))) = true then (spec_l3NoBits.c n y48 y49 (fun r51 => if (!r51) = false then (if (!(decide (y44 = 4))) = true then (if (!(decide (y47 = 0))) = false then (spec_l3One.c n y44 (fun r52 => if (!r52) = true then (lpq7 y43 (!(decide (y46 = 0))) y44 y45 y46 y47 y48 y49 y50 (fun y62 => K y62) (fun y63 y64 y65 y66 y67 y68 y69 y70 => lpq8 y63 y64 y65 y66 y67 y68 y69 y70 (fun y93 => K y93))) else (lpq7 y43 false y44 y45 y46 y47 y48 y49 y50 (fun y94 => K y94) (fun y95 y96 y97 y98 y99 y100 y101 y102 => lpq8 y95 y96 y97 y98 y99 y100 y101 y102 (fun y103 => K y103))))) else (lpq7 y43 true y44 y45 y46 y47 y48 y49 y50 (fun y104 => K y104) (fun y105 y106 y107 y108 y109 y110 y111 y112 => lpq8 y105 y106 y107 y108 y109 y110 y111 y112 (fun y113 => K y113)))) else (spec_l3One.c n y44 (fun r114 => if (!r114) = true then (lpq7 y43 (!(decide (y46 = 0))) y44 y45 y46 y47 y48 y49 y50 (fun y115 => K y115) (fun y116 y117 y118 y119 y120 y121 y122 y123 => lpq8 y116 y117 y118 y119 y120 y121 y122 y123 (fun y124 => K y124))) else (lpq7 y43 false y44 y45 y46 y47 y48 y49 y50 (fun y125 => K y125) (fun y126 y127 y128 y129 y130 y131 y132 y133 => lpq8 y126 y127 y128 y129 y130 y131 y132 y133 (fun y134 => K y134)))))) else (lpq7 y43 true y44 y45 y46 y47 y48 y49 y50 (fun y135 => K y135) (fun y136 y137 y138 y139 y140 y141 y142 y143 => lpq8 y136 y137 y138 y139 y140 y141 y142 y143 (fun y144 => K y144))))) else (if (!(decide (y44 = 4))) = true then (if (!(decide (y47 = 0))) = false then (spec_l3One.c n y44 (fun r145 => if (!r145) = true then (lpq7 y43 (!(decide (y46 = 0))) y44 y45 y46 y47 y48 y49 y50 (fun y146 => K y146) (fun y147 y148 y149 y150 y151 y152 y153 y154 => lpq8 y147 y148 y149 y150 y151 y152 y153 y154 (fun y155 => K y155))) else (lpq7 y43 false y44 y45 y46 y47 y48 y49 y50 (fun y156 => K y156) (fun y157 y158 y159 y160 y161 y162 y163 y164 => lpq8 y157 y158 y159 y160 y161 y162 y163 y164 (fun y165 => K y165))))) else (lpq7 y43 true y44 y45 y46 y47 y48 y49 y50 (fun y166 => K y166) (fun y167 y168 y169 y170 y171 y172 y173 y174 => lpq8 y167 y168 y169 y170 y171 y172 y173 y174 (fun y175 => K y175)))) else (spec_l3One.c n y44 (fun r176 => if (!r176) = true then (lpq7 y43 (!(decide (y46 = 0))) y44 y45 y46 y47 y48 y49 y50 (fun y177 => K y177) (fun y178 y179 y180 y181 y182 y183 y184 y185 => lpq8 y178 y179 y180 y181 y182 y183 y184 y185 (fun y186 => K y186))) else (lpq7 y43 false y44 y45 y46 y47 y48 y49 y50 (fun y187 => K y187) (fun y188 y189 y190 y191 y192 y193 y194 y195 => lpq8 y188 y189 y190 y191 y192 y193 y194 y195 (fun y196 => K y196))))))) else (lpq7 y43 true y44 y45 y46 y47 y48 y49 y50 (fun y197 => K y197) (fun y198 y199 y200 y201 y202 y203 y204 y205 => lpq8 y198 y199 y200 y201 y202 y203 y204 y205 (fun y206 => K y206)))) else (if (!(decide (y44 = 2))) = true then (spec_l3NoBits.c n y48 y49 (fun r207 => if (!r207) = false then (if (!(decide (y44 = 4))) = true then (if (!(decide (y47 = 0))) = false then (spec_l3One.c n y44 (fun r208 => if (!r208) = true then (lpq7 y43 (!(decide (y46 = 0))) y44 y45 y46 y47 y48 y49 y50 (fun y209 => K y209) (fun y210 y211 y212 y213 y214 y215 y216 y217 => lpq8 y210 y211 y212 y213 y214 y215 y216 y217 (fun y218 => K y218))) else (lpq7 y43 false y44 y45 y46 y47 y48 y49 y50 (fun y219 => K y219) (fun y220 y221 y222 y223 y224 y225 y226 y227 => lpq8 y220 y221 y222 y223 y224 y225 y226 y227 (fun y228 => K y228))))) else (lpq7 y43 true y44 y45 y46 y47 y48 y49 y50 (fun y229 => K y229) (fun y230 y231 y232 y233 y234 y235 y236 y237 => lpq8 y230 y231 y232 y233 y234 y235 y236 y237 (fun y238 => K y238)))) else (spec_l3One.c n y44 (fun r239 => if (!r239) = true then (lpq7 y43 (!(decide (y46 = 0))) y44 y45 y46 y47 y48 y49 y50 (fun y240 => K y240) (fun y241 y242 y243 y244 y245 y246 y247 y248 => lpq8 y241 y242 y243 y244 y245 y246 y247 y248 (fun y249 => K y249))) else (lpq7 y43 false y44 y45 y46 y47 y48 y49 y50 (fun y250 => K y250) (fun y251 y252 y253 y254 y255 y256 y257 y258 => lpq8 y251 y252 y253 y254 y255 y256 y257 y258 (fun y259 => K y259)))))) else (lpq7 y43 true y44 y45 y46 y47 y48 y49 y50 (fun y260 => K y260) (fun y261 y262 y263 y264 y265 y266 y267 y268 => lpq8 y261 y262 y263 y264 y265 y266 y267 y268 (fun y269 => K y269))))) else (if (!(decide (y44 = 4))) = true then (if (!(decide (y47 = 0))) = false then (spec_l3One.c n y44 (fun r270 => if (!r270) = true then (lpq7 y43 (!(decide (y46 = 0))) y44 y45 y46 y47 y48 y49 y50 (fun y271 => K y271) (fun y272 y273 y274 y275 y276 y277 y278 y279 => lpq8 y272 y273 y274 y275 y276 y277 y278 y279 (fun y280 => K y280))) else (lpq7 y43 false y44 y45 y46 y47 y48 y49 y50 (fun y281 => K y281) (fun y282 y283 y284 y285 y286 y287 y288 y289 => lpq8 y282 y283 y284 y285 y286 y287 y288 y289 (fun y290 => K y290))))) else (lpq7 y43 true y44 y45 y46 y47 y48 y49 y50 (fun y291 => K y291) (fun y292 y293 y294 y295 y296 y297 y298 y299 => lpq8 y292 y293 y294 y295 y296 y297 y298 y299 (fun y300 => K y300)))) else (spec_l3One.c n y44 (fun r301 => if (!r301) = true then (lpq7 y43 (!(decide (y46 = 0))) y44 y45 y46 y47 y48 y49 y50 (fun y302 => K y302) (fun y303 y304 y305 y306 y307 y308 y309 y310 => lpq8 y303 y304 y305 y306 y307 y308 y309 y310 (fun y311 => K y311))) else (lpq7 y43 false y44 y45 y46 y47 y48 y49 y50 (fun y312 => K y312) (fun y313 y314 y315 y316 y317 y318 y319 y320 => lpq8 y313 y314 y315 y316 y317 y318 y319 y320 (fun y321 => K y321)))))))) (fun y322 => K y322)
def spec_l3Form.c : Nat → List (tDecl) → Int → Int → Int → Int → Int → List Int → List Int → Int → (Bool → Prop) → Prop
 | 0, _, _, _, _, _, _, _, _, _, _ => False
 | n + 1, a1, a2, a3, a4, a5, a6, a7, a8, a9, K => spec_l3Form.w n (spec_l3Form.l2 n) (spec_l3Form.q7 n) (spec_l3Form.q8 n) a1 a2 a3 a4 a5 a6 a7 a8 a9 K
def spec_l3Wide.l3.b (n : Nat) (x23 : List (tDecl)) (x24 : List Int) (x27 : Int) (x28 : Int) (x29 : Int) (x30 : Int) (x31 : Int) (x32 : List Int) (x33 : List Int) (again3 : Int → Int → Prop) (x25 : Int) (x26 : Int) (Kx0w3 : List (tDecl) → Int → Int → Int → Int → Int → Int → List Int → List Int → Prop) : Prop :=
 if (decide (x26 < (x33.length : Int))) = true then (grd (decide (0 ≤ x26) && decide (x26 < (x33.length : Int))) (grd (decide (0 ≤ rd x33 (Int.toNat x26)) && decide (rd x33 (Int.toNat x26) < (x24.length : Int))) (let t35 : Int := IntKind.wrap .i64 (x25 + (rd x24 (Int.toNat (rd x33 (Int.toNat x26))))); again3 (if t35 < 8192 then t35 else 8192) (IntKind.wrap .i64 (x26 + 1))))) else (Kx0w3 x23 x25 x27 x28 x29 x30 x31 x32 x33)
def spec_l3Wide.l3 : Nat → List (tDecl) → List Int → Int → Int → Int → Int → Int → List Int → List Int → Int → Int → (List (tDecl) → Int → Int → Int → Int → Int → Int → List Int → List Int → Prop) → Prop
 | 0, _, _, _, _, _, _, _, _, _, _, _, _ => False
 | n + 1, x23, x24, x27, x28, x29, x30, x31, x32, x33, x25, x26, Kx0w3 => spec_l3Wide.l3.b n  x23 x24 x27 x28 x29 x30 x31 x32 x33 (fun x25q x26q => spec_l3Wide.l3 n x23 x24 x27 x28 x29 x30 x31 x32 x33 x25q x26q Kx0w3) x25 x26 Kx0w3
def spec_l3Wide.j2 (K : Int → Prop) (n : Nat) (y46 : Int) (y47 : Int) (y49 : Int) (j74 : Bool) : Prop :=
 if j74 = true then (spec_l1In.c n y49 0 4096 (fun r75 => if (!r75) = true then (K (-1)) else (K y46))) else (if (decide (y47 = 9)) = true then (spec_l1In.c n y49 1 4096 (fun r77 => if (!r77) = true then (K (-1)) else (K (IntKind.wrap .i64 (y46 * y49))))) else (K y46))
def spec_l3Wide.j3 (K : Int → Prop) (n : Nat) (y46 : Int) (y47 : Int) (y49 : Int) (j71 : Bool) : Prop :=
 if j71 = true then (spec_l1In.c n y49 0 4096 (fun r73 => if (!r73) = true then (K (-1)) else (K (IntKind.wrap .i64 (y46 + y49))))) else (if (decide (y47 = 7)) = true then (spec_l3Wide.j2 K n y46 y47 y49 true) else (spec_l3Wide.j2 K n y46 y47 y49 (decide (y47 = 8))))
def spec_l3Wide.w (n : Nat) (lp3 : List (tDecl) → List Int → Int → Int → Int → Int → Int → List Int → List Int → Int → Int → (List (tDecl) → Int → Int → Int → Int → Int → Int → List Int → List Int → Prop) → Prop) (a1 : List (tDecl)) (a2 : Int) (a3 : Int) (a4 : Int) (a5 : Int) (a6 : Int) (a7 : List Int) (a8 : List Int) (a9 : List Int) (K : Int → Prop) : Prop :=
 lp3 a1 a9 a2 a3 a4 a5 a6 a7 a8 0 0 (fun y45 y46 y47 y48 y49 y50 y51 y52 y53 => if (decide (y47 = 1)) = true then (grd (decide (0 ≤ y48) && decide (y48 < (y45.length : Int))) (K ((rd y45 (Int.toNat y48)).2))) else (if (decide (y47 = 2)) = true then (K y51) else (if (decide (y47 = 4)) = true then (if (decide (y50 < 0)) = false then (if (decide (y49 < y50)) = false then (if (decide (y49 ≥ y46)) = true then (K (-1)) else (let t70 : Int := IntKind.wrap .i64 ((IntKind.wrap .i64 (y49 - y50)) + 1); K t70)) else (K (-1))) else (K (-1))) else (if (decide (y47 = 5)) = true then (spec_l3Wide.j3 K n y46 y47 y49 true) else (spec_l3Wide.j3 K n y46 y47 y49 (decide (y47 = 6)))))))
def spec_l3Wide.c : Nat → List (tDecl) → Int → Int → Int → Int → Int → List Int → List Int → List Int → (Int → Prop) → Prop
 | 0, _, _, _, _, _, _, _, _, _, _ => False
 | n + 1, a1, a2, a3, a4, a5, a6, a7, a8, a9, K => spec_l3Wide.w n (spec_l3Wide.l3 n) a1 a2 a3 a4 a5 a6 a7 a8 a9 K
def spec_l3Widths.l16.b (n : Nat) (x37 : List (tDecl)) (x38 : Int) (x40 : List Int) (x42 : List Int) (x43 : List (tTNode)) (again16 : Int → List Bool → Prop) (x39 : Int) (x41 : List Bool) (Kx2w16 : List (tDecl) → Int → List Int → List Bool → List Int → List (tTNode) → Prop) : Prop :=
 grd (decide (0 ≤ x38) && decide (x38 < (x43.length : Int))) (let t45 : List Int := ((((((rd x43 (Int.toNat x38)).2).2).2).2).2).2; if (decide (x39 < (t45.length : Int))) = true then (grd (decide (0 ≤ x38) && decide (x38 < (x43.length : Int))) (let t48 : List Int := ((((((rd x43 (Int.toNat x38)).2).2).2).2).2).2; grd (decide (0 ≤ x39) && decide (x39 < (t48.length : Int))) (grd (decide (0 ≤ rd t48 (Int.toNat x39)) && decide (rd t48 (Int.toNat x39) < (x41.length : Int))) (let t49 : List Bool := List.set x41 (Int.toNat (rd t48 (Int.toNat x39))) true; again16 (IntKind.wrap .i64 (x39 + 1)) t49)))) else (Kx2w16 x37 x38 x40 x41 x42 x43))
def spec_l3Widths.l16 : Nat → List (tDecl) → Int → List Int → List Int → List (tTNode) → Int → List Bool → (List (tDecl) → Int → List Int → List Bool → List Int → List (tTNode) → Prop) → Prop
 | 0, _, _, _, _, _, _, _, _ => False
 | n + 1, x37, x38, x40, x42, x43, x39, x41, Kx2w16 => spec_l3Widths.l16.b n  x37 x38 x40 x42 x43 (fun x39q x41q => spec_l3Widths.l16 n x37 x38 x40 x42 x43 x39q x41q Kx2w16) x39 x41 Kx2w16
def spec_l3Widths.l7.b (n : Nat) (lp16 : List (tDecl) → Int → List Int → List Int → List (tTNode) → Int → List Bool → (List (tDecl) → Int → List Int → List Bool → List Int → List (tTNode) → Prop) → Prop) (again7 : List (tDecl) → Int → List Int → List Int → List Bool → List (tTNode) → Prop) (x73 : List (tDecl)) (x74 : Int) (x75 : List Int) (x76 : List Int) (x77 : List Bool) (x78 : List (tTNode)) (Kx0w7 : List Int → List Int → List Bool → Prop) (Kr7 : List Int → Prop) : Prop :=
 if (decide (x74 < (x78.length : Int))) = true then (grd (decide (0 ≤ x74) && decide (x74 < (x78.length : Int))) (let t99 : List Int := ((((((rd x78 (Int.toNat x74)).2).2).2).2).2).1; let t100 : List Int := ((((((rd x78 (Int.toNat x74)).2).2).2).2).2).2; spec_l3Form.c n x73 ((rd x78 (Int.toNat x74)).1) (((rd x78 (Int.toNat x74)).2).1) ((((rd x78 (Int.toNat x74)).2).2).1) (((((rd x78 (Int.toNat x74)).2).2).2).1) ((((((rd x78 (Int.toNat x74)).2).2).2).2).1) t99 t100 x74 (fun r101 => if (!r101) = true then (Kr7 x76) else (grd (decide (0 ≤ x74) && decide (x74 < (x78.length : Int))) (let t102 : List Int := ((((((rd x78 (Int.toNat x74)).2).2).2).2).2).1; let t103 : List Int := ((((((rd x78 (Int.toNat x74)).2).2).2).2).2).2; spec_l3Wide.c n x73 ((rd x78 (Int.toNat x74)).1) (((rd x78 (Int.toNat x74)).2).1) ((((rd x78 (Int.toNat x74)).2).2).1) (((((rd x78 (Int.toNat x74)).2).2).2).1) ((((((rd x78 (Int.toNat x74)).2).2).2).2).1) t102 t103 x75 (fun r104 => spec_l1In.c n r104 1 4096 (fun r106 => if (!r106) = true then (Kr7 x76) else (grd (decide (x75.length + ([r104] : List (Int)).length ≤ 7818749353073)) (lp16 x73 x74 x76 (x75 ++ ([r104] : List (Int))) x78 0 x77 (fun y107 y108 y109 y110 y111 y112 => again7 y107 (IntKind.wrap .i64 (y108 + 1)) y111 y109 y110 y112)))))))))) else (Kx0w7 x75 x76 x77)
def spec_l3Widths.l7 : Nat → List (tDecl) → Int → List Int → List Int → List Bool → List (tTNode) → (List Int → List Int → List Bool → Prop) → (List Int → Prop) → Prop
 | 0, _, _, _, _, _, _, _, _ => False
 | n + 1, x73, x74, x75, x76, x77, x78, Kx0w7, Kr7 => spec_l3Widths.l7.b n (spec_l3Widths.l16 n)  (fun x73q x74q x75q x76q x77q x78q => spec_l3Widths.l7 n x73q x74q x75q x76q x77q x78q Kx0w7 Kr7) x73 x74 x75 x76 x77 x78 Kx0w7 Kr7
def spec_l3Widths.l20.b (n : Nat) (x127 : List Int) (x128 : List Int) (x129 : List Bool) (again20 : Int → Prop) (x126 : Int) (Kx4w20 : List Int → Prop) (Kr20 : List Int → Prop) : Prop :=
 let t131 : Bool := decide (IntKind.wrap .i64 (x126 + 1) < (x129.length : Int)); if t131 = true then (grd (decide (0 ≤ x126) && decide (x126 < (x129.length : Int))) (if (!(rd x129 (Int.toNat x126))) = true then (Kr20 x128) else (again20 (IntKind.wrap .i64 (x126 + 1))))) else (Kx4w20 x127)
def spec_l3Widths.l20 : Nat → List Int → List Int → List Bool → Int → (List Int → Prop) → (List Int → Prop) → Prop
 | 0, _, _, _, _, _, _ => False
 | n + 1, x127, x128, x129, x126, Kx4w20, Kr20 => spec_l3Widths.l20.b n  x127 x128 x129 (fun x126q => spec_l3Widths.l20 n x127 x128 x129 x126q Kx4w20 Kr20) x126 Kx4w20 Kr20
def spec_l3Widths.j0 (K : List Int → Prop) (a1 : List (tDecl)) (a2 : List (tTNode)) (lp7 : List (tDecl) → Int → List Int → List Int → List Bool → List (tTNode) → (List Int → List Int → List Bool → Prop) → (List Int → Prop) → Prop) (lp20 : List Int → List Int → List Bool → Int → (List Int → Prop) → (List Int → Prop) → Prop) : Prop :=
 grd ((decide (0 ≤ (a2.length : Int)) && decide ((a2.length : Int) ≤ 35184372088832)) && decide ((a2.length : Int) = (a2.length : Int))) (let t6 : List Bool := List.replicate (Int.toNat (a2.length : Int)) false; lp7 a1 0 ([] : List (Int)) ([] : List (Int)) t6 a2 (fun y117 y118 y119 => lp20 y117 y118 y119 0 (fun y134 => K y134) (fun y135 => K y135)) (fun y136 => K y136))
def spec_l3Widths.w (n : Nat) (lp7 : List (tDecl) → Int → List Int → List Int → List Bool → List (tTNode) → (List Int → List Int → List Bool → Prop) → (List Int → Prop) → Prop) (lp20 : List Int → List Int → List Bool → Int → (List Int → Prop) → (List Int → Prop) → Prop) (a1 : List (tDecl)) (a2 : List (tTNode)) (K : List Int → Prop) : Prop :=
 spec_DeclsOk.c n a1 (fun r139 => if (!r139) = false then (if (decide ((a2.length : Int) < 1)) = false then (if (decide ((a2.length : Int) > 400)) = true then (K ([] : List (Int))) else (spec_l3Widths.j0 K a1 a2 lp7 lp20)) else (K ([] : List (Int)))) else (K ([] : List (Int))))
def spec_l3Widths.c : Nat → List (tDecl) → List (tTNode) → (List Int → Prop) → Prop
 | 0, _, _, _ => False
 | n + 1, a1, a2, K => spec_l3Widths.w n (spec_l3Widths.l7 n) (spec_l3Widths.l20 n) a1 a2 K
def spec_WidthOf.w (n : Nat) (a1 : List (tDecl)) (a2 : List (tTNode)) (K : Int → Prop) : Prop :=
 spec_l3Widths.c n a1 a2 (fun r3 => if (decide ((r3.length : Int) = 0)) = true then (K (-1)) else (grd (decide (0 ≤ IntKind.wrap .i64 ((r3.length : Int) - 1)) && decide (IntKind.wrap .i64 ((r3.length : Int) - 1) < (r3.length : Int))) (let t4 : Nat := Int.toNat (IntKind.wrap .i64 ((r3.length : Int) - 1)); K (rd r3 t4))))
def spec_WidthOf.c : Nat → List (tDecl) → List (tTNode) → (Int → Prop) → Prop
 | 0, _, _, _ => False
 | n + 1, a1, a2, K => spec_WidthOf.w n  a1 a2 K
def spec_LiteralsOk.l4.b (n : Nat) (x29 : List (tDecl)) (x30 : List (tLiteral)) (again4 : Int → Prop) (x31 : Int) (Kx0w4 : Prop) (Kr4 : Bool → Prop) : Prop :=
 if (decide (x31 < (x30.length : Int))) = true then (grd (decide (0 ≤ x31) && decide (x31 < (x30.length : Int))) (spec_WidthOf.c n x29 ((((rd x30 (Int.toNat x31)).2).2).1) (fun r42 => grd (decide (0 ≤ x31) && decide (x31 < (x30.length : Int))) (spec_l1In.c n ((rd x30 (Int.toNat x31)).1) 1 1000000 (fun r48 => if (!r48) = false then (if (decide (x31 > 0)) = true then (grd (decide (0 ≤ x31) && decide (x31 < (x30.length : Int))) (grd (decide (0 ≤ IntKind.wrap .i64 (x31 - 1)) && decide (IntKind.wrap .i64 (x31 - 1) < (x30.length : Int))) (let t49 : tLiteral := rd x30 (Int.toNat (IntKind.wrap .i64 (x31 - 1))); if (decide ((rd x30 (Int.toNat x31)).1 ≤ t49.1)) = false then (if (decide (r42 < 0)) = false then (grd (decide (0 ≤ x31) && decide (x31 < (x30.length : Int))) (spec_WidthOf.c n x29 ((((rd x30 (Int.toNat x31)).2).2).2) (fun r50 => if (!(decide (r50 = r42))) = true then (Kr4 false) else (again4 (IntKind.wrap .i64 (x31 + 1)))))) else (Kr4 false)) else (Kr4 false)))) else (if (decide (r42 < 0)) = false then (grd (decide (0 ≤ x31) && decide (x31 < (x30.length : Int))) (spec_WidthOf.c n x29 ((((rd x30 (Int.toNat x31)).2).2).2) (fun r51 => if (!(decide (r51 = r42))) = true then (Kr4 false) else (again4 (IntKind.wrap .i64 (x31 + 1)))))) else (Kr4 false))) else (Kr4 false)))))) else (Kx0w4)
def spec_LiteralsOk.l4 : Nat → List (tDecl) → List (tLiteral) → Int → Prop → (Bool → Prop) → Prop
 | 0, _, _, _, _, _ => False
 | n + 1, x29, x30, x31, Kx0w4, Kr4 => spec_LiteralsOk.l4.b n  x29 x30 (fun x31q => spec_LiteralsOk.l4 n x29 x30 x31q Kx0w4 Kr4) x31 Kx0w4 Kr4
def spec_LiteralsOk.w (n : Nat) (lp4 : List (tDecl) → List (tLiteral) → Int → Prop → (Bool → Prop) → Prop) (a1 : List (tDecl)) (a2 : List (tLiteral)) (K : Bool → Prop) : Prop :=
 spec_DeclsOk.c n a1 (fun r58 => if (!r58) = false then (if (decide ((a2.length : Int) > 60)) = true then (K false) else (lp4 a1 a2 0 (K true) (fun y60 => K y60))) else (K false))
def spec_LiteralsOk.c : Nat → List (tDecl) → List (tLiteral) → (Bool → Prop) → Prop
 | 0, _, _, _ => False
 | n + 1, a1, a2, K => spec_LiteralsOk.w n (spec_LiteralsOk.l4 n) a1 a2 K
def spec_SessionOk.l5.b (n : Nat) (x22 : Int) (x24 : List (tDecl)) (x25 : List (tScope)) (x26 : Int) (again5 : Int → Prop) (x23 : Int) (Kx0w5 : Int → List (tDecl) → List (tScope) → Int → Prop) (Kr5 : Bool → Prop) : Prop :=
 if (decide (x23 < (x25.length : Int))) = true then (grd (decide (0 ≤ x23) && decide (x23 < (x25.length : Int))) (grd (decide (0 ≤ IntKind.wrap .i64 (x23 - 1)) && decide (IntKind.wrap .i64 (x23 - 1) < (x25.length : Int))) (let t33 : tScope := rd x25 (Int.toNat (IntKind.wrap .i64 (x23 - 1))); spec_l1In.c n ((rd x25 (Int.toNat x23)).1) t33.1 x22 (fun r34 => if (!r34) = true then (Kr5 false) else (again5 (IntKind.wrap .i64 (x23 + 1))))))) else (Kx0w5 x22 x24 x25 x26)
def spec_SessionOk.l5 : Nat → Int → List (tDecl) → List (tScope) → Int → Int → (Int → List (tDecl) → List (tScope) → Int → Prop) → (Bool → Prop) → Prop
 | 0, _, _, _, _, _, _, _ => False
 | n + 1, x22, x24, x25, x26, x23, Kx0w5, Kr5 => spec_SessionOk.l5.b n  x22 x24 x25 x26 (fun x23q => spec_SessionOk.l5 n x22 x24 x25 x26 x23q Kx0w5 Kr5) x23 Kx0w5 Kr5
def spec_SessionOk.l21.b (n : Nat) (x65 : Int) (x66 : Int) (x68 : Int) (x69 : List (tLiteral)) (x71 : List (tDecl)) (x72 : List (tScope)) (x73 : Int) (again21 : Int → Int → Prop) (x67 : Int) (x70 : Int) (Kx4w21 : Int → Int → Int → Int → List (tLiteral) → List (tDecl) → List (tScope) → Int → Prop) (Kr21 : Bool → Prop) : Prop :=
 if (decide (x70 < (x69.length : Int))) = true then (grd (decide (0 ≤ x70) && decide (x70 < (x69.length : Int))) (if (decide ((rd x69 (Int.toNat x70)).1 ≤ x67)) = true then (Kr21 false) else (grd (decide (0 ≤ x70) && decide (x70 < (x69.length : Int))) (again21 ((rd x69 (Int.toNat x70)).1) (IntKind.wrap .i64 (x70 + 1)))))) else (Kx4w21 x65 x66 x67 x68 x69 x71 x72 x73)
def spec_SessionOk.l21 : Nat → Int → Int → Int → List (tLiteral) → List (tDecl) → List (tScope) → Int → Int → Int → (Int → Int → Int → Int → List (tLiteral) → List (tDecl) → List (tScope) → Int → Prop) → (Bool → Prop) → Prop
 | 0, _, _, _, _, _, _, _, _, _, _, _ => False
 | n + 1, x65, x66, x68, x69, x71, x72, x73, x67, x70, Kx4w21, Kr21 => spec_SessionOk.l21.b n  x65 x66 x68 x69 x71 x72 x73 (fun x67q x70q => spec_SessionOk.l21 n x65 x66 x68 x69 x71 x72 x73 x67q x70q Kx4w21 Kr21) x67 x70 Kx4w21 Kr21
def spec_SessionOk.j3 (Kr12 : Bool → Prop) (again12 : Int → Int → Int → Int → List (tDecl) → List (tScope) → Int → Prop) (lp21 : Int → Int → Int → List (tLiteral) → List (tDecl) → List (tScope) → Int → Int → Int → (Int → Int → Int → Int → List (tLiteral) → List (tDecl) → List (tScope) → Int → Prop) → (Bool → Prop) → Prop) (n : Nat) (x120 : Int) (x121 : Int) (x122 : Int) (x123 : Int) (x124 : List (tDecl)) (x125 : List (tScope)) (x126 : Int) (j157 : Int) : Prop :=
 grd (decide (0 ≤ x123) && decide (x123 < (x125.length : Int))) (grd ((decide (0 ≤ j157) && decide (j157 ≤ (x124.length : Int))) && decide (0 ≤ j157)) (let t160 : List (tDecl) := List.drop 0 (List.take (Int.toNat j157) x124); spec_LiteralsOk.c n t160 ((rd x125 (Int.toNat x123)).2) (fun r161 => if (!r161) = true then (Kr12 false) else (lp21 x120 x121 x123 ((rd x125 (Int.toNat x123)).2) x124 x125 x126 x122 0 (fun y171 y172 y173 y174 y175 y176 y177 y178 => let t179 : Int := IntKind.wrap .i64 (y172 + (y175.length : Int)); again12 y171 t179 y173 (IntKind.wrap .i64 (y174 + 1)) y176 y177 y178) (fun y180 => Kr12 y180)))))
def spec_SessionOk.l12.b (n : Nat) (lp21 : Int → Int → Int → List (tLiteral) → List (tDecl) → List (tScope) → Int → Int → Int → (Int → Int → Int → Int → List (tLiteral) → List (tDecl) → List (tScope) → Int → Prop) → (Bool → Prop) → Prop) (again12 : Int → Int → Int → Int → List (tDecl) → List (tScope) → Int → Prop) (x120 : Int) (x121 : Int) (x122 : Int) (x123 : Int) (x124 : List (tDecl)) (x125 : List (tScope)) (x126 : Int) (Kx2w12 : Int → Int → List (tDecl) → List (tScope) → Int → Prop) (Kr12 : Bool → Prop) : Prop :=
 if (decide (x123 < (x125.length : Int))) = true then (let t181 : Bool := decide (IntKind.wrap .i64 (x123 + 1) < (x125.length : Int)); if t181 = true then (grd (decide (0 ≤ IntKind.wrap .i64 (x123 + 1)) && decide (IntKind.wrap .i64 (x123 + 1) < (x125.length : Int))) (let t182 : tScope := rd x125 (Int.toNat (IntKind.wrap .i64 (x123 + 1))); spec_SessionOk.j3 Kr12 again12 lp21 n x120 x121 x122 x123 x124 x125 x126 t182.1)) else (spec_SessionOk.j3 Kr12 again12 lp21 n x120 x121 x122 x123 x124 x125 x126 x120)) else (Kx2w12 x121 x122 x124 x125 x126)
def spec_SessionOk.l12 : Nat → Int → Int → Int → Int → List (tDecl) → List (tScope) → Int → (Int → Int → List (tDecl) → List (tScope) → Int → Prop) → (Bool → Prop) → Prop
 | 0, _, _, _, _, _, _, _, _, _ => False
 | n + 1, x120, x121, x122, x123, x124, x125, x126, Kx2w12, Kr12 => spec_SessionOk.l12.b n (spec_SessionOk.l21 n)  (fun x120q x121q x122q x123q x124q x125q x126q => spec_SessionOk.l12 n x120q x121q x122q x123q x124q x125q x126q Kx2w12 Kr12) x120 x121 x122 x123 x124 x125 x126 Kx2w12 Kr12
def spec_SessionOk.j4 (K : Bool → Prop) (a1 : List (tDecl)) (a2 : List (tScope)) (a3 : Int) (lp5 : Int → List (tDecl) → List (tScope) → Int → Int → (Int → List (tDecl) → List (tScope) → Int → Prop) → (Bool → Prop) → Prop) (lp12 : Int → Int → Int → Int → List (tDecl) → List (tScope) → Int → (Int → Int → List (tDecl) → List (tScope) → Int → Prop) → (Bool → Prop) → Prop) : Prop :=
 lp5 (a1.length : Int) a1 a2 a3 1 (fun y40 y41 y42 y43 => lp12 y40 0 0 0 y41 y42 y43 (fun y189 y190 y191 y192 y193 => if (decide (y189 ≤ 60)) = true then (K (decide (y190 < y193))) else (K false)) (fun y195 => K y195)) (fun y196 => K y196)
def spec_SessionOk.w (n : Nat) (lp5 : Int → List (tDecl) → List (tScope) → Int → Int → (Int → List (tDecl) → List (tScope) → Int → Prop) → (Bool → Prop) → Prop) (lp12 : Int → Int → Int → Int → List (tDecl) → List (tScope) → Int → (Int → Int → List (tDecl) → List (tScope) → Int → Prop) → (Bool → Prop) → Prop) (a1 : List (tDecl)) (a2 : List (tScope)) (a3 : Int) (K : Bool → Prop) : Prop :=
 spec_DeclsOk.c n a1 (fun r200 => if (!r200) = false then (if (decide ((a2.length : Int) < 1)) = false then (if (decide ((a2.length : Int) > 20)) = false then (grd (decide (0 < (a2.length : Int))) (if (!(decide ((rd a2 0).1 = 0))) = false then (spec_l1In.c n a3 1 1000000 (fun r201 => if (!r201) = true then (K false) else (spec_SessionOk.j4 K a1 a2 a3 lp5 lp12))) else (K false))) else (K false)) else (K false)) else (K false))
def spec_SessionOk.c : Nat → List (tDecl) → List (tScope) → Int → (Bool → Prop) → Prop
 | 0, _, _, _, _ => False
 | n + 1, a1, a2, a3, K => spec_SessionOk.w n (spec_SessionOk.l5 n) (spec_SessionOk.l12 n) a1 a2 a3 K
def spec_l3CopyNode.w (n : Nat) (a1 : Int) (a2 : Int) (a3 : Int) (a4 : Int) (a5 : Int) (a6 : List Int) (a7 : List Int) (K : Int → Int → Int → Int → Int → List Int → List Int → Prop) : Prop :=
 grd (decide (([] : List (Int)).length + a7.length ≤ 7818749353073)) (let p12 : Prop := (let p9 : Prop := (grd (decide (([] : List (Int)).length + a6.length ≤ 7818749353073)) (K a1 a2 a3 a4 a5 (([] : List (Int)) ++ a6) (([] : List (Int)) ++ a7))); (p9 ∧ p9)); (p12 ∧ p12 ∧ ((grd (decide (([] : List (Int)).length + a6.length ≤ 7818749353073)) (K a1 a2 a3 a4 a5 (([] : List (Int)) ++ a6) (([] : List (Int)) ++ a7))) ∧ (let p11 : Prop := (grd (decide (([] : List (Int)).length + a6.length ≤ 7818749353073)) (K a1 a2 a3 a4 a5 (([] : List (Int)) ++ a6) (([] : List (Int)) ++ a7))); (p11 ∧ p11)))))
def spec_l3CopyNode.c : Nat → Int → Int → Int → Int → Int → List Int → List Int → (Int → Int → Int → Int → Int → List Int → List Int → Prop) → Prop
 | 0, _, _, _, _, _, _, _, _ => False
 | n + 1, a1, a2, a3, a4, a5, a6, a7, K => spec_l3CopyNode.w n  a1 a2 a3 a4 a5 a6 a7 K
def spec_l14CopyTerm.l3.b (n : Nat) (x47 : List (tTNode)) (x49 : List (tTNode)) (again3 : Int → List (tTNode) → Prop) (x46 : Int) (x48 : List (tTNode)) (Kx0w3 : List (tTNode) → List (tTNode) → Prop) : Prop :=
 if (decide (x46 < (x49.length : Int))) = true then (grd (decide (0 ≤ x46) && decide (x46 < (x49.length : Int))) (let t71 : List Int := ((((((rd x49 (Int.toNat x46)).2).2).2).2).2).1; let t72 : List Int := ((((((rd x49 (Int.toNat x46)).2).2).2).2).2).2; (spec_l3CopyNode.c n ((rd x49 (Int.toNat x46)).1) (((rd x49 (Int.toNat x46)).2).1) ((((rd x49 (Int.toNat x46)).2).2).1) (((((rd x49 (Int.toNat x46)).2).2).2).1) ((((((rd x49 (Int.toNat x46)).2).2).2).2).1) t71 t72 (fun r73 r74 r75 r76 r77 r78 r79 => let t80 : List (tTNode) := ([(r73, r74, r75, r76, r77, r78, r79)] : List (tTNode)); grd (decide (x48.length + t80.length ≤ 790660046940)) (again3 (IntKind.wrap .i64 (x46 + 1)) (x48 ++ t80)))) ∧ (spec_l3CopyNode.c n ((rd x49 (Int.toNat x46)).1) (((rd x49 (Int.toNat x46)).2).1) ((((rd x49 (Int.toNat x46)).2).2).1) (((((rd x49 (Int.toNat x46)).2).2).2).1) ((((((rd x49 (Int.toNat x46)).2).2).2).2).1) t71 t72 (fun r81 r82 r83 r84 r85 r86 r87 => let p90 : Prop := (let t88 : List (tTNode) := ([(r81, r82, r83, r84, r85, r86, r87)] : List (tTNode)); grd (decide (x48.length + t88.length ≤ 790660046940)) (again3 (IntKind.wrap .i64 (x46 + 1)) (x48 ++ t88))); (p90 ∧ p90))))) else (Kx0w3 x47 x48)
def spec_l14CopyTerm.l3 : Nat → List (tTNode) → List (tTNode) → Int → List (tTNode) → (List (tTNode) → List (tTNode) → Prop) → Prop
 | 0, _, _, _, _, _ => False
 | n + 1, x47, x49, x46, x48, Kx0w3 => spec_l14CopyTerm.l3.b n  x47 x49 (fun x46q x48q => spec_l14CopyTerm.l3 n x47 x49 x46q x48q Kx0w3) x46 x48 Kx0w3
def spec_l14CopyTerm.w (n : Nat) (lp3 : List (tTNode) → List (tTNode) → Int → List (tTNode) → (List (tTNode) → List (tTNode) → Prop) → Prop) (a1 : List (tTNode)) (K : List (tTNode) → Prop) : Prop :=
 let t2 : List (tTNode) := ([] : List (tTNode)); let t3 : List (tTNode) := ([] : List (tTNode)); let t4 : List (tTNode) := ([] : List (tTNode)); lp3 t2 a1 0 t3 (fun y93 y94 => K y94)
def spec_l14CopyTerm.c : Nat → List (tTNode) → (List (tTNode) → Prop) → Prop
 | 0, _, _ => False
 | n + 1, a1, K => spec_l14CopyTerm.w n (spec_l14CopyTerm.l3 n) a1 K
def spec_l16Copy.l3.b (n : Nat) (x17 : List (tLiteral)) (again3 : Int → List (tLiteral) → Prop) (x18 : Int) (x19 : List (tLiteral)) (Kx0w3 : List (tLiteral) → Prop) : Prop :=
 if (decide (x18 < (x17.length : Int))) = true then (grd (decide (0 ≤ x18) && decide (x18 < (x17.length : Int))) (let t25 : List (tTNode) := ([] : List (tTNode)); let t26 : List (tTNode) := ([] : List (tTNode)); spec_l14CopyTerm.c n ((((rd x17 (Int.toNat x18)).2).2).1) (fun r27 => spec_l14CopyTerm.c n ((((rd x17 (Int.toNat x18)).2).2).2) (fun r28 => let t29 : List (tLiteral) := ([((rd x17 (Int.toNat x18)).1, ((rd x17 (Int.toNat x18)).2).1, r27, r28)] : List (tLiteral)); grd (decide (x19.length + t29.length ≤ 1082596064271)) (again3 (IntKind.wrap .i64 (x18 + 1)) (x19 ++ t29)))))) else (Kx0w3 x19)
def spec_l16Copy.l3 : Nat → List (tLiteral) → Int → List (tLiteral) → (List (tLiteral) → Prop) → Prop
 | 0, _, _, _, _ => False
 | n + 1, x17, x18, x19, Kx0w3 => spec_l16Copy.l3.b n  x17 (fun x18q x19q => spec_l16Copy.l3 n x17 x18q x19q Kx0w3) x18 x19 Kx0w3
def spec_l16Copy.w (n : Nat) (lp3 : List (tLiteral) → Int → List (tLiteral) → (List (tLiteral) → Prop) → Prop) (a1 : List (tLiteral)) (K : List (tLiteral) → Prop) : Prop :=
 let t2 : List (tLiteral) := ([] : List (tLiteral)); let t3 : List (tLiteral) := ([] : List (tLiteral)); lp3 a1 0 t3 (fun y31 => K y31)
def spec_l16Copy.c : Nat → List (tLiteral) → (List (tLiteral) → Prop) → Prop
 | 0, _, _ => False
 | n + 1, a1, K => spec_l16Copy.w n (spec_l16Copy.l3 n) a1 K
end Go.Vsi
end

section
set_option linter.unusedVariables false
set_option synthInstance.maxSize 4096
namespace Go.Vsi
def spec_l21Copy.l3.b (n : Nat) (x137 : List (tDecl)) (x138 : List (tDecl)) (x139 : List (tScope)) (x141 : List (tDecl)) (x142 : List (tScope)) (x143 : Int) (x144 : Int) (x145 : Int) (again3 : Int → List (tScope) → Prop) (x136 : Int) (x140 : List (tScope)) (Kx0w3 : List (tDecl) → List (tDecl) → List (tScope) → List (tScope) → Int → Int → Prop) : Prop :=
 if (decide (x136 < (x142.length : Int))) = true then (grd (decide (0 ≤ x136) && decide (x136 < (x142.length : Int))) (((grd (decide (0 ≤ x136) && decide (x136 < (x142.length : Int))) (let p177 : Prop := (spec_l16Copy.c n ((rd x142 (Int.toNat x136)).2) (fun r173 => let t174 : List (tScope) := ([((rd x142 (Int.toNat x136)).1, r173)] : List (tScope)); grd (decide (x140.length + t174.length ≤ 2132386187201)) (again3 (IntKind.wrap .i64 (x136 + 1)) (x140 ++ t174)))); (p177 ∧ p177))) ∧ (spec_l16Copy.c n ((rd x142 (Int.toNat x136)).2) (fun r178 => grd (decide (0 ≤ x136) && decide (x136 < (x142.length : Int))) (let t179 : List (tScope) := ([((rd x142 (Int.toNat x136)).1, r178)] : List (tScope)); grd (decide (x140.length + t179.length ≤ 2132386187201)) (again3 (IntKind.wrap .i64 (x136 + 1)) (x140 ++ t179)))))) ∧ (grd (decide (0 ≤ x136) && decide (x136 < (x142.length : Int))) ((let p184 : Prop := (spec_l16Copy.c n ((rd x142 (Int.toNat x136)).2) (fun r180 => let t181 : List (tScope) := ([((rd x142 (Int.toNat x136)).1, r180)] : List (tScope)); grd (decide (x140.length + t181.length ≤ 2132386187201)) (again3 (IntKind.wrap .i64 (x136 + 1)) (x140 ++ t181)))); (p184 ∧ p184)) ∧ ((spec_l16Copy.c n ((rd x142 (Int.toNat x136)).2) (fun r185 => let t186 : List (tScope) := ([((rd x142 (Int.toNat x136)).1, r185)] : List (tScope)); grd (decide (x140.length + t186.length ≤ 2132386187201)) (again3 (IntKind.wrap .i64 (x136 + 1)) (x140 ++ t186)))) ∧ (spec_l16Copy.c n ((rd x142 (Int.toNat x136)).2) (fun r187 => let p190 : Prop := (let t188 : List (tScope) := ([((rd x142 (Int.toNat x136)).1, r187)] : List (tScope)); grd (decide (x140.length + t188.length ≤ 2132386187201)) (again3 (IntKind.wrap .i64 (x136 + 1)) (x140 ++ t188))); (p190 ∧ p190)))) ∧ (spec_l16Copy.c n ((rd x142 (Int.toNat x136)).2) (fun r191 => let p194 : Prop := (let t192 : List (tScope) := ([((rd x142 (Int.toNat x136)).1, r191)] : List (tScope)); grd (decide (x140.length + t192.length ≤ 2132386187201)) (again3 (IntKind.wrap .i64 (x136 + 1)) (x140 ++ t192))); (p194 ∧ p194))))) ∧ (spec_l16Copy.c n ((rd x142 (Int.toNat x136)).2) (fun r195 => grd (decide (0 ≤ x136) && decide (x136 < (x142.length : Int))) (let p198 : Prop := (let t196 : List (tScope) := ([((rd x142 (Int.toNat x136)).1, r195)] : List (tScope)); grd (decide (x140.length + t196.length ≤ 2132386187201)) (again3 (IntKind.wrap .i64 (x136 + 1)) (x140 ++ t196))); (p198 ∧ p198)))))) else (Kx0w3 x137 x138 x139 x140 x144 x145)
def spec_l21Copy.l3 : Nat → List (tDecl) → List (tDecl) → List (tScope) → List (tDecl) → List (tScope) → Int → Int → Int → Int → List (tScope) → (List (tDecl) → List (tDecl) → List (tScope) → List (tScope) → Int → Int → Prop) → Prop
 | 0, _, _, _, _, _, _, _, _, _, _, _ => False
 | n + 1, x137, x138, x139, x141, x142, x143, x144, x145, x136, x140, Kx0w3 => spec_l21Copy.l3.b n  x137 x138 x139 x141 x142 x143 x144 x145 (fun x136q x140q => spec_l21Copy.l3 n x137 x138 x139 x141 x142 x143 x144 x145 x136q x140q Kx0w3) x136 x140 Kx0w3
def spec_l21Copy.w (n : Nat) (lp3 : List (tDecl) → List (tDecl) → List (tScope) → List (tDecl) → List (tScope) → Int → Int → Int → Int → List (tScope) → (List (tDecl) → List (tDecl) → List (tScope) → List (tScope) → Int → Int → Prop) → Prop) (a1 : List (tDecl)) (a2 : List (tScope)) (a3 : Int) (K : List (tDecl) → List (tScope) → Int → Prop) : Prop :=
 let t4 : List (tScope) := ([] : List (tScope)); let p637 : Prop := (let p540 : Prop := (let p468 : Prop := (grd (decide (([] : List (tDecl)).length + a1.length ≤ 2814749767106)) (let t440 : List (tScope) := ([] : List (tScope)); let t441 : List (tScope) := ([] : List (tScope)); lp3 (([] : List (tDecl)) ++ a1) ([] : List (tDecl)) t4 a1 a2 a3 0 a3 0 t440 (fun y448 y449 y450 y451 y452 y453 => K y448 y451 y453))); (p468 ∧ p468)); (p540 ∧ ((let p497 : Prop := (grd (decide (([] : List (tDecl)).length + a1.length ≤ 2814749767106)) (let t469 : List (tScope) := ([] : List (tScope)); let t470 : List (tScope) := ([] : List (tScope)); lp3 (([] : List (tDecl)) ++ a1) ([] : List (tDecl)) t4 a1 a2 a3 0 a3 0 t469 (fun y477 y478 y479 y480 y481 y482 => K y477 y480 y482))); (p497 ∧ p497)) ∧ (let t498 : List (tScope) := ([] : List (tScope)); grd (decide (([] : List (tDecl)).length + a1.length ≤ 2814749767106)) (let t499 : List (tScope) := ([] : List (tScope)); lp3 (([] : List (tDecl)) ++ a1) ([] : List (tDecl)) t4 a1 a2 a3 0 a3 0 t499 (fun y506 y507 y508 y509 y510 y511 => K y506 y509 y511)))) ∧ p540)); ((let p282 : Prop := (let p253 : Prop := (grd (decide (([] : List (tDecl)).length + a1.length ≤ 2814749767106)) (let t225 : List (tScope) := ([] : List (tScope)); let t226 : List (tScope) := ([] : List (tScope)); lp3 (([] : List (tDecl)) ++ a1) ([] : List (tDecl)) t4 a1 a2 a3 0 a3 0 t225 (fun y233 y234 y235 y236 y237 y238 => K y233 y236 y238))); (p253 ∧ p253)); ((grd (decide (([] : List (tDecl)).length + a1.length ≤ 2814749767106)) (let t211 : List (tScope) := ([] : List (tScope)); let t212 : List (tScope) := ([] : List (tScope)); lp3 (([] : List (tDecl)) ++ a1) ([] : List (tDecl)) t4 a1 a2 a3 0 a3 0 t211 (fun y219 y220 y221 y222 y223 y224 => K y219 y222 y224))) ∧ p282 ∧ p282)) ∧ (let p439 : Prop := ((let p383 : Prop := (grd (decide (([] : List (tDecl)).length + a1.length ≤ 2814749767106)) (let t355 : List (tScope) := ([] : List (tScope)); let t356 : List (tScope) := ([] : List (tScope)); lp3 (([] : List (tDecl)) ++ a1) ([] : List (tDecl)) t4 a1 a2 a3 0 a3 0 t355 (fun y363 y364 y365 y366 y367 y368 => K y363 y366 y368))); (p383 ∧ p383)) ∧ (let t384 : List (tScope) := ([] : List (tScope)); grd (decide (([] : List (tDecl)).length + a1.length ≤ 2814749767106)) (let t385 : List (tScope) := ([] : List (tScope)); lp3 (([] : List (tDecl)) ++ a1) ([] : List (tDecl)) t4 a1 a2 a3 0 a3 0 t385 (fun y392 y393 y394 y395 y396 y397 => K y392 y395 y397)))); ((let p354 : Prop := (let p325 : Prop := (grd (decide (([] : List (tDecl)).length + a1.length ≤ 2814749767106)) (let t297 : List (tScope) := ([] : List (tScope)); let t298 : List (tScope) := ([] : List (tScope)); lp3 (([] : List (tDecl)) ++ a1) ([] : List (tDecl)) t4 a1 a2 a3 0 a3 0 t297 (fun y305 y306 y307 y308 y309 y310 => K y305 y308 y310))); (p325 ∧ p325)); ((grd (decide (([] : List (tDecl)).length + a1.length ≤ 2814749767106)) (let t283 : List (tScope) := ([] : List (tScope)); let t284 : List (tScope) := ([] : List (tScope)); lp3 (([] : List (tDecl)) ++ a1) ([] : List (tDecl)) t4 a1 a2 a3 0 a3 0 t283 (fun y291 y292 y293 y294 y295 y296 => K y291 y294 y296))) ∧ p354 ∧ p354)) ∧ p439 ∧ p439)) ∧ p637 ∧ p637)
def spec_l21Copy.c : Nat → List (tDecl) → List (tScope) → Int → (List (tDecl) → List (tScope) → Int → Prop) → Prop
 | 0, _, _, _, _ => False
 | n + 1, a1, a2, a3, K => spec_l21Copy.w n (spec_l21Copy.l3 n) a1 a2 a3 K
def impl_nameOk.l4.b (n : Nat) (x35 : List UInt8) (again4 : Int → Prop) (x36 : Int) (Kx0w4 : Prop) (Kr4 : Bool → Prop) : Prop :=
 if (decide (x36 < (x35.length : Int))) = true then (grd (decide (0 ≤ x36) && decide (x36 < (x35.length : Int))) (let t57 : Int := ((List.getD x35 (Int.toNat x36) 0).toNat : Int); if (decide (t57 < 97)) = false then (grd (decide (0 ≤ x36) && decide (x36 < (x35.length : Int))) (let t58 : Int := ((List.getD x35 (Int.toNat x36) 0).toNat : Int); if (decide (t58 > 122)) = true then (grd (decide (0 ≤ x36) && decide (x36 < (x35.length : Int))) (let t59 : Int := ((List.getD x35 (Int.toNat x36) 0).toNat : Int); if (decide (t59 < 48)) = false then (grd (decide (0 ≤ x36) && decide (x36 < (x35.length : Int))) (let t60 : Int := ((List.getD x35 (Int.toNat x36) 0).toNat : Int); if (decide (t60 > 57)) = true then (Kr4 false) else (again4 (IntKind.wrap .i64 (x36 + 1))))) else (Kr4 false))) else (again4 (IntKind.wrap .i64 (x36 + 1))))) else (grd (decide (0 ≤ x36) && decide (x36 < (x35.length : Int))) (let t61 : Int := ((List.getD x35 (Int.toNat x36) 0).toNat : Int); if (decide (t61 < 48)) = false then (grd (decide (0 ≤ x36) && decide (x36 < (x35.length : Int))) (let t62 : Int := ((List.getD x35 (Int.toNat x36) 0).toNat : Int); if (decide (t62 > 57)) = true then (Kr4 false) else (again4 (IntKind.wrap .i64 (x36 + 1))))) else (Kr4 false))))) else (Kx0w4)
def impl_nameOk.l4 : Nat → List UInt8 → Int → Prop → (Bool → Prop) → Prop
 | 0, _, _, _, _ => False
 | n + 1, x35, x36, Kx0w4, Kr4 => impl_nameOk.l4.b n  x35 (fun x36q => impl_nameOk.l4 n x35 x36q Kx0w4 Kr4) x36 Kx0w4 Kr4
def impl_nameOk.w (n : Nat) (lp4 : List UInt8 → Int → Prop → (Bool → Prop) → Prop) (a1 : List UInt8) (K : Bool → Prop) : Prop :=
 if (decide ((a1.length : Int) < 1)) = false then (if (decide ((a1.length : Int) > 12)) = false then (grd (decide (0 < (a1.length : Int))) (let t70 : Bool := decide (((List.getD a1 0 0).toNat : Int) < 97); if t70 = false then (grd (decide (0 < (a1.length : Int))) (let t71 : Bool := decide (((List.getD a1 0 0).toNat : Int) > 122); if t71 = true then (K false) else (lp4 a1 0 (K true) (fun y73 => K y73)))) else (K false))) else (K false)) else (K false)
def impl_nameOk.c : Nat → List UInt8 → (Bool → Prop) → Prop
 | 0, _, _ => False
 | n + 1, a1, K => impl_nameOk.w n (impl_nameOk.l4 n) a1 K
def impl_inside.w (n : Nat) (a1 : Int) (a2 : Int) (a3 : Int) (K : Bool → Prop) : Prop :=
 if (decide (a1 ≥ a2)) = true then (K (decide (a1 ≤ a3))) else (K false)
def impl_inside.c : Nat → Int → Int → Int → (Bool → Prop) → Prop
 | 0, _, _, _, _ => False
 | n + 1, a1, a2, a3, K => impl_inside.w n  a1 a2 a3 K
def impl_declared_1.w (n : Nat) (a1 : List UInt8) (a2 : Int) (a3 : List UInt8) (K : Bool → Prop) : Prop :=
 K (a1 == a3)
def impl_declared_1.c : Nat → List UInt8 → Int → List UInt8 → (Bool → Prop) → Prop
 | 0, _, _, _, _ => False
 | n + 1, a1, a2, a3, K => impl_declared_1.w n  a1 a2 a3 K
def slices_IndexFunc_Decl__impl_declared_1.l2.b (n : Nat) (x9 : List (tDecl)) (x10 : List UInt8) (x11 : Int) (again2 : Int → Prop) (x12 : Int) (Kx0w2 : Prop) (Kr2 : Int → Prop) : Prop :=
 if (decide (x12 < x11)) = true then (grd (decide (0 ≤ x12) && decide (x12 < (x9.length : Int))) (impl_declared_1.c n ((rd x9 (Int.toNat x12)).1) ((rd x9 (Int.toNat x12)).2) x10 (fun r14 => if r14 = true then (Kr2 x12) else (again2 (IntKind.wrap .i64 (x12 + 1)))))) else (Kx0w2)
def slices_IndexFunc_Decl__impl_declared_1.l2 : Nat → List (tDecl) → List UInt8 → Int → Int → Prop → (Int → Prop) → Prop
 | 0, _, _, _, _, _, _ => False
 | n + 1, x9, x10, x11, x12, Kx0w2, Kr2 => slices_IndexFunc_Decl__impl_declared_1.l2.b n  x9 x10 x11 (fun x12q => slices_IndexFunc_Decl__impl_declared_1.l2 n x9 x10 x11 x12q Kx0w2 Kr2) x12 Kx0w2 Kr2
def slices_IndexFunc_Decl__impl_declared_1.w (n : Nat) (lp2 : List (tDecl) → List UInt8 → Int → Int → Prop → (Int → Prop) → Prop) (a1 : List (tDecl)) (a2 : List UInt8) (K : Int → Prop) : Prop :=
 lp2 a1 a2 (a1.length : Int) 0 (K (-1)) (fun y16 => K y16)
def slices_IndexFunc_Decl__impl_declared_1.c : Nat → List (tDecl) → List UInt8 → (Int → Prop) → Prop
 | 0, _, _, _ => False
 | n + 1, a1, a2, K => slices_IndexFunc_Decl__impl_declared_1.w n (slices_IndexFunc_Decl__impl_declared_1.l2 n) a1 a2 K
def impl_declared.w (n : Nat) (a1 : List (tDecl)) (a2 : List UInt8) (K : Int → Prop) : Prop :=
 slices_IndexFunc_Decl__impl_declared_1.c n a1 a2 (fun r3 => K r3)
def impl_declared.c : Nat → List (tDecl) → List UInt8 → (Int → Prop) → Prop
 | 0, _, _, _ => False
 | n + 1, a1, a2, K => impl_declared.w n  a1 a2 K
def impl_DeclsOk.l5.b (n : Nat) (x42 : List (tDecl)) (x44 : List (tDecl)) (x45 : Int) (again5 : Int → Int → Prop) (x43 : Int) (x46 : Int) (Kx0w5 : Int → Prop) (Kr5 : Bool → Prop) : Prop :=
 if (decide (x46 < x45)) = true then (grd (decide (0 ≤ x46) && decide (x46 < (x44.length : Int))) (impl_nameOk.c n ((rd x44 (Int.toNat x46)).1) (fun r78 => if (!r78) = false then (impl_inside.c n ((rd x44 (Int.toNat x46)).2) 1 4096 (fun r79 => if (!r79) = false then (grd ((decide (0 ≤ x46) && decide (x46 ≤ (x42.length : Int))) && decide (0 ≤ x46)) (impl_declared.c n (List.drop 0 (List.take (Int.toNat x46) x42)) ((rd x44 (Int.toNat x46)).1) (fun r80 => if (decide (r80 ≥ 0)) = true then (Kr5 false) else (let t81 : Int := IntKind.wrap .i64 (x43 + ((rd x44 (Int.toNat x46)).2)); again5 t81 (IntKind.wrap .i64 (x46 + 1)))))) else (Kr5 false))) else (Kr5 false)))) else (Kx0w5 x43)
def impl_DeclsOk.l5 : Nat → List (tDecl) → List (tDecl) → Int → Int → Int → (Int → Prop) → (Bool → Prop) → Prop
 | 0, _, _, _, _, _, _, _ => False
 | n + 1, x42, x44, x45, x43, x46, Kx0w5, Kr5 => impl_DeclsOk.l5.b n  x42 x44 x45 (fun x43q x46q => impl_DeclsOk.l5 n x42 x44 x45 x43q x46q Kx0w5 Kr5) x43 x46 Kx0w5 Kr5
def impl_DeclsOk.w (n : Nat) (lp5 : List (tDecl) → List (tDecl) → Int → Int → Int → (Int → Prop) → (Bool → Prop) → Prop) (a1 : List (tDecl)) (K : Bool → Prop) : Prop :=
 if (decide ((a1.length : Int) > 60)) = true then (K false) else (lp5 a1 a1 (a1.length : Int) 0 0 (fun y84 => K (decide (y84 ≤ 20000))) (fun y85 => K y85))
def impl_DeclsOk.c : Nat → List (tDecl) → (Bool → Prop) → Prop
 | 0, _, _ => False
 | n + 1, a1, K => impl_DeclsOk.w n (impl_DeclsOk.l5 n) a1 K
def impl_Session_end.w (n : Nat) (a1 : tSession) (a2 : Int) (K : Int → Prop) : Prop :=
 let t5 : Bool := decide (IntKind.wrap .i64 (a2 + 1) < (a1.2.1.length : Int)); if t5 = true then (grd (decide (0 ≤ IntKind.wrap .i64 (a2 + 1)) && decide (IntKind.wrap .i64 (a2 + 1) < (a1.2.1.length : Int))) (let t6 : tScope := rd a1.2.1 (Int.toNat (IntKind.wrap .i64 (a2 + 1))); K t6.1)) else (K (a1.1.length : Int))
def impl_Session_end.c : Nat → tSession → Int → (Int → Prop) → Prop
 | 0, _, _, _ => False
 | n + 1, a1, a2, K => impl_Session_end.w n  a1 a2 K
def impl_wordsFor.w (n : Nat) (a1 : Int) (K : Int → Prop) : Prop :=
 let t2 : Int := IntKind.wrap .i64 (Int.tdiv (IntKind.wrap .i64 (a1 + 63)) 64); K t2
def impl_wordsFor.c : Nat → Int → (Int → Prop) → Prop
 | 0, _, _ => False
 | n + 1, a1, K => impl_wordsFor.w n  a1 K
def impl_BitsOk.j0 (K : Bool → Prop) (a1 : Int) (a2 : List Int) : Prop :=
 if (decide (Int.tmod a1 64 = 0)) = false then (grd (decide (0 ≤ IntKind.wrap .i64 ((a2.length : Int) - 1)) && decide (IntKind.wrap .i64 ((a2.length : Int) - 1) < (a2.length : Int))) (let t14 : Int := rd a2 (Int.toNat (IntKind.wrap .i64 ((a2.length : Int) - 1))); grd (decide (0 ≤ Int.tmod a1 64)) (let t15 : Int := Int.fdiv t14 (2 ^ (Nat.min (Int.toNat (Int.tmod a1 64)) 64)); K (decide (t15 = 0))))) else (K true)
def impl_BitsOk.w (n : Nat) (a1 : Int) (a2 : List Int) (K : Bool → Prop) : Prop :=
 impl_inside.c n a1 1 4096 (fun r20 => if (!r20) = false then (let p23 : Prop := (impl_wordsFor.c n a1 (fun r21 => if (!(decide ((a2.length : Int) = r21))) = true then (K false) else (impl_BitsOk.j0 K a1 a2))); (p23 ∧ p23)) else ((K false) ∧ (K false)))
def impl_BitsOk.c : Nat → Int → List Int → (Bool → Prop) → Prop
 | 0, _, _, _ => False
 | n + 1, a1, a2, K => impl_BitsOk.w n  a1 a2 K
def impl_TNode_width.l11.b (n : Nat) (x24 : List Int) (x25 : Int) (again11 : Int → Int → Prop) (x23 : Int) (x26 : Int) (Kx1w11 : Int → Prop) : Prop :=
 if (decide (x26 < x25)) = true then (grd (decide (0 ≤ x26) && decide (x26 < (x24.length : Int))) (let t28 : Int := IntKind.wrap .i64 (x23 + (rd x24 (Int.toNat x26))); again11 t28 (IntKind.wrap .i64 (x26 + 1)))) else (Kx1w11 x23)
def impl_TNode_width.l11 : Nat → List Int → Int → Int → Int → (Int → Prop) → Prop
 | 0, _, _, _, _, _ => False
 | n + 1, x24, x25, x23, x26, Kx1w11 => impl_TNode_width.l11.b n  x24 x25 (fun x23q x26q => impl_TNode_width.l11 n x24 x25 x23q x26q Kx1w11) x23 x26 Kx1w11
def impl_TNode_width.j0 (Kc21w0 : Int → Prop) (Kc21w1 : Prop) (n : Nat) (x35 : tTNode) (x36 : Int) (j40 : Bool) : Prop :=
 if j40 = true then (Kc21w0 x36) else (if (decide (x35.1 = 9)) = true then (impl_inside.c n x35.2.2.1 1 4096 (fun r43 => if r43 = true then (Kc21w0 (IntKind.wrap .i64 (x36 * x35.2.2.1))) else (Kc21w1))) else (Kc21w1))
def impl_TNode_width.q21.b (n : Nat) (x35 : tTNode) (x36 : Int) (x37 : Bool) (Kc21w0 : Int → Prop) (Kc21w1 : Prop) : Prop :=
 if x37 = true then (Kc21w0 (IntKind.wrap .i64 (x36 + x35.2.2.1))) else (if (decide (x35.1 = 7)) = false then (if (decide (x35.1 = 8)) = true then (impl_inside.c n x35.2.2.1 0 4096 (fun r44 => impl_TNode_width.j0 Kc21w0 Kc21w1 n x35 x36 r44)) else (impl_TNode_width.j0 Kc21w0 Kc21w1 n x35 x36 false)) else (impl_inside.c n x35.2.2.1 0 4096 (fun r45 => impl_TNode_width.j0 Kc21w0 Kc21w1 n x35 x36 r45)))
def impl_TNode_width.q21 : Nat → tTNode → Int → Bool → (Int → Prop) → Prop → Prop
 | 0, _, _, _, _, _ => False
 | n + 1, x35, x36, x37, Kc21w0, Kc21w1 => impl_TNode_width.q21.b n  x35 x36 x37  Kc21w0 Kc21w1
def impl_TNode_width.j1 (Kc9w0 : Int → Prop) (Kc9w1 : Prop) (lpq21 : tTNode → Int → Bool → (Int → Prop) → Prop → Prop) (n : Nat) (x13 : tTNode) (x15 : Int) (j31 : Bool) : Prop :=
 if j31 = true then (let t33 : Int := IntKind.wrap .i64 ((IntKind.wrap .i64 (x13.2.2.1 - x13.2.2.2.1)) + 1); Kc9w0 t33) else (if (decide (x13.1 = 5)) = false then (if (decide (x13.1 = 6)) = true then (impl_inside.c n x13.2.2.1 0 4096 (fun r34 => lpq21 x13 x15 r34 (fun y46 => Kc9w0 y46) (Kc9w1))) else (lpq21 x13 x15 false (fun y47 => Kc9w0 y47) (Kc9w1))) else (impl_inside.c n x13.2.2.1 0 4096 (fun r48 => lpq21 x13 x15 r48 (fun y49 => Kc9w0 y49) (Kc9w1))))
def impl_TNode_width.q9.b (n : Nat) (lp11 : List Int → Int → Int → Int → (Int → Prop) → Prop) (lpq21 : tTNode → Int → Bool → (Int → Prop) → Prop → Prop) (x13 : tTNode) (x14 : List Int) (x15 : Int) (x16 : Bool) (Kc9w0 : Int → Prop) (Kc9w1 : Prop) : Prop :=
 if x16 = true then (lp11 x14 (x14.length : Int) 0 0 (fun y30 => Kc9w0 y30)) else (if (!(decide ((x14.length : Int) = 1))) = true then (Kc9w0 (-1)) else (if (decide (x13.1 = 4)) = true then (if (decide (x13.2.2.2.1 ≥ 0)) = true then (if (decide (x13.2.2.2.1 ≤ x13.2.2.1)) = true then (impl_TNode_width.j1 Kc9w0 Kc9w1 lpq21 n x13 x15 (decide (x13.2.2.1 < x15))) else (impl_TNode_width.j1 Kc9w0 Kc9w1 lpq21 n x13 x15 false)) else (impl_TNode_width.j1 Kc9w0 Kc9w1 lpq21 n x13 x15 false)) else (impl_TNode_width.j1 Kc9w0 Kc9w1 lpq21 n x13 x15 false)))
def impl_TNode_width.q9 : Nat → tTNode → List Int → Int → Bool → (Int → Prop) → Prop → Prop
 | 0, _, _, _, _, _, _ => False
 | n + 1, x13, x14, x15, x16, Kc9w0, Kc9w1 => impl_TNode_width.q9.b n (impl_TNode_width.l11 n) (impl_TNode_width.q21 n) x13 x14 x15 x16  Kc9w0 Kc9w1
def impl_TNode_width.j2 (Kc5w0 : Int → Prop) (Kc5w1 : Prop) (lpq9 : tTNode → List Int → Int → Bool → (Int → Prop) → Prop → Prop) (x6 : tTNode) (x8 : List Int) (x9 : Int) (j12 : Bool) : Prop :=
 if j12 = true then (Kc5w0 x6.2.2.2.2.1) else (if (decide (x6.1 = 3)) = true then (lpq9 x6 x8 x9 (decide ((x8.length : Int) > 1)) (fun y50 => Kc5w0 y50) (Kc5w1)) else (lpq9 x6 x8 x9 false (fun y51 => Kc5w0 y51) (Kc5w1)))
def impl_TNode_width.q5.b (n : Nat) (lpq9 : tTNode → List Int → Int → Bool → (Int → Prop) → Prop → Prop) (x6 : tTNode) (x7 : List (tDecl)) (x8 : List Int) (x9 : Int) (x10 : Bool) (Kc5w0 : Int → Prop) (Kc5w1 : Prop) : Prop :=
 if x10 = true then (grd (decide (0 ≤ x6.2.1) && decide (x6.2.1 < (x7.length : Int))) (Kc5w0 ((rd x7 (Int.toNat x6.2.1)).2))) else (if (decide (x6.1 = 2)) = true then (if (decide ((x8.length : Int) = 0)) = true then (impl_BitsOk.c n x6.2.2.2.2.1 x6.2.2.2.2.2.1 (fun r52 => impl_TNode_width.j2 Kc5w0 Kc5w1 lpq9 x6 x8 x9 r52)) else (impl_TNode_width.j2 Kc5w0 Kc5w1 lpq9 x6 x8 x9 false)) else (impl_TNode_width.j2 Kc5w0 Kc5w1 lpq9 x6 x8 x9 false))
def impl_TNode_width.q5 : Nat → tTNode → List (tDecl) → List Int → Int → Bool → (Int → Prop) → Prop → Prop
 | 0, _, _, _, _, _, _, _ => False
 | n + 1, x6, x7, x8, x9, x10, Kc5w0, Kc5w1 => impl_TNode_width.q5.b n (impl_TNode_width.q9 n) x6 x7 x8 x9 x10  Kc5w0 Kc5w1
def impl_TNode_width.j3 (K : Int → Prop) (a1 : tTNode) (a2 : List (tDecl)) (a3 : List Int) (lpq5 : tTNode → List (tDecl) → List Int → Int → Bool → (Int → Prop) → Prop → Prop) (n : Nat) (j4 : Int) : Prop :=
 if (decide (a1.1 = 1)) = true then (if (decide ((a3.length : Int) = 0)) = true then (impl_inside.c n a1.2.1 0 (IntKind.wrap .i64 ((a2.length : Int) - 1)) (fun r56 => lpq5 a1 a2 a3 j4 r56 (fun y57 => K y57) (K (-1)))) else (lpq5 a1 a2 a3 j4 false (fun y58 => K y58) (K (-1)))) else (lpq5 a1 a2 a3 j4 false (fun y59 => K y59) (K (-1)))
def impl_TNode_width.w (n : Nat) (lpq5 : tTNode → List (tDecl) → List Int → Int → Bool → (Int → Prop) → Prop → Prop) (a1 : tTNode) (a2 : List (tDecl)) (a3 : List Int) (K : Int → Prop) : Prop :=
 if (decide ((a3.length : Int) > 0)) = true then (grd (decide (0 < (a3.length : Int))) (impl_TNode_width.j3 K a1 a2 a3 lpq5 n (rd a3 0))) else (impl_TNode_width.j3 K a1 a2 a3 lpq5 n 0)
def impl_TNode_width.c : Nat → tTNode → List (tDecl) → List Int → (Int → Prop) → Prop
 | 0, _, _, _, _ => False
 | n + 1, a1, a2, a3, K => impl_TNode_width.w n (impl_TNode_width.q5 n) a1 a2 a3 K
def impl_TNode_plain.q3.b (n : Nat) (x4 : tTNode) (x5 : Bool) (Kc3w0 : Bool → Prop) (Kc3w1 : tTNode → Prop) : Prop :=
 if x5 = true then (Kc3w0 false) else (Kc3w1 x4)
def impl_TNode_plain.q3 : Nat → tTNode → Bool → (Bool → Prop) → (tTNode → Prop) → Prop
 | 0, _, _, _, _ => False
 | n + 1, x4, x5, Kc3w0, Kc3w1 => impl_TNode_plain.q3.b n  x4 x5  Kc3w0 Kc3w1
def impl_TNode_plain.j0 (Kc2w0 : Bool → Prop) (j28 : tTNode) : Prop :=
 if (decide (j28.1 = 2)) = false then (if (decide (j28.2.2.2.2.1 = 0)) = true then (Kc2w0 (decide ((j28.2.2.2.2.2.1.length : Int) = 0))) else (Kc2w0 false)) else (Kc2w0 true)
def impl_TNode_plain.q2.b (n : Nat) (lpq3 : tTNode → Bool → (Bool → Prop) → (tTNode → Prop) → Prop) (x2 : tTNode) (x3 : Bool) (Kc2w0 : Bool → Prop) : Prop :=
 if (!x3) = true then (if (!(decide (x2.2.2.1 = 0))) = false then (if (!(decide (x2.1 = 4))) = true then (if (!(decide (x2.2.2.2.1 = 0))) = false then (if (!(decide (x2.1 = 1))) = true then (lpq3 x2 (!(decide (x2.2.1 = 0))) (fun y30 => Kc2w0 y30) (fun y31 => impl_TNode_plain.j0 Kc2w0 y31)) else (lpq3 x2 false (fun y32 => Kc2w0 y32) (fun y33 => impl_TNode_plain.j0 Kc2w0 y33))) else (lpq3 x2 true (fun y34 => Kc2w0 y34) (fun y35 => impl_TNode_plain.j0 Kc2w0 y35))) else (if (!(decide (x2.1 = 1))) = true then (lpq3 x2 (!(decide (x2.2.1 = 0))) (fun y36 => Kc2w0 y36) (fun y37 => impl_TNode_plain.j0 Kc2w0 y37)) else (lpq3 x2 false (fun y38 => Kc2w0 y38) (fun y39 => impl_TNode_plain.j0 Kc2w0 y39)))) else (lpq3 x2 true (fun y40 => Kc2w0 y40) (fun y41 => impl_TNode_plain.j0 Kc2w0 y41))) else (if (!(decide (x2.1 = 4))) = true then (if (!(decide (x2.2.2.2.1 = 0))) = false then (if (!(decide (x2.1 = 1))) = true then (lpq3 x2 (!(decide (x2.2.1 = 0))) (fun y42 => Kc2w0 y42) (fun y43 => impl_TNode_plain.j0 Kc2w0 y43)) else (lpq3 x2 false (fun y44 => Kc2w0 y44) (fun y45 => impl_TNode_plain.j0 Kc2w0 y45))) else (lpq3 x2 true (fun y46 => Kc2w0 y46) (fun y47 => impl_TNode_plain.j0 Kc2w0 y47))) else (if (!(decide (x2.1 = 1))) = true then (lpq3 x2 (!(decide (x2.2.1 = 0))) (fun y48 => Kc2w0 y48) (fun y49 => impl_TNode_plain.j0 Kc2w0 y49)) else (lpq3 x2 false (fun y50 => Kc2w0 y50) (fun y51 => impl_TNode_plain.j0 Kc2w0 y51))))
def impl_TNode_plain.q2 : Nat → tTNode → Bool → (Bool → Prop) → Prop
 | 0, _, _, _ => False
 | n + 1, x2, x3, Kc2w0 => impl_TNode_plain.q2.b n (impl_TNode_plain.q3 n) x2 x3  Kc2w0
def impl_TNode_plain.w (n : Nat) (lpq2 : tTNode → Bool → (Bool → Prop) → Prop) (a1 : tTNode) (K : Bool → Prop) : Prop :=
 if (decide (a1.1 ≥ 4)) = true then (lpq2 a1 (decide (a1.1 ≤ 9)) (fun y52 => K y52)) else (lpq2 a1 false (fun y53 => K y53))
def impl_TNode_plain.c : Nat → tTNode → (Bool → Prop) → Prop
 | 0, _, _ => False
 | n + 1, a1, K => impl_TNode_plain.w n (impl_TNode_plain.q2 n) a1 K
def slices_Index_bool.l2.b (n : Nat) (x7 : List Bool) (x8 : Bool) (x9 : Int) (again2 : Int → Prop) (x10 : Int) (Kx0w2 : Prop) (Kr2 : Int → Prop) : Prop :=
 if (decide (x10 < x9)) = true then (grd (decide (0 ≤ x10) && decide (x10 < (x7.length : Int))) (if (x8 == (rd x7 (Int.toNat x10))) = true then (Kr2 x10) else (again2 (IntKind.wrap .i64 (x10 + 1))))) else (Kx0w2)
def slices_Index_bool.l2 : Nat → List Bool → Bool → Int → Int → Prop → (Int → Prop) → Prop
 | 0, _, _, _, _, _, _ => False
 | n + 1, x7, x8, x9, x10, Kx0w2, Kr2 => slices_Index_bool.l2.b n  x7 x8 x9 (fun x10q => slices_Index_bool.l2 n x7 x8 x9 x10q Kx0w2 Kr2) x10 Kx0w2 Kr2
def slices_Index_bool.w (n : Nat) (lp2 : List Bool → Bool → Int → Int → Prop → (Int → Prop) → Prop) (a1 : List Bool) (a2 : Bool) (K : Int → Prop) : Prop :=
 lp2 a1 a2 (a1.length : Int) 0 (K (-1)) (fun y12 => K y12)
def slices_Index_bool.c : Nat → List Bool → Bool → (Int → Prop) → Prop
 | 0, _, _, _ => False
 | n + 1, a1, a2, K => slices_Index_bool.w n (slices_Index_bool.l2 n) a1 a2 K
def slices_Contains_bool.w (n : Nat) (a1 : List Bool) (a2 : Bool) (K : Bool → Prop) : Prop :=
 slices_Index_bool.c n a1 a2 (fun r3 => K (decide (r3 ≥ 0)))
def slices_Contains_bool.c : Nat → List Bool → Bool → (Bool → Prop) → Prop
 | 0, _, _, _ => False
 | n + 1, a1, a2, K => slices_Contains_bool.w n  a1 a2 K
def impl_widths.l13.b (n : Nat) (x43 : List (tDecl)) (x44 : Int) (x45 : Int) (x46 : tTNode) (x47 : Int) (x48 : Int) (x49 : List Int) (x50 : Int) (x52 : List Int) (x55 : List (tTNode)) (again13 : Int → List Bool → List Int → Prop) (x51 : Int) (x53 : List Bool) (x54 : List Int) (Kx2w13 : List (tDecl) → Int → Int → tTNode → Int → Int → List Int → List Bool → List Int → List (tTNode) → Prop) (Kr13 : Bool → List Int → Prop) : Prop :=
 if (decide (x51 < x50)) = true then (grd (decide (0 ≤ x51) && decide (x51 < (x49.length : Int))) (impl_inside.c n (rd x49 (Int.toNat x51)) 0 (IntKind.wrap .i64 (x45 - 1)) (fun r61 => if (!r61) = true then (Kr13 false ([] : List (Int))) else (grd (decide (0 ≤ rd x49 (Int.toNat x51)) && decide (rd x49 (Int.toNat x51) < (x52.length : Int))) (grd (decide (0 ≤ rd x49 (Int.toNat x51)) && decide (rd x49 (Int.toNat x51) < (x53.length : Int))) (let t62 : List Bool := List.set x53 (Int.toNat (rd x49 (Int.toNat x51))) true; grd (decide (0 ≤ x51) && decide (x51 < (x54.length : Int))) (let t63 : List Int := List.set x54 (Int.toNat x51) (rd x52 (Int.toNat (rd x49 (Int.toNat x51)))); again13 (IntKind.wrap .i64 (x51 + 1)) t62 t63))))))) else (Kx2w13 x43 x44 x45 x46 x47 x48 x52 x53 x54 x55)
def impl_widths.l13 : Nat → List (tDecl) → Int → Int → tTNode → Int → Int → List Int → Int → List Int → List (tTNode) → Int → List Bool → List Int → (List (tDecl) → Int → Int → tTNode → Int → Int → List Int → List Bool → List Int → List (tTNode) → Prop) → (Bool → List Int → Prop) → Prop
 | 0, _, _, _, _, _, _, _, _, _, _, _, _, _, _, _ => False
 | n + 1, x43, x44, x45, x46, x47, x48, x49, x50, x52, x55, x51, x53, x54, Kx2w13, Kr13 => impl_widths.l13.b n  x43 x44 x45 x46 x47 x48 x49 x50 x52 x55 (fun x51q x53q x54q => impl_widths.l13 n x43 x44 x45 x46 x47 x48 x49 x50 x52 x55 x51q x53q x54q Kx2w13 Kr13) x51 x53 x54 Kx2w13 Kr13
def impl_widths.l6.b (n : Nat) (lp13 : List (tDecl) → Int → Int → tTNode → Int → Int → List Int → Int → List Int → List (tTNode) → Int → List Bool → List Int → (List (tDecl) → Int → Int → tTNode → Int → Int → List Int → List Bool → List Int → List (tTNode) → Prop) → (Bool → List Int → Prop) → Prop) (again6 : List (tDecl) → Int → Int → Int → List Int → List Bool → List (tTNode) → Prop) (x142 : List (tDecl)) (x143 : Int) (x144 : Int) (x145 : Int) (x146 : List Int) (x147 : List Bool) (x148 : List (tTNode)) (Kx0w6 : Int → List Int → List Bool → Prop) (Kr6 : Bool → List Int → Prop) : Prop :=
 if (decide (x145 < x144)) = true then (grd (decide (0 ≤ x145) && decide (x145 < (x148.length : Int))) (let t195 : List Int := ((((((rd x148 (Int.toNat x145)).2).2).2).2).2).2; if (decide ((t195.length : Int) > 4096)) = true then (Kr6 false ([] : List (Int))) else (let t196 : List Int := ((((((rd x148 (Int.toNat x145)).2).2).2).2).2).2; grd ((decide (0 ≤ (t196.length : Int)) && decide ((t196.length : Int) ≤ 7818749353073)) && decide ((t196.length : Int) = (t196.length : Int))) (let t197 : List Int := List.replicate (Int.toNat (t196.length : Int)) 0; let t211 : List Int := ((((((rd x148 (Int.toNat x145)).2).2).2).2).2).2; lp13 x142 x143 x145 (rd x148 (Int.toNat x145)) x144 x145 t211 (t211.length : Int) x146 x148 0 x147 t197 (fun y212 y213 y214 y215 y216 y217 y218 y219 y220 y221 => impl_TNode_width.c n y215 y212 y220 (fun r222 => grd (decide (0 ≤ y214) && decide (y214 < (y218.length : Int))) (impl_TNode_plain.c n y215 (fun r227 => if (!r227) = false then (grd (decide (0 ≤ y214) && decide (y214 < ((List.set y218 (Int.toNat y214) r222).length : Int))) (let t228 : Int := rd (List.set y218 (Int.toNat y214) r222) (Int.toNat y214); impl_inside.c n t228 1 4096 (fun r229 => if (!r229) = true then (Kr6 false ([] : List (Int))) else (again6 y212 y213 y216 (IntKind.wrap .i64 (y217 + 1)) (List.set y218 (Int.toNat y214) r222) y219 y221)))) else (Kr6 false ([] : List (Int))))))) (fun y230 y231 => Kr6 y230 y231))))) else (Kx0w6 x143 x146 x147)
def impl_widths.l6 : Nat → List (tDecl) → Int → Int → Int → List Int → List Bool → List (tTNode) → (Int → List Int → List Bool → Prop) → (Bool → List Int → Prop) → Prop
 | 0, _, _, _, _, _, _, _, _, _ => False
 | n + 1, x142, x143, x144, x145, x146, x147, x148, Kx0w6, Kr6 => impl_widths.l6.b n (impl_widths.l13 n)  (fun x142q x143q x144q x145q x146q x147q x148q => impl_widths.l6 n x142q x143q x144q x145q x146q x147q x148q Kx0w6 Kr6) x142 x143 x144 x145 x146 x147 x148 Kx0w6 Kr6
def impl_widths.j0 (K : List Int → Bool → Prop) (a1 : List (tDecl)) (a2 : List (tTNode)) (lp6 : List (tDecl) → Int → Int → Int → List Int → List Bool → List (tTNode) → (Int → List Int → List Bool → Prop) → (Bool → List Int → Prop) → Prop) (n : Nat) (j8 : List Int) (j9 : List Bool) : Prop :=
 lp6 a1 (a2.length : Int) (a2.length : Int) 0 j8 j9 a2 (fun y237 y238 y239 => grd ((decide (0 ≤ IntKind.wrap .i64 (y237 - 1)) && decide (IntKind.wrap .i64 (y237 - 1) ≤ (y239.length : Int))) && decide (0 ≤ IntKind.wrap .i64 (y237 - 1))) (slices_Contains_bool.c n (List.drop 0 (List.take (Int.toNat (IntKind.wrap .i64 (y237 - 1))) y239)) false (fun r240 => K y238 (!r240)))) (fun y241 y242 => K y242 y241)
def impl_widths.j1 (K : List Int → Bool → Prop) (a1 : List (tDecl)) (a2 : List (tTNode)) (lp6 : List (tDecl) → Int → Int → Int → List Int → List Bool → List (tTNode) → (Int → List Int → List Bool → Prop) → (Bool → List Int → Prop) → Prop) (n : Nat) : Prop :=
 (grd ((decide (0 ≤ (a2.length : Int)) && decide ((a2.length : Int) ≤ 7818749353073)) && decide ((a2.length : Int) = (a2.length : Int))) (let t243 : List Int := List.replicate (Int.toNat (a2.length : Int)) 0; grd ((decide (0 ≤ (a2.length : Int)) && decide ((a2.length : Int) ≤ 35184372088832)) && decide ((a2.length : Int) = (a2.length : Int))) (let t244 : List Bool := List.replicate (Int.toNat (a2.length : Int)) false; impl_widths.j0 K a1 a2 lp6 n t243 t244))) ∧ (grd ((decide (0 ≤ (a2.length : Int)) && decide ((a2.length : Int) ≤ 35184372088832)) && decide ((a2.length : Int) = (a2.length : Int))) (let t245 : List Bool := List.replicate (Int.toNat (a2.length : Int)) false; grd ((decide (0 ≤ (a2.length : Int)) && decide ((a2.length : Int) ≤ 7818749353073)) && decide ((a2.length : Int) = (a2.length : Int))) (let t246 : List Int := List.replicate (Int.toNat (a2.length : Int)) 0; impl_widths.j0 K a1 a2 lp6 n t246 t245)))
def impl_widths.w (n : Nat) (lp6 : List (tDecl) → Int → Int → Int → List Int → List Bool → List (tTNode) → (Int → List Int → List Bool → Prop) → (Bool → List Int → Prop) → Prop) (a1 : List (tDecl)) (a2 : List (tTNode)) (K : List Int → Bool → Prop) : Prop :=
 if (decide ((a2.length : Int) < 1)) = false then (if (decide ((a2.length : Int) > 400)) = true then (K ([] : List (Int)) false) else (impl_widths.j1 K a1 a2 lp6 n)) else (K ([] : List (Int)) false)
def impl_widths.c : Nat → List (tDecl) → List (tTNode) → (List Int → Bool → Prop) → Prop
 | 0, _, _, _ => False
 | n + 1, a1, a2, K => impl_widths.w n (impl_widths.l6 n) a1 a2 K
def impl_widthOf.w (n : Nat) (a1 : List (tDecl)) (a2 : List (tTNode)) (K : Int → Prop) : Prop :=
 impl_widths.c n a1 a2 (fun r3 r4 => if (!r4) = true then (K (-1)) else (grd (decide (0 ≤ IntKind.wrap .i64 ((r3.length : Int) - 1)) && decide (IntKind.wrap .i64 ((r3.length : Int) - 1) < (r3.length : Int))) (let t5 : Nat := Int.toNat (IntKind.wrap .i64 ((r3.length : Int) - 1)); K (rd r3 t5))))
def impl_widthOf.c : Nat → List (tDecl) → List (tTNode) → (Int → Prop) → Prop
 | 0, _, _, _ => False
 | n + 1, a1, a2, K => impl_widthOf.w n  a1 a2 K
def impl_literalsOk.l5.b (n : Nat) (x34 : List (tDecl)) (x36 : List (tLiteral)) (x37 : Int) (again5 : Int → Int → Prop) (x35 : Int) (x38 : Int) (Kx0w5 : Prop) (Kr5 : Bool → Prop) : Prop :=
 if (decide (x38 < x37)) = true then (grd (decide (0 ≤ x38) && decide (x38 < (x36.length : Int))) (let t52 : List (tTNode) := ([] : List (tTNode)); let t53 : List (tTNode) := ([] : List (tTNode)); impl_widthOf.c n x34 ((((rd x36 (Int.toNat x38)).2).2).1) (fun r54 => impl_inside.c n ((rd x36 (Int.toNat x38)).1) (IntKind.wrap .i64 (x35 + 1)) 1000000 (fun r63 => if (!r63) = false then (if (decide (r54 < 0)) = false then (impl_widthOf.c n x34 ((((rd x36 (Int.toNat x38)).2).2).2) (fun r64 => if (!(decide (r54 = r64))) = true then (Kr5 false) else (again5 ((rd x36 (Int.toNat x38)).1) (IntKind.wrap .i64 (x38 + 1))))) else (Kr5 false)) else (Kr5 false))))) else (Kx0w5)
def impl_literalsOk.l5 : Nat → List (tDecl) → List (tLiteral) → Int → Int → Int → Prop → (Bool → Prop) → Prop
 | 0, _, _, _, _, _, _, _ => False
 | n + 1, x34, x36, x37, x35, x38, Kx0w5, Kr5 => impl_literalsOk.l5.b n  x34 x36 x37 (fun x35q x38q => impl_literalsOk.l5 n x34 x36 x37 x35q x38q Kx0w5 Kr5) x35 x38 Kx0w5 Kr5
def impl_literalsOk.w (n : Nat) (lp5 : List (tDecl) → List (tLiteral) → Int → Int → Int → Prop → (Bool → Prop) → Prop) (a1 : List (tDecl)) (a2 : List (tLiteral)) (K : Bool → Prop) : Prop :=
 if (decide ((a2.length : Int) > 60)) = true then (K false) else (lp5 a1 a2 (a2.length : Int) 0 0 (K true) (fun y66 => K y66))
def impl_literalsOk.c : Nat → List (tDecl) → List (tLiteral) → (Bool → Prop) → Prop
 | 0, _, _, _ => False
 | n + 1, a1, a2, K => impl_literalsOk.w n (impl_literalsOk.l5 n) a1 a2 K
def impl_Session_all.l3.b (n : Nat) (x10 : List (tScope)) (x11 : Int) (again3 : Int → List (tLiteral) → Prop) (x12 : Int) (x13 : List (tLiteral)) (Kx0w3 : List (tLiteral) → Prop) : Prop :=
 if (decide (x12 < x11)) = true then (grd (decide (0 ≤ x12) && decide (x12 < (x10.length : Int))) (let t15 : List (tLiteral) := ([] : List (tLiteral)); grd (decide (x13.length + ((rd x10 (Int.toNat x12)).2).length ≤ 1082596064271)) (again3 (IntKind.wrap .i64 (x12 + 1)) (x13 ++ ((rd x10 (Int.toNat x12)).2))))) else (Kx0w3 x13)
def impl_Session_all.l3 : Nat → List (tScope) → Int → Int → List (tLiteral) → (List (tLiteral) → Prop) → Prop
 | 0, _, _, _, _, _ => False
 | n + 1, x10, x11, x12, x13, Kx0w3 => impl_Session_all.l3.b n  x10 x11 (fun x12q x13q => impl_Session_all.l3 n x10 x11 x12q x13q Kx0w3) x12 x13 Kx0w3
def impl_Session_all.w (n : Nat) (lp3 : List (tScope) → Int → Int → List (tLiteral) → (List (tLiteral) → Prop) → Prop) (a1 : tSession) (K : List (tLiteral) → Prop) : Prop :=
 let t2 : List (tLiteral) := ([] : List (tLiteral)); let t3 : List (tLiteral) := ([] : List (tLiteral)); lp3 a1.2.1 (a1.2.1.length : Int) 0 t3 (fun y17 => K y17)
def impl_Session_all.c : Nat → tSession → (List (tLiteral) → Prop) → Prop
 | 0, _, _ => False
 | n + 1, a1, K => impl_Session_all.w n (impl_Session_all.l3 n) a1 K
def impl_SessionOk.l5.b (n : Nat) (x39 : List (tScope)) (x40 : Int) (x42 : List (tDecl)) (x43 : List (tScope)) (x44 : Int) (again5 : Int → Int → Prop) (x38 : Int) (x41 : Int) (Kx0w5 : List (tDecl) → List (tScope) → Int → Prop) (Kr5 : Bool → Prop) : Prop :=
 if (decide (x41 < x40)) = true then (grd (decide (0 ≤ x41) && decide (x41 < (x39.length : Int))) (let t56 : List (tLiteral) := ([] : List (tLiteral)); if (decide (x41 = 0)) = true then (if (!(decide ((rd x39 (Int.toNat x41)).1 = 0))) = false then (impl_inside.c n ((rd x39 (Int.toNat x41)).1) x38 (x42.length : Int) (fun r65 => if (!r65) = true then (Kr5 false) else (again5 ((rd x39 (Int.toNat x41)).1) (IntKind.wrap .i64 (x41 + 1))))) else (Kr5 false)) else (impl_inside.c n ((rd x39 (Int.toNat x41)).1) x38 (x42.length : Int) (fun r66 => if (!r66) = true then (Kr5 false) else (again5 ((rd x39 (Int.toNat x41)).1) (IntKind.wrap .i64 (x41 + 1))))))) else (Kx0w5 x42 x43 x44)
def impl_SessionOk.l5 : Nat → List (tScope) → Int → List (tDecl) → List (tScope) → Int → Int → Int → (List (tDecl) → List (tScope) → Int → Prop) → (Bool → Prop) → Prop
 | 0, _, _, _, _, _, _, _, _, _ => False
 | n + 1, x39, x40, x42, x43, x44, x38, x41, Kx0w5, Kr5 => impl_SessionOk.l5.b n  x39 x40 x42 x43 x44 (fun x38q x41q => impl_SessionOk.l5 n x39 x40 x42 x43 x44 x38q x41q Kx0w5 Kr5) x38 x41 Kx0w5 Kr5
def impl_SessionOk.l12.b (n : Nat) (x136 : List (tScope)) (x137 : Int) (x139 : List (tDecl)) (x140 : List (tScope)) (x141 : Int) (again12 : Int → Prop) (x138 : Int) (Kx2w12 : List (tDecl) → List (tScope) → Int → Prop) (Kr12 : Bool → Prop) : Prop :=
 if (decide (x138 < x137)) = true then (grd (decide (0 ≤ x138) && decide (x138 < (x136.length : Int))) (let t180 : List (tLiteral) := ([] : List (tLiteral)); let p217 : Prop := (let p206 : Prop := (impl_Session_end.c n (x139, x140, x141) x138 (fun r200 => grd ((decide (0 ≤ r200) && decide (r200 ≤ (x139.length : Int))) && decide (0 ≤ r200)) (let t201 : List (tDecl) := List.drop 0 (List.take (Int.toNat r200) x139); impl_literalsOk.c n t201 ((rd x136 (Int.toNat x138)).2) (fun r202 => if (!r202) = true then (Kr12 false) else (again12 (IntKind.wrap .i64 (x138 + 1))))))); (p206 ∧ p206)); (p217 ∧ (impl_Session_end.c n (x139, x140, x141) x138 (fun r207 => grd ((decide (0 ≤ r207) && decide (r207 ≤ (x139.length : Int))) && decide (0 ≤ r207)) (let t208 : List (tDecl) := List.drop 0 (List.take (Int.toNat r207) x139); impl_literalsOk.c n t208 ((rd x136 (Int.toNat x138)).2) (fun r209 => if (!r209) = true then (Kr12 false) else (again12 (IntKind.wrap .i64 (x138 + 1))))))) ∧ p217))) else (Kx2w12 x139 x140 x141)
def impl_SessionOk.l12 : Nat → List (tScope) → Int → List (tDecl) → List (tScope) → Int → Int → (List (tDecl) → List (tScope) → Int → Prop) → (Bool → Prop) → Prop
 | 0, _, _, _, _, _, _, _, _ => False
 | n + 1, x136, x137, x139, x140, x141, x138, Kx2w12, Kr12 => impl_SessionOk.l12.b n  x136 x137 x139 x140 x141 (fun x138q => impl_SessionOk.l12 n x136 x137 x139 x140 x141 x138q Kx2w12 Kr12) x138 Kx2w12 Kr12
def impl_SessionOk.l21.b (n : Nat) (x242 : Int) (x244 : List (tLiteral)) (x245 : List (tDecl)) (x246 : List (tScope)) (x247 : Int) (again21 : Int → Prop) (x243 : Int) (Kx4w21 : Prop) (Kr21 : Bool → Prop) : Prop :=
 if (decide (x243 < x242)) = true then (grd (decide (0 ≤ x243) && decide (x243 < (x244.length : Int))) (let t253 : List (tTNode) := ([] : List (tTNode)); let t254 : List (tTNode) := ([] : List (tTNode)); if (decide ((rd x244 (Int.toNat x243)).1 ≥ x247)) = false then (if (decide (x243 > 0)) = true then (grd (decide (0 ≤ IntKind.wrap .i64 (x243 - 1)) && decide (IntKind.wrap .i64 (x243 - 1) < (x244.length : Int))) (let t257 : Int := (rd x244 (Int.toNat (IntKind.wrap .i64 (x243 - 1)))).1; if (decide (t257 ≥ (rd x244 (Int.toNat x243)).1)) = true then (Kr21 false) else (again21 (IntKind.wrap .i64 (x243 + 1))))) else (again21 (IntKind.wrap .i64 (x243 + 1)))) else (Kr21 false))) else (Kx4w21)
def impl_SessionOk.l21 : Nat → Int → List (tLiteral) → List (tDecl) → List (tScope) → Int → Int → Prop → (Bool → Prop) → Prop
 | 0, _, _, _, _, _, _, _, _ => False
 | n + 1, x242, x244, x245, x246, x247, x243, Kx4w21, Kr21 => impl_SessionOk.l21.b n  x242 x244 x245 x246 x247 (fun x243q => impl_SessionOk.l21 n x242 x244 x245 x246 x247 x243q Kx4w21 Kr21) x243 Kx4w21 Kr21
def impl_SessionOk.j0 (K : Bool → Prop) (a1 : List (tDecl)) (a2 : List (tScope)) (a3 : Int) (lp5 : List (tScope) → Int → List (tDecl) → List (tScope) → Int → Int → Int → (List (tDecl) → List (tScope) → Int → Prop) → (Bool → Prop) → Prop) (lp12 : List (tScope) → Int → List (tDecl) → List (tScope) → Int → Int → (List (tDecl) → List (tScope) → Int → Prop) → (Bool → Prop) → Prop) (lp21 : Int → List (tLiteral) → List (tDecl) → List (tScope) → Int → Int → Prop → (Bool → Prop) → Prop) (n : Nat) : Prop :=
 lp5 a2 (a2.length : Int) a1 a2 a3 0 0 (fun y71 y72 y73 => lp12 y72 (y72.length : Int) y71 y72 y73 0 (fun y222 y223 y224 => impl_Session_all.c n (y222, y223, y224) (fun r225 => if (decide ((r225.length : Int) > 60)) = true then (K false) else (lp21 (r225.length : Int) r225 y222 y223 y224 0 (K true) (fun y259 => K y259)))) (fun y260 => K y260)) (fun y261 => K y261)
def impl_SessionOk.w (n : Nat) (lp5 : List (tScope) → Int → List (tDecl) → List (tScope) → Int → Int → Int → (List (tDecl) → List (tScope) → Int → Prop) → (Bool → Prop) → Prop) (lp12 : List (tScope) → Int → List (tDecl) → List (tScope) → Int → Int → (List (tDecl) → List (tScope) → Int → Prop) → (Bool → Prop) → Prop) (lp21 : Int → List (tLiteral) → List (tDecl) → List (tScope) → Int → Int → Prop → (Bool → Prop) → Prop) (a1 : List (tDecl)) (a2 : List (tScope)) (a3 : Int) (K : Bool → Prop) : Prop :=
 impl_DeclsOk.c n a1 (fun r265 => if (!r265) = false then (if (decide ((a2.length : Int) < 1)) = false then (if (decide ((a2.length : Int) > 20)) = false then (impl_inside.c n a3 1 1000000 (fun r266 => if (!r266) = true then (K false) else (impl_SessionOk.j0 K a1 a2 a3 lp5 lp12 lp21 n))) else (K false)) else (K false)) else (K false))
def impl_SessionOk.c : Nat → List (tDecl) → List (tScope) → Int → (Bool → Prop) → Prop
 | 0, _, _, _, _ => False
 | n + 1, a1, a2, a3, K => impl_SessionOk.w n (impl_SessionOk.l5 n) (impl_SessionOk.l12 n) (impl_SessionOk.l21 n) a1 a2 a3 K
def slices_Clone_Decl.j0 (K : List (tDecl) → Prop) (a1 : List (tDecl)) (j3 : Bool) : Prop :=
 if j3 = true then (K ([] : List (tDecl))) else (grd (decide (([] : List (tDecl)).length + a1.length ≤ 2814749767106)) (K (([] : List (tDecl)) ++ a1)))
def slices_Clone_Decl.w (n : Nat) (a1 : List (tDecl)) (K : List (tDecl) → Prop) : Prop :=
 (a1.length = 0 → (slices_Clone_Decl.j0 K a1 true)) ∧ (slices_Clone_Decl.j0 K a1 false)
def slices_Clone_Decl.c : Nat → List (tDecl) → (List (tDecl) → Prop) → Prop
 | 0, _, _ => False
 | n + 1, a1, K => slices_Clone_Decl.w n  a1 K
def slices_Clone_uint64.w (n : Nat) (a1 : List Int) (K : List Int → Prop) : Prop :=
 (a1.length = 0 → (K ([] : List (Int)))) ∧ (grd (decide (([] : List (Int)).length + a1.length ≤ 7818749353073)) (K (([] : List (Int)) ++ a1)))
def slices_Clone_uint64.c : Nat → List Int → (List Int → Prop) → Prop
 | 0, _, _ => False
 | n + 1, a1, K => slices_Clone_uint64.w n  a1 K
def impl_cloneBits.w (n : Nat) (a1 : Int) (a2 : List Int) (K : Int → List Int → Prop) : Prop :=
 (slices_Clone_uint64.c n a2 (fun r6 => K a1 r6)) ∧ (slices_Clone_uint64.c n a2 (fun r7 => K a1 r7))
def impl_cloneBits.c : Nat → Int → List Int → (Int → List Int → Prop) → Prop
 | 0, _, _, _ => False
 | n + 1, a1, a2, K => impl_cloneBits.w n  a1 a2 K
def slices_Clone_int64.w (n : Nat) (a1 : List Int) (K : List Int → Prop) : Prop :=
 (a1.length = 0 → (K ([] : List (Int)))) ∧ (grd (decide (([] : List (Int)).length + a1.length ≤ 7818749353073)) (K (([] : List (Int)) ++ a1)))
def slices_Clone_int64.c : Nat → List Int → (List Int → Prop) → Prop
 | 0, _, _ => False
 | n + 1, a1, K => slices_Clone_int64.w n  a1 K
def impl_cloneNode.w (n : Nat) (a1 : Int) (a2 : Int) (a3 : Int) (a4 : Int) (a5 : Int) (a6 : List Int) (a7 : List Int) (K : Int → Int → Int → Int → Int → List Int → List Int → Prop) : Prop :=
 impl_cloneBits.c n a5 a6 (fun r8 r9 => slices_Clone_int64.c n a7 (fun r10 => K a1 a2 a3 a4 r8 r9 r10))
def impl_cloneNode.c : Nat → Int → Int → Int → Int → Int → List Int → List Int → (Int → Int → Int → Int → Int → List Int → List Int → Prop) → Prop
 | 0, _, _, _, _, _, _, _, _ => False
 | n + 1, a1, a2, a3, a4, a5, a6, a7, K => impl_cloneNode.w n  a1 a2 a3 a4 a5 a6 a7 K
def impl_cloneTerm.l3.b (n : Nat) (x45 : List (tTNode)) (x46 : Int) (x49 : List (tTNode)) (again3 : Int → List (tTNode) → Prop) (x47 : Int) (x48 : List (tTNode)) (Kx0w3 : List (tTNode) → List (tTNode) → Prop) : Prop :=
 if (decide (x47 < x46)) = true then (grd (decide (0 ≤ x47) && decide (x47 < (x45.length : Int))) (let t70 : List Int := ((((((rd x45 (Int.toNat x47)).2).2).2).2).2).1; let t71 : List Int := ((((((rd x45 (Int.toNat x47)).2).2).2).2).2).2; let p88 : Prop := (impl_cloneNode.c n ((rd x45 (Int.toNat x47)).1) (((rd x45 (Int.toNat x47)).2).1) ((((rd x45 (Int.toNat x47)).2).2).1) (((((rd x45 (Int.toNat x47)).2).2).2).1) ((((((rd x45 (Int.toNat x47)).2).2).2).2).1) t70 t71 (fun r72 r73 r74 r75 r76 r77 r78 => grd (decide (0 ≤ x47) && decide (x47 < (x48.length : Int))) (let t79 : List (tTNode) := List.set x48 (Int.toNat x47) (r72, r73, r74, r75, r76, r77, r78); again3 (IntKind.wrap .i64 (x47 + 1)) t79))); (p88 ∧ p88))) else (Kx0w3 x48 x49)
def impl_cloneTerm.l3 : Nat → List (tTNode) → Int → List (tTNode) → Int → List (tTNode) → (List (tTNode) → List (tTNode) → Prop) → Prop
 | 0, _, _, _, _, _, _ => False
 | n + 1, x45, x46, x49, x47, x48, Kx0w3 => impl_cloneTerm.l3.b n  x45 x46 x49 (fun x47q x48q => impl_cloneTerm.l3 n x45 x46 x49 x47q x48q Kx0w3) x47 x48 Kx0w3
def impl_cloneTerm.w (n : Nat) (lp3 : List (tTNode) → Int → List (tTNode) → Int → List (tTNode) → (List (tTNode) → List (tTNode) → Prop) → Prop) (a1 : List (tTNode)) (K : List (tTNode) → Prop) : Prop :=
 let t2 : List (tTNode) := ([] : List (tTNode)); grd ((decide (0 ≤ (a1.length : Int)) && decide ((a1.length : Int) ≤ 790660046940)) && decide ((a1.length : Int) = (a1.length : Int))) (let t3 : List (tTNode) := List.replicate (Int.toNat (a1.length : Int)) (0, 0, 0, 0, 0, ([] : List (Int)), ([] : List (Int))); let t4 : List (tTNode) := ([] : List (tTNode)); lp3 a1 (a1.length : Int) t2 0 t3 (fun y91 y92 => K y91))
def impl_cloneTerm.c : Nat → List (tTNode) → (List (tTNode) → Prop) → Prop
 | 0, _, _ => False
 | n + 1, a1, K => impl_cloneTerm.w n (impl_cloneTerm.l3 n) a1 K
def impl_cloneLiterals.j3 (again3 : Int → List (tLiteral) → Prop) (x38 : List (tLiteral)) (x40 : Int) (x41 : List (tLiteral)) (j64 : List (tTNode)) (j65 : List (tTNode)) : Prop :=
 grd (decide (0 ≤ x40) && decide (x40 < (x41.length : Int))) (let t66 : List (tLiteral) := List.set x41 (Int.toNat x40) ((rd x38 (Int.toNat x40)).1, ((rd x38 (Int.toNat x40)).2).1, j64, j65); again3 (IntKind.wrap .i64 (x40 + 1)) t66)
def impl_cloneLiterals.l3.b (n : Nat) (x38 : List (tLiteral)) (x39 : Int) (again3 : Int → List (tLiteral) → Prop) (x40 : Int) (x41 : List (tLiteral)) (Kx0w3 : List (tLiteral) → Prop) : Prop :=
 if (decide (x40 < x39)) = true then (grd (decide (0 ≤ x40) && decide (x40 < (x38.length : Int))) (let t57 : List (tTNode) := ([] : List (tTNode)); let t58 : List (tTNode) := ([] : List (tTNode)); let p71 : Prop := (impl_cloneTerm.c n ((((rd x38 (Int.toNat x40)).2).2).1) (fun r67 => impl_cloneTerm.c n ((((rd x38 (Int.toNat x40)).2).2).2) (fun r68 => impl_cloneLiterals.j3 again3 x38 x40 x41 r67 r68))); (p71 ∧ p71))) else (Kx0w3 x41)
def impl_cloneLiterals.l3 : Nat → List (tLiteral) → Int → Int → List (tLiteral) → (List (tLiteral) → Prop) → Prop
 | 0, _, _, _, _, _ => False
 | n + 1, x38, x39, x40, x41, Kx0w3 => impl_cloneLiterals.l3.b n  x38 x39 (fun x40q x41q => impl_cloneLiterals.l3 n x38 x39 x40q x41q Kx0w3) x40 x41 Kx0w3
def impl_cloneLiterals.w (n : Nat) (lp3 : List (tLiteral) → Int → Int → List (tLiteral) → (List (tLiteral) → Prop) → Prop) (a1 : List (tLiteral)) (K : List (tLiteral) → Prop) : Prop :=
 let t2 : List (tLiteral) := ([] : List (tLiteral)); grd ((decide (0 ≤ (a1.length : Int)) && decide ((a1.length : Int) ≤ 1082596064271)) && decide ((a1.length : Int) = (a1.length : Int))) (let t3 : List (tLiteral) := List.replicate (Int.toNat (a1.length : Int)) (0, false, ([] : List (tTNode)), ([] : List (tTNode))); lp3 a1 (a1.length : Int) 0 t3 (fun y73 => K y73))
def impl_cloneLiterals.c : Nat → List (tLiteral) → (List (tLiteral) → Prop) → Prop
 | 0, _, _ => False
 | n + 1, a1, K => impl_cloneLiterals.w n (impl_cloneLiterals.l3 n) a1 K
def impl_cloneSession.l3.b (n : Nat) (x55 : List (tScope)) (x56 : Int) (x58 : List (tDecl)) (x60 : List (tDecl)) (x61 : List (tScope)) (x62 : Int) (x63 : Int) (again3 : Int → List (tScope) → Prop) (x57 : Int) (x59 : List (tScope)) (Kx0w3 : List (tDecl) → List (tScope) → List (tDecl) → List (tScope) → Int → Int → Prop) : Prop :=
 if (decide (x57 < x56)) = true then (grd (decide (0 ≤ x57) && decide (x57 < (x55.length : Int))) (let t79 : List (tLiteral) := ([] : List (tLiteral)); let p92 : Prop := (let p84 : Prop := (impl_cloneLiterals.c n ((rd x55 (Int.toNat x57)).2) (fun r80 => grd (decide (0 ≤ x57) && decide (x57 < (x59.length : Int))) (let t81 : List (tScope) := List.set x59 (Int.toNat x57) ((rd x55 (Int.toNat x57)).1, r80); again3 (IntKind.wrap .i64 (x57 + 1)) t81))); (p84 ∧ p84)); (p92 ∧ p92 ∧ (impl_cloneLiterals.c n ((rd x55 (Int.toNat x57)).2) (fun r90 => grd (decide (0 ≤ x57) && decide (x57 < (x59.length : Int))) (let t91 : List (tScope) := List.set x59 (Int.toNat x57) ((rd x55 (Int.toNat x57)).1, r90); again3 (IntKind.wrap .i64 (x57 + 1)) t91)))))) else (Kx0w3 x58 x59 x60 x61 x62 x63)
def impl_cloneSession.l3 : Nat → List (tScope) → Int → List (tDecl) → List (tDecl) → List (tScope) → Int → Int → Int → List (tScope) → (List (tDecl) → List (tScope) → List (tDecl) → List (tScope) → Int → Int → Prop) → Prop
 | 0, _, _, _, _, _, _, _, _, _, _ => False
 | n + 1, x55, x56, x58, x60, x61, x62, x63, x57, x59, Kx0w3 => impl_cloneSession.l3.b n  x55 x56 x58 x60 x61 x62 x63 (fun x57q x59q => impl_cloneSession.l3 n x55 x56 x58 x60 x61 x62 x63 x57q x59q Kx0w3) x57 x59 Kx0w3
def impl_cloneSession.q2.b (n : Nat) (lp3 : List (tScope) → Int → List (tDecl) → List (tDecl) → List (tScope) → Int → Int → Int → List (tScope) → (List (tDecl) → List (tScope) → List (tDecl) → List (tScope) → Int → Int → Prop) → Prop) (x8 : List (tDecl)) (x9 : List (tScope)) (x10 : List (tDecl)) (x11 : List (tScope)) (x12 : List (tDecl)) (x13 : List (tScope)) (x14 : Int) (x15 : Int) (x16 : Int) (Kc2w0 : List (tDecl) → List (tScope) → Int → Prop) : Prop :=
 lp3 x13 (x13.length : Int) x8 x10 x11 x15 x16 0 x9 (fun y99 y100 y101 y102 y103 y104 => Kc2w0 y99 y100 y104)
def impl_cloneSession.q2 : Nat → List (tDecl) → List (tScope) → List (tDecl) → List (tScope) → List (tDecl) → List (tScope) → Int → Int → Int → (List (tDecl) → List (tScope) → Int → Prop) → Prop
 | 0, _, _, _, _, _, _, _, _, _, _ => False
 | n + 1, x8, x9, x10, x11, x12, x13, x14, x15, x16, Kc2w0 => impl_cloneSession.q2.b n (impl_cloneSession.l3 n) x8 x9 x10 x11 x12 x13 x14 x15 x16  Kc2w0
def impl_cloneSession.w (n : Nat) (lpq2 : List (tDecl) → List (tScope) → List (tDecl) → List (tScope) → List (tDecl) → List (tScope) → Int → Int → Int → (List (tDecl) → List (tScope) → Int → Prop) → Prop) (a1 : List (tDecl)) (a2 : List (tScope)) (a3 : Int) (K : List (tDecl) → List (tScope) → Int → Prop) : Prop :=
 let t4 : List (tScope) := ([] : List (tScope)); let p942 : Prop := (((slices_Clone_Decl.c n a1 (fun r644 => let p655 : Prop := (grd ((decide (0 ≤ (a2.length : Int)) && decide ((a2.length : Int) ≤ 2132386187201)) && decide ((a2.length : Int) = (a2.length : Int))) (let t645 : List (tScope) := List.replicate (Int.toNat (a2.length : Int)) (0, ([] : List (tLiteral))); let t646 : List (tScope) := ([] : List (tScope)); lpq2 r644 t645 ([] : List (tDecl)) t4 a1 a2 a3 0 a3 (fun y647 y648 y649 => K y647 y648 y649))); (p655 ∧ p655))) ∧ ((slices_Clone_Decl.c n a1 (fun r656 => let p667 : Prop := (grd ((decide (0 ≤ (a2.length : Int)) && decide ((a2.length : Int) ≤ 2132386187201)) && decide ((a2.length : Int) = (a2.length : Int))) (let t657 : List (tScope) := List.replicate (Int.toNat (a2.length : Int)) (0, ([] : List (tLiteral))); let t658 : List (tScope) := ([] : List (tScope)); lpq2 r656 t657 ([] : List (tDecl)) t4 a1 a2 a3 0 a3 (fun y659 y660 y661 => K y659 y660 y661))); (p667 ∧ p667))) ∧ (grd ((decide (0 ≤ (a2.length : Int)) && decide ((a2.length : Int) ≤ 2132386187201)) && decide ((a2.length : Int) = (a2.length : Int))) (let t668 : List (tScope) := List.replicate (Int.toNat (a2.length : Int)) (0, ([] : List (tLiteral))); let p679 : Prop := (slices_Clone_Decl.c n a1 (fun r669 => let t670 : List (tScope) := ([] : List (tScope)); lpq2 r669 t668 ([] : List (tDecl)) t4 a1 a2 a3 0 a3 (fun y671 y672 y673 => K y671 y672 y673))); (p679 ∧ p679))) ∧ (let t680 : List (tScope) := ([] : List (tScope)); (slices_Clone_Decl.c n a1 (fun r681 => grd ((decide (0 ≤ (a2.length : Int)) && decide ((a2.length : Int) ≤ 2132386187201)) && decide ((a2.length : Int) = (a2.length : Int))) (let t682 : List (tScope) := List.replicate (Int.toNat (a2.length : Int)) (0, ([] : List (tLiteral))); lpq2 r681 t682 ([] : List (tDecl)) t4 a1 a2 a3 0 a3 (fun y683 y684 y685 => K y683 y684 y685)))) ∧ (grd ((decide (0 ≤ (a2.length : Int)) && decide ((a2.length : Int) ≤ 2132386187201)) && decide ((a2.length : Int) = (a2.length : Int))) (let t686 : List (tScope) := List.replicate (Int.toNat (a2.length : Int)) (0, ([] : List (tLiteral))); slices_Clone_Decl.c n a1 (fun r687 => lpq2 r687 t686 ([] : List (tDecl)) t4 a1 a2 a3 0 a3 (fun y688 y689 y690 => K y688 y689 y690)))))) ∧ (let t691 : List (tScope) := ([] : List (tScope)); (slices_Clone_Decl.c n a1 (fun r692 => grd ((decide (0 ≤ (a2.length : Int)) && decide ((a2.length : Int) ≤ 2132386187201)) && decide ((a2.length : Int) = (a2.length : Int))) (let t693 : List (tScope) := List.replicate (Int.toNat (a2.length : Int)) (0, ([] : List (tLiteral))); lpq2 r692 t693 ([] : List (tDecl)) t4 a1 a2 a3 0 a3 (fun y694 y695 y696 => K y694 y695 y696)))) ∧ ((slices_Clone_Decl.c n a1 (fun r697 => grd ((decide (0 ≤ (a2.length : Int)) && decide ((a2.length : Int) ≤ 2132386187201)) && decide ((a2.length : Int) = (a2.length : Int))) (let t698 : List (tScope) := List.replicate (Int.toNat (a2.length : Int)) (0, ([] : List (tLiteral))); lpq2 r697 t698 ([] : List (tDecl)) t4 a1 a2 a3 0 a3 (fun y699 y700 y701 => K y699 y700 y701)))) ∧ (grd ((decide (0 ≤ (a2.length : Int)) && decide ((a2.length : Int) ≤ 2132386187201)) && decide ((a2.length : Int) = (a2.length : Int))) (let t702 : List (tScope) := List.replicate (Int.toNat (a2.length : Int)) (0, ([] : List (tLiteral))); slices_Clone_Decl.c n a1 (fun r703 => lpq2 r703 t702 ([] : List (tDecl)) t4 a1 a2 a3 0 a3 (fun y704 y705 y706 => K y704 y705 y706))))))) ∧ (((slices_Clone_Decl.c n a1 (fun r707 => let p718 : Prop := (grd ((decide (0 ≤ (a2.length : Int)) && decide ((a2.length : Int) ≤ 2132386187201)) && decide ((a2.length : Int) = (a2.length : Int))) (let t708 : List (tScope) := List.replicate (Int.toNat (a2.length : Int)) (0, ([] : List (tLiteral))); let t709 : List (tScope) := ([] : List (tScope)); lpq2 r707 t708 ([] : List (tDecl)) t4 a1 a2 a3 0 a3 (fun y710 y711 y712 => K y710 y711 y712))); (p718 ∧ p718))) ∧ (grd ((decide (0 ≤ (a2.length : Int)) && decide ((a2.length : Int) ≤ 2132386187201)) && decide ((a2.length : Int) = (a2.length : Int))) (let t719 : List (tScope) := List.replicate (Int.toNat (a2.length : Int)) (0, ([] : List (tLiteral))); let p730 : Prop := (slices_Clone_Decl.c n a1 (fun r720 => let t721 : List (tScope) := ([] : List (tScope)); lpq2 r720 t719 ([] : List (tDecl)) t4 a1 a2 a3 0 a3 (fun y722 y723 y724 => K y722 y723 y724))); (p730 ∧ p730))) ∧ (let t731 : List (tScope) := ([] : List (tScope)); (slices_Clone_Decl.c n a1 (fun r732 => grd ((decide (0 ≤ (a2.length : Int)) && decide ((a2.length : Int) ≤ 2132386187201)) && decide ((a2.length : Int) = (a2.length : Int))) (let t733 : List (tScope) := List.replicate (Int.toNat (a2.length : Int)) (0, ([] : List (tLiteral))); lpq2 r732 t733 ([] : List (tDecl)) t4 a1 a2 a3 0 a3 (fun y734 y735 y736 => K y734 y735 y736)))) ∧ (grd ((decide (0 ≤ (a2.length : Int)) && decide ((a2.length : Int) ≤ 2132386187201)) && decide ((a2.length : Int) = (a2.length : Int))) (let t737 : List (tScope) := List.replicate (Int.toNat (a2.length : Int)) (0, ([] : List (tLiteral))); slices_Clone_Decl.c n a1 (fun r738 => lpq2 r738 t737 ([] : List (tDecl)) t4 a1 a2 a3 0 a3 (fun y739 y740 y741 => K y739 y740 y741)))))) ∧ (grd ((decide (0 ≤ (a2.length : Int)) && decide ((a2.length : Int) ≤ 2132386187201)) && decide ((a2.length : Int) = (a2.length : Int))) (let t742 : List (tScope) := List.replicate (Int.toNat (a2.length : Int)) (0, ([] : List (tLiteral))); let p753 : Prop := (slices_Clone_Decl.c n a1 (fun r743 => let t744 : List (tScope) := ([] : List (tScope)); lpq2 r743 t742 ([] : List (tDecl)) t4 a1 a2 a3 0 a3 (fun y745 y746 y747 => K y745 y746 y747))); (p753 ∧ p753))) ∧ (let t754 : List (tScope) := ([] : List (tScope)); ((slices_Clone_Decl.c n a1 (fun r755 => grd ((decide (0 ≤ (a2.length : Int)) && decide ((a2.length : Int) ≤ 2132386187201)) && decide ((a2.length : Int) = (a2.length : Int))) (let t756 : List (tScope) := List.replicate (Int.toNat (a2.length : Int)) (0, ([] : List (tLiteral))); lpq2 r755 t756 ([] : List (tDecl)) t4 a1 a2 a3 0 a3 (fun y757 y758 y759 => K y757 y758 y759)))) ∧ (grd ((decide (0 ≤ (a2.length : Int)) && decide ((a2.length : Int) ≤ 2132386187201)) && decide ((a2.length : Int) = (a2.length : Int))) (let t760 : List (tScope) := List.replicate (Int.toNat (a2.length : Int)) (0, ([] : List (tLiteral))); slices_Clone_Decl.c n a1 (fun r761 => lpq2 r761 t760 ([] : List (tDecl)) t4 a1 a2 a3 0 a3 (fun y762 y763 y764 => K y762 y763 y764))))) ∧ (grd ((decide (0 ≤ (a2.length : Int)) && decide ((a2.length : Int) ≤ 2132386187201)) && decide ((a2.length : Int) = (a2.length : Int))) (let t765 : List (tScope) := List.replicate (Int.toNat (a2.length : Int)) (0, ([] : List (tLiteral))); slices_Clone_Decl.c n a1 (fun r766 => lpq2 r766 t765 ([] : List (tDecl)) t4 a1 a2 a3 0 a3 (fun y767 y768 y769 => K y767 y768 y769)))))) ∧ (let t770 : List (tScope) := ([] : List (tScope)); ((slices_Clone_Decl.c n a1 (fun r771 => grd ((decide (0 ≤ (a2.length : Int)) && decide ((a2.length : Int) ≤ 2132386187201)) && decide ((a2.length : Int) = (a2.length : Int))) (let t772 : List (tScope) := List.replicate (Int.toNat (a2.length : Int)) (0, ([] : List (tLiteral))); lpq2 r771 t772 ([] : List (tDecl)) t4 a1 a2 a3 0 a3 (fun y773 y774 y775 => K y773 y774 y775)))) ∧ ((slices_Clone_Decl.c n a1 (fun r776 => grd ((decide (0 ≤ (a2.length : Int)) && decide ((a2.length : Int) ≤ 2132386187201)) && decide ((a2.length : Int) = (a2.length : Int))) (let t777 : List (tScope) := List.replicate (Int.toNat (a2.length : Int)) (0, ([] : List (tLiteral))); lpq2 r776 t777 ([] : List (tDecl)) t4 a1 a2 a3 0 a3 (fun y778 y779 y780 => K y778 y779 y780)))) ∧ (grd ((decide (0 ≤ (a2.length : Int)) && decide ((a2.length : Int) ≤ 2132386187201)) && decide ((a2.length : Int) = (a2.length : Int))) (let t781 : List (tScope) := List.replicate (Int.toNat (a2.length : Int)) (0, ([] : List (tLiteral))); slices_Clone_Decl.c n a1 (fun r782 => lpq2 r782 t781 ([] : List (tDecl)) t4 a1 a2 a3 0 a3 (fun y783 y784 y785 => K y783 y784 y785)))))) ∧ (((slices_Clone_Decl.c n a1 (fun r786 => grd ((decide (0 ≤ (a2.length : Int)) && decide ((a2.length : Int) ≤ 2132386187201)) && decide ((a2.length : Int) = (a2.length : Int))) (let t787 : List (tScope) := List.replicate (Int.toNat (a2.length : Int)) (0, ([] : List (tLiteral))); lpq2 r786 t787 ([] : List (tDecl)) t4 a1 a2 a3 0 a3 (fun y788 y789 y790 => K y788 y789 y790)))) ∧ (grd ((decide (0 ≤ (a2.length : Int)) && decide ((a2.length : Int) ≤ 2132386187201)) && decide ((a2.length : Int) = (a2.length : Int))) (let t791 : List (tScope) := List.replicate (Int.toNat (a2.length : Int)) (0, ([] : List (tLiteral))); slices_Clone_Decl.c n a1 (fun r792 => lpq2 r792 t791 ([] : List (tDecl)) t4 a1 a2 a3 0 a3 (fun y793 y794 y795 => K y793 y794 y795))))) ∧ (grd ((decide (0 ≤ (a2.length : Int)) && decide ((a2.length : Int) ≤ 2132386187201)) && decide ((a2.length : Int) = (a2.length : Int))) (let t796 : List (tScope) := List.replicate (Int.toNat (a2.length : Int)) (0, ([] : List (tLiteral))); slices_Clone_Decl.c n a1 (fun r797 => lpq2 r797 t796 ([] : List (tDecl)) t4 a1 a2 a3 0 a3 (fun y798 y799 y800 => K y798 y799 y800))))))); ((let p372 : Prop := ((slices_Clone_Decl.c n a1 (fun r253 => let p264 : Prop := (grd ((decide (0 ≤ (a2.length : Int)) && decide ((a2.length : Int) ≤ 2132386187201)) && decide ((a2.length : Int) = (a2.length : Int))) (let t254 : List (tScope) := List.replicate (Int.toNat (a2.length : Int)) (0, ([] : List (tLiteral))); let t255 : List (tScope) := ([] : List (tScope)); lpq2 r253 t254 ([] : List (tDecl)) t4 a1 a2 a3 0 a3 (fun y256 y257 y258 => K y256 y257 y258))); (p264 ∧ p264))) ∧ ((slices_Clone_Decl.c n a1 (fun r265 => let p276 : Prop := (grd ((decide (0 ≤ (a2.length : Int)) && decide ((a2.length : Int) ≤ 2132386187201)) && decide ((a2.length : Int) = (a2.length : Int))) (let t266 : List (tScope) := List.replicate (Int.toNat (a2.length : Int)) (0, ([] : List (tLiteral))); let t267 : List (tScope) := ([] : List (tScope)); lpq2 r265 t266 ([] : List (tDecl)) t4 a1 a2 a3 0 a3 (fun y268 y269 y270 => K y268 y269 y270))); (p276 ∧ p276))) ∧ (grd ((decide (0 ≤ (a2.length : Int)) && decide ((a2.length : Int) ≤ 2132386187201)) && decide ((a2.length : Int) = (a2.length : Int))) (let t277 : List (tScope) := List.replicate (Int.toNat (a2.length : Int)) (0, ([] : List (tLiteral))); let p288 : Prop := (slices_Clone_Decl.c n a1 (fun r278 => let t279 : List (tScope) := ([] : List (tScope)); lpq2 r278 t277 ([] : List (tDecl)) t4 a1 a2 a3 0 a3 (fun y280 y281 y282 => K y280 y281 y282))); (p288 ∧ p288))) ∧ (let t289 : List (tScope) := ([] : List (tScope)); (slices_Clone_Decl.c n a1 (fun r290 => grd ((decide (0 ≤ (a2.length : Int)) && decide ((a2.length : Int) ≤ 2132386187201)) && decide ((a2.length : Int) = (a2.length : Int))) (let t291 : List (tScope) := List.replicate (Int.toNat (a2.length : Int)) (0, ([] : List (tLiteral))); lpq2 r290 t291 ([] : List (tDecl)) t4 a1 a2 a3 0 a3 (fun y292 y293 y294 => K y292 y293 y294)))) ∧ (grd ((decide (0 ≤ (a2.length : Int)) && decide ((a2.length : Int) ≤ 2132386187201)) && decide ((a2.length : Int) = (a2.length : Int))) (let t295 : List (tScope) := List.replicate (Int.toNat (a2.length : Int)) (0, ([] : List (tLiteral))); slices_Clone_Decl.c n a1 (fun r296 => lpq2 r296 t295 ([] : List (tDecl)) t4 a1 a2 a3 0 a3 (fun y297 y298 y299 => K y297 y298 y299)))))) ∧ (let t300 : List (tScope) := ([] : List (tScope)); (slices_Clone_Decl.c n a1 (fun r301 => grd ((decide (0 ≤ (a2.length : Int)) && decide ((a2.length : Int) ≤ 2132386187201)) && decide ((a2.length : Int) = (a2.length : Int))) (let t302 : List (tScope) := List.replicate (Int.toNat (a2.length : Int)) (0, ([] : List (tLiteral))); lpq2 r301 t302 ([] : List (tDecl)) t4 a1 a2 a3 0 a3 (fun y303 y304 y305 => K y303 y304 y305)))) ∧ ((slices_Clone_Decl.c n a1 (fun r306 => grd ((decide (0 ≤ (a2.length : Int)) && decide ((a2.length : Int) ≤ 2132386187201)) && decide ((a2.length : Int) = (a2.length : Int))) (let t307 : List (tScope) := List.replicate (Int.toNat (a2.length : Int)) (0, ([] : List (tLiteral))); lpq2 r306 t307 ([] : List (tDecl)) t4 a1 a2 a3 0 a3 (fun y308 y309 y310 => K y308 y309 y310)))) ∧ (grd ((decide (0 ≤ (a2.length : Int)) && decide ((a2.length : Int) ≤ 2132386187201)) && decide ((a2.length : Int) = (a2.length : Int))) (let t311 : List (tScope) := List.replicate (Int.toNat (a2.length : Int)) (0, ([] : List (tLiteral))); slices_Clone_Decl.c n a1 (fun r312 => lpq2 r312 t311 ([] : List (tDecl)) t4 a1 a2 a3 0 a3 (fun y313 y314 y315 => K y313 y314 y315))))))); ((slices_Clone_Decl.c n a1 (fun r5 => let p129 : Prop := (let p118 : Prop := (grd ((decide (0 ≤ (a2.length : Int)) && decide ((a2.length : Int) ≤ 2132386187201)) && decide ((a2.length : Int) = (a2.length : Int))) (let t108 : List (tScope) := List.replicate (Int.toNat (a2.length : Int)) (0, ([] : List (tLiteral))); let t109 : List (tScope) := ([] : List (tScope)); lpq2 r5 t108 ([] : List (tDecl)) t4 a1 a2 a3 0 a3 (fun y110 y111 y112 => K y110 y111 y112))); (p118 ∧ p118)); ((grd ((decide (0 ≤ (a2.length : Int)) && decide ((a2.length : Int) ≤ 2132386187201)) && decide ((a2.length : Int) = (a2.length : Int))) (let t6 : List (tScope) := List.replicate (Int.toNat (a2.length : Int)) (0, ([] : List (tLiteral))); let t7 : List (tScope) := ([] : List (tScope)); lpq2 r5 t6 ([] : List (tDecl)) t4 a1 a2 a3 0 a3 (fun y105 y106 y107 => K y105 y106 y107))) ∧ p129 ∧ p129))) ∧ (let p252 : Prop := ((slices_Clone_Decl.c n a1 (fun r186 => let p197 : Prop := (grd ((decide (0 ≤ (a2.length : Int)) && decide ((a2.length : Int) ≤ 2132386187201)) && decide ((a2.length : Int) = (a2.length : Int))) (let t187 : List (tScope) := List.replicate (Int.toNat (a2.length : Int)) (0, ([] : List (tLiteral))); let t188 : List (tScope) := ([] : List (tScope)); lpq2 r186 t187 ([] : List (tDecl)) t4 a1 a2 a3 0 a3 (fun y189 y190 y191 => K y189 y190 y191))); (p197 ∧ p197))) ∧ (grd ((decide (0 ≤ (a2.length : Int)) && decide ((a2.length : Int) ≤ 2132386187201)) && decide ((a2.length : Int) = (a2.length : Int))) (let t198 : List (tScope) := List.replicate (Int.toNat (a2.length : Int)) (0, ([] : List (tLiteral))); let p209 : Prop := (slices_Clone_Decl.c n a1 (fun r199 => let t200 : List (tScope) := ([] : List (tScope)); lpq2 r199 t198 ([] : List (tDecl)) t4 a1 a2 a3 0 a3 (fun y201 y202 y203 => K y201 y202 y203))); (p209 ∧ p209))) ∧ (let t210 : List (tScope) := ([] : List (tScope)); (slices_Clone_Decl.c n a1 (fun r211 => grd ((decide (0 ≤ (a2.length : Int)) && decide ((a2.length : Int) ≤ 2132386187201)) && decide ((a2.length : Int) = (a2.length : Int))) (let t212 : List (tScope) := List.replicate (Int.toNat (a2.length : Int)) (0, ([] : List (tLiteral))); lpq2 r211 t212 ([] : List (tDecl)) t4 a1 a2 a3 0 a3 (fun y213 y214 y215 => K y213 y214 y215)))) ∧ (grd ((decide (0 ≤ (a2.length : Int)) && decide ((a2.length : Int) ≤ 2132386187201)) && decide ((a2.length : Int) = (a2.length : Int))) (let t216 : List (tScope) := List.replicate (Int.toNat (a2.length : Int)) (0, ([] : List (tLiteral))); slices_Clone_Decl.c n a1 (fun r217 => lpq2 r217 t216 ([] : List (tDecl)) t4 a1 a2 a3 0 a3 (fun y218 y219 y220 => K y218 y219 y220)))))); ((slices_Clone_Decl.c n a1 (fun r130 => let p157 : Prop := (let p146 : Prop := (grd ((decide (0 ≤ (a2.length : Int)) && decide ((a2.length : Int) ≤ 2132386187201)) && decide ((a2.length : Int) = (a2.length : Int))) (let t136 : List (tScope) := List.replicate (Int.toNat (a2.length : Int)) (0, ([] : List (tLiteral))); let t137 : List (tScope) := ([] : List (tScope)); lpq2 r130 t136 ([] : List (tDecl)) t4 a1 a2 a3 0 a3 (fun y138 y139 y140 => K y138 y139 y140))); (p146 ∧ p146)); ((grd ((decide (0 ≤ (a2.length : Int)) && decide ((a2.length : Int) ≤ 2132386187201)) && decide ((a2.length : Int) = (a2.length : Int))) (let t131 : List (tScope) := List.replicate (Int.toNat (a2.length : Int)) (0, ([] : List (tLiteral))); let t132 : List (tScope) := ([] : List (tScope)); lpq2 r130 t131 ([] : List (tDecl)) t4 a1 a2 a3 0 a3 (fun y133 y134 y135 => K y133 y134 y135))) ∧ p157 ∧ p157))) ∧ (grd ((decide (0 ≤ (a2.length : Int)) && decide ((a2.length : Int) ≤ 2132386187201)) && decide ((a2.length : Int) = (a2.length : Int))) (let t158 : List (tScope) := List.replicate (Int.toNat (a2.length : Int)) (0, ([] : List (tLiteral))); let p185 : Prop := (let p174 : Prop := (slices_Clone_Decl.c n a1 (fun r164 => let t165 : List (tScope) := ([] : List (tScope)); lpq2 r164 t158 ([] : List (tDecl)) t4 a1 a2 a3 0 a3 (fun y166 y167 y168 => K y166 y167 y168))); (p174 ∧ p174)); ((slices_Clone_Decl.c n a1 (fun r159 => let t160 : List (tScope) := ([] : List (tScope)); lpq2 r159 t158 ([] : List (tDecl)) t4 a1 a2 a3 0 a3 (fun y161 y162 y163 => K y161 y162 y163))) ∧ p185 ∧ p185))) ∧ p252 ∧ p252)) ∧ p372 ∧ p372)) ∧ (let p643 : Prop := (((slices_Clone_Decl.c n a1 (fun r524 => let p535 : Prop := (grd ((decide (0 ≤ (a2.length : Int)) && decide ((a2.length : Int) ≤ 2132386187201)) && decide ((a2.length : Int) = (a2.length : Int))) (let t525 : List (tScope) := List.replicate (Int.toNat (a2.length : Int)) (0, ([] : List (tLiteral))); let t526 : List (tScope) := ([] : List (tScope)); lpq2 r524 t525 ([] : List (tDecl)) t4 a1 a2 a3 0 a3 (fun y527 y528 y529 => K y527 y528 y529))); (p535 ∧ p535))) ∧ (grd ((decide (0 ≤ (a2.length : Int)) && decide ((a2.length : Int) ≤ 2132386187201)) && decide ((a2.length : Int) = (a2.length : Int))) (let t536 : List (tScope) := List.replicate (Int.toNat (a2.length : Int)) (0, ([] : List (tLiteral))); let p547 : Prop := (slices_Clone_Decl.c n a1 (fun r537 => let t538 : List (tScope) := ([] : List (tScope)); lpq2 r537 t536 ([] : List (tDecl)) t4 a1 a2 a3 0 a3 (fun y539 y540 y541 => K y539 y540 y541))); (p547 ∧ p547))) ∧ (let t548 : List (tScope) := ([] : List (tScope)); (slices_Clone_Decl.c n a1 (fun r549 => grd ((decide (0 ≤ (a2.length : Int)) && decide ((a2.length : Int) ≤ 2132386187201)) && decide ((a2.length : Int) = (a2.length : Int))) (let t550 : List (tScope) := List.replicate (Int.toNat (a2.length : Int)) (0, ([] : List (tLiteral))); lpq2 r549 t550 ([] : List (tDecl)) t4 a1 a2 a3 0 a3 (fun y551 y552 y553 => K y551 y552 y553)))) ∧ (grd ((decide (0 ≤ (a2.length : Int)) && decide ((a2.length : Int) ≤ 2132386187201)) && decide ((a2.length : Int) = (a2.length : Int))) (let t554 : List (tScope) := List.replicate (Int.toNat (a2.length : Int)) (0, ([] : List (tLiteral))); slices_Clone_Decl.c n a1 (fun r555 => lpq2 r555 t554 ([] : List (tDecl)) t4 a1 a2 a3 0 a3 (fun y556 y557 y558 => K y556 y557 y558)))))) ∧ (grd ((decide (0 ≤ (a2.length : Int)) && decide ((a2.length : Int) ≤ 2132386187201)) && decide ((a2.length : Int) = (a2.length : Int))) (let t559 : List (tScope) := List.replicate (Int.toNat (a2.length : Int)) (0, ([] : List (tLiteral))); let p570 : Prop := (slices_Clone_Decl.c n a1 (fun r560 => let t561 : List (tScope) := ([] : List (tScope)); lpq2 r560 t559 ([] : List (tDecl)) t4 a1 a2 a3 0 a3 (fun y562 y563 y564 => K y562 y563 y564))); (p570 ∧ p570))) ∧ (let t571 : List (tScope) := ([] : List (tScope)); ((slices_Clone_Decl.c n a1 (fun r572 => grd ((decide (0 ≤ (a2.length : Int)) && decide ((a2.length : Int) ≤ 2132386187201)) && decide ((a2.length : Int) = (a2.length : Int))) (let t573 : List (tScope) := List.replicate (Int.toNat (a2.length : Int)) (0, ([] : List (tLiteral))); lpq2 r572 t573 ([] : List (tDecl)) t4 a1 a2 a3 0 a3 (fun y574 y575 y576 => K y574 y575 y576)))) ∧ (grd ((decide (0 ≤ (a2.length : Int)) && decide ((a2.length : Int) ≤ 2132386187201)) && decide ((a2.length : Int) = (a2.length : Int))) (let t577 : List (tScope) := List.replicate (Int.toNat (a2.length : Int)) (0, ([] : List (tLiteral))); slices_Clone_Decl.c n a1 (fun r578 => lpq2 r578 t577 ([] : List (tDecl)) t4 a1 a2 a3 0 a3 (fun y579 y580 y581 => K y579 y580 y581))))) ∧ (grd ((decide (0 ≤ (a2.length : Int)) && decide ((a2.length : Int) ≤ 2132386187201)) && decide ((a2.length : Int) = (a2.length : Int))) (let t582 : List (tScope) := List.replicate (Int.toNat (a2.length : Int)) (0, ([] : List (tLiteral))); slices_Clone_Decl.c n a1 (fun r583 => lpq2 r583 t582 ([] : List (tDecl)) t4 a1 a2 a3 0 a3 (fun y584 y585 y586 => K y584 y585 y586)))))); ((let p495 : Prop := ((slices_Clone_Decl.c n a1 (fun r429 => let p440 : Prop := (grd ((decide (0 ≤ (a2.length : Int)) && decide ((a2.length : Int) ≤ 2132386187201)) && decide ((a2.length : Int) = (a2.length : Int))) (let t430 : List (tScope) := List.replicate (Int.toNat (a2.length : Int)) (0, ([] : List (tLiteral))); let t431 : List (tScope) := ([] : List (tScope)); lpq2 r429 t430 ([] : List (tDecl)) t4 a1 a2 a3 0 a3 (fun y432 y433 y434 => K y432 y433 y434))); (p440 ∧ p440))) ∧ (grd ((decide (0 ≤ (a2.length : Int)) && decide ((a2.length : Int) ≤ 2132386187201)) && decide ((a2.length : Int) = (a2.length : Int))) (let t441 : List (tScope) := List.replicate (Int.toNat (a2.length : Int)) (0, ([] : List (tLiteral))); let p452 : Prop := (slices_Clone_Decl.c n a1 (fun r442 => let t443 : List (tScope) := ([] : List (tScope)); lpq2 r442 t441 ([] : List (tDecl)) t4 a1 a2 a3 0 a3 (fun y444 y445 y446 => K y444 y445 y446))); (p452 ∧ p452))) ∧ (let t453 : List (tScope) := ([] : List (tScope)); (slices_Clone_Decl.c n a1 (fun r454 => grd ((decide (0 ≤ (a2.length : Int)) && decide ((a2.length : Int) ≤ 2132386187201)) && decide ((a2.length : Int) = (a2.length : Int))) (let t455 : List (tScope) := List.replicate (Int.toNat (a2.length : Int)) (0, ([] : List (tLiteral))); lpq2 r454 t455 ([] : List (tDecl)) t4 a1 a2 a3 0 a3 (fun y456 y457 y458 => K y456 y457 y458)))) ∧ (grd ((decide (0 ≤ (a2.length : Int)) && decide ((a2.length : Int) ≤ 2132386187201)) && decide ((a2.length : Int) = (a2.length : Int))) (let t459 : List (tScope) := List.replicate (Int.toNat (a2.length : Int)) (0, ([] : List (tLiteral))); slices_Clone_Decl.c n a1 (fun r460 => lpq2 r460 t459 ([] : List (tDecl)) t4 a1 a2 a3 0 a3 (fun y461 y462 y463 => K y461 y462 y463)))))); ((slices_Clone_Decl.c n a1 (fun r373 => let p400 : Prop := (let p389 : Prop := (grd ((decide (0 ≤ (a2.length : Int)) && decide ((a2.length : Int) ≤ 2132386187201)) && decide ((a2.length : Int) = (a2.length : Int))) (let t379 : List (tScope) := List.replicate (Int.toNat (a2.length : Int)) (0, ([] : List (tLiteral))); let t380 : List (tScope) := ([] : List (tScope)); lpq2 r373 t379 ([] : List (tDecl)) t4 a1 a2 a3 0 a3 (fun y381 y382 y383 => K y381 y382 y383))); (p389 ∧ p389)); ((grd ((decide (0 ≤ (a2.length : Int)) && decide ((a2.length : Int) ≤ 2132386187201)) && decide ((a2.length : Int) = (a2.length : Int))) (let t374 : List (tScope) := List.replicate (Int.toNat (a2.length : Int)) (0, ([] : List (tLiteral))); let t375 : List (tScope) := ([] : List (tScope)); lpq2 r373 t374 ([] : List (tDecl)) t4 a1 a2 a3 0 a3 (fun y376 y377 y378 => K y376 y377 y378))) ∧ p400 ∧ p400))) ∧ (grd ((decide (0 ≤ (a2.length : Int)) && decide ((a2.length : Int) ≤ 2132386187201)) && decide ((a2.length : Int) = (a2.length : Int))) (let t401 : List (tScope) := List.replicate (Int.toNat (a2.length : Int)) (0, ([] : List (tLiteral))); let p428 : Prop := (let p417 : Prop := (slices_Clone_Decl.c n a1 (fun r407 => let t408 : List (tScope) := ([] : List (tScope)); lpq2 r407 t401 ([] : List (tDecl)) t4 a1 a2 a3 0 a3 (fun y409 y410 y411 => K y409 y410 y411))); (p417 ∧ p417)); ((slices_Clone_Decl.c n a1 (fun r402 => let t403 : List (tScope) := ([] : List (tScope)); lpq2 r402 t401 ([] : List (tDecl)) t4 a1 a2 a3 0 a3 (fun y404 y405 y406 => K y404 y405 y406))) ∧ p428 ∧ p428))) ∧ p495 ∧ p495)) ∧ (grd ((decide (0 ≤ (a2.length : Int)) && decide ((a2.length : Int) ≤ 2132386187201)) && decide ((a2.length : Int) = (a2.length : Int))) (let t496 : List (tScope) := List.replicate (Int.toNat (a2.length : Int)) (0, ([] : List (tLiteral))); let p523 : Prop := (let p512 : Prop := (slices_Clone_Decl.c n a1 (fun r502 => let t503 : List (tScope) := ([] : List (tScope)); lpq2 r502 t496 ([] : List (tDecl)) t4 a1 a2 a3 0 a3 (fun y504 y505 y506 => K y504 y505 y506))); (p512 ∧ p512)); ((slices_Clone_Decl.c n a1 (fun r497 => let t498 : List (tScope) := ([] : List (tScope)); lpq2 r497 t496 ([] : List (tDecl)) t4 a1 a2 a3 0 a3 (fun y499 y500 y501 => K y499 y500 y501))) ∧ p523 ∧ p523))) ∧ p643 ∧ p643)) ∧ p942 ∧ p942)
def impl_cloneSession.c : Nat → List (tDecl) → List (tScope) → Int → (List (tDecl) → List (tScope) → Int → Prop) → Prop
 | 0, _, _, _, _ => False
 | n + 1, a1, a2, a3, K => impl_cloneSession.w n (impl_cloneSession.q2 n) a1 a2 a3 K
end Go.Vsi
end

section
set_option linter.unusedVariables false
set_option synthInstance.maxSize 4096
namespace Go.Vsi
def laws_eqDecl.w (n : Nat) (a1 : List UInt8) (a2 : Int) (a3 : List UInt8) (a4 : Int) (K : Bool → Prop) : Prop :=
 if (!(a1 == a3)) = true then (K false) else (if (!(decide (a2 = a4))) = true then (K false) else (K true))
def laws_eqDecl.c : Nat → List UInt8 → Int → List UInt8 → Int → (Bool → Prop) → Prop
 | 0, _, _, _, _, _ => False
 | n + 1, a1, a2, a3, a4, K => laws_eqDecl.w n  a1 a2 a3 a4 K
def laws_eqDeclS.l4.b (n : Nat) (x12 : List (tDecl)) (x13 : List (tDecl)) (again4 : Int → Prop) (x14 : Int) (Kx0w4 : Prop) (Kr4 : Bool → Prop) : Prop :=
 if (decide (x14 < (x12.length : Int))) = true then (grd (decide (0 ≤ x14) && decide (x14 < (x12.length : Int))) (grd (decide (0 ≤ x14) && decide (x14 < (x13.length : Int))) (laws_eqDecl.c n ((rd x12 (Int.toNat x14)).1) ((rd x12 (Int.toNat x14)).2) ((rd x13 (Int.toNat x14)).1) ((rd x13 (Int.toNat x14)).2) (fun r18 => if (!r18) = true then (Kr4 false) else (again4 (IntKind.wrap .i64 (x14 + 1))))))) else (Kx0w4)
def laws_eqDeclS.l4 : Nat → List (tDecl) → List (tDecl) → Int → Prop → (Bool → Prop) → Prop
 | 0, _, _, _, _, _ => False
 | n + 1, x12, x13, x14, Kx0w4, Kr4 => laws_eqDeclS.l4.b n  x12 x13 (fun x14q => laws_eqDeclS.l4 n x12 x13 x14q Kx0w4 Kr4) x14 Kx0w4 Kr4
def laws_eqDeclS.w (n : Nat) (lp4 : List (tDecl) → List (tDecl) → Int → Prop → (Bool → Prop) → Prop) (a1 : List (tDecl)) (a2 : List (tDecl)) (K : Bool → Prop) : Prop :=
 let t4 : Bool := !(decide ((a1.length : Int) = (a2.length : Int))); if t4 = true then (K false) else (lp4 a1 a2 0 (K true) (fun y20 => K y20))
def laws_eqDeclS.c : Nat → List (tDecl) → List (tDecl) → (Bool → Prop) → Prop
 | 0, _, _, _ => False
 | n + 1, a1, a2, K => laws_eqDeclS.w n (laws_eqDeclS.l4 n) a1 a2 K
def laws_eqUint64S.l4.b (n : Nat) (x12 : List Int) (x13 : List Int) (again4 : Int → Prop) (x14 : Int) (Kx0w4 : Prop) (Kr4 : Bool → Prop) : Prop :=
 if (decide (x14 < (x12.length : Int))) = true then (grd (decide (0 ≤ x14) && decide (x14 < (x12.length : Int))) (grd (decide (0 ≤ x14) && decide (x14 < (x13.length : Int))) (let t18 : Bool := !(decide (rd x12 (Int.toNat x14) = rd x13 (Int.toNat x14))); if t18 = true then (Kr4 false) else (again4 (IntKind.wrap .i64 (x14 + 1)))))) else (Kx0w4)
def laws_eqUint64S.l4 : Nat → List Int → List Int → Int → Prop → (Bool → Prop) → Prop
 | 0, _, _, _, _, _ => False
 | n + 1, x12, x13, x14, Kx0w4, Kr4 => laws_eqUint64S.l4.b n  x12 x13 (fun x14q => laws_eqUint64S.l4 n x12 x13 x14q Kx0w4 Kr4) x14 Kx0w4 Kr4
def laws_eqUint64S.w (n : Nat) (lp4 : List Int → List Int → Int → Prop → (Bool → Prop) → Prop) (a1 : List Int) (a2 : List Int) (K : Bool → Prop) : Prop :=
 let t4 : Bool := !(decide ((a1.length : Int) = (a2.length : Int))); if t4 = true then (K false) else (lp4 a1 a2 0 (K true) (fun y20 => K y20))
def laws_eqUint64S.c : Nat → List Int → List Int → (Bool → Prop) → Prop
 | 0, _, _, _ => False
 | n + 1, a1, a2, K => laws_eqUint64S.w n (laws_eqUint64S.l4 n) a1 a2 K
def laws_eqBits.w (n : Nat) (a1 : Int) (a2 : List Int) (a3 : Int) (a4 : List Int) (K : Bool → Prop) : Prop :=
 if (!(decide (a1 = a3))) = true then (K false) else (laws_eqUint64S.c n a2 a4 (fun r6 => if (!r6) = true then (K false) else (K true)))
def laws_eqBits.c : Nat → Int → List Int → Int → List Int → (Bool → Prop) → Prop
 | 0, _, _, _, _, _ => False
 | n + 1, a1, a2, a3, a4, K => laws_eqBits.w n  a1 a2 a3 a4 K
def laws_eqInt64S.l4.b (n : Nat) (x12 : List Int) (x13 : List Int) (again4 : Int → Prop) (x14 : Int) (Kx0w4 : Prop) (Kr4 : Bool → Prop) : Prop :=
 if (decide (x14 < (x12.length : Int))) = true then (grd (decide (0 ≤ x14) && decide (x14 < (x12.length : Int))) (grd (decide (0 ≤ x14) && decide (x14 < (x13.length : Int))) (let t18 : Bool := !(decide (rd x12 (Int.toNat x14) = rd x13 (Int.toNat x14))); if t18 = true then (Kr4 false) else (again4 (IntKind.wrap .i64 (x14 + 1)))))) else (Kx0w4)
def laws_eqInt64S.l4 : Nat → List Int → List Int → Int → Prop → (Bool → Prop) → Prop
 | 0, _, _, _, _, _ => False
 | n + 1, x12, x13, x14, Kx0w4, Kr4 => laws_eqInt64S.l4.b n  x12 x13 (fun x14q => laws_eqInt64S.l4 n x12 x13 x14q Kx0w4 Kr4) x14 Kx0w4 Kr4
def laws_eqInt64S.w (n : Nat) (lp4 : List Int → List Int → Int → Prop → (Bool → Prop) → Prop) (a1 : List Int) (a2 : List Int) (K : Bool → Prop) : Prop :=
 let t4 : Bool := !(decide ((a1.length : Int) = (a2.length : Int))); if t4 = true then (K false) else (lp4 a1 a2 0 (K true) (fun y20 => K y20))
def laws_eqInt64S.c : Nat → List Int → List Int → (Bool → Prop) → Prop
 | 0, _, _, _ => False
 | n + 1, a1, a2, K => laws_eqInt64S.w n (laws_eqInt64S.l4 n) a1 a2 K
def laws_eqTNode.w (n : Nat) (a1 : Int) (a2 : Int) (a3 : Int) (a4 : Int) (a5 : Int) (a6 : List Int) (a7 : List Int) (a8 : Int) (a9 : Int) (a10 : Int) (a11 : Int) (a12 : Int) (a13 : List Int) (a14 : List Int) (K : Bool → Prop) : Prop :=
 if (!(decide (a1 = a8))) = true then (K false) else (if (!(decide (a2 = a9))) = true then (K false) else (if (!(decide (a3 = a10))) = true then (K false) else (if (!(decide (a4 = a11))) = true then (K false) else (laws_eqBits.c n a5 a6 a12 a13 (fun r16 => if (!r16) = true then (K false) else (laws_eqInt64S.c n a7 a14 (fun r18 => if (!r18) = true then (K false) else (K true))))))))
def laws_eqTNode.c : Nat → Int → Int → Int → Int → Int → List Int → List Int → Int → Int → Int → Int → Int → List Int → List Int → (Bool → Prop) → Prop
 | 0, _, _, _, _, _, _, _, _, _, _, _, _, _, _, _ => False
 | n + 1, a1, a2, a3, a4, a5, a6, a7, a8, a9, a10, a11, a12, a13, a14, K => laws_eqTNode.w n  a1 a2 a3 a4 a5 a6 a7 a8 a9 a10 a11 a12 a13 a14 K
def laws_eqTNodeS.l4.b (n : Nat) (x12 : List (tTNode)) (x13 : List (tTNode)) (again4 : Int → Prop) (x14 : Int) (Kx0w4 : Prop) (Kr4 : Bool → Prop) : Prop :=
 if (decide (x14 < (x12.length : Int))) = true then (grd (decide (0 ≤ x14) && decide (x14 < (x12.length : Int))) (let t30 : List Int := ((((((rd x12 (Int.toNat x14)).2).2).2).2).2).1; let t31 : List Int := ((((((rd x12 (Int.toNat x14)).2).2).2).2).2).2; grd (decide (0 ≤ x14) && decide (x14 < (x13.length : Int))) (let t32 : List Int := ((((((rd x13 (Int.toNat x14)).2).2).2).2).2).1; let t33 : List Int := ((((((rd x13 (Int.toNat x14)).2).2).2).2).2).2; laws_eqTNode.c n ((rd x12 (Int.toNat x14)).1) (((rd x12 (Int.toNat x14)).2).1) ((((rd x12 (Int.toNat x14)).2).2).1) (((((rd x12 (Int.toNat x14)).2).2).2).1) ((((((rd x12 (Int.toNat x14)).2).2).2).2).1) t30 t31 ((rd x13 (Int.toNat x14)).1) (((rd x13 (Int.toNat x14)).2).1) ((((rd x13 (Int.toNat x14)).2).2).1) (((((rd x13 (Int.toNat x14)).2).2).2).1) ((((((rd x13 (Int.toNat x14)).2).2).2).2).1) t32 t33 (fun r34 => if (!r34) = true then (Kr4 false) else (again4 (IntKind.wrap .i64 (x14 + 1))))))) else (Kx0w4)
def laws_eqTNodeS.l4 : Nat → List (tTNode) → List (tTNode) → Int → Prop → (Bool → Prop) → Prop
 | 0, _, _, _, _, _ => False
 | n + 1, x12, x13, x14, Kx0w4, Kr4 => laws_eqTNodeS.l4.b n  x12 x13 (fun x14q => laws_eqTNodeS.l4 n x12 x13 x14q Kx0w4 Kr4) x14 Kx0w4 Kr4
def laws_eqTNodeS.w (n : Nat) (lp4 : List (tTNode) → List (tTNode) → Int → Prop → (Bool → Prop) → Prop) (a1 : List (tTNode)) (a2 : List (tTNode)) (K : Bool → Prop) : Prop :=
 let t4 : Bool := !(decide ((a1.length : Int) = (a2.length : Int))); if t4 = true then (K false) else (lp4 a1 a2 0 (K true) (fun y36 => K y36))
def laws_eqTNodeS.c : Nat → List (tTNode) → List (tTNode) → (Bool → Prop) → Prop
 | 0, _, _, _ => False
 | n + 1, a1, a2, K => laws_eqTNodeS.w n (laws_eqTNodeS.l4 n) a1 a2 K
def laws_eqTerm.w (n : Nat) (a1 : List (tTNode)) (a2 : List (tTNode)) (K : Bool → Prop) : Prop :=
 laws_eqTNodeS.c n a1 a2 (fun r4 => if (!r4) = true then (K false) else (K true))
def laws_eqTerm.c : Nat → List (tTNode) → List (tTNode) → (Bool → Prop) → Prop
 | 0, _, _, _ => False
 | n + 1, a1, a2, K => laws_eqTerm.w n  a1 a2 K
def laws_eqLiteral.w (n : Nat) (a1 : Int) (a2 : Bool) (a3 : List (tTNode)) (a4 : List (tTNode)) (a5 : Int) (a6 : Bool) (a7 : List (tTNode)) (a8 : List (tTNode)) (K : Bool → Prop) : Prop :=
 if (!(decide (a1 = a5))) = true then (K false) else (if (!(a2 == a6)) = true then (K false) else (laws_eqTerm.c n a3 a7 (fun r10 => if (!r10) = true then (K false) else (laws_eqTerm.c n a4 a8 (fun r12 => if (!r12) = true then (K false) else (K true))))))
def laws_eqLiteral.c : Nat → Int → Bool → List (tTNode) → List (tTNode) → Int → Bool → List (tTNode) → List (tTNode) → (Bool → Prop) → Prop
 | 0, _, _, _, _, _, _, _, _, _ => False
 | n + 1, a1, a2, a3, a4, a5, a6, a7, a8, K => laws_eqLiteral.w n  a1 a2 a3 a4 a5 a6 a7 a8 K
def laws_eqLiteralS.l4.b (n : Nat) (x12 : List (tLiteral)) (x13 : List (tLiteral)) (again4 : Int → Prop) (x14 : Int) (Kx0w4 : Prop) (Kr4 : Bool → Prop) : Prop :=
 if (decide (x14 < (x12.length : Int))) = true then (grd (decide (0 ≤ x14) && decide (x14 < (x12.length : Int))) (grd (decide (0 ≤ x14) && decide (x14 < (x13.length : Int))) (laws_eqLiteral.c n ((rd x12 (Int.toNat x14)).1) (((rd x12 (Int.toNat x14)).2).1) ((((rd x12 (Int.toNat x14)).2).2).1) ((((rd x12 (Int.toNat x14)).2).2).2) ((rd x13 (Int.toNat x14)).1) (((rd x13 (Int.toNat x14)).2).1) ((((rd x13 (Int.toNat x14)).2).2).1) ((((rd x13 (Int.toNat x14)).2).2).2) (fun r18 => if (!r18) = true then (Kr4 false) else (again4 (IntKind.wrap .i64 (x14 + 1))))))) else (Kx0w4)
def laws_eqLiteralS.l4 : Nat → List (tLiteral) → List (tLiteral) → Int → Prop → (Bool → Prop) → Prop
 | 0, _, _, _, _, _ => False
 | n + 1, x12, x13, x14, Kx0w4, Kr4 => laws_eqLiteralS.l4.b n  x12 x13 (fun x14q => laws_eqLiteralS.l4 n x12 x13 x14q Kx0w4 Kr4) x14 Kx0w4 Kr4
def laws_eqLiteralS.w (n : Nat) (lp4 : List (tLiteral) → List (tLiteral) → Int → Prop → (Bool → Prop) → Prop) (a1 : List (tLiteral)) (a2 : List (tLiteral)) (K : Bool → Prop) : Prop :=
 let t4 : Bool := !(decide ((a1.length : Int) = (a2.length : Int))); if t4 = true then (K false) else (lp4 a1 a2 0 (K true) (fun y20 => K y20))
def laws_eqLiteralS.c : Nat → List (tLiteral) → List (tLiteral) → (Bool → Prop) → Prop
 | 0, _, _, _ => False
 | n + 1, a1, a2, K => laws_eqLiteralS.w n (laws_eqLiteralS.l4 n) a1 a2 K
def laws_eqScope.w (n : Nat) (a1 : Int) (a2 : List (tLiteral)) (a3 : Int) (a4 : List (tLiteral)) (K : Bool → Prop) : Prop :=
 if (!(decide (a1 = a3))) = true then (K false) else (laws_eqLiteralS.c n a2 a4 (fun r6 => if (!r6) = true then (K false) else (K true)))
def laws_eqScope.c : Nat → Int → List (tLiteral) → Int → List (tLiteral) → (Bool → Prop) → Prop
 | 0, _, _, _, _, _ => False
 | n + 1, a1, a2, a3, a4, K => laws_eqScope.w n  a1 a2 a3 a4 K
def laws_eqScopeS.l4.b (n : Nat) (x12 : List (tScope)) (x13 : List (tScope)) (again4 : Int → Prop) (x14 : Int) (Kx0w4 : Prop) (Kr4 : Bool → Prop) : Prop :=
 if (decide (x14 < (x12.length : Int))) = true then (grd (decide (0 ≤ x14) && decide (x14 < (x12.length : Int))) (grd (decide (0 ≤ x14) && decide (x14 < (x13.length : Int))) (laws_eqScope.c n ((rd x12 (Int.toNat x14)).1) ((rd x12 (Int.toNat x14)).2) ((rd x13 (Int.toNat x14)).1) ((rd x13 (Int.toNat x14)).2) (fun r18 => if (!r18) = true then (Kr4 false) else (again4 (IntKind.wrap .i64 (x14 + 1))))))) else (Kx0w4)
def laws_eqScopeS.l4 : Nat → List (tScope) → List (tScope) → Int → Prop → (Bool → Prop) → Prop
 | 0, _, _, _, _, _ => False
 | n + 1, x12, x13, x14, Kx0w4, Kr4 => laws_eqScopeS.l4.b n  x12 x13 (fun x14q => laws_eqScopeS.l4 n x12 x13 x14q Kx0w4 Kr4) x14 Kx0w4 Kr4
def laws_eqScopeS.w (n : Nat) (lp4 : List (tScope) → List (tScope) → Int → Prop → (Bool → Prop) → Prop) (a1 : List (tScope)) (a2 : List (tScope)) (K : Bool → Prop) : Prop :=
 let t4 : Bool := !(decide ((a1.length : Int) = (a2.length : Int))); if t4 = true then (K false) else (lp4 a1 a2 0 (K true) (fun y20 => K y20))
def laws_eqScopeS.c : Nat → List (tScope) → List (tScope) → (Bool → Prop) → Prop
 | 0, _, _, _ => False
 | n + 1, a1, a2, K => laws_eqScopeS.w n (laws_eqScopeS.l4 n) a1 a2 K
def laws_eqSession.w (n : Nat) (a1 : List (tDecl)) (a2 : List (tScope)) (a3 : Int) (a4 : List (tDecl)) (a5 : List (tScope)) (a6 : Int) (K : Bool → Prop) : Prop :=
 laws_eqDeclS.c n a1 a4 (fun r8 => if (!r8) = true then (K false) else (laws_eqScopeS.c n a2 a5 (fun r10 => if (!r10) = true then (K false) else (if (!(decide (a3 = a6))) = true then (K false) else (K true)))))
def laws_eqSession.c : Nat → List (tDecl) → List (tScope) → Int → List (tDecl) → List (tScope) → Int → (Bool → Prop) → Prop
 | 0, _, _, _, _, _, _, _ => False
 | n + 1, a1, a2, a3, a4, a5, a6, K => laws_eqSession.w n  a1 a2 a3 a4 a5 a6 K
def laws_markText.l4.b (n : Nat) (again4 : Int → List UInt8 → Prop) (x5 : Int) (x6 : List UInt8) (Kx0w4 : List UInt8 → Prop) : Prop :=
 if (decide (x5 > 0)) = true then (let t7 : Int := IntKind.wrap .u8 (IntKind.wrap .i64 (48 + (Int.tmod x5 10))); grd (decide ((bytesStr ([t7] : List (Int))).length + x6.length ≤ 9223372036854775807)) (again4 (IntKind.wrap .i64 (Int.tdiv x5 10)) ((bytesStr ([t7] : List (Int))) ++ x6))) else (Kx0w4 x6)
def laws_markText.l4 : Nat → Int → List UInt8 → (List UInt8 → Prop) → Prop
 | 0, _, _, _ => False
 | n + 1, x5, x6, Kx0w4 => laws_markText.l4.b n   (fun x5q x6q => laws_markText.l4 n x5q x6q Kx0w4) x5 x6 Kx0w4
def laws_markText.w (n : Nat) (lp4 : Int → List UInt8 → (List UInt8 → Prop) → Prop) (a1 : Int) (K : List UInt8 → Prop) : Prop :=
 if (decide (a1 ≤ 0)) = true then (K ([109, 48] : List UInt8)) else (lp4 a1 ([] : List UInt8) (fun y9 => grd (decide (([109] : List UInt8).length + y9.length ≤ 9223372036854775807)) (K (([109] : List UInt8) ++ y9))))
def laws_markText.c : Nat → Int → (List UInt8 → Prop) → Prop
 | 0, _, _ => False
 | n + 1, a1, K => laws_markText.w n (laws_markText.l4 n) a1 K
def laws_markDeclS.l2.b (n : Nat) (again2 : Int → Int → List (tDecl) → Prop) (x14 : Int) (x15 : Int) (x16 : List (tDecl)) (Kx0w2 : Int → List (tDecl) → Prop) : Prop :=
 if (decide (x15 < (x16.length : Int))) = true then (laws_markText.c n x14 (fun r21 => grd (decide (0 ≤ x15) && decide (x15 < (x16.length : Int))) (let t22 : List (tDecl) := List.set x16 (Int.toNat x15) (r21, (rd x16 (Int.toNat x15)).2); grd (decide (0 ≤ x15) && decide (x15 < (t22.length : Int))) (let t23 : List (tDecl) := List.set t22 (Int.toNat x15) ((rd t22 (Int.toNat x15)).1, IntKind.wrap .i64 (x14 + 1)); let t24 : Int := IntKind.wrap .i64 ((IntKind.wrap .i64 (x14 + 1)) + 1); again2 t24 (IntKind.wrap .i64 (x15 + 1)) t23)))) else (Kx0w2 x14 x16)
def laws_markDeclS.l2 : Nat → Int → Int → List (tDecl) → (Int → List (tDecl) → Prop) → Prop
 | 0, _, _, _, _ => False
 | n + 1, x14, x15, x16, Kx0w2 => laws_markDeclS.l2.b n   (fun x14q x15q x16q => laws_markDeclS.l2 n x14q x15q x16q Kx0w2) x14 x15 x16 Kx0w2
def laws_markDeclS.w (n : Nat) (lp2 : Int → Int → List (tDecl) → (Int → List (tDecl) → Prop) → Prop) (a1 : List (tDecl)) (a2 : Int) (K : Int → List (tDecl) → Prop) : Prop :=
 lp2 a2 0 a1 (fun y27 y28 => K y27 y28)
def laws_markDeclS.c : Nat → List (tDecl) → Int → (Int → List (tDecl) → Prop) → Prop
 | 0, _, _, _ => False
 | n + 1, a1, a2, K => laws_markDeclS.w n (laws_markDeclS.l2 n) a1 a2 K
def laws_markUint64S.l2.b (n : Nat) (again2 : Int → Int → List Int → Prop) (x8 : Int) (x9 : Int) (x10 : List Int) (Kx0w2 : Int → List Int → Prop) : Prop :=
 if (decide (x9 < (x10.length : Int))) = true then (grd (decide (0 ≤ x9) && decide (x9 < (x10.length : Int))) (let t12 : List Int := List.set x10 (Int.toNat x9) (IntKind.wrap .u64 x8); again2 (IntKind.wrap .i64 (x8 + 1)) (IntKind.wrap .i64 (x9 + 1)) t12)) else (Kx0w2 x8 x10)
def laws_markUint64S.l2 : Nat → Int → Int → List Int → (Int → List Int → Prop) → Prop
 | 0, _, _, _, _ => False
 | n + 1, x8, x9, x10, Kx0w2 => laws_markUint64S.l2.b n   (fun x8q x9q x10q => laws_markUint64S.l2 n x8q x9q x10q Kx0w2) x8 x9 x10 Kx0w2
def laws_markUint64S.w (n : Nat) (lp2 : Int → Int → List Int → (Int → List Int → Prop) → Prop) (a1 : List Int) (a2 : Int) (K : Int → List Int → Prop) : Prop :=
 lp2 a2 0 a1 (fun y15 y16 => K y15 y16)
def laws_markUint64S.c : Nat → List Int → Int → (Int → List Int → Prop) → Prop
 | 0, _, _, _ => False
 | n + 1, a1, a2, K => laws_markUint64S.w n (laws_markUint64S.l2 n) a1 a2 K
def laws_markInt64S.l2.b (n : Nat) (again2 : Int → Int → List Int → Prop) (x6 : Int) (x7 : Int) (x8 : List Int) (Kx0w2 : Int → List Int → Prop) : Prop :=
 if (decide (x7 < (x8.length : Int))) = true then (grd (decide (0 ≤ x7) && decide (x7 < (x8.length : Int))) (again2 (IntKind.wrap .i64 (x6 + 1)) (IntKind.wrap .i64 (x7 + 1)) (List.set x8 (Int.toNat x7) x6))) else (Kx0w2 x6 x8)
def laws_markInt64S.l2 : Nat → Int → Int → List Int → (Int → List Int → Prop) → Prop
 | 0, _, _, _, _ => False
 | n + 1, x6, x7, x8, Kx0w2 => laws_markInt64S.l2.b n   (fun x6q x7q x8q => laws_markInt64S.l2 n x6q x7q x8q Kx0w2) x6 x7 x8 Kx0w2
def laws_markInt64S.w (n : Nat) (lp2 : Int → Int → List Int → (Int → List Int → Prop) → Prop) (a1 : List Int) (a2 : Int) (K : Int → List Int → Prop) : Prop :=
 lp2 a2 0 a1 (fun y11 y12 => K y11 y12)
def laws_markInt64S.c : Nat → List Int → Int → (Int → List Int → Prop) → Prop
 | 0, _, _, _ => False
 | n + 1, a1, a2, K => laws_markInt64S.w n (laws_markInt64S.l2 n) a1 a2 K
def laws_markTNodeS.l2.b (n : Nat) (again2 : Int → Int → List (tTNode) → Prop) (x32 : Int) (x33 : Int) (x34 : List (tTNode)) (Kx0w2 : Int → List (tTNode) → Prop) : Prop :=
 if (decide (x33 < (x34.length : Int))) = true then (grd (decide (0 ≤ x33) && decide (x33 < (x34.length : Int))) (let t48 : List (tTNode) := List.set x34 (Int.toNat x33) (x32, ((rd x34 (Int.toNat x33)).2).1, (((rd x34 (Int.toNat x33)).2).2).1, ((((rd x34 (Int.toNat x33)).2).2).2).1, (((((rd x34 (Int.toNat x33)).2).2).2).2).1, ((((((rd x34 (Int.toNat x33)).2).2).2).2).2).1, ((((((rd x34 (Int.toNat x33)).2).2).2).2).2).2); grd (decide (0 ≤ x33) && decide (x33 < (t48.length : Int))) (let t49 : List (tTNode) := List.set t48 (Int.toNat x33) ((rd t48 (Int.toNat x33)).1, IntKind.wrap .i64 (x32 + 1), (((rd t48 (Int.toNat x33)).2).2).1, ((((rd t48 (Int.toNat x33)).2).2).2).1, (((((rd t48 (Int.toNat x33)).2).2).2).2).1, ((((((rd t48 (Int.toNat x33)).2).2).2).2).2).1, ((((((rd t48 (Int.toNat x33)).2).2).2).2).2).2); let t50 : Int := IntKind.wrap .i64 ((IntKind.wrap .i64 (x32 + 1)) + 1); grd (decide (0 ≤ x33) && decide (x33 < (t49.length : Int))) (let t51 : List (tTNode) := List.set t49 (Int.toNat x33) ((rd t49 (Int.toNat x33)).1, ((rd t49 (Int.toNat x33)).2).1, t50, ((((rd t49 (Int.toNat x33)).2).2).2).1, (((((rd t49 (Int.toNat x33)).2).2).2).2).1, ((((((rd t49 (Int.toNat x33)).2).2).2).2).2).1, ((((((rd t49 (Int.toNat x33)).2).2).2).2).2).2); grd (decide (0 ≤ x33) && decide (x33 < (t51.length : Int))) (let t52 : List (tTNode) := List.set t51 (Int.toNat x33) ((rd t51 (Int.toNat x33)).1, ((rd t51 (Int.toNat x33)).2).1, (((rd t51 (Int.toNat x33)).2).2).1, IntKind.wrap .i64 (t50 + 1), (((((rd t51 (Int.toNat x33)).2).2).2).2).1, ((((((rd t51 (Int.toNat x33)).2).2).2).2).2).1, ((((((rd t51 (Int.toNat x33)).2).2).2).2).2).2); let t53 : Int := IntKind.wrap .i64 ((IntKind.wrap .i64 (t50 + 1)) + 1); grd (decide (0 ≤ x33) && decide (x33 < (t52.length : Int))) (let t54 : List (tTNode) := List.set t52 (Int.toNat x33) ((rd t52 (Int.toNat x33)).1, ((rd t52 (Int.toNat x33)).2).1, (((rd t52 (Int.toNat x33)).2).2).1, ((((rd t52 (Int.toNat x33)).2).2).2).1, t53, ((((((rd t52 (Int.toNat x33)).2).2).2).2).2).1, ((((((rd t52 (Int.toNat x33)).2).2).2).2).2).2); grd (decide (0 ≤ x33) && decide (x33 < (t54.length : Int))) (laws_markUint64S.c n (((((((rd t54 (Int.toNat x33)).2).2).2).2).2).1) (IntKind.wrap .i64 (t53 + 1)) (fun r55 r56 => let t57 : List (tTNode) := List.set t54 (Int.toNat x33) ((rd t54 (Int.toNat x33)).1, ((rd t54 (Int.toNat x33)).2).1, (((rd t54 (Int.toNat x33)).2).2).1, ((((rd t54 (Int.toNat x33)).2).2).2).1, (((((rd t54 (Int.toNat x33)).2).2).2).2).1, r56, ((((((rd t54 (Int.toNat x33)).2).2).2).2).2).2); grd (decide (0 ≤ x33) && decide (x33 < (t57.length : Int))) (laws_markInt64S.c n (((((((rd t57 (Int.toNat x33)).2).2).2).2).2).2) r55 (fun r58 r59 => let t60 : List (tTNode) := List.set t57 (Int.toNat x33) ((rd t57 (Int.toNat x33)).1, ((rd t57 (Int.toNat x33)).2).1, (((rd t57 (Int.toNat x33)).2).2).1, ((((rd t57 (Int.toNat x33)).2).2).2).1, (((((rd t57 (Int.toNat x33)).2).2).2).2).1, ((((((rd t57 (Int.toNat x33)).2).2).2).2).2).1, r59); again2 r58 (IntKind.wrap .i64 (x33 + 1)) t60)))))))))) else (Kx0w2 x32 x34)
def laws_markTNodeS.l2 : Nat → Int → Int → List (tTNode) → (Int → List (tTNode) → Prop) → Prop
 | 0, _, _, _, _ => False
 | n + 1, x32, x33, x34, Kx0w2 => laws_markTNodeS.l2.b n   (fun x32q x33q x34q => laws_markTNodeS.l2 n x32q x33q x34q Kx0w2) x32 x33 x34 Kx0w2
def laws_markTNodeS.w (n : Nat) (lp2 : Int → Int → List (tTNode) → (Int → List (tTNode) → Prop) → Prop) (a1 : List (tTNode)) (a2 : Int) (K : Int → List (tTNode) → Prop) : Prop :=
 lp2 a2 0 a1 (fun y63 y64 => K y63 y64)
def laws_markTNodeS.c : Nat → List (tTNode) → Int → (Int → List (tTNode) → Prop) → Prop
 | 0, _, _, _ => False
 | n + 1, a1, a2, K => laws_markTNodeS.w n (laws_markTNodeS.l2 n) a1 a2 K
def laws_markLiteralS.l2.b (n : Nat) (again2 : Int → Int → List (tLiteral) → Prop) (x26 : Int) (x27 : Int) (x28 : List (tLiteral)) (Kx0w2 : Int → List (tLiteral) → Prop) : Prop :=
 if (decide (x27 < (x28.length : Int))) = true then (grd (decide (0 ≤ x27) && decide (x27 < (x28.length : Int))) (let t39 : List (tLiteral) := List.set x28 (Int.toNat x27) (x26, ((rd x28 (Int.toNat x27)).2).1, (((rd x28 (Int.toNat x27)).2).2).1, (((rd x28 (Int.toNat x27)).2).2).2); let t40 : Bool := decide (Int.tmod (IntKind.wrap .i64 (x26 + 1)) 3 = 0); grd (decide (0 ≤ x27) && decide (x27 < (t39.length : Int))) (let t41 : List (tLiteral) := List.set t39 (Int.toNat x27) ((rd t39 (Int.toNat x27)).1, t40, (((rd t39 (Int.toNat x27)).2).2).1, (((rd t39 (Int.toNat x27)).2).2).2); let t42 : Int := IntKind.wrap .i64 ((IntKind.wrap .i64 (x26 + 1)) + 1); grd (decide (0 ≤ x27) && decide (x27 < (t41.length : Int))) (laws_markTNodeS.c n ((((rd t41 (Int.toNat x27)).2).2).1) t42 (fun r43 r44 => let t45 : List (tLiteral) := List.set t41 (Int.toNat x27) ((rd t41 (Int.toNat x27)).1, ((rd t41 (Int.toNat x27)).2).1, r44, (((rd t41 (Int.toNat x27)).2).2).2); grd (decide (0 ≤ x27) && decide (x27 < (t45.length : Int))) (laws_markTNodeS.c n ((((rd t45 (Int.toNat x27)).2).2).2) r43 (fun r46 r47 => let t48 : List (tLiteral) := List.set t45 (Int.toNat x27) ((rd t45 (Int.toNat x27)).1, ((rd t45 (Int.toNat x27)).2).1, (((rd t45 (Int.toNat x27)).2).2).1, r47); again2 r46 (IntKind.wrap .i64 (x27 + 1)) t48))))))) else (Kx0w2 x26 x28)
def laws_markLiteralS.l2 : Nat → Int → Int → List (tLiteral) → (Int → List (tLiteral) → Prop) → Prop
 | 0, _, _, _, _ => False
 | n + 1, x26, x27, x28, Kx0w2 => laws_markLiteralS.l2.b n   (fun x26q x27q x28q => laws_markLiteralS.l2 n x26q x27q x28q Kx0w2) x26 x27 x28 Kx0w2
def laws_markLiteralS.w (n : Nat) (lp2 : Int → Int → List (tLiteral) → (Int → List (tLiteral) → Prop) → Prop) (a1 : List (tLiteral)) (a2 : Int) (K : Int → List (tLiteral) → Prop) : Prop :=
 lp2 a2 0 a1 (fun y51 y52 => K y51 y52)
def laws_markLiteralS.c : Nat → List (tLiteral) → Int → (Int → List (tLiteral) → Prop) → Prop
 | 0, _, _, _ => False
 | n + 1, a1, a2, K => laws_markLiteralS.w n (laws_markLiteralS.l2 n) a1 a2 K
def laws_markScopeS.l2.b (n : Nat) (again2 : Int → Int → List (tScope) → Prop) (x14 : Int) (x15 : Int) (x16 : List (tScope)) (Kx0w2 : Int → List (tScope) → Prop) : Prop :=
 if (decide (x15 < (x16.length : Int))) = true then (grd (decide (0 ≤ x15) && decide (x15 < (x16.length : Int))) (let t21 : List (tScope) := List.set x16 (Int.toNat x15) (x14, (rd x16 (Int.toNat x15)).2); grd (decide (0 ≤ x15) && decide (x15 < (t21.length : Int))) (laws_markLiteralS.c n ((rd t21 (Int.toNat x15)).2) (IntKind.wrap .i64 (x14 + 1)) (fun r22 r23 => let t24 : List (tScope) := List.set t21 (Int.toNat x15) ((rd t21 (Int.toNat x15)).1, r23); again2 r22 (IntKind.wrap .i64 (x15 + 1)) t24)))) else (Kx0w2 x14 x16)
def laws_markScopeS.l2 : Nat → Int → Int → List (tScope) → (Int → List (tScope) → Prop) → Prop
 | 0, _, _, _, _ => False
 | n + 1, x14, x15, x16, Kx0w2 => laws_markScopeS.l2.b n   (fun x14q x15q x16q => laws_markScopeS.l2 n x14q x15q x16q Kx0w2) x14 x15 x16 Kx0w2
def laws_markScopeS.w (n : Nat) (lp2 : Int → Int → List (tScope) → (Int → List (tScope) → Prop) → Prop) (a1 : List (tScope)) (a2 : Int) (K : Int → List (tScope) → Prop) : Prop :=
 lp2 a2 0 a1 (fun y27 y28 => K y27 y28)
def laws_markScopeS.c : Nat → List (tScope) → Int → (Int → List (tScope) → Prop) → Prop
 | 0, _, _, _ => False
 | n + 1, a1, a2, K => laws_markScopeS.w n (laws_markScopeS.l2 n) a1 a2 K
def laws_markSession.w (n : Nat) (a1 : List (tDecl)) (a2 : List (tScope)) (a3 : Int) (a4 : Int) (K : Int → List (tDecl) → List (tScope) → Int → Prop) : Prop :=
 laws_markDeclS.c n a1 a4 (fun r5 r6 => laws_markScopeS.c n a2 r5 (fun r7 r8 => K r7 r6 r8 a3))
def laws_markSession.c : Nat → List (tDecl) → List (tScope) → Int → Int → (Int → List (tDecl) → List (tScope) → Int → Prop) → Prop
 | 0, _, _, _, _, _ => False
 | n + 1, a1, a2, a3, a4, K => laws_markSession.w n  a1 a2 a3 a4 K
def laws_heldDeclS.j3 (Kr2 : Int → Prop) (again2 : Int → Int → Prop) (x36 : List (tDecl)) (x37 : Int) (x38 : Int) : Prop :=
 grd (decide (0 ≤ x38) && decide (x38 < (x36.length : Int))) (let t61 : Bool := !(decide ((rd x36 (Int.toNat x38)).2 = IntKind.wrap .i64 (x37 + 1))); if t61 = true then (Kr2 (-1)) else (let t62 : Int := IntKind.wrap .i64 ((IntKind.wrap .i64 (x37 + 1)) + 1); again2 t62 (IntKind.wrap .i64 (x38 + 1))))
def laws_heldDeclS.l2.b (n : Nat) (x36 : List (tDecl)) (again2 : Int → Int → Prop) (x37 : Int) (x38 : Int) (Kx0w2 : Int → Prop) (Kr2 : Int → Prop) : Prop :=
 if (decide (x38 < (x36.length : Int))) = true then (grd (decide (0 ≤ x38) && decide (x38 < (x36.length : Int))) (let p68 : Prop := (laws_markText.c n x37 (fun r66 => if (!(((rd x36 (Int.toNat x38)).1) == r66)) = true then (Kr2 (-1)) else (laws_heldDeclS.j3 Kr2 again2 x36 x37 x38))); (p68 ∧ p68))) else (Kx0w2 x37)
def laws_heldDeclS.l2 : Nat → List (tDecl) → Int → Int → (Int → Prop) → (Int → Prop) → Prop
 | 0, _, _, _, _, _ => False
 | n + 1, x36, x37, x38, Kx0w2, Kr2 => laws_heldDeclS.l2.b n  x36 (fun x37q x38q => laws_heldDeclS.l2 n x36 x37q x38q Kx0w2 Kr2) x37 x38 Kx0w2 Kr2
def laws_heldDeclS.w (n : Nat) (lp2 : List (tDecl) → Int → Int → (Int → Prop) → (Int → Prop) → Prop) (a1 : List (tDecl)) (a2 : Int) (K : Int → Prop) : Prop :=
 lp2 a1 a2 0 (fun y71 => K y71) (fun y72 => K y72)
def laws_heldDeclS.c : Nat → List (tDecl) → Int → (Int → Prop) → Prop
 | 0, _, _, _ => False
 | n + 1, a1, a2, K => laws_heldDeclS.w n (laws_heldDeclS.l2 n) a1 a2 K
def laws_heldUint64S.l2.b (n : Nat) (x10 : List Int) (again2 : Int → Int → Prop) (x11 : Int) (x12 : Int) (Kx0w2 : Int → Prop) (Kr2 : Int → Prop) : Prop :=
 if (decide (x12 < (x10.length : Int))) = true then (grd (decide (0 ≤ x12) && decide (x12 < (x10.length : Int))) (let t16 : Bool := !(decide (rd x10 (Int.toNat x12) = IntKind.wrap .u64 x11)); if t16 = true then (Kr2 (-1)) else (again2 (IntKind.wrap .i64 (x11 + 1)) (IntKind.wrap .i64 (x12 + 1))))) else (Kx0w2 x11)
def laws_heldUint64S.l2 : Nat → List Int → Int → Int → (Int → Prop) → (Int → Prop) → Prop
 | 0, _, _, _, _, _ => False
 | n + 1, x10, x11, x12, Kx0w2, Kr2 => laws_heldUint64S.l2.b n  x10 (fun x11q x12q => laws_heldUint64S.l2 n x10 x11q x12q Kx0w2 Kr2) x11 x12 Kx0w2 Kr2
def laws_heldUint64S.w (n : Nat) (lp2 : List Int → Int → Int → (Int → Prop) → (Int → Prop) → Prop) (a1 : List Int) (a2 : Int) (K : Int → Prop) : Prop :=
 lp2 a1 a2 0 (fun y19 => K y19) (fun y20 => K y20)
def laws_heldUint64S.c : Nat → List Int → Int → (Int → Prop) → Prop
 | 0, _, _, _ => False
 | n + 1, a1, a2, K => laws_heldUint64S.w n (laws_heldUint64S.l2 n) a1 a2 K
def laws_heldInt64S.l2.b (n : Nat) (x6 : List Int) (again2 : Int → Int → Prop) (x7 : Int) (x8 : Int) (Kx0w2 : Int → Prop) (Kr2 : Int → Prop) : Prop :=
 if (decide (x8 < (x6.length : Int))) = true then (grd (decide (0 ≤ x8) && decide (x8 < (x6.length : Int))) (if (!(decide (rd x6 (Int.toNat x8) = x7))) = true then (Kr2 (-1)) else (again2 (IntKind.wrap .i64 (x7 + 1)) (IntKind.wrap .i64 (x8 + 1))))) else (Kx0w2 x7)
def laws_heldInt64S.l2 : Nat → List Int → Int → Int → (Int → Prop) → (Int → Prop) → Prop
 | 0, _, _, _, _, _ => False
 | n + 1, x6, x7, x8, Kx0w2, Kr2 => laws_heldInt64S.l2.b n  x6 (fun x7q x8q => laws_heldInt64S.l2 n x6 x7q x8q Kx0w2 Kr2) x7 x8 Kx0w2 Kr2
def laws_heldInt64S.w (n : Nat) (lp2 : List Int → Int → Int → (Int → Prop) → (Int → Prop) → Prop) (a1 : List Int) (a2 : Int) (K : Int → Prop) : Prop :=
 lp2 a1 a2 0 (fun y11 => K y11) (fun y12 => K y12)
def laws_heldInt64S.c : Nat → List Int → Int → (Int → Prop) → Prop
 | 0, _, _, _ => False
 | n + 1, a1, a2, K => laws_heldInt64S.w n (laws_heldInt64S.l2 n) a1 a2 K
def laws_heldTNodeS.l2.b (n : Nat) (x30 : List (tTNode)) (again2 : Int → Int → Prop) (x31 : Int) (x32 : Int) (Kx0w2 : Int → Prop) (Kr2 : Int → Prop) : Prop :=
 if (decide (x32 < (x30.length : Int))) = true then (grd (decide (0 ≤ x32) && decide (x32 < (x30.length : Int))) (if (!(decide ((rd x30 (Int.toNat x32)).1 = x31))) = true then (Kr2 (-1)) else (grd (decide (0 ≤ x32) && decide (x32 < (x30.length : Int))) (let t48 : Bool := !(decide (((rd x30 (Int.toNat x32)).2).1 = IntKind.wrap .i64 (x31 + 1))); if t48 = true then (Kr2 (-1)) else (let t49 : Int := IntKind.wrap .i64 ((IntKind.wrap .i64 (x31 + 1)) + 1); grd (decide (0 ≤ x32) && decide (x32 < (x30.length : Int))) (let t51 : Bool := !(decide ((((rd x30 (Int.toNat x32)).2).2).1 = t49)); if t51 = true then (Kr2 (-1)) else (grd (decide (0 ≤ x32) && decide (x32 < (x30.length : Int))) (let t53 : Bool := !(decide (((((rd x30 (Int.toNat x32)).2).2).2).1 = IntKind.wrap .i64 (t49 + 1))); if t53 = true then (Kr2 (-1)) else (let t54 : Int := IntKind.wrap .i64 ((IntKind.wrap .i64 (t49 + 1)) + 1); grd (decide (0 ≤ x32) && decide (x32 < (x30.length : Int))) (let t56 : Bool := !(decide ((((((rd x30 (Int.toNat x32)).2).2).2).2).1 = t54)); if t56 = true then (Kr2 (-1)) else (grd (decide (0 ≤ x32) && decide (x32 < (x30.length : Int))) (let t57 : List Int := ((((((rd x30 (Int.toNat x32)).2).2).2).2).2).1; laws_heldUint64S.c n t57 (IntKind.wrap .i64 (t54 + 1)) (fun r58 => if (decide (r58 < 0)) = true then (Kr2 (-1)) else (grd (decide (0 ≤ x32) && decide (x32 < (x30.length : Int))) (let t59 : List Int := ((((((rd x30 (Int.toNat x32)).2).2).2).2).2).2; laws_heldInt64S.c n t59 r58 (fun r60 => if (decide (r60 < 0)) = true then (Kr2 (-1)) else (again2 r60 (IntKind.wrap .i64 (x32 + 1))))))))))))))))))) else (Kx0w2 x31)
def laws_heldTNodeS.l2 : Nat → List (tTNode) → Int → Int → (Int → Prop) → (Int → Prop) → Prop
 | 0, _, _, _, _, _ => False
 | n + 1, x30, x31, x32, Kx0w2, Kr2 => laws_heldTNodeS.l2.b n  x30 (fun x31q x32q => laws_heldTNodeS.l2 n x30 x31q x32q Kx0w2 Kr2) x31 x32 Kx0w2 Kr2
def laws_heldTNodeS.w (n : Nat) (lp2 : List (tTNode) → Int → Int → (Int → Prop) → (Int → Prop) → Prop) (a1 : List (tTNode)) (a2 : Int) (K : Int → Prop) : Prop :=
 lp2 a1 a2 0 (fun y63 => K y63) (fun y64 => K y64)
def laws_heldTNodeS.c : Nat → List (tTNode) → Int → (Int → Prop) → Prop
 | 0, _, _, _ => False
 | n + 1, a1, a2, K => laws_heldTNodeS.w n (laws_heldTNodeS.l2 n) a1 a2 K
def laws_heldLiteralS.l2.b (n : Nat) (x16 : List (tLiteral)) (again2 : Int → Int → Prop) (x17 : Int) (x18 : Int) (Kx0w2 : Int → Prop) (Kr2 : Int → Prop) : Prop :=
 if (decide (x18 < (x16.length : Int))) = true then (grd (decide (0 ≤ x18) && decide (x18 < (x16.length : Int))) (if (!(decide ((rd x16 (Int.toNat x18)).1 = x17))) = true then (Kr2 (-1)) else (grd (decide (0 ≤ x18) && decide (x18 < (x16.length : Int))) (let t25 : Bool := decide (Int.tmod (IntKind.wrap .i64 (x17 + 1)) 3 = 0); if (!((((rd x16 (Int.toNat x18)).2).1) == t25)) = true then (Kr2 (-1)) else (let t26 : Int := IntKind.wrap .i64 ((IntKind.wrap .i64 (x17 + 1)) + 1); grd (decide (0 ≤ x18) && decide (x18 < (x16.length : Int))) (laws_heldTNodeS.c n ((((rd x16 (Int.toNat x18)).2).2).1) t26 (fun r27 => if (decide (r27 < 0)) = true then (Kr2 (-1)) else (grd (decide (0 ≤ x18) && decide (x18 < (x16.length : Int))) (laws_heldTNodeS.c n ((((rd x16 (Int.toNat x18)).2).2).2) r27 (fun r28 => if (decide (r28 < 0)) = true then (Kr2 (-1)) else (again2 r28 (IntKind.wrap .i64 (x18 + 1))))))))))))) else (Kx0w2 x17)
def laws_heldLiteralS.l2 : Nat → List (tLiteral) → Int → Int → (Int → Prop) → (Int → Prop) → Prop
 | 0, _, _, _, _, _ => False
 | n + 1, x16, x17, x18, Kx0w2, Kr2 => laws_heldLiteralS.l2.b n  x16 (fun x17q x18q => laws_heldLiteralS.l2 n x16 x17q x18q Kx0w2 Kr2) x17 x18 Kx0w2 Kr2
def laws_heldLiteralS.w (n : Nat) (lp2 : List (tLiteral) → Int → Int → (Int → Prop) → (Int → Prop) → Prop) (a1 : List (tLiteral)) (a2 : Int) (K : Int → Prop) : Prop :=
 lp2 a1 a2 0 (fun y31 => K y31) (fun y32 => K y32)
def laws_heldLiteralS.c : Nat → List (tLiteral) → Int → (Int → Prop) → Prop
 | 0, _, _, _ => False
 | n + 1, a1, a2, K => laws_heldLiteralS.w n (laws_heldLiteralS.l2 n) a1 a2 K
def laws_heldScopeS.l2.b (n : Nat) (x8 : List (tScope)) (again2 : Int → Int → Prop) (x9 : Int) (x10 : Int) (Kx0w2 : Int → Prop) (Kr2 : Int → Prop) : Prop :=
 if (decide (x10 < (x8.length : Int))) = true then (grd (decide (0 ≤ x10) && decide (x10 < (x8.length : Int))) (if (!(decide ((rd x8 (Int.toNat x10)).1 = x9))) = true then (Kr2 (-1)) else (grd (decide (0 ≤ x10) && decide (x10 < (x8.length : Int))) (laws_heldLiteralS.c n ((rd x8 (Int.toNat x10)).2) (IntKind.wrap .i64 (x9 + 1)) (fun r12 => if (decide (r12 < 0)) = true then (Kr2 (-1)) else (again2 r12 (IntKind.wrap .i64 (x10 + 1)))))))) else (Kx0w2 x9)
def laws_heldScopeS.l2 : Nat → List (tScope) → Int → Int → (Int → Prop) → (Int → Prop) → Prop
 | 0, _, _, _, _, _ => False
 | n + 1, x8, x9, x10, Kx0w2, Kr2 => laws_heldScopeS.l2.b n  x8 (fun x9q x10q => laws_heldScopeS.l2 n x8 x9q x10q Kx0w2 Kr2) x9 x10 Kx0w2 Kr2
def laws_heldScopeS.w (n : Nat) (lp2 : List (tScope) → Int → Int → (Int → Prop) → (Int → Prop) → Prop) (a1 : List (tScope)) (a2 : Int) (K : Int → Prop) : Prop :=
 lp2 a1 a2 0 (fun y15 => K y15) (fun y16 => K y16)
def laws_heldScopeS.c : Nat → List (tScope) → Int → (Int → Prop) → Prop
 | 0, _, _, _ => False
 | n + 1, a1, a2, K => laws_heldScopeS.w n (laws_heldScopeS.l2 n) a1 a2 K
def laws_heldSession.w (n : Nat) (a1 : List (tDecl)) (a2 : List (tScope)) (a3 : Int) (a4 : Int) (K : Int → Prop) : Prop :=
 laws_heldDeclS.c n a1 a4 (fun r5 => if (decide (r5 < 0)) = true then (K (-1)) else (laws_heldScopeS.c n a2 r5 (fun r6 => if (decide (r6 < 0)) = true then (K (-1)) else (K r6))))
def laws_heldSession.c : Nat → List (tDecl) → List (tScope) → Int → Int → (Int → Prop) → Prop
 | 0, _, _, _, _, _ => False
 | n + 1, a1, a2, a3, a4, K => laws_heldSession.w n  a1 a2 a3 a4 K
def spec_Pop.w (n : Nat) (a1 : List (tDecl)) (a2 : List (tScope)) (a3 : Int) (K : List (tDecl) → List (tScope) → Int → Int → Prop) : Prop :=
 let t4 : List (tScope) := ([] : List (tScope)); spec_SessionOk.c n a1 a2 a3 (fun r7 => if (!r7) = true then (let t8 : List (tScope) := ([] : List (tScope)); K ([] : List (tDecl)) t8 0 1) else (spec_l21Copy.c n a1 a2 a3 (fun r9 r10 r11 => let t12 : List (tScope) := ([] : List (tScope)); let t14 : Bool := decide (IntKind.wrap .i64 ((a2.length : Int) - 1) = 0); if t14 = true then (K r9 r10 r11 8) else (grd (decide (0 ≤ IntKind.wrap .i64 ((a2.length : Int) - 1)) && decide (IntKind.wrap .i64 ((a2.length : Int) - 1) < (a2.length : Int))) (let t16 : tScope := rd a2 (Int.toNat (IntKind.wrap .i64 ((a2.length : Int) - 1))); grd ((decide (0 ≤ t16.1) && decide (t16.1 ≤ (r9.length : Int))) && decide (0 ≤ t16.1)) (grd ((decide (0 ≤ IntKind.wrap .i64 ((a2.length : Int) - 1)) && decide (IntKind.wrap .i64 ((a2.length : Int) - 1) ≤ (r10.length : Int))) && decide (0 ≤ IntKind.wrap .i64 ((a2.length : Int) - 1))) (let t17 : Nat := Int.toNat (IntKind.wrap .i64 ((a2.length : Int) - 1)); K (List.take (Int.toNat t16.1) r9) (List.take t17 r10) r11 0)))))))
def spec_Pop.c : Nat → List (tDecl) → List (tScope) → Int → (List (tDecl) → List (tScope) → Int → Int → Prop) → Prop
 | 0, _, _, _, _ => False
 | n + 1, a1, a2, a3, K => spec_Pop.w n  a1 a2 a3 K
def impl_Pop.w (n : Nat) (a1 : List (tDecl)) (a2 : List (tScope)) (a3 : Int) (K : List (tDecl) → List (tScope) → Int → Int → Prop) : Prop :=
 let t4 : List (tScope) := ([] : List (tScope)); impl_SessionOk.c n a1 a2 a3 (fun r7 => if (!r7) = true then (let t8 : List (tScope) := ([] : List (tScope)); K ([] : List (tDecl)) t8 0 1) else (impl_cloneSession.c n a1 a2 a3 (fun r9 r10 r11 => let t12 : List (tScope) := ([] : List (tScope)); let t14 : Bool := decide (IntKind.wrap .i64 ((a2.length : Int) - 1) = 0); if t14 = true then (K r9 r10 r11 8) else (grd (decide (0 ≤ IntKind.wrap .i64 ((a2.length : Int) - 1)) && decide (IntKind.wrap .i64 ((a2.length : Int) - 1) < (a2.length : Int))) (let t16 : tScope := rd a2 (Int.toNat (IntKind.wrap .i64 ((a2.length : Int) - 1))); grd ((decide (0 ≤ t16.1) && decide (t16.1 ≤ (r9.length : Int))) && decide (0 ≤ t16.1)) (grd ((decide (0 ≤ IntKind.wrap .i64 ((a2.length : Int) - 1)) && decide (IntKind.wrap .i64 ((a2.length : Int) - 1) ≤ (r10.length : Int))) && decide (0 ≤ IntKind.wrap .i64 ((a2.length : Int) - 1))) (let t17 : Nat := Int.toNat (IntKind.wrap .i64 ((a2.length : Int) - 1)); K (List.take (Int.toNat t16.1) r9) (List.take t17 r10) r11 0)))))))
def impl_Pop.c : Nat → List (tDecl) → List (tScope) → Int → (List (tDecl) → List (tScope) → Int → Int → Prop) → Prop
 | 0, _, _, _, _ => False
 | n + 1, a1, a2, a3, K => impl_Pop.w n  a1 a2 a3 K
def laws_FnExactPop.j0 (K : Bool → Prop) (n : Nat) (r19 : Int) (r51 : Int) (r52 : List (tDecl)) (r53 : List (tScope)) : Prop :=
 laws_heldSession.c n r52 r53 r19 1 (fun r67 => if (decide (r67 < 0)) = true then (K false) else (if (!(decide (r67 = r51))) = true then (K false) else (K true)))
def laws_FnExactPop.j1 (K : Bool → Prop) (a1 : List (tDecl)) (a2 : List (tScope)) (a3 : Int) (n : Nat) (r8 : List (tDecl)) (r9 : List (tScope)) (r10 : Int) (r11 : Int) (r17 : List (tDecl)) (r18 : List (tScope)) (r19 : Int) : Prop :=
 laws_markSession.c n r17 r18 r19 1 (fun r51 r52 r53 r54 => laws_heldSession.c n r52 r53 r19 1 (fun r55 => if (decide (r55 < 0)) = true then (K false) else (if (!(decide (r55 = r51))) = true then (K false) else (laws_toSession.c n a1 a2 a3 (fun r56 r57 r58 => impl_Pop.c n r56 r57 r58 (fun r59 r60 r61 r62 => let t63 : List (tScope) := ([] : List (tScope)); laws_eqSession.c n r59 r60 r61 r8 r9 r10 (fun r70 => if (!r70) = false then (if (!(decide (r62 = r11))) = true then (K false) else (laws_FnExactPop.j0 K n r19 r51 r52 r53)) else (K false))))))))
def laws_FnExactPop.j2 (K : Bool → Prop) (a1 : List (tDecl)) (a2 : List (tScope)) (a3 : Int) (n : Nat) (r8 : List (tDecl)) (r9 : List (tScope)) (r10 : Int) (r11 : Int) (r13 : List (tDecl)) (r14 : List (tScope)) (r15 : Int) (r17 : List (tDecl)) (r18 : List (tScope)) (r19 : Int) (r20 : Int) : Prop :=
 laws_markSession.c n r13 r14 r15 1 (fun r44 r45 r46 r47 => if (decide (r44 < 0)) = false then (laws_eqSession.c n r17 r18 r19 r8 r9 r10 (fun r73 => if (!r73) = false then (if (!(decide (r20 = r11))) = true then (K false) else (laws_FnExactPop.j1 K a1 a2 a3 n r8 r9 r10 r11 r17 r18 r19)) else (K false))) else (K false))
def laws_FnExactPop.j3 (K : Bool → Prop) (a1 : List (tDecl)) (a2 : List (tScope)) (a3 : Int) (n : Nat) (r8 : List (tDecl)) (r9 : List (tScope)) (r10 : Int) (r11 : Int) (r13 : List (tDecl)) (r14 : List (tScope)) (r15 : Int) (r17 : List (tDecl)) (r18 : List (tScope)) (r19 : Int) (r20 : Int) : Prop :=
 let p92 : Prop := (laws_toSession.c n a1 a2 a3 (fun r84 r85 r86 => laws_eqSession.c n r13 r14 r15 r84 r85 r86 (fun r87 => if (!r87) = true then (K false) else (laws_FnExactPop.j2 K a1 a2 a3 n r8 r9 r10 r11 r13 r14 r15 r17 r18 r19 r20)))); (p92 ∧ p92)
def laws_FnExactPop.w (n : Nat) (a1 : List (tDecl)) (a2 : List (tScope)) (a3 : Int) (K : Bool → Prop) : Prop :=
 laws_szSession.c n a1 a2 a3 1048576 (fun r4 => if (decide (r4 < 0)) = true then (K true) else (laws_toSession.c n a1 a2 a3 (fun r5 r6 r7 => spec_Pop.c n r5 r6 r7 (fun r8 r9 r10 r11 => let t12 : List (tScope) := ([] : List (tScope)); laws_toSession.c n a1 a2 a3 (fun r13 r14 r15 => let t16 : List (tScope) := ([] : List (tScope)); impl_Pop.c n r13 r14 r15 (fun r17 r18 r19 r20 => let t21 : List (tScope) := ([] : List (tScope)); laws_eqSession.c n r17 r18 r19 r8 r9 r10 (fun r95 => if (!r95) = false then (if (!(decide (r20 = r11))) = true then (K false) else (laws_FnExactPop.j3 K a1 a2 a3 n r8 r9 r10 r11 r13 r14 r15 r17 r18 r19 r20)) else (K false))))))))
def laws_FnExactPop.c : Nat → List (tDecl) → List (tScope) → Int → (Bool → Prop) → Prop
 | 0, _, _, _, _ => False
 | n + 1, a1, a2, a3, K => laws_FnExactPop.w n  a1 a2 a3 K
end Go.Vsi
end
