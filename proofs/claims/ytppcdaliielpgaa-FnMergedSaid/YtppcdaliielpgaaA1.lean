/- Go functions, told on plain data. No statement is proved here. -/
import Derived.Test.YtppcdaliielpgaaM1

section
set_option linter.unusedVariables false
set_option synthInstance.maxSize 4096
namespace Go.Vsi
abbrev tDecl : Type := List UInt8 × Int
instance : DecidableEq tDecl := inferInstance
abbrev tBits : Type := Int × List (Int)
instance : DecidableEq tBits := inferInstance
def spec_l8CopyBits.w (n : Nat) (a1 : Int) (a2 : List Int) (K : Int → List Int → Prop) : Prop :=
 let p7 : Prop := (let p4 : Prop := (grd (decide (([] : List (Int)).length + a2.length ≤ 7818749353073)) (K a1 (([] : List (Int)) ++ a2))); (p4 ∧ p4)); (p7 ∧ p7 ∧ ((grd (decide (([] : List (Int)).length + a2.length ≤ 7818749353073)) (K a1 (([] : List (Int)) ++ a2))) ∧ (let p6 : Prop := (grd (decide (([] : List (Int)).length + a2.length ≤ 7818749353073)) (K a1 (([] : List (Int)) ++ a2))); (p6 ∧ p6))))
def spec_l8CopyBits.c : Nat → Int → List Int → (Int → List Int → Prop) → Prop
 | 0, _, _, _ => False
 | n + 1, a1, a2, K => spec_l8CopyBits.w n  a1 a2 K
def slices_Clone_uint64.w (n : Nat) (a1 : List Int) (K : List Int → Prop) : Prop :=
 (a1.length = 0 → (K ([] : List (Int)))) ∧ (grd (decide (([] : List (Int)).length + a1.length ≤ 7818749353073)) (K (([] : List (Int)) ++ a1)))
def slices_Clone_uint64.c : Nat → List Int → (List Int → Prop) → Prop
 | 0, _, _ => False
 | n + 1, a1, K => slices_Clone_uint64.w n  a1 K
def impl_cloneBits.w (n : Nat) (a1 : Int) (a2 : List Int) (K : Int → List Int → Prop) : Prop :=
 (slices_Clone_uint64.c n a2 (fun r6 => K a1 r6)) ∧ (slices_Clone_uint64.c n a2 (fun r7 => K a1 r7))
def impl_cloneBits.c : Nat → Int → List Int → (Int → List Int → Prop) → Prop
 | 0, _, _, _ => False
 | n + 1, a1, a2, K => impl_cloneBits.w n  a1 a2 K
def spec_l1In.w (n : Nat) (a1 : Int) (a2 : Int) (a3 : Int) (K : Bool → Prop) : Prop :=
 if (decide (a1 ≥ a2)) = true then (K (decide (a1 ≤ a3))) else (K false)
def spec_l1In.c : Nat → Int → Int → Int → (Bool → Prop) → Prop
 | 0, _, _, _, _ => False
 | n + 1, a1, a2, a3, K => spec_l1In.w n  a1 a2 a3 K
def spec_l1Bit.w (n : Nat) (a1 : Int) (a2 : List Int) (a3 : Int) (K : Int → Prop) : Prop :=
 grd (decide (0 ≤ IntKind.wrap .i64 (Int.tdiv a3 64)) && decide (IntKind.wrap .i64 (Int.tdiv a3 64) < (a2.length : Int))) (let t4 : Int := rd a2 (Int.toNat (IntKind.wrap .i64 (Int.tdiv a3 64))); grd (decide (0 ≤ IntKind.wrap .u64 (Int.tmod a3 64))) (let t5 : Int := Int.fdiv t4 (2 ^ (Nat.min (Int.toNat (IntKind.wrap .u64 (Int.tmod a3 64))) 64)); K (IntKind.wrap .u8 (ibits .and .u64 t5 1))))
def spec_l1Bit.c : Nat → Int → List Int → Int → (Int → Prop) → Prop
 | 0, _, _, _, _ => False
 | n + 1, a1, a2, a3, K => spec_l1Bit.w n  a1 a2 a3 K
def spec_BitsOk.l4.b (n : Nat) (x16 : Int) (x17 : List Int) (again4 : Int → Prop) (x15 : Int) (Kx0w4 : Prop) (Kr4 : Bool → Prop) : Prop :=
 let t19 : Bool := decide (x15 < IntKind.wrap .i64 (64 * (x17.length : Int))); if t19 = true then (spec_l1Bit.c n x16 x17 x15 (fun r21 => if (!(decide (r21 = 0))) = true then (Kr4 false) else (again4 (IntKind.wrap .i64 (x15 + 1))))) else (Kx0w4)
def spec_BitsOk.l4 : Nat → Int → List Int → Int → Prop → (Bool → Prop) → Prop
 | 0, _, _, _, _, _ => False
 | n + 1, x16, x17, x15, Kx0w4, Kr4 => spec_BitsOk.l4.b n  x16 x17 (fun x15q => spec_BitsOk.l4 n x16 x17 x15q Kx0w4 Kr4) x15 Kx0w4 Kr4
def spec_BitsOk.w (n : Nat) (lp4 : Int → List Int → Int → Prop → (Bool → Prop) → Prop) (a1 : Int) (a2 : List Int) (K : Bool → Prop) : Prop :=
 spec_l1In.c n a1 1 4096 (fun r29 => if (!r29) = false then (let t30 : Int := IntKind.wrap .i64 (Int.tdiv (IntKind.wrap .i64 (a1 + 63)) 64); if (!(decide ((a2.length : Int) = t30))) = true then (K false) else (lp4 a1 a2 a1 (K true) (fun y32 => K y32))) else (K false))
def spec_BitsOk.c : Nat → Int → List Int → (Bool → Prop) → Prop
 | 0, _, _, _ => False
 | n + 1, a1, a2, K => spec_BitsOk.w n (spec_BitsOk.l4 n) a1 a2 K
def impl_inside.w (n : Nat) (a1 : Int) (a2 : Int) (a3 : Int) (K : Bool → Prop) : Prop :=
 if (decide (a1 ≥ a2)) = true then (K (decide (a1 ≤ a3))) else (K false)
def impl_inside.c : Nat → Int → Int → Int → (Bool → Prop) → Prop
 | 0, _, _, _, _ => False
 | n + 1, a1, a2, a3, K => impl_inside.w n  a1 a2 a3 K
def impl_wordsFor.w (n : Nat) (a1 : Int) (K : Int → Prop) : Prop :=
 let t2 : Int := IntKind.wrap .i64 (Int.tdiv (IntKind.wrap .i64 (a1 + 63)) 64); K t2
def impl_wordsFor.c : Nat → Int → (Int → Prop) → Prop
 | 0, _, _ => False
 | n + 1, a1, K => impl_wordsFor.w n  a1 K
def impl_BitsOk.j0 (K : Bool → Prop) (a1 : Int) (a2 : List Int) : Prop :=
 if (decide (Int.tmod a1 64 = 0)) = false then (grd (decide (0 ≤ IntKind.wrap .i64 ((a2.length : Int) - 1)) && decide (IntKind.wrap .i64 ((a2.length : Int) - 1) < (a2.length : Int))) (let t14 : Int := rd a2 (Int.toNat (IntKind.wrap .i64 ((a2.length : Int) - 1))); grd (decide (0 ≤ Int.tmod a1 64)) (let t15 : Int := Int.fdiv t14 (2 ^ (Nat.min (Int.toNat (Int.tmod a1 64)) 64)); K (decide (t15 = 0))))) else (K true)
def impl_BitsOk.w (n : Nat) (a1 : Int) (a2 : List Int) (K : Bool → Prop) : Prop :=
 impl_inside.c n a1 1 4096 (fun r20 => if (!r20) = false then (let p23 : Prop := (impl_wordsFor.c n a1 (fun r21 => if (!(decide ((a2.length : Int) = r21))) = true then (K false) else (impl_BitsOk.j0 K a1 a2))); (p23 ∧ p23)) else ((K false) ∧ (K false)))
def impl_BitsOk.c : Nat → Int → List Int → (Bool → Prop) → Prop
 | 0, _, _, _ => False
 | n + 1, a1, a2, K => impl_BitsOk.w n  a1 a2 K
def spec_l1Has.l2.b (n : Nat) (x6 : List Int) (x7 : Int) (again2 : Int → Prop) (x8 : Int) (Kx0w2 : Prop) (Kr2 : Bool → Prop) : Prop :=
 if (decide (x8 < (x6.length : Int))) = true then (grd (decide (0 ≤ x8) && decide (x8 < (x6.length : Int))) (if (decide (rd x6 (Int.toNat x8) = x7)) = true then (Kr2 true) else (again2 (IntKind.wrap .i64 (x8 + 1))))) else (Kx0w2)
def spec_l1Has.l2 : Nat → List Int → Int → Int → Prop → (Bool → Prop) → Prop
 | 0, _, _, _, _, _ => False
 | n + 1, x6, x7, x8, Kx0w2, Kr2 => spec_l1Has.l2.b n  x6 x7 (fun x8q => spec_l1Has.l2 n x6 x7 x8q Kx0w2 Kr2) x8 Kx0w2 Kr2
def spec_l1Has.w (n : Nat) (lp2 : List Int → Int → Int → Prop → (Bool → Prop) → Prop) (a1 : List Int) (a2 : Int) (K : Bool → Prop) : Prop :=
 lp2 a1 a2 0 (K false) (fun y10 => K y10)
def spec_l1Has.c : Nat → List Int → Int → (Bool → Prop) → Prop
 | 0, _, _, _ => False
 | n + 1, a1, a2, K => spec_l1Has.w n (spec_l1Has.l2 n) a1 a2 K
def spec_l1Digit.w (n : Nat) (a1 : Int) (K : Bool → Prop) : Prop :=
 if (decide (a1 ≥ 48)) = true then (K (decide (a1 ≤ 57))) else (K false)
def spec_l1Digit.c : Nat → Int → (Bool → Prop) → Prop
 | 0, _, _ => False
 | n + 1, a1, K => spec_l1Digit.w n  a1 K
def spec_l1Name.l4.b (n : Nat) (x25 : List UInt8) (again4 : Int → Prop) (x26 : Int) (Kx0w4 : Prop) (Kr4 : Bool → Prop) : Prop :=
 if (decide (x26 < (x25.length : Int))) = true then (grd (decide (0 ≤ x26) && decide (x26 < (x25.length : Int))) (let t41 : Int := ((List.getD x25 (Int.toNat x26) 0).toNat : Int); spec_l1Digit.c n t41 (fun r42 => if (!r42) = true then (grd (decide (0 ≤ x26) && decide (x26 < (x25.length : Int))) (let t43 : Int := ((List.getD x25 (Int.toNat x26) 0).toNat : Int); if (decide (t43 < 97)) = false then (grd (decide (0 ≤ x26) && decide (x26 < (x25.length : Int))) (let t44 : Int := ((List.getD x25 (Int.toNat x26) 0).toNat : Int); if (decide (t44 > 122)) = true then (Kr4 false) else (again4 (IntKind.wrap .i64 (x26 + 1))))) else (Kr4 false))) else (again4 (IntKind.wrap .i64 (x26 + 1)))))) else (Kx0w4)
def spec_l1Name.l4 : Nat → List UInt8 → Int → Prop → (Bool → Prop) → Prop
 | 0, _, _, _, _ => False
 | n + 1, x25, x26, Kx0w4, Kr4 => spec_l1Name.l4.b n  x25 (fun x26q => spec_l1Name.l4 n x25 x26q Kx0w4 Kr4) x26 Kx0w4 Kr4
def spec_l1Name.w (n : Nat) (lp4 : List UInt8 → Int → Prop → (Bool → Prop) → Prop) (a1 : List UInt8) (K : Bool → Prop) : Prop :=
 if (decide ((a1.length : Int) < 1)) = false then (if (decide ((a1.length : Int) > 12)) = false then (grd (decide (0 < (a1.length : Int))) (spec_l1Digit.c n ((List.getD a1 0 0).toNat : Int) (fun r51 => if r51 = true then (K false) else (lp4 a1 0 (K true) (fun y53 => K y53))))) else (K false)) else (K false)
def spec_l1Name.c : Nat → List UInt8 → (Bool → Prop) → Prop
 | 0, _, _ => False
 | n + 1, a1, K => spec_l1Name.w n (spec_l1Name.l4 n) a1 K
def spec_DeclsOk.l10.b (n : Nat) (x18 : List (tDecl)) (x19 : Int) (x20 : Int) (again10 : Int → Prop) (x21 : Int) (Kx2w10 : List (tDecl) → Int → Int → Prop) (Kr10 : Bool → Prop) : Prop :=
 if (decide (x21 < x20)) = true then (grd (decide (0 ≤ x21) && decide (x21 < (x18.length : Int))) (grd (decide (0 ≤ x20) && decide (x20 < (x18.length : Int))) (let t25 : Bool := (((rd x18 (Int.toNat x21)).1) == ((rd x18 (Int.toNat x20)).1)); if t25 = true then (Kr10 false) else (again10 (IntKind.wrap .i64 (x21 + 1)))))) else (Kx2w10 x18 x19 x20)
def spec_DeclsOk.l10 : Nat → List (tDecl) → Int → Int → Int → (List (tDecl) → Int → Int → Prop) → (Bool → Prop) → Prop
 | 0, _, _, _, _, _, _ => False
 | n + 1, x18, x19, x20, x21, Kx2w10, Kr10 => spec_DeclsOk.l10.b n  x18 x19 x20 (fun x21q => spec_DeclsOk.l10 n x18 x19 x20 x21q Kx2w10 Kr10) x21 Kx2w10 Kr10
def spec_DeclsOk.j3 (Kr5 : Bool → Prop) (again5 : List (tDecl) → Int → Int → Prop) (lp10 : List (tDecl) → Int → Int → Int → (List (tDecl) → Int → Int → Prop) → (Bool → Prop) → Prop) (x59 : List (tDecl)) (x60 : Int) (x61 : Int) : Prop :=
 lp10 x59 x60 x61 0 (fun y90 y91 y92 => grd (decide (0 ≤ y92) && decide (y92 < (y90.length : Int))) (let t93 : Int := IntKind.wrap .i64 (y91 + ((rd y90 (Int.toNat y92)).2)); again5 y90 t93 (IntKind.wrap .i64 (y92 + 1)))) (fun y94 => Kr5 y94)
def spec_DeclsOk.l5.b (n : Nat) (lp10 : List (tDecl) → Int → Int → Int → (List (tDecl) → Int → Int → Prop) → (Bool → Prop) → Prop) (again5 : List (tDecl) → Int → Int → Prop) (x59 : List (tDecl)) (x60 : Int) (x61 : Int) (Kx0w5 : Int → Prop) (Kr5 : Bool → Prop) : Prop :=
 if (decide (x61 < (x59.length : Int))) = true then (grd (decide (0 ≤ x61) && decide (x61 < (x59.length : Int))) (spec_l1Name.c n ((rd x59 (Int.toNat x61)).1) (fun r98 => if (!r98) = false then (grd (decide (0 ≤ x61) && decide (x61 < (x59.length : Int))) (spec_l1In.c n ((rd x59 (Int.toNat x61)).2) 1 4096 (fun r99 => if (!r99) = true then (Kr5 false) else (spec_DeclsOk.j3 Kr5 again5 lp10 x59 x60 x61)))) else (Kr5 false)))) else (Kx0w5 x60)
def spec_DeclsOk.l5 : Nat → List (tDecl) → Int → Int → (Int → Prop) → (Bool → Prop) → Prop
 | 0, _, _, _, _, _ => False
 | n + 1, x59, x60, x61, Kx0w5, Kr5 => spec_DeclsOk.l5.b n (spec_DeclsOk.l10 n)  (fun x59q x60q x61q => spec_DeclsOk.l5 n x59q x60q x61q Kx0w5 Kr5) x59 x60 x61 Kx0w5 Kr5
def spec_DeclsOk.w (n : Nat) (lp5 : List (tDecl) → Int → Int → (Int → Prop) → (Bool → Prop) → Prop) (a1 : List (tDecl)) (K : Bool → Prop) : Prop :=
 if (decide ((a1.length : Int) > 60)) = true then (K false) else (lp5 a1 0 0 (fun y102 => K (decide (y102 ≤ 20000))) (fun y103 => K y103))
def spec_DeclsOk.c : Nat → List (tDecl) → (Bool → Prop) → Prop
 | 0, _, _ => False
 | n + 1, a1, K => spec_DeclsOk.w n (spec_DeclsOk.l5 n) a1 K
def impl_nameOk.l4.b (n : Nat) (x35 : List UInt8) (again4 : Int → Prop) (x36 : Int) (Kx0w4 : Prop) (Kr4 : Bool → Prop) : Prop :=
 if (decide (x36 < (x35.length : Int))) = true then (grd (decide (0 ≤ x36) && decide (x36 < (x35.length : Int))) (let t57 : Int := ((List.getD x35 (Int.toNat x36) 0).toNat : Int); if (decide (t57 < 97)) = false then (grd (decide (0 ≤ x36) && decide (x36 < (x35.length : Int))) (let t58 : Int := ((List.getD x35 (Int.toNat x36) 0).toNat : Int); if (decide (t58 > 122)) = true then (grd (decide (0 ≤ x36) && decide (x36 < (x35.length : Int))) (let t59 : Int := ((List.getD x35 (Int.toNat x36) 0).toNat : Int); if (decide (t59 < 48)) = false then (grd (decide (0 ≤ x36) && decide (x36 < (x35.length : Int))) (let t60 : Int := ((List.getD x35 (Int.toNat x36) 0).toNat : Int); if (decide (t60 > 57)) = true then (Kr4 false) else (again4 (IntKind.wrap .i64 (x36 + 1))))) else (Kr4 false))) else (again4 (IntKind.wrap .i64 (x36 + 1))))) else (grd (decide (0 ≤ x36) && decide (x36 < (x35.length : Int))) (let t61 : Int := ((List.getD x35 (Int.toNat x36) 0).toNat : Int); if (decide (t61 < 48)) = false then (grd (decide (0 ≤ x36) && decide (x36 < (x35.length : Int))) (let t62 : Int := ((List.getD x35 (Int.toNat x36) 0).toNat : Int); if (decide (t62 > 57)) = true then (Kr4 false) else (again4 (IntKind.wrap .i64 (x36 + 1))))) else (Kr4 false))))) else (Kx0w4)
def impl_nameOk.l4 : Nat → List UInt8 → Int → Prop → (Bool → Prop) → Prop
 | 0, _, _, _, _ => False
 | n + 1, x35, x36, Kx0w4, Kr4 => impl_nameOk.l4.b n  x35 (fun x36q => impl_nameOk.l4 n x35 x36q Kx0w4 Kr4) x36 Kx0w4 Kr4
def impl_nameOk.w (n : Nat) (lp4 : List UInt8 → Int → Prop → (Bool → Prop) → Prop) (a1 : List UInt8) (K : Bool → Prop) : Prop :=
 if (decide ((a1.length : Int) < 1)) = false then (if (decide ((a1.length : Int) > 12)) = false then (grd (decide (0 < (a1.length : Int))) (let t70 : Bool := decide (((List.getD a1 0 0).toNat : Int) < 97); if t70 = false then (grd (decide (0 < (a1.length : Int))) (let t71 : Bool := decide (((List.getD a1 0 0).toNat : Int) > 122); if t71 = true then (K false) else (lp4 a1 0 (K true) (fun y73 => K y73)))) else (K false))) else (K false)) else (K false)
def impl_nameOk.c : Nat → List UInt8 → (Bool → Prop) → Prop
 | 0, _, _ => False
 | n + 1, a1, K => impl_nameOk.w n (impl_nameOk.l4 n) a1 K
def impl_declared_1.w (n : Nat) (a1 : List UInt8) (a2 : Int) (a3 : List UInt8) (K : Bool → Prop) : Prop :=
 K (a1 == a3)
def impl_declared_1.c : Nat → List UInt8 → Int → List UInt8 → (Bool → Prop) → Prop
 | 0, _, _, _, _ => False
 | n + 1, a1, a2, a3, K => impl_declared_1.w n  a1 a2 a3 K
def slices_IndexFunc_Decl__impl_declared_1.l2.b (n : Nat) (x9 : List (tDecl)) (x10 : List UInt8) (x11 : Int) (again2 : Int → Prop) (x12 : Int) (Kx0w2 : Prop) (Kr2 : Int → Prop) : Prop :=
 if (decide (x12 < x11)) = true then (grd (decide (0 ≤ x12) && decide (x12 < (x9.length : Int))) (impl_declared_1.c n ((rd x9 (Int.toNat x12)).1) ((rd x9 (Int.toNat x12)).2) x10 (fun r14 => if r14 = true then (Kr2 x12) else (again2 (IntKind.wrap .i64 (x12 + 1)))))) else (Kx0w2)
def slices_IndexFunc_Decl__impl_declared_1.l2 : Nat → List (tDecl) → List UInt8 → Int → Int → Prop → (Int → Prop) → Prop
 | 0, _, _, _, _, _, _ => False
 | n + 1, x9, x10, x11, x12, Kx0w2, Kr2 => slices_IndexFunc_Decl__impl_declared_1.l2.b n  x9 x10 x11 (fun x12q => slices_IndexFunc_Decl__impl_declared_1.l2 n x9 x10 x11 x12q Kx0w2 Kr2) x12 Kx0w2 Kr2
def slices_IndexFunc_Decl__impl_declared_1.w (n : Nat) (lp2 : List (tDecl) → List UInt8 → Int → Int → Prop → (Int → Prop) → Prop) (a1 : List (tDecl)) (a2 : List UInt8) (K : Int → Prop) : Prop :=
 lp2 a1 a2 (a1.length : Int) 0 (K (-1)) (fun y16 => K y16)
def slices_IndexFunc_Decl__impl_declared_1.c : Nat → List (tDecl) → List UInt8 → (Int → Prop) → Prop
 | 0, _, _, _ => False
 | n + 1, a1, a2, K => slices_IndexFunc_Decl__impl_declared_1.w n (slices_IndexFunc_Decl__impl_declared_1.l2 n) a1 a2 K
def impl_declared.w (n : Nat) (a1 : List (tDecl)) (a2 : List UInt8) (K : Int → Prop) : Prop :=
 slices_IndexFunc_Decl__impl_declared_1.c n a1 a2 (fun r3 => K r3)
def impl_declared.c : Nat → List (tDecl) → List UInt8 → (Int → Prop) → Prop
 | 0, _, _, _ => False
 | n + 1, a1, a2, K => impl_declared.w n  a1 a2 K
def impl_DeclsOk.l5.b (n : Nat) (x42 : List (tDecl)) (x44 : List (tDecl)) (x45 : Int) (again5 : Int → Int → Prop) (x43 : Int) (x46 : Int) (Kx0w5 : Int → Prop) (Kr5 : Bool → Prop) : Prop :=
 if (decide (x46 < x45)) = true then (grd (decide (0 ≤ x46) && decide (x46 < (x44.length : Int))) (impl_nameOk.c n ((rd x44 (Int.toNat x46)).1) (fun r78 => if (!r78) = false then (impl_inside.c n ((rd x44 (Int.toNat x46)).2) 1 4096 (fun r79 => if (!r79) = false then (grd ((decide (0 ≤ x46) && decide (x46 ≤ (x42.length : Int))) && decide (0 ≤ x46)) (impl_declared.c n (List.drop 0 (List.take (Int.toNat x46) x42)) ((rd x44 (Int.toNat x46)).1) (fun r80 => if (decide (r80 ≥ 0)) = true then (Kr5 false) else (let t81 : Int := IntKind.wrap .i64 (x43 + ((rd x44 (Int.toNat x46)).2)); again5 t81 (IntKind.wrap .i64 (x46 + 1)))))) else (Kr5 false))) else (Kr5 false)))) else (Kx0w5 x43)
def impl_DeclsOk.l5 : Nat → List (tDecl) → List (tDecl) → Int → Int → Int → (Int → Prop) → (Bool → Prop) → Prop
 | 0, _, _, _, _, _, _, _ => False
 | n + 1, x42, x44, x45, x43, x46, Kx0w5, Kr5 => impl_DeclsOk.l5.b n  x42 x44 x45 (fun x43q x46q => impl_DeclsOk.l5 n x42 x44 x45 x43q x46q Kx0w5 Kr5) x43 x46 Kx0w5 Kr5
def impl_DeclsOk.w (n : Nat) (lp5 : List (tDecl) → List (tDecl) → Int → Int → Int → (Int → Prop) → (Bool → Prop) → Prop) (a1 : List (tDecl)) (K : Bool → Prop) : Prop :=
 if (decide ((a1.length : Int) > 60)) = true then (K false) else (lp5 a1 a1 (a1.length : Int) 0 0 (fun y84 => K (decide (y84 ≤ 20000))) (fun y85 => K y85))
def impl_DeclsOk.c : Nat → List (tDecl) → (Bool → Prop) → Prop
 | 0, _, _ => False
 | n + 1, a1, K => impl_DeclsOk.w n (impl_DeclsOk.l5 n) a1 K
def laws_big.w (n : Nat) (a1 : List Int) (K : Bool → Prop) : Prop :=
 K (decide ((a1.length : Int) > 1048576))
def laws_big.c : Nat → List Int → (Bool → Prop) → Prop
 | 0, _, _ => False
 | n + 1, a1, K => laws_big.w n  a1 K
def spec_l1Open.w (n : Nat) (a1 : List Int) (K : List Int → Int → Prop) : Prop :=
 K a1 0
def spec_l1Open.c : Nat → List Int → (List Int → Int → Prop) → Prop
 | 0, _, _ => False
 | n + 1, a1, K => spec_l1Open.w n  a1 K
def spec_l1Rd_next.w (n : Nat) (a1 : List Int) (a2 : Int) (K : Int → List Int → Int → Prop) : Prop :=
 if (decide (a2 ≥ (a1.length : Int))) = true then (K 0 a1 a2) else (let t4 : Int := IntKind.wrap .i64 ((IntKind.wrap .i64 (a2 + 1)) - 1); grd (decide (0 ≤ t4) && decide (t4 < (a1.length : Int))) (K (IntKind.wrap .i64 (rd a1 (Int.toNat t4))) a1 (IntKind.wrap .i64 (a2 + 1))))
def spec_l1Rd_next.c : Nat → List Int → Int → (Int → List Int → Int → Prop) → Prop
 | 0, _, _, _ => False
 | n + 1, a1, a2, K => spec_l1Rd_next.w n  a1 a2 K
def spec_l1Rd_below.w (n : Nat) (a1 : List Int) (a2 : Int) (a3 : Int) (K : Int → List Int → Int → Prop) : Prop :=
 if (decide (a3 ≤ 1)) = true then (K 0 a1 a2) else (if (decide (a3 ≤ 256)) = true then (spec_l1Rd_next.c n a1 a2 (fun r7 r8 r9 => grd (!(decide (a3 = 0))) (K (Int.tmod r7 a3) r8 r9))) else (spec_l1Rd_next.c n a1 a2 (fun r10 r11 r12 => spec_l1Rd_next.c n r11 r12 (fun r13 r14 r15 => let t16 : Int := IntKind.wrap .i64 ((IntKind.wrap .i64 (r10 * 256)) + r13); grd (!(decide (a3 = 0))) (K (Int.tmod t16 a3) r14 r15)))))
def spec_l1Rd_below.c : Nat → List Int → Int → Int → (Int → List Int → Int → Prop) → Prop
 | 0, _, _, _, _ => False
 | n + 1, a1, a2, a3, K => spec_l1Rd_below.w n  a1 a2 a3 K
def spec_l1Rd_once.w (n : Nat) (a1 : List Int) (a2 : Int) (a3 : Int) (K : Bool → List Int → Int → Prop) : Prop :=
 spec_l1Rd_below.c n a1 a2 a3 (fun r4 r5 r6 => K (decide (r4 = IntKind.wrap .i64 (a3 - 1))) r5 r6)
def spec_l1Rd_once.c : Nat → List Int → Int → Int → (Bool → List Int → Int → Prop) → Prop
 | 0, _, _, _, _ => False
 | n + 1, a1, a2, a3, K => spec_l1Rd_once.w n  a1 a2 a3 K
def spec_l1Rd_wide.w (n : Nat) (a1 : List Int) (a2 : Int) (K : Int → List Int → Int → Prop) : Prop :=
 spec_l1Rd_below.c n a1 a2 10 (fun r13 r14 r15 => if (decide (r13 = 0)) = true then (let t16 : List Int := ([63, 64, 65, 127, 128, 129, 200] : List (Int)); spec_l1Rd_below.c n r14 r15 7 (fun r17 r18 r19 => grd (decide (0 ≤ r17) && decide (r17 < (t16.length : Int))) (K (rd t16 (Int.toNat r17)) r18 r19))) else (if (decide (r13 = 1)) = true then (spec_l1Rd_below.c n r14 r15 40 (fun r20 r21 r22 => K (IntKind.wrap .i64 (1 + r20)) r21 r22)) else (spec_l1Rd_below.c n r14 r15 12 (fun r23 r24 r25 => K (IntKind.wrap .i64 (1 + r23)) r24 r25))))
def spec_l1Rd_wide.c : Nat → List Int → Int → (Int → List Int → Int → Prop) → Prop
 | 0, _, _, _ => False
 | n + 1, a1, a2, K => spec_l1Rd_wide.w n  a1 a2 K
def spec_l1Rd_decls.j3 (again3 : Int → List (tDecl) → List Int → Int → Prop) (x54 : Int) (x55 : List (tDecl)) (j88 : Int) (j89 : List Int) (j90 : Int) : Prop :=
 let t91 : Int := IntKind.wrap .i64 (97 + (Int.tmod (x55.length : Int) 26)); let t92 : List UInt8 := bytesStr ([IntKind.wrap .u8 t91] : List (Int)); grd (decide (x55.length + ([(t92, j88)] : List (tDecl)).length ≤ 2814749767106)) (let t93 : List (tDecl) := x55 ++ ([(t92, j88)] : List (tDecl)); again3 (IntKind.wrap .i64 (x54 - 1)) t93 j89 j90)
def spec_l1Rd_decls.l3.b (n : Nat) (again3 : Int → List (tDecl) → List Int → Int → Prop) (x54 : Int) (x55 : List (tDecl)) (x56 : List Int) (x57 : Int) (Kx0w3 : List (tDecl) → List Int → Int → Prop) : Prop :=
 if (decide (x54 > 0)) = true then (spec_l1Rd_below.c n x56 x57 8 (fun r79 r80 r81 => spec_l1Rd_once.c n r80 r81 6 (fun r94 r95 r96 => if r94 = true then (spec_l1Rd_wide.c n r95 r96 (fun r97 r98 r99 => spec_l1Rd_decls.j3 again3 x54 x55 r97 r98 r99)) else (spec_l1Rd_decls.j3 again3 x54 x55 (IntKind.wrap .i64 (1 + r79)) r95 r96)))) else (Kx0w3 x55 x56 x57)
def spec_l1Rd_decls.l3 : Nat → Int → List (tDecl) → List Int → Int → (List (tDecl) → List Int → Int → Prop) → Prop
 | 0, _, _, _, _, _ => False
 | n + 1, x54, x55, x56, x57, Kx0w3 => spec_l1Rd_decls.l3.b n   (fun x54q x55q x56q x57q => spec_l1Rd_decls.l3 n x54q x55q x56q x57q Kx0w3) x54 x55 x56 x57 Kx0w3
def spec_l1Rd_decls.w (n : Nat) (lp3 : Int → List (tDecl) → List Int → Int → (List (tDecl) → List Int → Int → Prop) → Prop) (a1 : List Int) (a2 : Int) (K : List (tDecl) → List Int → Int → Prop) : Prop :=
 let t103 : Int := IntKind.wrap .i64 (Int.tdiv (a1.length : Int) 10); let t104 : Int := (if (IntKind.wrap .i64 (2 + t103)) < 6 then IntKind.wrap .i64 (2 + t103) else 6); spec_l1Rd_below.c n a1 a2 t104 (fun r105 r106 r107 => lp3 (IntKind.wrap .i64 (1 + r105)) ([] : List (tDecl)) r106 r107 (fun y108 y109 y110 => K y108 y109 y110))
def spec_l1Rd_decls.c : Nat → List Int → Int → (List (tDecl) → List Int → Int → Prop) → Prop
 | 0, _, _, _ => False
 | n + 1, a1, a2, K => spec_l1Rd_decls.w n (spec_l1Rd_decls.l3 n) a1 a2 K
def spec_l1Rd_word.l3.b (n : Nat) (again3 : Int → Int → List Int → Int → Prop) (x15 : Int) (x16 : Int) (x17 : List Int) (x18 : Int) (Kx0w3 : Int → List Int → Int → Prop) : Prop :=
 if (decide (x16 < 8)) = true then (spec_l1Rd_next.c n x17 x18 (fun r23 r24 r25 => let t26 : Int := ibits .or .u64 (IntKind.wrap .u64 (x15 * 2 ^ 8)) (IntKind.wrap .u64 r23); again3 t26 (IntKind.wrap .i64 (x16 + 1)) r24 r25)) else (Kx0w3 x15 x17 x18)
def spec_l1Rd_word.l3 : Nat → Int → Int → List Int → Int → (Int → List Int → Int → Prop) → Prop
 | 0, _, _, _, _, _ => False
 | n + 1, x15, x16, x17, x18, Kx0w3 => spec_l1Rd_word.l3.b n   (fun x15q x16q x17q x18q => spec_l1Rd_word.l3 n x15q x16q x17q x18q Kx0w3) x15 x16 x17 x18 Kx0w3
def spec_l1Rd_word.w (n : Nat) (lp3 : Int → Int → List Int → Int → (Int → List Int → Int → Prop) → Prop) (a1 : List Int) (a2 : Int) (K : Int → List Int → Int → Prop) : Prop :=
 lp3 0 0 a1 a2 (fun y30 y31 y32 => K y30 y31 y32)
def spec_l1Rd_word.c : Nat → List Int → Int → (Int → List Int → Int → Prop) → Prop
 | 0, _, _, _ => False
 | n + 1, a1, a2, K => spec_l1Rd_word.w n (spec_l1Rd_word.l3 n) a1 a2 K
def spec_l1Rd_near.w (n : Nat) (a1 : List Int) (a2 : Int) (a3 : Int) (a4 : Int) (K : Int → List Int → Int → Prop) : Prop :=
 spec_l1Rd_below.c n a1 a2 8 (fun r8 r9 r10 => if (decide (r8 = 0)) = true then (K a3 r9 r10) else (if (decide (r8 = 1)) = true then (K a4 r9 r10) else (if (decide (a4 < a3)) = true then (K a3 r9 r10) else (spec_l1Rd_word.c n r9 r10 (fun r11 r12 r13 => let t14 : Int := IntKind.wrap .i64 ((IntKind.wrap .i64 (a4 - a3)) + 1); grd (!(decide (IntKind.wrap .u64 t14 = 0))) (let t15 : Int := Int.tmod (Int.fdiv r11 (2 ^ 1)) (IntKind.wrap .u64 t14); let t16 : Int := IntKind.wrap .i64 (a3 + (IntKind.wrap .i64 t15)); K t16 r12 r13))))))
def spec_l1Rd_near.c : Nat → List Int → Int → Int → Int → (Int → List Int → Int → Prop) → Prop
 | 0, _, _, _, _, _ => False
 | n + 1, a1, a2, a3, a4, K => spec_l1Rd_near.w n  a1 a2 a3 a4 K
def spec_l1Rd_off.w (n : Nat) (a1 : List Int) (a2 : Int) (a3 : Int) (a4 : Int) (K : Int → List Int → Int → Prop) : Prop :=
 spec_l1Rd_once.c n a1 a2 24 (fun r12 r13 r14 => if r12 = true then (let t15 : List Int := ([IntKind.wrap .i64 (a3 - 1), IntKind.wrap .i64 (a4 + 1), (-9223372036854775808), 9223372036854775807] : List (Int)); spec_l1Rd_below.c n r13 r14 4 (fun r16 r17 r18 => grd (decide (0 ≤ r16) && decide (r16 < (t15.length : Int))) (K (rd t15 (Int.toNat r16)) r17 r18))) else (spec_l1Rd_near.c n r13 r14 a3 a4 (fun r19 r20 r21 => K r19 r20 r21)))
def spec_l1Rd_off.c : Nat → List Int → Int → Int → Int → (Int → List Int → Int → Prop) → Prop
 | 0, _, _, _, _, _ => False
 | n + 1, a1, a2, a3, a4, K => spec_l1Rd_off.w n  a1 a2 a3 a4 K
def spec_l1From.l5.b (n : Nat) (x18 : List Int) (x21 : List Int) (x22 : Int) (x23 : Int) (again5 : Int → List Int → Prop) (x19 : Int) (x20 : List Int) (Kx0w5 : List Int → List Int → Int → Int → Prop) : Prop :=
 if (decide (x19 < (x18.length : Int))) = true then (grd (decide (0 ≤ IntKind.wrap .i64 (Int.tdiv x19 64)) && decide (IntKind.wrap .i64 (Int.tdiv x19 64) < (x20.length : Int))) (let t28 : Nat := Int.toNat (IntKind.wrap .i64 (Int.tdiv x19 64)); grd (decide (0 ≤ x19) && decide (x19 < (x18.length : Int))) (grd (decide (0 ≤ IntKind.wrap .u64 (Int.tmod x19 64))) (let t29 : Int := IntKind.wrap .u64 ((IntKind.wrap .u64 (rd x18 (Int.toNat x19))) * 2 ^ (Nat.min (Int.toNat (IntKind.wrap .u64 (Int.tmod x19 64))) 64)); grd (decide (0 ≤ IntKind.wrap .i64 (Int.tdiv x19 64)) && decide (IntKind.wrap .i64 (Int.tdiv x19 64) < (x20.length : Int))) (let t30 : Nat := Int.toNat (IntKind.wrap .i64 (Int.tdiv x19 64)); let t31 : List Int := List.set x20 t30 (ibits .or .u64 (rd x20 t28) t29); again5 (IntKind.wrap .i64 (x19 + 1)) t31))))) else (Kx0w5 x20 x21 x22 x23)
def spec_l1From.l5 : Nat → List Int → List Int → Int → Int → Int → List Int → (List Int → List Int → Int → Int → Prop) → Prop
 | 0, _, _, _, _, _, _, _ => False
 | n + 1, x18, x21, x22, x23, x19, x20, Kx0w5 => spec_l1From.l5.b n  x18 x21 x22 x23 (fun x19q x20q => spec_l1From.l5 n x18 x21 x22 x23 x19q x20q Kx0w5) x19 x20 Kx0w5
def spec_l1From.j0 (K : Int → List Int → Bool → Prop) (a1 : List Int) (lp5 : List Int → List Int → Int → Int → Int → List Int → (List Int → List Int → Int → Int → Prop) → Prop) : Prop :=
 let t3 : Int := IntKind.wrap .i64 (Int.tdiv (IntKind.wrap .i64 ((a1.length : Int) + 63)) 64); grd ((decide (0 ≤ t3) && decide (t3 ≤ 7818749353073)) && decide (t3 = t3)) (lp5 a1 ([] : List (Int)) 0 (a1.length : Int) 0 (List.replicate (Int.toNat t3) 0) (fun y36 y37 y38 y39 => K y39 y36 true))
def spec_l1From.w (n : Nat) (lp5 : List Int → List Int → Int → Int → Int → List Int → (List Int → List Int → Int → Int → Prop) → Prop) (a1 : List Int) (K : Int → List Int → Bool → Prop) : Prop :=
 if (decide ((a1.length : Int) < 1)) = false then (if (decide ((a1.length : Int) > 4096)) = true then (K 0 ([] : List (Int)) false) else (spec_l1From.j0 K a1 lp5)) else (K 0 ([] : List (Int)) false)
def spec_l1From.c : Nat → List Int → (Int → List Int → Bool → Prop) → Prop
 | 0, _, _ => False
 | n + 1, a1, K => spec_l1From.w n (spec_l1From.l5 n) a1 K
def spec_l1Rd_bits.j4 (again5 : Int → List Int → Prop) (x30 : Int) (x31 : Int) (x32 : List Int) (j44 : Int) : Prop :=
 if (decide (x30 = 1)) = true then (grd (decide (x32.length + ([1] : List (Int)).length ≤ 35184372088832)) (again5 (IntKind.wrap .i64 (x31 + 1)) (x32 ++ ([1] : List (Int))))) else (grd (decide (x32.length + ([j44] : List (Int)).length ≤ 35184372088832)) (again5 (IntKind.wrap .i64 (x31 + 1)) (x32 ++ ([j44] : List (Int)))))
def spec_l1Rd_bits.l5.b (n : Nat) (x28 : Int) (x29 : Int) (x30 : Int) (x33 : List Int) (x34 : List Int) (x35 : Int) (x36 : Int) (again5 : Int → List Int → Prop) (x31 : Int) (x32 : List Int) (Kx0w5 : List Int → List Int → List Int → Int → Int → Prop) : Prop :=
 if (decide (x31 < x28)) = true then (let t42 : Int := IntKind.wrap .u64 (Int.tmod (IntKind.wrap .i64 (x31 * 7)) 64); grd (decide (0 ≤ t42)) (let t43 : Int := Int.fdiv x29 (2 ^ (Nat.min (Int.toNat t42) 64)); if (decide (x30 = 0)) = true then (spec_l1Rd_bits.j4 again5 x30 x31 x32 0) else (spec_l1Rd_bits.j4 again5 x30 x31 x32 (IntKind.wrap .u8 (ibits .and .u64 t43 1))))) else (Kx0w5 x32 x33 x34 x35 x36)
def spec_l1Rd_bits.l5 : Nat → Int → Int → Int → List Int → List Int → Int → Int → Int → List Int → (List Int → List Int → List Int → Int → Int → Prop) → Prop
 | 0, _, _, _, _, _, _, _, _, _, _ => False
 | n + 1, x28, x29, x30, x33, x34, x35, x36, x31, x32, Kx0w5 => spec_l1Rd_bits.l5.b n  x28 x29 x30 x33 x34 x35 x36 (fun x31q x32q => spec_l1Rd_bits.l5 n x28 x29 x30 x33 x34 x35 x36 x31q x32q Kx0w5) x31 x32 Kx0w5
def spec_l1Rd_bits.w (n : Nat) (lp5 : Int → Int → Int → List Int → List Int → Int → Int → Int → List Int → (List Int → List Int → List Int → Int → Int → Prop) → Prop) (a1 : List Int) (a2 : Int) (a3 : Int) (K : Int → List Int → List Int → Int → Prop) : Prop :=
 spec_l1Rd_word.c n a1 a2 (fun r4 r5 r6 => spec_l1Rd_below.c n r5 r6 4 (fun r7 r8 r9 => lp5 a3 r4 r7 ([] : List (Int)) r8 r9 0 0 ([] : List (Int)) (fun y51 y52 y53 y54 y55 => spec_l1From.c n y51 (fun r56 r57 r58 => K r56 r57 y53 y54))))
def spec_l1Rd_bits.c : Nat → List Int → Int → Int → (Int → List Int → List Int → Int → Prop) → Prop
 | 0, _, _, _, _ => False
 | n + 1, a1, a2, a3, K => spec_l1Rd_bits.w n (spec_l1Rd_bits.l5 n) a1 a2 a3 K
def spec_l1Rd_oddBits.w (n : Nat) (a1 : List Int) (a2 : Int) (K : Int → List Int → List Int → Int → Prop) : Prop :=
 spec_l1Rd_wide.c n a1 a2 (fun r3 r4 r5 => spec_l1Rd_bits.c n r4 r5 r3 (fun r6 r7 r8 r9 => spec_l1Rd_below.c n r8 r9 30 (fun r52 r53 r54 => if (decide (r52 = 0)) = true then (K (IntKind.wrap .i64 (r6 + 1)) r7 r53 r54) else (if (decide (r52 = 1)) = true then (grd (decide (r7.length + ([0] : List (Int)).length ≤ 7818749353073)) (K r6 (r7 ++ ([0] : List (Int))) r53 r54)) else (if (decide (r52 = 2)) = true then (let p77 : Prop := (let p63 : Prop := (spec_l1Rd_word.c n r53 r54 (fun r55 r56 r57 => grd (decide (0 ≤ IntKind.wrap .i64 ((r7.length : Int) - 1)) && decide (IntKind.wrap .i64 ((r7.length : Int) - 1) < (r7.length : Int))) (let t58 : Nat := Int.toNat (IntKind.wrap .i64 ((r7.length : Int) - 1)); K r6 (List.set r7 t58 r55) r56 r57))); (p63 ∧ p63)); (p77 ∧ p77 ∧ (spec_l1Rd_word.c n r53 r54 (fun r73 r74 r75 => grd (decide (0 ≤ IntKind.wrap .i64 ((r7.length : Int) - 1)) && decide (IntKind.wrap .i64 ((r7.length : Int) - 1) < (r7.length : Int))) (let t76 : Nat := Int.toNat (IntKind.wrap .i64 ((r7.length : Int) - 1)); K r6 (List.set r7 t76 r73) r74 r75))))) else (if (decide (r52 = 3)) = true then (spec_l1Rd_off.c n r53 r54 0 4096 (fun r78 r79 r80 => K r78 r7 r79 r80)) else (if (decide (r52 = 4)) = true then (let p87 : Prop := (spec_l1Rd_below.c n r53 r54 2 (fun r81 r82 r83 => K (IntKind.wrap .i64 (4096 + r81)) (List.replicate 64 0) r82 r83)); (p87 ∧ p87)) else (K r6 r7 r53 r54))))))))
def spec_l1Rd_oddBits.c : Nat → List Int → Int → (Int → List Int → List Int → Int → Prop) → Prop
 | 0, _, _, _ => False
 | n + 1, a1, a2, K => spec_l1Rd_oddBits.w n  a1 a2 K
def spec_l1Rd_values.l3.b (n : Nat) (x21 : List (tDecl)) (again3 : Int → List (tBits) → List Int → Int → Prop) (x22 : Int) (x23 : List (tBits)) (x24 : List Int) (x25 : Int) (Kx0w3 : List (tBits) → List Int → Int → Prop) : Prop :=
 if (decide (x22 < (x21.length : Int))) = true then (grd (decide (0 ≤ x22) && decide (x22 < (x21.length : Int))) (let t32 : Int := (if 4096 < ((rd x21 (Int.toNat x22)).2) then 4096 else (rd x21 (Int.toNat x22)).2); spec_l1Rd_bits.c n x24 x25 (if t32 > 1 then t32 else 1) (fun r33 r34 r35 r36 => grd (decide (x23.length + ([(r33, r34)] : List (tBits)).length ≤ 2132386187201)) (let t37 : List (tBits) := x23 ++ ([(r33, r34)] : List (tBits)); again3 (IntKind.wrap .i64 (x22 + 1)) t37 r35 r36)))) else (Kx0w3 x23 x24 x25)
def spec_l1Rd_values.l3 : Nat → List (tDecl) → Int → List (tBits) → List Int → Int → (List (tBits) → List Int → Int → Prop) → Prop
 | 0, _, _, _, _, _, _ => False
 | n + 1, x21, x22, x23, x24, x25, Kx0w3 => spec_l1Rd_values.l3.b n  x21 (fun x22q x23q x24q x25q => spec_l1Rd_values.l3 n x21 x22q x23q x24q x25q Kx0w3) x22 x23 x24 x25 Kx0w3
def spec_l1Rd_values.w (n : Nat) (lp3 : List (tDecl) → Int → List (tBits) → List Int → Int → (List (tBits) → List Int → Int → Prop) → Prop) (a1 : List Int) (a2 : Int) (a3 : List (tDecl)) (K : List (tBits) → List Int → Int → Prop) : Prop :=
 lp3 a3 0 ([] : List (tBits)) a1 a2 (fun y41 y42 y43 => spec_l1Rd_below.c n y42 y43 40 (fun r66 r67 r68 => if (decide (r66 = 0)) = true then (spec_l1Rd_below.c n r67 r68 (y41.length : Int) (fun r69 r70 r71 => grd (decide (0 ≤ r69) && decide (r69 < (y41.length : Int))) (let p80 : Prop := (spec_l1Rd_word.c n r70 r71 (fun r72 r73 r74 => grd (decide (0 < (((rd y41 (Int.toNat r69)).2).length : Int))) (let t75 : List (tBits) := List.set y41 (Int.toNat r69) ((rd y41 (Int.toNat r69)).1, List.set ((rd y41 (Int.toNat r69)).2) 0 r72); K t75 r73 r74))); (p80 ∧ p80)))) else (if (decide (r66 = 1)) = true then (grd (decide (1 ≤ (y41.length : Int))) (K (List.drop 1 (List.take (Int.toNat (y41.length : Int)) y41)) r67 r68)) else (if (decide (r66 = 2)) = true then (spec_l1Rd_oddBits.c n r67 r68 (fun r81 r82 r83 r84 => grd (decide (0 < (y41.length : Int))) (K (List.set y41 0 (r81, r82)) r83 r84))) else (K y41 r67 r68)))))
def spec_l1Rd_values.c : Nat → List Int → Int → List (tDecl) → (List (tBits) → List Int → Int → Prop) → Prop
 | 0, _, _, _, _ => False
 | n + 1, a1, a2, a3, K => spec_l1Rd_values.w n (spec_l1Rd_values.l3 n) a1 a2 a3 K
def spec_DrawMerge.l5.b (n : Nat) (x20 : List (tDecl)) (again5 : Int → List Int → List Int → Int → Prop) (x18 : Int) (x19 : List Int) (x21 : List Int) (x22 : Int) (Kx0w5 : List Int → List (tDecl) → List Int → Int → Prop) : Prop :=
 if (decide (x18 < (x20.length : Int))) = true then (spec_l1Rd_once.c n x21 x22 2 (fun r26 r27 r28 => if r26 = true then (grd (decide (x19.length + ([x18] : List (Int)).length ≤ 7818749353073)) (again5 (IntKind.wrap .i64 (x18 + 1)) (x19 ++ ([x18] : List (Int))) r27 r28)) else (again5 (IntKind.wrap .i64 (x18 + 1)) x19 r27 r28))) else (Kx0w5 x19 x20 x21 x22)
def spec_DrawMerge.l5 : Nat → List (tDecl) → Int → List Int → List Int → Int → (List Int → List (tDecl) → List Int → Int → Prop) → Prop
 | 0, _, _, _, _, _, _ => False
 | n + 1, x20, x18, x19, x21, x22, Kx0w5 => spec_DrawMerge.l5.b n  x20 (fun x18q x19q x21q x22q => spec_DrawMerge.l5 n x20 x18q x19q x21q x22q Kx0w5) x18 x19 x21 x22 Kx0w5
def spec_DrawMerge.w (n : Nat) (lp5 : List (tDecl) → Int → List Int → List Int → Int → (List Int → List (tDecl) → List Int → Int → Prop) → Prop) (a1 : List Int) (K : List (tDecl) → List (tBits) → List (tBits) → List Int → Prop) : Prop :=
 spec_l1Open.c n a1 (fun r2 r3 => spec_l1Rd_decls.c n r2 r3 (fun r4 r5 r6 => lp5 r4 0 ([] : List (Int)) r5 r6 (fun y33 y34 y35 y36 => spec_l1Rd_once.c n y35 y36 16 (fun r43 r44 r45 => if r43 = true then (spec_l1Rd_off.c n r44 r45 0 (IntKind.wrap .i64 ((y34.length : Int) - 1)) (fun r46 r47 r48 => grd (decide (y33.length + ([r46] : List (Int)).length ≤ 7818749353073)) (spec_l1Rd_values.c n r47 r48 y34 (fun r49 r50 r51 => spec_l1Rd_values.c n r50 r51 y34 (fun r52 r53 r54 => K y34 r49 r52 (y33 ++ ([r46] : List (Int)))))))) else (spec_l1Rd_values.c n r44 r45 y34 (fun r55 r56 r57 => spec_l1Rd_values.c n r56 r57 y34 (fun r58 r59 r60 => K y34 r55 r58 y33)))))))
def spec_DrawMerge.c : Nat → List Int → (List (tDecl) → List (tBits) → List (tBits) → List Int → Prop) → Prop
 | 0, _, _ => False
 | n + 1, a1, K => spec_DrawMerge.w n (spec_DrawMerge.l5 n) a1 K
def spec_ValuesOk.l4.b (n : Nat) (x21 : List (tDecl)) (x22 : List (tBits)) (again4 : Int → Prop) (x23 : Int) (Kx0w4 : Prop) (Kr4 : Bool → Prop) : Prop :=
 if (decide (x23 < (x22.length : Int))) = true then (grd (decide (0 ≤ x23) && decide (x23 < (x22.length : Int))) (grd (decide (0 ≤ x23) && decide (x23 < (x21.length : Int))) (let t32 : Bool := !(decide ((rd x22 (Int.toNat x23)).1 = (rd x21 (Int.toNat x23)).2)); if t32 = false then (grd (decide (0 ≤ x23) && decide (x23 < (x22.length : Int))) (spec_BitsOk.c n ((rd x22 (Int.toNat x23)).1) ((rd x22 (Int.toNat x23)).2) (fun r33 => if (!r33) = true then (Kr4 false) else (again4 (IntKind.wrap .i64 (x23 + 1)))))) else (Kr4 false)))) else (Kx0w4)
def spec_ValuesOk.l4 : Nat → List (tDecl) → List (tBits) → Int → Prop → (Bool → Prop) → Prop
 | 0, _, _, _, _, _ => False
 | n + 1, x21, x22, x23, Kx0w4, Kr4 => spec_ValuesOk.l4.b n  x21 x22 (fun x23q => spec_ValuesOk.l4 n x21 x22 x23q Kx0w4 Kr4) x23 Kx0w4 Kr4
def spec_ValuesOk.w (n : Nat) (lp4 : List (tDecl) → List (tBits) → Int → Prop → (Bool → Prop) → Prop) (a1 : List (tDecl)) (a2 : List (tBits)) (K : Bool → Prop) : Prop :=
 spec_DeclsOk.c n a1 (fun r41 => if (!r41) = false then (let t42 : Bool := !(decide ((a2.length : Int) = (a1.length : Int))); if t42 = true then (K false) else (lp4 a1 a2 0 (K true) (fun y44 => K y44))) else (K false))
def spec_ValuesOk.c : Nat → List (tDecl) → List (tBits) → (Bool → Prop) → Prop
 | 0, _, _, _ => False
 | n + 1, a1, a2, K => spec_ValuesOk.w n (spec_ValuesOk.l4 n) a1 a2 K
def spec_Merge.l5.b (n : Nat) (x26 : List (tDecl)) (x27 : List (tBits)) (x28 : List (tBits)) (x29 : List Int) (x31 : List (tBits)) (again5 : Int → Prop) (x30 : Int) (Kx0w5 : List (tDecl) → List (tBits) → List (tBits) → List Int → List (tBits) → Prop) (Kr5 : Bool → List (tBits) → Prop) : Prop :=
 if (decide (x30 < (x29.length : Int))) = true then (grd (decide (0 ≤ x30) && decide (x30 < (x29.length : Int))) (spec_l1In.c n (rd x29 (Int.toNat x30)) 0 (IntKind.wrap .i64 ((x26.length : Int) - 1)) (fun r40 => if (!r40) = false then (if (decide (x30 > 0)) = true then (grd (decide (0 ≤ x30) && decide (x30 < (x29.length : Int))) (grd (decide (0 ≤ IntKind.wrap .i64 (x30 - 1)) && decide (IntKind.wrap .i64 (x30 - 1) < (x29.length : Int))) (let t41 : Int := rd x29 (Int.toNat (IntKind.wrap .i64 (x30 - 1))); if (decide (rd x29 (Int.toNat x30) ≤ t41)) = true then (Kr5 false x31) else (again5 (IntKind.wrap .i64 (x30 + 1)))))) else (again5 (IntKind.wrap .i64 (x30 + 1)))) else (Kr5 false x31)))) else (Kx0w5 x26 x27 x28 x29 x31)
def spec_Merge.l5 : Nat → List (tDecl) → List (tBits) → List (tBits) → List Int → List (tBits) → Int → (List (tDecl) → List (tBits) → List (tBits) → List Int → List (tBits) → Prop) → (Bool → List (tBits) → Prop) → Prop
 | 0, _, _, _, _, _, _, _, _ => False
 | n + 1, x26, x27, x28, x29, x31, x30, Kx0w5, Kr5 => spec_Merge.l5.b n  x26 x27 x28 x29 x31 (fun x30q => spec_Merge.l5 n x26 x27 x28 x29 x31 x30q Kx0w5 Kr5) x30 Kx0w5 Kr5
def spec_Merge.j3 (again10 : Int → List (tBits) → Prop) (n : Nat) (x78 : Int) (x79 : List (tBits)) (j88 : Int) (j89 : List Int) : Prop :=
 spec_l8CopyBits.c n j88 j89 (fun r90 r91 => grd (decide (x79.length + ([(r90, r91)] : List (tBits)).length ≤ 2132386187201)) (let t92 : List (tBits) := x79 ++ ([(r90, r91)] : List (tBits)); again10 (IntKind.wrap .i64 (x78 + 1)) t92))
def spec_Merge.l10.b (n : Nat) (x74 : List (tDecl)) (x75 : List (tBits)) (x76 : List (tBits)) (x77 : List Int) (again10 : Int → List (tBits) → Prop) (x78 : Int) (x79 : List (tBits)) (Kx2w10 : List (tBits) → Prop) : Prop :=
 if (decide (x78 < (x74.length : Int))) = true then (grd (decide (0 ≤ x78) && decide (x78 < (x75.length : Int))) (spec_l1Has.c n x77 x78 (fun r93 => if r93 = true then (grd (decide (0 ≤ x78) && decide (x78 < (x76.length : Int))) (spec_Merge.j3 again10 n x78 x79 ((rd x76 (Int.toNat x78)).1) ((rd x76 (Int.toNat x78)).2))) else (spec_Merge.j3 again10 n x78 x79 ((rd x75 (Int.toNat x78)).1) ((rd x75 (Int.toNat x78)).2))))) else (Kx2w10 x79)
def spec_Merge.l10 : Nat → List (tDecl) → List (tBits) → List (tBits) → List Int → Int → List (tBits) → (List (tBits) → Prop) → Prop
 | 0, _, _, _, _, _, _, _ => False
 | n + 1, x74, x75, x76, x77, x78, x79, Kx2w10 => spec_Merge.l10.b n  x74 x75 x76 x77 (fun x78q x79q => spec_Merge.l10 n x74 x75 x76 x77 x78q x79q Kx2w10) x78 x79 Kx2w10
def spec_Merge.j4 (K : List (tBits) → Bool → Prop) (a1 : List (tDecl)) (a2 : List (tBits)) (a3 : List (tBits)) (a4 : List Int) (lp5 : List (tDecl) → List (tBits) → List (tBits) → List Int → List (tBits) → Int → (List (tDecl) → List (tBits) → List (tBits) → List Int → List (tBits) → Prop) → (Bool → List (tBits) → Prop) → Prop) (lp10 : List (tDecl) → List (tBits) → List (tBits) → List Int → Int → List (tBits) → (List (tBits) → Prop) → Prop) (j100 : Bool) : Prop :=
 if j100 = true then (K ([] : List (tBits)) false) else (lp5 a1 a2 a3 a4 ([] : List (tBits)) 0 (fun y108 y109 y110 y111 y112 => lp10 y108 y109 y110 y111 0 y112 (fun y114 => K y114 true)) (fun y115 y116 => K y116 y115))
def spec_Merge.w (n : Nat) (lp5 : List (tDecl) → List (tBits) → List (tBits) → List Int → List (tBits) → Int → (List (tDecl) → List (tBits) → List (tBits) → List Int → List (tBits) → Prop) → (Bool → List (tBits) → Prop) → Prop) (lp10 : List (tDecl) → List (tBits) → List (tBits) → List Int → Int → List (tBits) → (List (tBits) → Prop) → Prop) (a1 : List (tDecl)) (a2 : List (tBits)) (a3 : List (tBits)) (a4 : List Int) (K : List (tBits) → Bool → Prop) : Prop :=
 spec_ValuesOk.c n a1 a2 (fun r117 => if (!r117) = false then (spec_ValuesOk.c n a1 a3 (fun r118 => spec_Merge.j4 K a1 a2 a3 a4 lp5 lp10 (!r118))) else (spec_Merge.j4 K a1 a2 a3 a4 lp5 lp10 true))
def spec_Merge.c : Nat → List (tDecl) → List (tBits) → List (tBits) → List Int → (List (tBits) → Bool → Prop) → Prop
 | 0, _, _, _, _, _ => False
 | n + 1, a1, a2, a3, a4, K => spec_Merge.w n (spec_Merge.l5 n) (spec_Merge.l10 n) a1 a2 a3 a4 K
def impl_valuesOk.l4.b (n : Nat) (x19 : List (tDecl)) (x20 : List (tBits)) (x21 : Int) (again4 : Int → Prop) (x22 : Int) (Kx0w4 : Prop) (Kr4 : Bool → Prop) : Prop :=
 if (decide (x22 < x21)) = true then (grd (decide (0 ≤ x22) && decide (x22 < (x20.length : Int))) (impl_BitsOk.c n ((rd x20 (Int.toNat x22)).1) ((rd x20 (Int.toNat x22)).2) (fun r31 => if (!r31) = false then (grd (decide (0 ≤ x22) && decide (x22 < (x19.length : Int))) (let t32 : Bool := !(decide ((rd x20 (Int.toNat x22)).1 = (rd x19 (Int.toNat x22)).2)); if t32 = true then (Kr4 false) else (again4 (IntKind.wrap .i64 (x22 + 1))))) else (Kr4 false)))) else (Kx0w4)
def impl_valuesOk.l4 : Nat → List (tDecl) → List (tBits) → Int → Int → Prop → (Bool → Prop) → Prop
 | 0, _, _, _, _, _, _ => False
 | n + 1, x19, x20, x21, x22, Kx0w4, Kr4 => impl_valuesOk.l4.b n  x19 x20 x21 (fun x22q => impl_valuesOk.l4 n x19 x20 x21 x22q Kx0w4 Kr4) x22 Kx0w4 Kr4
def impl_valuesOk.w (n : Nat) (lp4 : List (tDecl) → List (tBits) → Int → Int → Prop → (Bool → Prop) → Prop) (a1 : List (tDecl)) (a2 : List (tBits)) (K : Bool → Prop) : Prop :=
 let t4 : Bool := !(decide ((a2.length : Int) = (a1.length : Int))); if t4 = true then (K false) else (lp4 a1 a2 (a2.length : Int) 0 (K true) (fun y34 => K y34))
def impl_valuesOk.c : Nat → List (tDecl) → List (tBits) → (Bool → Prop) → Prop
 | 0, _, _, _ => False
 | n + 1, a1, a2, K => impl_valuesOk.w n (impl_valuesOk.l4 n) a1 a2 K
def impl_ValuesOk.w (n : Nat) (a1 : List (tDecl)) (a2 : List (tBits)) (K : Bool → Prop) : Prop :=
 impl_DeclsOk.c n a1 (fun r6 => if r6 = true then (impl_valuesOk.c n a1 a2 (fun r7 => K r7)) else (K false))
def impl_ValuesOk.c : Nat → List (tDecl) → List (tBits) → (Bool → Prop) → Prop
 | 0, _, _, _ => False
 | n + 1, a1, a2, K => impl_ValuesOk.w n  a1 a2 K
def impl_Merge.l5.b (n : Nat) (x22 : List (tDecl)) (x23 : List (tBits)) (x24 : List Int) (x25 : List (tBits)) (x26 : Int) (again5 : Int → List (tBits) → Prop) (x27 : Int) (x28 : List (tBits)) (Kx0w5 : List (tDecl) → List (tBits) → List Int → List (tBits) → Prop) : Prop :=
 if (decide (x27 < x26)) = true then (grd (decide (0 ≤ x27) && decide (x27 < (x25.length : Int))) (impl_cloneBits.c n ((rd x25 (Int.toNat x27)).1) ((rd x25 (Int.toNat x27)).2) (fun r31 r32 => grd (decide (0 ≤ x27) && decide (x27 < (x28.length : Int))) (again5 (IntKind.wrap .i64 (x27 + 1)) (List.set x28 (Int.toNat x27) (r31, r32)))))) else (Kx0w5 x22 x23 x24 x28)
def impl_Merge.l5 : Nat → List (tDecl) → List (tBits) → List Int → List (tBits) → Int → Int → List (tBits) → (List (tDecl) → List (tBits) → List Int → List (tBits) → Prop) → Prop
 | 0, _, _, _, _, _, _, _, _ => False
 | n + 1, x22, x23, x24, x25, x26, x27, x28, Kx0w5 => impl_Merge.l5.b n  x22 x23 x24 x25 x26 (fun x27q x28q => impl_Merge.l5 n x22 x23 x24 x25 x26 x27q x28q Kx0w5) x27 x28 Kx0w5
def impl_Merge.j3 (again11 : Int → Int → List (tBits) → Prop) (n : Nat) (x71 : List (tBits)) (x73 : List Int) (x75 : Int) (x76 : List (tBits)) : Prop :=
 grd (decide (0 ≤ rd x73 (Int.toNat x75)) && decide (rd x73 (Int.toNat x75) < (x71.length : Int))) (let t91 : Int := (rd x71 (Int.toNat (rd x73 (Int.toNat x75)))).1; let t92 : List Int := (rd x71 (Int.toNat (rd x73 (Int.toNat x75)))).2; impl_cloneBits.c n t91 t92 (fun r93 r94 => grd (decide (0 ≤ rd x73 (Int.toNat x75)) && decide (rd x73 (Int.toNat x75) < (x76.length : Int))) (let t95 : List (tBits) := List.set x76 (Int.toNat (rd x73 (Int.toNat x75))) (r93, r94); again11 (rd x73 (Int.toNat x75)) (IntKind.wrap .i64 (x75 + 1)) t95)))
def impl_Merge.l11.b (n : Nat) (x70 : List (tDecl)) (x71 : List (tBits)) (x73 : List Int) (x74 : Int) (again11 : Int → Int → List (tBits) → Prop) (x72 : Int) (x75 : Int) (x76 : List (tBits)) (Kx2w11 : List (tBits) → Prop) (Kr11 : Bool → List (tBits) → Prop) : Prop :=
 if (decide (x75 < x74)) = true then (grd (decide (0 ≤ x75) && decide (x75 < (x73.length : Int))) (if (decide (rd x73 (Int.toNat x75) ≤ x72)) = false then (let t98 : Bool := decide (rd x73 (Int.toNat x75) ≥ (x70.length : Int)); if t98 = true then (Kr11 false ([] : List (tBits))) else (impl_Merge.j3 again11 n x71 x73 x75 x76)) else (Kr11 false ([] : List (tBits))))) else (Kx2w11 x76)
def impl_Merge.l11 : Nat → List (tDecl) → List (tBits) → List Int → Int → Int → Int → List (tBits) → (List (tBits) → Prop) → (Bool → List (tBits) → Prop) → Prop
 | 0, _, _, _, _, _, _, _, _, _ => False
 | n + 1, x70, x71, x73, x74, x72, x75, x76, Kx2w11, Kr11 => impl_Merge.l11.b n  x70 x71 x73 x74 (fun x72q x75q x76q => impl_Merge.l11 n x70 x71 x73 x74 x72q x75q x76q Kx2w11 Kr11) x72 x75 x76 Kx2w11 Kr11
def impl_Merge.j4 (K : List (tBits) → Bool → Prop) (a1 : List (tDecl)) (a2 : List (tBits)) (a3 : List (tBits)) (a4 : List Int) (lp5 : List (tDecl) → List (tBits) → List Int → List (tBits) → Int → Int → List (tBits) → (List (tDecl) → List (tBits) → List Int → List (tBits) → Prop) → Prop) (lp11 : List (tDecl) → List (tBits) → List Int → Int → Int → Int → List (tBits) → (List (tBits) → Prop) → (Bool → List (tBits) → Prop) → Prop) : Prop :=
 grd ((decide (0 ≤ (a2.length : Int)) && decide ((a2.length : Int) ≤ 2132386187201)) && decide ((a2.length : Int) = (a2.length : Int))) (let t10 : List (tBits) := List.replicate (Int.toNat (a2.length : Int)) (0, ([] : List (Int))); lp5 a1 a3 a4 a2 (a2.length : Int) 0 t10 (fun y37 y38 y39 y40 => lp11 y37 y38 y39 (y39.length : Int) (-1) 0 y40 (fun y102 => K y102 true) (fun y103 y104 => K y104 y103)))
def impl_Merge.w (n : Nat) (lp5 : List (tDecl) → List (tBits) → List Int → List (tBits) → Int → Int → List (tBits) → (List (tDecl) → List (tBits) → List Int → List (tBits) → Prop) → Prop) (lp11 : List (tDecl) → List (tBits) → List Int → Int → Int → Int → List (tBits) → (List (tBits) → Prop) → (Bool → List (tBits) → Prop) → Prop) (a1 : List (tDecl)) (a2 : List (tBits)) (a3 : List (tBits)) (a4 : List Int) (K : List (tBits) → Bool → Prop) : Prop :=
 impl_ValuesOk.c n a1 a2 (fun r108 => if (!r108) = false then (impl_valuesOk.c n a1 a3 (fun r109 => if (!r109) = true then (K ([] : List (tBits)) false) else (impl_Merge.j4 K a1 a2 a3 a4 lp5 lp11))) else (K ([] : List (tBits)) false))
def impl_Merge.c : Nat → List (tDecl) → List (tBits) → List (tBits) → List Int → (List (tBits) → Bool → Prop) → Prop
 | 0, _, _, _, _, _ => False
 | n + 1, a1, a2, a3, a4, K => impl_Merge.w n (impl_Merge.l5 n) (impl_Merge.l11 n) a1 a2 a3 a4 K
def laws_has.l2.b (n : Nat) (x6 : List Int) (x7 : Int) (again2 : Int → Prop) (x8 : Int) (Kx0w2 : Prop) (Kr2 : Bool → Prop) : Prop :=
 if (decide (x8 < (x6.length : Int))) = true then (grd (decide (0 ≤ x8) && decide (x8 < (x6.length : Int))) (if (decide (rd x6 (Int.toNat x8) = x7)) = true then (Kr2 true) else (again2 (IntKind.wrap .i64 (x8 + 1))))) else (Kx0w2)
def laws_has.l2 : Nat → List Int → Int → Int → Prop → (Bool → Prop) → Prop
 | 0, _, _, _, _, _ => False
 | n + 1, x6, x7, x8, Kx0w2, Kr2 => laws_has.l2.b n  x6 x7 (fun x8q => laws_has.l2 n x6 x7 x8q Kx0w2 Kr2) x8 Kx0w2 Kr2
def laws_has.w (n : Nat) (lp2 : List Int → Int → Int → Prop → (Bool → Prop) → Prop) (a1 : List Int) (a2 : Int) (K : Bool → Prop) : Prop :=
 lp2 a1 a2 0 (K false) (fun y10 => K y10)
def laws_has.c : Nat → List Int → Int → (Bool → Prop) → Prop
 | 0, _, _, _ => False
 | n + 1, a1, a2, K => laws_has.w n (laws_has.l2 n) a1 a2 K
def laws_sameBits.l4.b (n : Nat) (x18 : Int) (x19 : List Int) (x20 : Int) (x21 : List Int) (again4 : Int → Prop) (x17 : Int) (Kx0w4 : Prop) (Kr4 : Bool → Prop) : Prop :=
 if (decide (x17 < (x19.length : Int))) = true then (grd (decide (0 ≤ x17) && decide (x17 < (x19.length : Int))) (grd (decide (0 ≤ x17) && decide (x17 < (x21.length : Int))) (let t25 : Bool := !(decide (rd x19 (Int.toNat x17) = rd x21 (Int.toNat x17))); if t25 = true then (Kr4 false) else (again4 (IntKind.wrap .i64 (x17 + 1)))))) else (Kx0w4)
def laws_sameBits.l4 : Nat → Int → List Int → Int → List Int → Int → Prop → (Bool → Prop) → Prop
 | 0, _, _, _, _, _, _, _ => False
 | n + 1, x18, x19, x20, x21, x17, Kx0w4, Kr4 => laws_sameBits.l4.b n  x18 x19 x20 x21 (fun x17q => laws_sameBits.l4 n x18 x19 x20 x21 x17q Kx0w4 Kr4) x17 Kx0w4 Kr4
def laws_sameBits.w (n : Nat) (lp4 : Int → List Int → Int → List Int → Int → Prop → (Bool → Prop) → Prop) (a1 : Int) (a2 : List Int) (a3 : Int) (a4 : List Int) (K : Bool → Prop) : Prop :=
 if (!(decide (a1 = a3))) = false then (let t32 : Bool := !(decide ((a2.length : Int) = (a4.length : Int))); if t32 = true then (K false) else (lp4 a1 a2 a3 a4 0 (K true) (fun y34 => K y34))) else (K false)
def laws_sameBits.c : Nat → Int → List Int → Int → List Int → (Bool → Prop) → Prop
 | 0, _, _, _, _, _ => False
 | n + 1, a1, a2, a3, a4, K => laws_sameBits.w n (laws_sameBits.l4 n) a1 a2 a3 a4 K
def laws_sameValues.l4.b (n : Nat) (x12 : List (tBits)) (x13 : List (tBits)) (again4 : Int → Prop) (x14 : Int) (Kx0w4 : Prop) (Kr4 : Bool → Prop) : Prop :=
 if (decide (x14 < (x12.length : Int))) = true then (grd (decide (0 ≤ x14) && decide (x14 < (x12.length : Int))) (grd (decide (0 ≤ x14) && decide (x14 < (x13.length : Int))) (laws_sameBits.c n ((rd x12 (Int.toNat x14)).1) ((rd x12 (Int.toNat x14)).2) ((rd x13 (Int.toNat x14)).1) ((rd x13 (Int.toNat x14)).2) (fun r18 => if (!r18) = true then (Kr4 false) else (again4 (IntKind.wrap .i64 (x14 + 1))))))) else (Kx0w4)
def laws_sameValues.l4 : Nat → List (tBits) → List (tBits) → Int → Prop → (Bool → Prop) → Prop
 | 0, _, _, _, _, _ => False
 | n + 1, x12, x13, x14, Kx0w4, Kr4 => laws_sameValues.l4.b n  x12 x13 (fun x14q => laws_sameValues.l4 n x12 x13 x14q Kx0w4 Kr4) x14 Kx0w4 Kr4
def laws_sameValues.w (n : Nat) (lp4 : List (tBits) → List (tBits) → Int → Prop → (Bool → Prop) → Prop) (a1 : List (tBits)) (a2 : List (tBits)) (K : Bool → Prop) : Prop :=
 let t4 : Bool := !(decide ((a1.length : Int) = (a2.length : Int))); if t4 = true then (K false) else (lp4 a1 a2 0 (K true) (fun y20 => K y20))
def laws_sameValues.c : Nat → List (tBits) → List (tBits) → (Bool → Prop) → Prop
 | 0, _, _, _ => False
 | n + 1, a1, a2, K => laws_sameValues.w n (laws_sameValues.l4 n) a1 a2 K
def laws_FnMerged.j4 (Kr11 : Bool → Prop) (again11 : Int → Prop) (n : Nat) (x34 : Int) (x37 : List (tBits)) (j46 : Int) (j47 : List Int) : Prop :=
 grd (decide (0 ≤ x34) && decide (x34 < (x37.length : Int))) (laws_sameBits.c n ((rd x37 (Int.toNat x34)).1) ((rd x37 (Int.toNat x34)).2) j46 j47 (fun r49 => if (!r49) = true then (Kr11 false) else (again11 (IntKind.wrap .i64 (x34 + 1)))))
def laws_FnMerged.j5 (Kr11 : Bool → Prop) (again11 : Int → Prop) (n : Nat) (x32 : List (tBits)) (x33 : List (tBits)) (x34 : Int) (x36 : List Int) (x37 : List (tBits)) : Prop :=
 grd (decide (0 ≤ x34) && decide (x34 < (x32.length : Int))) (laws_has.c n x36 x34 (fun r50 => if r50 = true then (grd (decide (0 ≤ x34) && decide (x34 < (x33.length : Int))) (laws_FnMerged.j4 Kr11 again11 n x34 x37 ((rd x33 (Int.toNat x34)).1) ((rd x33 (Int.toNat x34)).2))) else (laws_FnMerged.j4 Kr11 again11 n x34 x37 ((rd x32 (Int.toNat x34)).1) ((rd x32 (Int.toNat x34)).2))))
def laws_FnMerged.l11.b (n : Nat) (x32 : List (tBits)) (x33 : List (tBits)) (x35 : List (tDecl)) (x36 : List Int) (x37 : List (tBits)) (again11 : Int → Prop) (x34 : Int) (Kx0w11 : List (tBits) → List (tBits) → List (tDecl) → List (tBits) → Prop) (Kr11 : Bool → Prop) : Prop :=
 if (decide (x34 < (x37.length : Int))) = true then (if (decide (x34 < (x35.length : Int))) = true then (laws_FnMerged.j5 Kr11 again11 n x32 x33 x34 x36 x37) else (Kx0w11 x32 x33 x35 x37)) else (Kx0w11 x32 x33 x35 x37)
def laws_FnMerged.l11 : Nat → List (tBits) → List (tBits) → List (tDecl) → List Int → List (tBits) → Int → (List (tBits) → List (tBits) → List (tDecl) → List (tBits) → Prop) → (Bool → Prop) → Prop
 | 0, _, _, _, _, _, _, _, _ => False
 | n + 1, x32, x33, x35, x36, x37, x34, Kx0w11, Kr11 => laws_FnMerged.l11.b n  x32 x33 x35 x36 x37 (fun x34q => laws_FnMerged.l11 n x32 x33 x35 x36 x37 x34q Kx0w11 Kr11) x34 Kx0w11 Kr11
def laws_FnMerged.w (n : Nat) (lp11 : List (tBits) → List (tBits) → List (tDecl) → List Int → List (tBits) → Int → (List (tBits) → List (tBits) → List (tDecl) → List (tBits) → Prop) → (Bool → Prop) → Prop) (a1 : List Int) (K : Bool → Prop) : Prop :=
 laws_big.c n a1 (fun r3 => if r3 = true then (K true) else (spec_DrawMerge.c n a1 (fun r4 r5 r6 r7 => spec_Merge.c n r4 r5 r6 r7 (fun r8 r9 => impl_Merge.c n r4 r5 r6 r7 (fun r10 r11 => if (!(r11 == r9)) = true then (K false) else (if (!r11) = true then (K (decide ((r10.length : Int) = 0))) else (lp11 r5 r6 r4 r7 r10 0 (fun y57 y58 y59 y60 => impl_Merge.c n y59 y57 y58 ([] : List (Int)) (fun r61 r62 => let t66 : Bool := decide ((y60.length : Int) = (y59.length : Int)); if t66 = true then (if r62 = true then (laws_sameValues.c n r61 y57 (fun r67 => K r67)) else (K false)) else (K false))) (fun y68 => K y68))))))))
def laws_FnMerged.c : Nat → List Int → (Bool → Prop) → Prop
 | 0, _, _ => False
 | n + 1, a1, K => laws_FnMerged.w n (laws_FnMerged.l11 n) a1 K
end Go.Vsi
end
