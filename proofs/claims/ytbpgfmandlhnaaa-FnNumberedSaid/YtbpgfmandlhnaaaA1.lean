/- Go functions, told on plain data. No statement is proved here. -/
import Derived.Test.YtbpgfmandlhnaaaM1

section
set_option linter.unusedVariables false
set_option synthInstance.maxSize 4096
namespace Go.Vsi
abbrev tTNode : Type := Int × Int × Int × Int × Int × List (Int) × List (Int)
instance : DecidableEq tTNode := inferInstance
abbrev tDecl : Type := List UInt8 × Int
instance : DecidableEq tDecl := inferInstance
abbrev tLiteral : Type := Int × Bool × List (tTNode) × List (tTNode)
instance : DecidableEq tLiteral := inferInstance
abbrev tBits : Type := Int × List (Int)
instance : DecidableEq tBits := inferInstance
def Z42.w (n : Nat) (a1 : List Int) (K : Bool -> Prop) : Prop :=
 K (decide ((a1.length : Int) > 1048576))
def Z42.c : Nat -> List Int -> (Bool -> Prop) -> Prop
 | 0, _, _ => False
 | n + 1, a1, K => Z42.w n  a1 K
def Z72.w (n : Nat) (a1 : List Int) (K : List Int -> Int -> Prop) : Prop :=
 K a1 0
def Z72.c : Nat -> List Int -> (List Int -> Int -> Prop) -> Prop
 | 0, _, _ => False
 | n + 1, a1, K => Z72.w n  a1 K
def Z77.w (n : Nat) (a1 : List Int) (a2 : Int) (K : Int -> List Int -> Int -> Prop) : Prop :=
 if (decide (a2 >= (a1.length : Int))) = true then (K 0 a1 a2) else (let t4 : Int := IntKind.wrap .i64 ((IntKind.wrap .i64 (a2 + 1)) - 1); grd (decide (0 <= t4) && decide (t4 < (a1.length : Int))) (K (IntKind.wrap .i64 (rd a1 (Int.toNat t4))) a1 (IntKind.wrap .i64 (a2 + 1))))
def Z77.c : Nat -> List Int -> Int -> (Int -> List Int -> Int -> Prop) -> Prop
 | 0, _, _, _ => False
 | n + 1, a1, a2, K => Z77.w n  a1 a2 K
def Z73.w (n : Nat) (a1 : List Int) (a2 : Int) (a3 : Int) (K : Int -> List Int -> Int -> Prop) : Prop :=
 if (decide (a3 <= 1)) = true then (K 0 a1 a2) else (if (decide (a3 <= 256)) = true then (Z77.c n a1 a2 (fun r7 r8 r9 => grd (!(decide (a3 = 0))) (K (Int.tmod r7 a3) r8 r9))) else (Z77.c n a1 a2 (fun r10 r11 r12 => Z77.c n r11 r12 (fun r13 r14 r15 => let t16 : Int := IntKind.wrap .i64 ((IntKind.wrap .i64 (r10 * 256)) + r13); grd (!(decide (a3 = 0))) (K (Int.tmod t16 a3) r14 r15)))))
def Z73.c : Nat -> List Int -> Int -> Int -> (Int -> List Int -> Int -> Prop) -> Prop
 | 0, _, _, _, _ => False
 | n + 1, a1, a2, a3, K => Z73.w n  a1 a2 a3 K
def Z81.w (n : Nat) (a1 : List Int) (a2 : Int) (a3 : Int) (K : Bool -> List Int -> Int -> Prop) : Prop :=
 Z73.c n a1 a2 a3 (fun r4 r5 r6 => K (decide (r4 = IntKind.wrap .i64 (a3 - 1))) r5 r6)
def Z81.c : Nat -> List Int -> Int -> Int -> (Bool -> List Int -> Int -> Prop) -> Prop
 | 0, _, _, _, _ => False
 | n + 1, a1, a2, a3, K => Z81.w n  a1 a2 a3 K
def Z83.l3.b (n : Nat) (again3 : Int -> Int -> List Int -> Int -> Prop) (x15 : Int) (x16 : Int) (x17 : List Int) (x18 : Int) (Kx0w3 : Int -> List Int -> Int -> Prop) : Prop :=
 if (decide (x16 < 8)) = true then (Z77.c n x17 x18 (fun r23 r24 r25 => let t26 : Int := ibits .or .u64 (IntKind.wrap .u64 (x15 * 2 ^ 8)) (IntKind.wrap .u64 r23); again3 t26 (IntKind.wrap .i64 (x16 + 1)) r24 r25)) else (Kx0w3 x15 x17 x18)
def Z83.l3 : Nat -> Int -> Int -> List Int -> Int -> (Int -> List Int -> Int -> Prop) -> Prop
 | 0, _, _, _, _, _ => False
 | n + 1, x15, x16, x17, x18, Kx0w3 => Z83.l3.b n   (fun x15q x16q x17q x18q => Z83.l3 n x15q x16q x17q x18q Kx0w3) x15 x16 x17 x18 Kx0w3
def Z83.w (n : Nat) (lp3 : Int -> Int -> List Int -> Int -> (Int -> List Int -> Int -> Prop) -> Prop) (a1 : List Int) (a2 : Int) (K : Int -> List Int -> Int -> Prop) : Prop :=
 lp3 0 0 a1 a2 (fun y30 y31 y32 => K y30 y31 y32)
def Z83.c : Nat -> List Int -> Int -> (Int -> List Int -> Int -> Prop) -> Prop
 | 0, _, _, _ => False
 | n + 1, a1, a2, K => Z83.w n (Z83.l3 n) a1 a2 K
def Z68.l5.b (n : Nat) (x18 : List Int) (x21 : List Int) (x22 : Int) (x23 : Int) (again5 : Int -> List Int -> Prop) (x19 : Int) (x20 : List Int) (Kx0w5 : List Int -> List Int -> Int -> Int -> Prop) : Prop :=
 if (decide (x19 < (x18.length : Int))) = true then (grd (decide (0 <= IntKind.wrap .i64 (Int.tdiv x19 64)) && decide (IntKind.wrap .i64 (Int.tdiv x19 64) < (x20.length : Int))) (let t28 : Nat := Int.toNat (IntKind.wrap .i64 (Int.tdiv x19 64)); grd (decide (0 <= x19) && decide (x19 < (x18.length : Int))) (grd (decide (0 <= IntKind.wrap .u64 (Int.tmod x19 64))) (let t29 : Int := IntKind.wrap .u64 ((IntKind.wrap .u64 (rd x18 (Int.toNat x19))) * 2 ^ (Nat.min (Int.toNat (IntKind.wrap .u64 (Int.tmod x19 64))) 64)); grd (decide (0 <= IntKind.wrap .i64 (Int.tdiv x19 64)) && decide (IntKind.wrap .i64 (Int.tdiv x19 64) < (x20.length : Int))) (let t30 : Nat := Int.toNat (IntKind.wrap .i64 (Int.tdiv x19 64)); let t31 : List Int := List.set x20 t30 (ibits .or .u64 (rd x20 t28) t29); again5 (IntKind.wrap .i64 (x19 + 1)) t31))))) else (Kx0w5 x20 x21 x22 x23)
def Z68.l5 : Nat -> List Int -> List Int -> Int -> Int -> Int -> List Int -> (List Int -> List Int -> Int -> Int -> Prop) -> Prop
 | 0, _, _, _, _, _, _, _ => False
 | n + 1, x18, x21, x22, x23, x19, x20, Kx0w5 => Z68.l5.b n  x18 x21 x22 x23 (fun x19q x20q => Z68.l5 n x18 x21 x22 x23 x19q x20q Kx0w5) x19 x20 Kx0w5
def Z68.j0 (K : Int -> List Int -> Bool -> Prop) (a1 : List Int) (lp5 : List Int -> List Int -> Int -> Int -> Int -> List Int -> (List Int -> List Int -> Int -> Int -> Prop) -> Prop) : Prop :=
 let t3 : Int := IntKind.wrap .i64 (Int.tdiv (IntKind.wrap .i64 ((a1.length : Int) + 63)) 64); grd ((decide (0 <= t3) && decide (t3 <= 7818749353073)) && decide (t3 = t3)) (lp5 a1 ([] : List (Int)) 0 (a1.length : Int) 0 (List.replicate (Int.toNat t3) 0) (fun y36 y37 y38 y39 => K y39 y36 true))
def Z68.w (n : Nat) (lp5 : List Int -> List Int -> Int -> Int -> Int -> List Int -> (List Int -> List Int -> Int -> Int -> Prop) -> Prop) (a1 : List Int) (K : Int -> List Int -> Bool -> Prop) : Prop :=
 if (decide ((a1.length : Int) < 1)) = false then (if (decide ((a1.length : Int) > 4096)) = true then (K 0 ([] : List (Int)) false) else (Z68.j0 K a1 lp5)) else (K 0 ([] : List (Int)) false)
def Z68.c : Nat -> List Int -> (Int -> List Int -> Bool -> Prop) -> Prop
 | 0, _, _ => False
 | n + 1, a1, K => Z68.w n (Z68.l5 n) a1 K
def Z74.j4 (again5 : Int -> List Int -> Prop) (x30 : Int) (x31 : Int) (x32 : List Int) (j44 : Int) : Prop :=
 if (decide (x30 = 1)) = true then (grd (decide (x32.length + ([1] : List (Int)).length <= 35184372088832)) (again5 (IntKind.wrap .i64 (x31 + 1)) (x32 ++ ([1] : List (Int))))) else (grd (decide (x32.length + ([j44] : List (Int)).length <= 35184372088832)) (again5 (IntKind.wrap .i64 (x31 + 1)) (x32 ++ ([j44] : List (Int)))))
def Z74.l5.b (n : Nat) (x28 : Int) (x29 : Int) (x30 : Int) (x33 : List Int) (x34 : List Int) (x35 : Int) (x36 : Int) (again5 : Int -> List Int -> Prop) (x31 : Int) (x32 : List Int) (Kx0w5 : List Int -> List Int -> List Int -> Int -> Int -> Prop) : Prop :=
 if (decide (x31 < x28)) = true then (let t42 : Int := IntKind.wrap .u64 (Int.tmod (IntKind.wrap .i64 (x31 * 7)) 64); grd (decide (0 <= t42)) (let t43 : Int := Int.fdiv x29 (2 ^ (Nat.min (Int.toNat t42) 64)); if (decide (x30 = 0)) = true then (Z74.j4 again5 x30 x31 x32 0) else (Z74.j4 again5 x30 x31 x32 (IntKind.wrap .u8 (ibits .and .u64 t43 1))))) else (Kx0w5 x32 x33 x34 x35 x36)
def Z74.l5 : Nat -> Int -> Int -> Int -> List Int -> List Int -> Int -> Int -> Int -> List Int -> (List Int -> List Int -> List Int -> Int -> Int -> Prop) -> Prop
 | 0, _, _, _, _, _, _, _, _, _, _ => False
 | n + 1, x28, x29, x30, x33, x34, x35, x36, x31, x32, Kx0w5 => Z74.l5.b n  x28 x29 x30 x33 x34 x35 x36 (fun x31q x32q => Z74.l5 n x28 x29 x30 x33 x34 x35 x36 x31q x32q Kx0w5) x31 x32 Kx0w5
def Z74.w (n : Nat) (lp5 : Int -> Int -> Int -> List Int -> List Int -> Int -> Int -> Int -> List Int -> (List Int -> List Int -> List Int -> Int -> Int -> Prop) -> Prop) (a1 : List Int) (a2 : Int) (a3 : Int) (K : Int -> List Int -> List Int -> Int -> Prop) : Prop :=
 Z83.c n a1 a2 (fun r4 r5 r6 => Z73.c n r5 r6 4 (fun r7 r8 r9 => lp5 a3 r4 r7 ([] : List (Int)) r8 r9 0 0 ([] : List (Int)) (fun y51 y52 y53 y54 y55 => Z68.c n y51 (fun r56 r57 r58 => K r56 r57 y53 y54))))
def Z74.c : Nat -> List Int -> Int -> Int -> (Int -> List Int -> List Int -> Int -> Prop) -> Prop
 | 0, _, _, _, _ => False
 | n + 1, a1, a2, a3, K => Z74.w n (Z74.l5 n) a1 a2 a3 K
def Z76.w (n : Nat) (a1 : List Int) (a2 : Int) (a3 : Int) (a4 : Int) (K : Int -> List Int -> Int -> Prop) : Prop :=
 Z73.c n a1 a2 8 (fun r8 r9 r10 => if (decide (r8 = 0)) = true then (K a3 r9 r10) else (if (decide (r8 = 1)) = true then (K a4 r9 r10) else (if (decide (a4 < a3)) = true then (K a3 r9 r10) else (Z83.c n r9 r10 (fun r11 r12 r13 => let t14 : Int := IntKind.wrap .i64 ((IntKind.wrap .i64 (a4 - a3)) + 1); grd (!(decide (IntKind.wrap .u64 t14 = 0))) (let t15 : Int := Int.tmod (Int.fdiv r11 (2 ^ 1)) (IntKind.wrap .u64 t14); let t16 : Int := IntKind.wrap .i64 (a3 + (IntKind.wrap .i64 t15)); K t16 r12 r13))))))
def Z76.c : Nat -> List Int -> Int -> Int -> Int -> (Int -> List Int -> Int -> Prop) -> Prop
 | 0, _, _, _, _, _ => False
 | n + 1, a1, a2, a3, a4, K => Z76.w n  a1 a2 a3 a4 K
def Z80.w (n : Nat) (a1 : List Int) (a2 : Int) (a3 : Int) (a4 : Int) (K : Int -> List Int -> Int -> Prop) : Prop :=
 Z81.c n a1 a2 24 (fun r12 r13 r14 => if r12 = true then (let t15 : List Int := ([IntKind.wrap .i64 (a3 - 1), IntKind.wrap .i64 (a4 + 1), (-9223372036854775808), 9223372036854775807] : List (Int)); Z73.c n r13 r14 4 (fun r16 r17 r18 => grd (decide (0 <= r16) && decide (r16 < (t15.length : Int))) (K (rd t15 (Int.toNat r16)) r17 r18))) else (Z76.c n r13 r14 a3 a4 (fun r19 r20 r21 => K r19 r20 r21)))
def Z80.c : Nat -> List Int -> Int -> Int -> Int -> (Int -> List Int -> Int -> Prop) -> Prop
 | 0, _, _, _, _, _ => False
 | n + 1, a1, a2, a3, a4, K => Z80.w n  a1 a2 a3 a4 K
def Z82.w (n : Nat) (a1 : List Int) (a2 : Int) (a3 : Int) (a4 : Int) (K : Int -> List Int -> Int -> Prop) : Prop :=
 grd (!(decide (a3 = 0))) (let t5 : Int := IntKind.wrap .i64 (Int.tdiv (a1.length : Int) a3); if (decide (IntKind.wrap .i64 (1 + t5) > a4)) = true then (Z73.c n a1 a2 a4 (fun r10 r11 r12 => K (IntKind.wrap .i64 (1 + r10)) r11 r12)) else (Z73.c n a1 a2 (IntKind.wrap .i64 (1 + t5)) (fun r13 r14 r15 => K (IntKind.wrap .i64 (1 + r13)) r14 r15)))
def Z82.c : Nat -> List Int -> Int -> Int -> Int -> (Int -> List Int -> Int -> Prop) -> Prop
 | 0, _, _, _, _, _ => False
 | n + 1, a1, a2, a3, a4, K => Z82.w n  a1 a2 a3 a4 K
def Z88.w (n : Nat) (a1 : Int) (a2 : Int) (a3 : Int) (a4 : Int) (a5 : Int) (a6 : List Int) (a7 : List Int) (K : Int -> Int -> Int -> Int -> Int -> List Int -> List Int -> Prop) : Prop :=
 grd (decide (([] : List (Int)).length + a7.length <= 7818749353073)) (let p12 : Prop := (let p9 : Prop := (grd (decide (([] : List (Int)).length + a6.length <= 7818749353073)) (K a1 a2 a3 a4 a5 (([] : List (Int)) ++ a6) (([] : List (Int)) ++ a7))); (p9 /\ p9)); (p12 /\ p12 /\ ((grd (decide (([] : List (Int)).length + a6.length <= 7818749353073)) (K a1 a2 a3 a4 a5 (([] : List (Int)) ++ a6) (([] : List (Int)) ++ a7))) /\ (let p11 : Prop := (grd (decide (([] : List (Int)).length + a6.length <= 7818749353073)) (K a1 a2 a3 a4 a5 (([] : List (Int)) ++ a6) (([] : List (Int)) ++ a7))); (p11 /\ p11)))))
def Z88.c : Nat -> Int -> Int -> Int -> Int -> Int -> List Int -> List Int -> (Int -> Int -> Int -> Int -> Int -> List Int -> List Int -> Prop) -> Prop
 | 0, _, _, _, _, _, _, _, _ => False
 | n + 1, a1, a2, a3, a4, a5, a6, a7, K => Z88.w n  a1 a2 a3 a4 a5 a6 a7 K
def Z94.j1 (again8 : Int -> List Bool -> Prop) (x25 : List (tTNode)) (x26 : Int) (x27 : Int) (x28 : List Bool) : Prop :=
 grd (decide (0 <= x26) && decide (x26 < (x25.length : Int))) (let t35 : List Int := ((((((rd x25 (Int.toNat x26)).2).2).2).2).2).2; grd (decide (0 <= x27) && decide (x27 < (t35.length : Int))) (grd (decide (0 <= rd t35 (Int.toNat x27)) && decide (rd t35 (Int.toNat x27) < (x28.length : Int))) (let t36 : List Bool := List.set x28 (Int.toNat (rd t35 (Int.toNat x27))) true; again8 (IntKind.wrap .i64 (x27 + 1)) t36)))
def Z94.l8.b (n : Nat) (x25 : List (tTNode)) (x26 : Int) (x29 : List Int) (again8 : Int -> List Bool -> Prop) (x27 : Int) (x28 : List Bool) (Kx2w8 : List (tTNode) -> Int -> List Bool -> List Int -> Prop) : Prop :=
 grd (decide (0 <= x26) && decide (x26 < (x28.length : Int))) (if (rd x28 (Int.toNat x26)) = true then (grd (decide (0 <= x26) && decide (x26 < (x25.length : Int))) (let t39 : List Int := ((((((rd x25 (Int.toNat x26)).2).2).2).2).2).2; if (decide (x27 < (t39.length : Int))) = true then (Z94.j1 again8 x25 x26 x27 x28) else (Kx2w8 x25 x26 x28 x29))) else (Kx2w8 x25 x26 x28 x29))
def Z94.l8 : Nat -> List (tTNode) -> Int -> List Int -> Int -> List Bool -> (List (tTNode) -> Int -> List Bool -> List Int -> Prop) -> Prop
 | 0, _, _, _, _, _, _ => False
 | n + 1, x25, x26, x29, x27, x28, Kx2w8 => Z94.l8.b n  x25 x26 x29 (fun x27q x28q => Z94.l8 n x25 x26 x29 x27q x28q Kx2w8) x27 x28 Kx2w8
def Z94.l5.b (n : Nat) (lp8 : List (tTNode) -> Int -> List Int -> Int -> List Bool -> (List (tTNode) -> Int -> List Bool -> List Int -> Prop) -> Prop) (again5 : List (tTNode) -> Int -> List Bool -> List Int -> Prop) (x48 : List (tTNode)) (x49 : Int) (x50 : List Bool) (x51 : List Int) (Kx0w5 : List (tTNode) -> List Bool -> List Int -> Prop) : Prop :=
 if (decide (x49 >= 0)) = true then (lp8 x48 x49 x51 0 x50 (fun y56 y57 y58 y59 => again5 y56 (IntKind.wrap .i64 (y57 - 1)) y58 y59)) else (Kx0w5 x48 x50 x51)
def Z94.l5 : Nat -> List (tTNode) -> Int -> List Bool -> List Int -> (List (tTNode) -> List Bool -> List Int -> Prop) -> Prop
 | 0, _, _, _, _, _ => False
 | n + 1, x48, x49, x50, x51, Kx0w5 => Z94.l5.b n (Z94.l8 n)  (fun x48q x49q x50q x51q => Z94.l5 n x48q x49q x50q x51q Kx0w5) x48 x49 x50 x51 Kx0w5
def Z94.l18.b (n : Nat) (x96 : List (tTNode)) (x97 : Int) (x99 : List (tTNode)) (x100 : List Bool) (x101 : List Int) (x102 : List Int) (x104 : Int) (x105 : Int) (x106 : Int) (x107 : Int) (x108 : Int) (again18 : Int -> List Int -> Prop) (x98 : Int) (x103 : List Int) (Kx6w18 : List (tTNode) -> Int -> List (tTNode) -> List Bool -> List Int -> List Int -> List Int -> Int -> Int -> Int -> Int -> Int -> Prop) : Prop :=
 if (decide (x98 < (x103.length : Int))) = true then (grd (decide (0 <= x98) && decide (x98 < (x103.length : Int))) (grd (decide (0 <= rd x103 (Int.toNat x98)) && decide (rd x103 (Int.toNat x98) < (x101.length : Int))) (let t110 : Int := rd x101 (Int.toNat (rd x103 (Int.toNat x98))); grd (decide (0 <= x98) && decide (x98 < (x103.length : Int))) (again18 (IntKind.wrap .i64 (x98 + 1)) (List.set x103 (Int.toNat x98) t110))))) else (Kx6w18 x96 x97 x99 x100 x101 x102 x103 x104 x105 x106 x107 x108)
def Z94.l18 : Nat -> List (tTNode) -> Int -> List (tTNode) -> List Bool -> List Int -> List Int -> Int -> Int -> Int -> Int -> Int -> Int -> List Int -> (List (tTNode) -> Int -> List (tTNode) -> List Bool -> List Int -> List Int -> List Int -> Int -> Int -> Int -> Int -> Int -> Prop) -> Prop
 | 0, _, _, _, _, _, _, _, _, _, _, _, _, _, _ => False
 | n + 1, x96, x97, x99, x100, x101, x102, x104, x105, x106, x107, x108, x98, x103, Kx6w18 => Z94.l18.b n  x96 x97 x99 x100 x101 x102 x104 x105 x106 x107 x108 (fun x98q x103q => Z94.l18 n x96 x97 x99 x100 x101 x102 x104 x105 x106 x107 x108 x98q x103q Kx6w18) x98 x103 Kx6w18
def Z94.l13.b (n : Nat) (lp18 : List (tTNode) -> Int -> List (tTNode) -> List Bool -> List Int -> List Int -> Int -> Int -> Int -> Int -> Int -> Int -> List Int -> (List (tTNode) -> Int -> List (tTNode) -> List Bool -> List Int -> List Int -> List Int -> Int -> Int -> Int -> Int -> Int -> Prop) -> Prop) (again13 : List (tTNode) -> Int -> List (tTNode) -> List Bool -> List Int -> Prop) (x172 : List (tTNode)) (x173 : Int) (x174 : List (tTNode)) (x175 : List Bool) (x176 : List Int) (Kx4w13 : List (tTNode) -> Prop) : Prop :=
 if (decide (x173 < (x172.length : Int))) = true then (grd (decide (0 <= x173) && decide (x173 < (x175.length : Int))) (if (!(rd x175 (Int.toNat x173))) = true then (again13 x172 (IntKind.wrap .i64 (x173 + 1)) x174 x175 x176) else (grd (decide (0 <= x173) && decide (x173 < (x172.length : Int))) (let t212 : List Int := ((((((rd x172 (Int.toNat x173)).2).2).2).2).2).1; let t213 : List Int := ((((((rd x172 (Int.toNat x173)).2).2).2).2).2).2; Z88.c n ((rd x172 (Int.toNat x173)).1) (((rd x172 (Int.toNat x173)).2).1) ((((rd x172 (Int.toNat x173)).2).2).1) (((((rd x172 (Int.toNat x173)).2).2).2).1) ((((((rd x172 (Int.toNat x173)).2).2).2).2).1) t212 t213 (fun r214 r215 r216 r217 r218 r219 r220 => lp18 x172 x173 x174 x175 x176 r219 r214 r215 r216 r217 r218 0 r220 (fun y233 y234 y235 y236 y237 y238 y239 y240 y241 y242 y243 y244 => grd (decide (0 <= y234) && decide (y234 < (y237.length : Int))) (let t245 : List Int := List.set y237 (Int.toNat y234) (y235.length : Int); let t246 : List (tTNode) := ([(y240, y241, y242, y243, y244, y238, y239)] : List (tTNode)); grd (decide (y235.length + t246.length <= 790660046940)) (again13 y233 (IntKind.wrap .i64 (y234 + 1)) (y235 ++ t246) y236 t245)))))))) else (Kx4w13 x174)
def Z94.l13 : Nat -> List (tTNode) -> Int -> List (tTNode) -> List Bool -> List Int -> (List (tTNode) -> Prop) -> Prop
 | 0, _, _, _, _, _, _ => False
 | n + 1, x172, x173, x174, x175, x176, Kx4w13 => Z94.l13.b n (Z94.l18 n)  (fun x172q x173q x174q x175q x176q => Z94.l13 n x172q x173q x174q x175q x176q Kx4w13) x172 x173 x174 x175 x176 Kx4w13
def Z94.w (n : Nat) (lp5 : List (tTNode) -> Int -> List Bool -> List Int -> (List (tTNode) -> List Bool -> List Int -> Prop) -> Prop) (lp13 : List (tTNode) -> Int -> List (tTNode) -> List Bool -> List Int -> (List (tTNode) -> Prop) -> Prop) (a1 : List (tTNode)) (a2 : Int) (K : List (tTNode) -> Prop) : Prop :=
 let t3 : List (tTNode) := ([] : List (tTNode)); grd ((decide (0 <= (a1.length : Int)) && decide ((a1.length : Int) <= 35184372088832)) && decide ((a1.length : Int) = (a1.length : Int))) (let t4 : List Bool := List.replicate (Int.toNat (a1.length : Int)) false; grd (decide (0 <= a2) && decide (a2 < (t4.length : Int))) (grd ((decide (0 <= (a1.length : Int)) && decide ((a1.length : Int) <= 7818749353073)) && decide ((a1.length : Int) = (a1.length : Int))) (let t5 : List Int := List.replicate (Int.toNat (a1.length : Int)) 0; lp5 a1 (IntKind.wrap .i64 ((a1.length : Int) - 1)) (List.set t4 (Int.toNat a2) true) t5 (fun y63 y64 y65 => let t66 : List (tTNode) := ([] : List (tTNode)); lp13 y63 0 t66 y64 y65 (fun y248 => K y248)))))
def Z94.c : Nat -> List (tTNode) -> Int -> (List (tTNode) -> Prop) -> Prop
 | 0, _, _, _ => False
 | n + 1, a1, a2, K => Z94.w n (Z94.l5 n) (Z94.l13 n) a1 a2 K
def Z67.w (n : Nat) (a1 : Int) (K : Bool -> Prop) : Prop :=
 if (decide (a1 >= 48)) = true then (K (decide (a1 <= 57))) else (K false)
def Z67.c : Nat -> Int -> (Bool -> Prop) -> Prop
 | 0, _, _ => False
 | n + 1, a1, K => Z67.w n  a1 K
def Z71.l4.b (n : Nat) (x25 : List UInt8) (again4 : Int -> Prop) (x26 : Int) (Kx0w4 : Prop) (Kr4 : Bool -> Prop) : Prop :=
 if (decide (x26 < (x25.length : Int))) = true then (grd (decide (0 <= x26) && decide (x26 < (x25.length : Int))) (let t41 : Int := ((List.getD x25 (Int.toNat x26) 0).toNat : Int); Z67.c n t41 (fun r42 => if (!r42) = true then (grd (decide (0 <= x26) && decide (x26 < (x25.length : Int))) (let t43 : Int := ((List.getD x25 (Int.toNat x26) 0).toNat : Int); if (decide (t43 < 97)) = false then (grd (decide (0 <= x26) && decide (x26 < (x25.length : Int))) (let t44 : Int := ((List.getD x25 (Int.toNat x26) 0).toNat : Int); if (decide (t44 > 122)) = true then (Kr4 false) else (again4 (IntKind.wrap .i64 (x26 + 1))))) else (Kr4 false))) else (again4 (IntKind.wrap .i64 (x26 + 1)))))) else (Kx0w4)
def Z71.l4 : Nat -> List UInt8 -> Int -> Prop -> (Bool -> Prop) -> Prop
 | 0, _, _, _, _ => False
 | n + 1, x25, x26, Kx0w4, Kr4 => Z71.l4.b n  x25 (fun x26q => Z71.l4 n x25 x26q Kx0w4 Kr4) x26 Kx0w4 Kr4
def Z71.w (n : Nat) (lp4 : List UInt8 -> Int -> Prop -> (Bool -> Prop) -> Prop) (a1 : List UInt8) (K : Bool -> Prop) : Prop :=
 if (decide ((a1.length : Int) < 1)) = false then (if (decide ((a1.length : Int) > 12)) = false then (grd (decide (0 < (a1.length : Int))) (Z67.c n ((List.getD a1 0 0).toNat : Int) (fun r51 => if r51 = true then (K false) else (lp4 a1 0 (K true) (fun y53 => K y53))))) else (K false)) else (K false)
def Z71.c : Nat -> List UInt8 -> (Bool -> Prop) -> Prop
 | 0, _, _ => False
 | n + 1, a1, K => Z71.w n (Z71.l4 n) a1 K
def Z69.w (n : Nat) (a1 : Int) (a2 : Int) (a3 : Int) (K : Bool -> Prop) : Prop :=
 if (decide (a1 >= a2)) = true then (K (decide (a1 <= a3))) else (K false)
def Z69.c : Nat -> Int -> Int -> Int -> (Bool -> Prop) -> Prop
 | 0, _, _, _, _ => False
 | n + 1, a1, a2, a3, K => Z69.w n  a1 a2 a3 K
def Z56.l10.b (n : Nat) (x18 : List (tDecl)) (x19 : Int) (x20 : Int) (again10 : Int -> Prop) (x21 : Int) (Kx2w10 : List (tDecl) -> Int -> Int -> Prop) (Kr10 : Bool -> Prop) : Prop :=
 if (decide (x21 < x20)) = true then (grd (decide (0 <= x21) && decide (x21 < (x18.length : Int))) (grd (decide (0 <= x20) && decide (x20 < (x18.length : Int))) (let t25 : Bool := (((rd x18 (Int.toNat x21)).1) == ((rd x18 (Int.toNat x20)).1)); if t25 = true then (Kr10 false) else (again10 (IntKind.wrap .i64 (x21 + 1)))))) else (Kx2w10 x18 x19 x20)
def Z56.l10 : Nat -> List (tDecl) -> Int -> Int -> Int -> (List (tDecl) -> Int -> Int -> Prop) -> (Bool -> Prop) -> Prop
 | 0, _, _, _, _, _, _ => False
 | n + 1, x18, x19, x20, x21, Kx2w10, Kr10 => Z56.l10.b n  x18 x19 x20 (fun x21q => Z56.l10 n x18 x19 x20 x21q Kx2w10 Kr10) x21 Kx2w10 Kr10
def Z56.j3 (Kr5 : Bool -> Prop) (again5 : List (tDecl) -> Int -> Int -> Prop) (lp10 : List (tDecl) -> Int -> Int -> Int -> (List (tDecl) -> Int -> Int -> Prop) -> (Bool -> Prop) -> Prop) (x59 : List (tDecl)) (x60 : Int) (x61 : Int) : Prop :=
 lp10 x59 x60 x61 0 (fun y90 y91 y92 => grd (decide (0 <= y92) && decide (y92 < (y90.length : Int))) (let t93 : Int := IntKind.wrap .i64 (y91 + ((rd y90 (Int.toNat y92)).2)); again5 y90 t93 (IntKind.wrap .i64 (y92 + 1)))) (fun y94 => Kr5 y94)
def Z56.l5.b (n : Nat) (lp10 : List (tDecl) -> Int -> Int -> Int -> (List (tDecl) -> Int -> Int -> Prop) -> (Bool -> Prop) -> Prop) (again5 : List (tDecl) -> Int -> Int -> Prop) (x59 : List (tDecl)) (x60 : Int) (x61 : Int) (Kx0w5 : Int -> Prop) (Kr5 : Bool -> Prop) : Prop :=
 if (decide (x61 < (x59.length : Int))) = true then (grd (decide (0 <= x61) && decide (x61 < (x59.length : Int))) (Z71.c n ((rd x59 (Int.toNat x61)).1) (fun r98 => if (!r98) = false then (grd (decide (0 <= x61) && decide (x61 < (x59.length : Int))) (Z69.c n ((rd x59 (Int.toNat x61)).2) 1 4096 (fun r99 => if (!r99) = true then (Kr5 false) else (Z56.j3 Kr5 again5 lp10 x59 x60 x61)))) else (Kr5 false)))) else (Kx0w5 x60)
def Z56.l5 : Nat -> List (tDecl) -> Int -> Int -> (Int -> Prop) -> (Bool -> Prop) -> Prop
 | 0, _, _, _, _, _ => False
 | n + 1, x59, x60, x61, Kx0w5, Kr5 => Z56.l5.b n (Z56.l10 n)  (fun x59q x60q x61q => Z56.l5 n x59q x60q x61q Kx0w5 Kr5) x59 x60 x61 Kx0w5 Kr5
def Z56.w (n : Nat) (lp5 : List (tDecl) -> Int -> Int -> (Int -> Prop) -> (Bool -> Prop) -> Prop) (a1 : List (tDecl)) (K : Bool -> Prop) : Prop :=
 if (decide ((a1.length : Int) > 60)) = true then (K false) else (lp5 a1 0 0 (fun y102 => K (decide (y102 <= 20000))) (fun y103 => K y103))
def Z56.c : Nat -> List (tDecl) -> (Bool -> Prop) -> Prop
 | 0, _, _ => False
 | n + 1, a1, K => Z56.w n (Z56.l5 n) a1 K
def Z92.w (n : Nat) (a1 : Int) (a2 : List Int) (K : Bool -> Prop) : Prop :=
 if (decide (a1 = 0)) = true then (K (decide ((a2.length : Int) = 0))) else (K false)
def Z92.c : Nat -> Int -> List Int -> (Bool -> Prop) -> Prop
 | 0, _, _, _ => False
 | n + 1, a1, a2, K => Z92.w n  a1 a2 K
def Z93.w (n : Nat) (a1 : Int) (K : Bool -> Prop) : Prop :=
 Z69.c n a1 4 9 (fun r2 => K r2)
def Z93.c : Nat -> Int -> (Bool -> Prop) -> Prop
 | 0, _, _ => False
 | n + 1, a1, K => Z93.w n  a1 K
def Z66.w (n : Nat) (a1 : Int) (a2 : List Int) (a3 : Int) (K : Int -> Prop) : Prop :=
 grd (decide (0 <= IntKind.wrap .i64 (Int.tdiv a3 64)) && decide (IntKind.wrap .i64 (Int.tdiv a3 64) < (a2.length : Int))) (let t4 : Int := rd a2 (Int.toNat (IntKind.wrap .i64 (Int.tdiv a3 64))); grd (decide (0 <= IntKind.wrap .u64 (Int.tmod a3 64))) (let t5 : Int := Int.fdiv t4 (2 ^ (Nat.min (Int.toNat (IntKind.wrap .u64 (Int.tmod a3 64))) 64)); K (IntKind.wrap .u8 (ibits .and .u64 t5 1))))
def Z66.c : Nat -> Int -> List Int -> Int -> (Int -> Prop) -> Prop
 | 0, _, _, _, _ => False
 | n + 1, a1, a2, a3, K => Z66.w n  a1 a2 a3 K
def Z53.l4.b (n : Nat) (x16 : Int) (x17 : List Int) (again4 : Int -> Prop) (x15 : Int) (Kx0w4 : Prop) (Kr4 : Bool -> Prop) : Prop :=
 let t19 : Bool := decide (x15 < IntKind.wrap .i64 (64 * (x17.length : Int))); if t19 = true then (Z66.c n x16 x17 x15 (fun r21 => if (!(decide (r21 = 0))) = true then (Kr4 false) else (again4 (IntKind.wrap .i64 (x15 + 1))))) else (Kx0w4)
def Z53.l4 : Nat -> Int -> List Int -> Int -> Prop -> (Bool -> Prop) -> Prop
 | 0, _, _, _, _, _ => False
 | n + 1, x16, x17, x15, Kx0w4, Kr4 => Z53.l4.b n  x16 x17 (fun x15q => Z53.l4 n x16 x17 x15q Kx0w4 Kr4) x15 Kx0w4 Kr4
def Z53.w (n : Nat) (lp4 : Int -> List Int -> Int -> Prop -> (Bool -> Prop) -> Prop) (a1 : Int) (a2 : List Int) (K : Bool -> Prop) : Prop :=
 Z69.c n a1 1 4096 (fun r29 => if (!r29) = false then (let t30 : Int := IntKind.wrap .i64 (Int.tdiv (IntKind.wrap .i64 (a1 + 63)) 64); if (!(decide ((a2.length : Int) = t30))) = true then (K false) else (lp4 a1 a2 a1 (K true) (fun y32 => K y32))) else (K false))
def Z53.c : Nat -> Int -> List Int -> (Bool -> Prop) -> Prop
 | 0, _, _, _ => False
 | n + 1, a1, a2, K => Z53.w n (Z53.l4 n) a1 a2 K
def Z90.l2.b (n : Nat) (x22 : List (tDecl)) (x23 : Int) (x25 : Int) (x26 : Int) (x27 : Int) (x28 : Int) (x29 : Int) (x30 : List Int) (x31 : List Int) (again2 : Int -> Prop) (x24 : Int) (Kx0w2 : List (tDecl) -> Int -> Int -> Int -> Int -> Int -> List Int -> List Int -> Prop) (Kr2 : Bool -> Prop) : Prop :=
 if (decide (x24 < (x31.length : Int))) = true then (grd (decide (0 <= x24) && decide (x24 < (x31.length : Int))) (Z69.c n (rd x31 (Int.toNat x24)) 0 (IntKind.wrap .i64 (x23 - 1)) (fun r33 => if (!r33) = true then (Kr2 false) else (again2 (IntKind.wrap .i64 (x24 + 1)))))) else (Kx0w2 x22 x25 x26 x27 x28 x29 x30 x31)
def Z90.l2 : Nat -> List (tDecl) -> Int -> Int -> Int -> Int -> Int -> Int -> List Int -> List Int -> Int -> (List (tDecl) -> Int -> Int -> Int -> Int -> Int -> List Int -> List Int -> Prop) -> (Bool -> Prop) -> Prop
 | 0, _, _, _, _, _, _, _, _, _, _, _, _ => False
 | n + 1, x22, x23, x25, x26, x27, x28, x29, x30, x31, x24, Kx0w2, Kr2 => Z90.l2.b n  x22 x23 x25 x26 x27 x28 x29 x30 x31 (fun x24q => Z90.l2 n x22 x23 x25 x26 x27 x28 x29 x30 x31 x24q Kx0w2 Kr2) x24 Kx0w2 Kr2
def Z90.q7.b (n : Nat) (x53 : List (tDecl)) (x54 : Bool) (x55 : Int) (x56 : Int) (x57 : Int) (x58 : Int) (x59 : Int) (x60 : List Int) (x61 : List Int) (Kc7w0 : Bool -> Prop) (Kc7w1 : List (tDecl) -> Int -> Int -> Int -> Int -> Int -> List Int -> List Int -> Prop) : Prop :=
 if x54 = true then (Kc7w0 false) else (Kc7w1 x53 x55 x56 x57 x58 x59 x60 x61)
def Z90.q7 : Nat -> List (tDecl) -> Bool -> Int -> Int -> Int -> Int -> Int -> List Int -> List Int -> (Bool -> Prop) -> (List (tDecl) -> Int -> Int -> Int -> Int -> Int -> List Int -> List Int -> Prop) -> Prop
 | 0, _, _, _, _, _, _, _, _, _, _, _ => False
 | n + 1, x53, x54, x55, x56, x57, x58, x59, x60, x61, Kc7w0, Kc7w1 => Z90.q7.b n  x53 x54 x55 x56 x57 x58 x59 x60 x61  Kc7w0 Kc7w1
def Z90.q8.b (n : Nat) (x71 : List (tDecl)) (x72 : Int) (x73 : Int) (x74 : Int) (x75 : Int) (x76 : Int) (x77 : List Int) (x78 : List Int) (Kc8w0 : Bool -> Prop) : Prop :=
 if (decide (x72 = 1)) = true then (if (decide ((x78.length : Int) = 0)) = true then (Z69.c n x73 0 (IntKind.wrap .i64 ((x71.length : Int) - 1)) (fun r88 => Kc8w0 r88)) else (Kc8w0 false)) else (if (decide (x72 = 2)) = true then (if (decide ((x78.length : Int) = 0)) = true then (Z53.c n x76 x77 (fun r91 => Kc8w0 r91)) else (Kc8w0 false)) else (if (decide (x72 = 3)) = true then (Kc8w0 (decide ((x78.length : Int) >= 2))) else (Z93.c n x72 (fun r92 => if r92 = true then (Kc8w0 (decide ((x78.length : Int) = 1))) else (Kc8w0 false)))))
def Z90.q8 : Nat -> List (tDecl) -> Int -> Int -> Int -> Int -> Int -> List Int -> List Int -> (Bool -> Prop) -> Prop
 | 0, _, _, _, _, _, _, _, _, _ => False
 | n + 1, x71, x72, x73, x74, x75, x76, x77, x78, Kc8w0 => Z90.q8.b n  x71 x72 x73 x74 x75 x76 x77 x78  Kc8w0
def Z90.w (n : Nat) (lp2 : List (tDecl) -> Int -> Int -> Int -> Int -> Int -> Int -> List Int -> List Int -> Int -> (List (tDecl) -> Int -> Int -> Int -> Int -> Int -> List Int -> List Int -> Prop) -> (Bool -> Prop) -> Prop) (lpq7 : List (tDecl) -> Bool -> Int -> Int -> Int -> Int -> Int -> List Int -> List Int -> (Bool -> Prop) -> (List (tDecl) -> Int -> Int -> Int -> Int -> Int -> List Int -> List Int -> Prop) -> Prop) (lpq8 : List (tDecl) -> Int -> Int -> Int -> Int -> Int -> List Int -> List Int -> (Bool -> Prop) -> Prop) (a1 : List (tDecl)) (a2 : Int) (a3 : Int) (a4 : Int) (a5 : Int) (a6 : Int) (a7 : List Int) (a8 : List Int) (a9 : Int) (K : Bool -> Prop) : Prop :=
 lp2 a1 a9 a2 a3 a4 a5 a6 a7 a8 0 (fun y43 y44 y45 y46 y47 y48 y49 y50 => if (!(decide (y44 = 1))) = true then (if (!(decide (y45 = 0))) = false then (if (!(decide (y44 = 2))) = true then (Z92.c n y48 y49 (fun r51 => if (!r51) = false then (if (!(decide (y44 = 4))) = true then (if (!(decide (y47 = 0))) = false then (Z93.c n y44 (fun r52 => if (!r52) = true then (lpq7 y43 (!(decide (y46 = 0))) y44 y45 y46 y47 y48 y49 y50 (fun y62 => K y62) (fun y63 y64 y65 y66 y67 y68 y69 y70 => lpq8 y63 y64 y65 y66 y67 y68 y69 y70 (fun y93 => K y93))) else (lpq7 y43 false y44 y45 y46 y47 y48 y49 y50 (fun y94 => K y94) (fun y95 y96 y97 y98 y99 y100 y101 y102 => lpq8 y95 y96 y97 y98 y99 y100 y101 y102 (fun y103 => K y103))))) else (lpq7 y43 true y44 y45 y46 y47 y48 y49 y50 (fun y104 => K y104) (fun y105 y106 y107 y108 y109 y110 y111 y112 => lpq8 y105 y106 y107 y108 y109 y110 y111 y112 (fun y113 => K y113)))) else (Z93.c n y44 (fun r114 => if (!r114) = true then (lpq7 y43 (!(decide (y46 = 0))) y44 y45 y46 y47 y48 y49 y50 (fun y115 => K y115) (fun y116 y117 y118 y119 y120 y121 y122 y123 => lpq8 y116 y117 y118 y119 y120 y121 y122 y123 (fun y124 => K y124))) else (lpq7 y43 false y44 y45 y46 y47 y48 y49 y50 (fun y125 => K y125) (fun y126 y127 y128 y129 y130 y131 y132 y133 => lpq8 y126 y127 y128 y129 y130 y131 y132 y133 (fun y134 => K y134)))))) else (lpq7 y43 true y44 y45 y46 y47 y48 y49 y50 (fun y135 => K y135) (fun y136 y137 y138 y139 y140 y141 y142 y143 => lpq8 y136 y137 y138 y139 y140 y141 y142 y143 (fun y144 => K y144))))) else (if (!(decide (y44 = 4))) = true then (if (!(decide (y47 = 0))) = false then (Z93.c n y44 (fun r145 => if (!r145) = true then (lpq7 y43 (!(decide (y46 = 0))) y44 y45 y46 y47 y48 y49 y50 (fun y146 => K y146) (fun y147 y148 y149 y150 y151 y152 y153 y154 => lpq8 y147 y148 y149 y150 y151 y152 y153 y154 (fun y155 => K y155))) else (lpq7 y43 false y44 y45 y46 y47 y48 y49 y50 (fun y156 => K y156) (fun y157 y158 y159 y160 y161 y162 y163 y164 => lpq8 y157 y158 y159 y160 y161 y162 y163 y164 (fun y165 => K y165))))) else (lpq7 y43 true y44 y45 y46 y47 y48 y49 y50 (fun y166 => K y166) (fun y167 y168 y169 y170 y171 y172 y173 y174 => lpq8 y167 y168 y169 y170 y171 y172 y173 y174 (fun y175 => K y175)))) else (Z93.c n y44 (fun r176 => if (!r176) = true then (lpq7 y43 (!(decide (y46 = 0))) y44 y45 y46 y47 y48 y49 y50 (fun y177 => K y177) (fun y178 y179 y180 y181 y182 y183 y184 y185 => lpq8 y178 y179 y180 y181 y182 y183 y184 y185 (fun y186 => K y186))) else (lpq7 y43 false y44 y45 y46 y47 y48 y49 y50 (fun y187 => K y187) (fun y188 y189 y190 y191 y192 y193 y194 y195 => lpq8 y188 y189 y190 y191 y192 y193 y194 y195 (fun y196 => K y196))))))) else (lpq7 y43 true y44 y45 y46 y47 y48 y49 y50 (fun y197 => K y197) (fun y198 y199 y200 y201 y202 y203 y204 y205 => lpq8 y198 y199 y200 y201 y202 y203 y204 y205 (fun y206 => K y206)))) else (if (!(decide (y44 = 2))) = true then (Z92.c n y48 y49 (fun r207 => if (!r207) = false then (if (!(decide (y44 = 4))) = true then (if (!(decide (y47 = 0))) = false then (Z93.c n y44 (fun r208 => if (!r208) = true then (lpq7 y43 (!(decide (y46 = 0))) y44 y45 y46 y47 y48 y49 y50 (fun y209 => K y209) (fun y210 y211 y212 y213 y214 y215 y216 y217 => lpq8 y210 y211 y212 y213 y214 y215 y216 y217 (fun y218 => K y218))) else (lpq7 y43 false y44 y45 y46 y47 y48 y49 y50 (fun y219 => K y219) (fun y220 y221 y222 y223 y224 y225 y226 y227 => lpq8 y220 y221 y222 y223 y224 y225 y226 y227 (fun y228 => K y228))))) else (lpq7 y43 true y44 y45 y46 y47 y48 y49 y50 (fun y229 => K y229) (fun y230 y231 y232 y233 y234 y235 y236 y237 => lpq8 y230 y231 y232 y233 y234 y235 y236 y237 (fun y238 => K y238)))) else (Z93.c n y44 (fun r239 => if (!r239) = true then (lpq7 y43 (!(decide (y46 = 0))) y44 y45 y46 y47 y48 y49 y50 (fun y240 => K y240) (fun y241 y242 y243 y244 y245 y246 y247 y248 => lpq8 y241 y242 y243 y244 y245 y246 y247 y248 (fun y249 => K y249))) else (lpq7 y43 false y44 y45 y46 y47 y48 y49 y50 (fun y250 => K y250) (fun y251 y252 y253 y254 y255 y256 y257 y258 => lpq8 y251 y252 y253 y254 y255 y256 y257 y258 (fun y259 => K y259)))))) else (lpq7 y43 true y44 y45 y46 y47 y48 y49 y50 (fun y260 => K y260) (fun y261 y262 y263 y264 y265 y266 y267 y268 => lpq8 y261 y262 y263 y264 y265 y266 y267 y268 (fun y269 => K y269))))) else (if (!(decide (y44 = 4))) = true then (if (!(decide (y47 = 0))) = false then (Z93.c n y44 (fun r270 => if (!r270) = true then (lpq7 y43 (!(decide (y46 = 0))) y44 y45 y46 y47 y48 y49 y50 (fun y271 => K y271) (fun y272 y273 y274 y275 y276 y277 y278 y279 => lpq8 y272 y273 y274 y275 y276 y277 y278 y279 (fun y280 => K y280))) else (lpq7 y43 false y44 y45 y46 y47 y48 y49 y50 (fun y281 => K y281) (fun y282 y283 y284 y285 y286 y287 y288 y289 => lpq8 y282 y283 y284 y285 y286 y287 y288 y289 (fun y290 => K y290))))) else (lpq7 y43 true y44 y45 y46 y47 y48 y49 y50 (fun y291 => K y291) (fun y292 y293 y294 y295 y296 y297 y298 y299 => lpq8 y292 y293 y294 y295 y296 y297 y298 y299 (fun y300 => K y300)))) else (Z93.c n y44 (fun r301 => if (!r301) = true then (lpq7 y43 (!(decide (y46 = 0))) y44 y45 y46 y47 y48 y49 y50 (fun y302 => K y302) (fun y303 y304 y305 y306 y307 y308 y309 y310 => lpq8 y303 y304 y305 y306 y307 y308 y309 y310 (fun y311 => K y311))) else (lpq7 y43 false y44 y45 y46 y47 y48 y49 y50 (fun y312 => K y312) (fun y313 y314 y315 y316 y317 y318 y319 y320 => lpq8 y313 y314 y315 y316 y317 y318 y319 y320 (fun y321 => K y321)))))))) (fun y322 => K y322)
def Z90.c : Nat -> List (tDecl) -> Int -> Int -> Int -> Int -> Int -> List Int -> List Int -> Int -> (Bool -> Prop) -> Prop
 | 0, _, _, _, _, _, _, _, _, _, _ => False
 | n + 1, a1, a2, a3, a4, a5, a6, a7, a8, a9, K => Z90.w n (Z90.l2 n) (Z90.q7 n) (Z90.q8 n) a1 a2 a3 a4 a5 a6 a7 a8 a9 K
def Z96.l3.b (n : Nat) (x23 : List (tDecl)) (x24 : List Int) (x27 : Int) (x28 : Int) (x29 : Int) (x30 : Int) (x31 : Int) (x32 : List Int) (x33 : List Int) (again3 : Int -> Int -> Prop) (x25 : Int) (x26 : Int) (Kx0w3 : List (tDecl) -> Int -> Int -> Int -> Int -> Int -> Int -> List Int -> List Int -> Prop) : Prop :=
 if (decide (x26 < (x33.length : Int))) = true then (grd (decide (0 <= x26) && decide (x26 < (x33.length : Int))) (grd (decide (0 <= rd x33 (Int.toNat x26)) && decide (rd x33 (Int.toNat x26) < (x24.length : Int))) (let t35 : Int := IntKind.wrap .i64 (x25 + (rd x24 (Int.toNat (rd x33 (Int.toNat x26))))); again3 (if t35 < 8192 then t35 else 8192) (IntKind.wrap .i64 (x26 + 1))))) else (Kx0w3 x23 x25 x27 x28 x29 x30 x31 x32 x33)
def Z96.l3 : Nat -> List (tDecl) -> List Int -> Int -> Int -> Int -> Int -> Int -> List Int -> List Int -> Int -> Int -> (List (tDecl) -> Int -> Int -> Int -> Int -> Int -> Int -> List Int -> List Int -> Prop) -> Prop
 | 0, _, _, _, _, _, _, _, _, _, _, _, _ => False
 | n + 1, x23, x24, x27, x28, x29, x30, x31, x32, x33, x25, x26, Kx0w3 => Z96.l3.b n  x23 x24 x27 x28 x29 x30 x31 x32 x33 (fun x25q x26q => Z96.l3 n x23 x24 x27 x28 x29 x30 x31 x32 x33 x25q x26q Kx0w3) x25 x26 Kx0w3
def Z96.j2 (K : Int -> Prop) (n : Nat) (y46 : Int) (y47 : Int) (y49 : Int) (j74 : Bool) : Prop :=
 if j74 = true then (Z69.c n y49 0 4096 (fun r75 => if (!r75) = true then (K (-1)) else (K y46))) else (if (decide (y47 = 9)) = true then (Z69.c n y49 1 4096 (fun r77 => if (!r77) = true then (K (-1)) else (K (IntKind.wrap .i64 (y46 * y49))))) else (K y46))
def Z96.j3 (K : Int -> Prop) (n : Nat) (y46 : Int) (y47 : Int) (y49 : Int) (j71 : Bool) : Prop :=
 if j71 = true then (Z69.c n y49 0 4096 (fun r73 => if (!r73) = true then (K (-1)) else (K (IntKind.wrap .i64 (y46 + y49))))) else (if (decide (y47 = 7)) = true then (Z96.j2 K n y46 y47 y49 true) else (Z96.j2 K n y46 y47 y49 (decide (y47 = 8))))
def Z96.w (n : Nat) (lp3 : List (tDecl) -> List Int -> Int -> Int -> Int -> Int -> Int -> List Int -> List Int -> Int -> Int -> (List (tDecl) -> Int -> Int -> Int -> Int -> Int -> Int -> List Int -> List Int -> Prop) -> Prop) (a1 : List (tDecl)) (a2 : Int) (a3 : Int) (a4 : Int) (a5 : Int) (a6 : Int) (a7 : List Int) (a8 : List Int) (a9 : List Int) (K : Int -> Prop) : Prop :=
 lp3 a1 a9 a2 a3 a4 a5 a6 a7 a8 0 0 (fun y45 y46 y47 y48 y49 y50 y51 y52 y53 => if (decide (y47 = 1)) = true then (grd (decide (0 <= y48) && decide (y48 < (y45.length : Int))) (K ((rd y45 (Int.toNat y48)).2))) else (if (decide (y47 = 2)) = true then (K y51) else (if (decide (y47 = 4)) = true then (if (decide (y50 < 0)) = false then (if (decide (y49 < y50)) = false then (if (decide (y49 >= y46)) = true then (K (-1)) else (let t70 : Int := IntKind.wrap .i64 ((IntKind.wrap .i64 (y49 - y50)) + 1); K t70)) else (K (-1))) else (K (-1))) else (if (decide (y47 = 5)) = true then (Z96.j3 K n y46 y47 y49 true) else (Z96.j3 K n y46 y47 y49 (decide (y47 = 6)))))))
def Z96.c : Nat -> List (tDecl) -> Int -> Int -> Int -> Int -> Int -> List Int -> List Int -> List Int -> (Int -> Prop) -> Prop
 | 0, _, _, _, _, _, _, _, _, _, _ => False
 | n + 1, a1, a2, a3, a4, a5, a6, a7, a8, a9, K => Z96.w n (Z96.l3 n) a1 a2 a3 a4 a5 a6 a7 a8 a9 K
def Z97.l16.b (n : Nat) (x37 : List (tDecl)) (x38 : Int) (x40 : List Int) (x42 : List Int) (x43 : List (tTNode)) (again16 : Int -> List Bool -> Prop) (x39 : Int) (x41 : List Bool) (Kx2w16 : List (tDecl) -> Int -> List Int -> List Bool -> List Int -> List (tTNode) -> Prop) : Prop :=
 grd (decide (0 <= x38) && decide (x38 < (x43.length : Int))) (let t45 : List Int := ((((((rd x43 (Int.toNat x38)).2).2).2).2).2).2; if (decide (x39 < (t45.length : Int))) = true then (grd (decide (0 <= x38) && decide (x38 < (x43.length : Int))) (let t48 : List Int := ((((((rd x43 (Int.toNat x38)).2).2).2).2).2).2; grd (decide (0 <= x39) && decide (x39 < (t48.length : Int))) (grd (decide (0 <= rd t48 (Int.toNat x39)) && decide (rd t48 (Int.toNat x39) < (x41.length : Int))) (let t49 : List Bool := List.set x41 (Int.toNat (rd t48 (Int.toNat x39))) true; again16 (IntKind.wrap .i64 (x39 + 1)) t49)))) else (Kx2w16 x37 x38 x40 x41 x42 x43))
def Z97.l16 : Nat -> List (tDecl) -> Int -> List Int -> List Int -> List (tTNode) -> Int -> List Bool -> (List (tDecl) -> Int -> List Int -> List Bool -> List Int -> List (tTNode) -> Prop) -> Prop
 | 0, _, _, _, _, _, _, _, _ => False
 | n + 1, x37, x38, x40, x42, x43, x39, x41, Kx2w16 => Z97.l16.b n  x37 x38 x40 x42 x43 (fun x39q x41q => Z97.l16 n x37 x38 x40 x42 x43 x39q x41q Kx2w16) x39 x41 Kx2w16
def Z97.l7.b (n : Nat) (lp16 : List (tDecl) -> Int -> List Int -> List Int -> List (tTNode) -> Int -> List Bool -> (List (tDecl) -> Int -> List Int -> List Bool -> List Int -> List (tTNode) -> Prop) -> Prop) (again7 : List (tDecl) -> Int -> List Int -> List Int -> List Bool -> List (tTNode) -> Prop) (x73 : List (tDecl)) (x74 : Int) (x75 : List Int) (x76 : List Int) (x77 : List Bool) (x78 : List (tTNode)) (Kx0w7 : List Int -> List Int -> List Bool -> Prop) (Kr7 : List Int -> Prop) : Prop :=
 if (decide (x74 < (x78.length : Int))) = true then (grd (decide (0 <= x74) && decide (x74 < (x78.length : Int))) (let t99 : List Int := ((((((rd x78 (Int.toNat x74)).2).2).2).2).2).1; let t100 : List Int := ((((((rd x78 (Int.toNat x74)).2).2).2).2).2).2; Z90.c n x73 ((rd x78 (Int.toNat x74)).1) (((rd x78 (Int.toNat x74)).2).1) ((((rd x78 (Int.toNat x74)).2).2).1) (((((rd x78 (Int.toNat x74)).2).2).2).1) ((((((rd x78 (Int.toNat x74)).2).2).2).2).1) t99 t100 x74 (fun r101 => if (!r101) = true then (Kr7 x76) else (grd (decide (0 <= x74) && decide (x74 < (x78.length : Int))) (let t102 : List Int := ((((((rd x78 (Int.toNat x74)).2).2).2).2).2).1; let t103 : List Int := ((((((rd x78 (Int.toNat x74)).2).2).2).2).2).2; Z96.c n x73 ((rd x78 (Int.toNat x74)).1) (((rd x78 (Int.toNat x74)).2).1) ((((rd x78 (Int.toNat x74)).2).2).1) (((((rd x78 (Int.toNat x74)).2).2).2).1) ((((((rd x78 (Int.toNat x74)).2).2).2).2).1) t102 t103 x75 (fun r104 => Z69.c n r104 1 4096 (fun r106 => if (!r106) = true then (Kr7 x76) else (grd (decide (x75.length + ([r104] : List (Int)).length <= 7818749353073)) (lp16 x73 x74 x76 (x75 ++ ([r104] : List (Int))) x78 0 x77 (fun y107 y108 y109 y110 y111 y112 => again7 y107 (IntKind.wrap .i64 (y108 + 1)) y111 y109 y110 y112)))))))))) else (Kx0w7 x75 x76 x77)
def Z97.l7 : Nat -> List (tDecl) -> Int -> List Int -> List Int -> List Bool -> List (tTNode) -> (List Int -> List Int -> List Bool -> Prop) -> (List Int -> Prop) -> Prop
 | 0, _, _, _, _, _, _, _, _ => False
 | n + 1, x73, x74, x75, x76, x77, x78, Kx0w7, Kr7 => Z97.l7.b n (Z97.l16 n)  (fun x73q x74q x75q x76q x77q x78q => Z97.l7 n x73q x74q x75q x76q x77q x78q Kx0w7 Kr7) x73 x74 x75 x76 x77 x78 Kx0w7 Kr7
def Z97.l20.b (n : Nat) (x127 : List Int) (x128 : List Int) (x129 : List Bool) (again20 : Int -> Prop) (x126 : Int) (Kx4w20 : List Int -> Prop) (Kr20 : List Int -> Prop) : Prop :=
 let t131 : Bool := decide (IntKind.wrap .i64 (x126 + 1) < (x129.length : Int)); if t131 = true then (grd (decide (0 <= x126) && decide (x126 < (x129.length : Int))) (if (!(rd x129 (Int.toNat x126))) = true then (Kr20 x128) else (again20 (IntKind.wrap .i64 (x126 + 1))))) else (Kx4w20 x127)
def Z97.l20 : Nat -> List Int -> List Int -> List Bool -> Int -> (List Int -> Prop) -> (List Int -> Prop) -> Prop
 | 0, _, _, _, _, _, _ => False
 | n + 1, x127, x128, x129, x126, Kx4w20, Kr20 => Z97.l20.b n  x127 x128 x129 (fun x126q => Z97.l20 n x127 x128 x129 x126q Kx4w20 Kr20) x126 Kx4w20 Kr20
def Z97.j0 (K : List Int -> Prop) (a1 : List (tDecl)) (a2 : List (tTNode)) (lp7 : List (tDecl) -> Int -> List Int -> List Int -> List Bool -> List (tTNode) -> (List Int -> List Int -> List Bool -> Prop) -> (List Int -> Prop) -> Prop) (lp20 : List Int -> List Int -> List Bool -> Int -> (List Int -> Prop) -> (List Int -> Prop) -> Prop) : Prop :=
 grd ((decide (0 <= (a2.length : Int)) && decide ((a2.length : Int) <= 35184372088832)) && decide ((a2.length : Int) = (a2.length : Int))) (let t6 : List Bool := List.replicate (Int.toNat (a2.length : Int)) false; lp7 a1 0 ([] : List (Int)) ([] : List (Int)) t6 a2 (fun y117 y118 y119 => lp20 y117 y118 y119 0 (fun y134 => K y134) (fun y135 => K y135)) (fun y136 => K y136))
def Z97.w (n : Nat) (lp7 : List (tDecl) -> Int -> List Int -> List Int -> List Bool -> List (tTNode) -> (List Int -> List Int -> List Bool -> Prop) -> (List Int -> Prop) -> Prop) (lp20 : List Int -> List Int -> List Bool -> Int -> (List Int -> Prop) -> (List Int -> Prop) -> Prop) (a1 : List (tDecl)) (a2 : List (tTNode)) (K : List Int -> Prop) : Prop :=
 Z56.c n a1 (fun r139 => if (!r139) = false then (if (decide ((a2.length : Int) < 1)) = false then (if (decide ((a2.length : Int) > 400)) = true then (K ([] : List (Int))) else (Z97.j0 K a1 a2 lp7 lp20)) else (K ([] : List (Int)))) else (K ([] : List (Int))))
def Z97.c : Nat -> List (tDecl) -> List (tTNode) -> (List Int -> Prop) -> Prop
 | 0, _, _, _ => False
 | n + 1, a1, a2, K => Z97.w n (Z97.l7 n) (Z97.l20 n) a1 a2 K
def Z64.w (n : Nat) (a1 : List (tDecl)) (a2 : List (tTNode)) (K : Int -> Prop) : Prop :=
 Z97.c n a1 a2 (fun r3 => if (decide ((r3.length : Int) = 0)) = true then (K (-1)) else (grd (decide (0 <= IntKind.wrap .i64 ((r3.length : Int) - 1)) && decide (IntKind.wrap .i64 ((r3.length : Int) - 1) < (r3.length : Int))) (let t4 : Nat := Int.toNat (IntKind.wrap .i64 ((r3.length : Int) - 1)); K (rd r3 t4))))
def Z64.c : Nat -> List (tDecl) -> List (tTNode) -> (Int -> Prop) -> Prop
 | 0, _, _, _ => False
 | n + 1, a1, a2, K => Z64.w n  a1 a2 K
def Z89.w (n : Nat) (a1 : List (tTNode)) (a2 : Int) (a3 : Int) (a4 : Int) (K : List (tTNode) -> Prop) : Prop :=
 let t5 : List (tTNode) := ([] : List (tTNode)); if (decide (a3 > a4)) = true then (let t7 : List (tTNode) := ([(4, 0, IntKind.wrap .i64 (a4 - 1), 0, 0, ([] : List (Int)), ([a2] : List (Int)))] : List (tTNode)); grd (decide (a1.length + t7.length <= 790660046940)) (K (a1 ++ t7))) else (if (decide (a3 < a4)) = true then (let t9 : List (tTNode) := ([(5, 0, IntKind.wrap .i64 (a4 - a3), 0, 0, ([] : List (Int)), ([a2] : List (Int)))] : List (tTNode)); grd (decide (a1.length + t9.length <= 790660046940)) (K (a1 ++ t9))) else (K a1))
def Z89.c : Nat -> List (tTNode) -> Int -> Int -> Int -> (List (tTNode) -> Prop) -> Prop
 | 0, _, _, _, _, _ => False
 | n + 1, a1, a2, a3, a4, K => Z89.w n  a1 a2 a3 a4 K
def Z91.j0 (Kc34w0 : List (tDecl) -> Int -> Int -> Int -> Int -> List (tTNode) -> List Int -> List Int -> List (tTNode) -> List Int -> Int -> Int -> Int -> Int -> Int -> Int -> Prop) (n : Nat) (x86 : List (tDecl)) (x87 : Int) (x88 : Int) (x89 : Int) (x90 : Int) (x91 : Int) (x93 : List (tTNode)) (x94 : List Int) (x95 : List Int) (x96 : List (tTNode)) (x97 : List Int) (x98 : Int) (x99 : Int) (x100 : Int) (x101 : Int) (x102 : Int) (x103 : Int) (j107 : Bool) : Prop :=
 if j107 = true then (Z73.c n x97 x98 9 (fun r108 r109 r110 => Kc34w0 x86 x87 x88 x89 x90 x93 x94 x95 x96 r109 r110 x99 x100 r108 x102 x103)) else (if (decide (x91 = 9)) = true then (Z73.c n x97 x98 3 (fun r111 r112 r113 => let t114 : Int := IntKind.wrap .i64 (x89 * (IntKind.wrap .i64 (1 + r111))); Kc34w0 x86 x87 x88 t114 x90 x93 x94 x95 x96 r112 r113 x99 x100 (IntKind.wrap .i64 (1 + r111)) x102 x103)) else (Kc34w0 x86 x87 x88 x89 x90 x93 x94 x95 x96 x97 x98 x99 x100 x101 x102 x103))
def Z91.q34.b (n : Nat) (x86 : List (tDecl)) (x87 : Int) (x88 : Int) (x89 : Int) (x90 : Int) (x91 : Int) (x92 : Bool) (x93 : List (tTNode)) (x94 : List Int) (x95 : List Int) (x96 : List (tTNode)) (x97 : List Int) (x98 : Int) (x99 : Int) (x100 : Int) (x101 : Int) (x102 : Int) (x103 : Int) (Kc34w0 : List (tDecl) -> Int -> Int -> Int -> Int -> List (tTNode) -> List Int -> List Int -> List (tTNode) -> List Int -> Int -> Int -> Int -> Int -> Int -> Int -> Prop) : Prop :=
 if x92 = true then (Z73.c n x97 x98 5 (fun r104 r105 r106 => Kc34w0 x86 x87 x88 (IntKind.wrap .i64 (x89 + r104)) x90 x93 x94 x95 x96 r105 r106 x99 x100 r104 x102 x103)) else (if (decide (x91 = 7)) = true then (Z91.j0 Kc34w0 n x86 x87 x88 x89 x90 x91 x93 x94 x95 x96 x97 x98 x99 x100 x101 x102 x103 true) else (Z91.j0 Kc34w0 n x86 x87 x88 x89 x90 x91 x93 x94 x95 x96 x97 x98 x99 x100 x101 x102 x103 (decide (x91 = 8))))
def Z91.q34 : Nat -> List (tDecl) -> Int -> Int -> Int -> Int -> Int -> Bool -> List (tTNode) -> List Int -> List Int -> List (tTNode) -> List Int -> Int -> Int -> Int -> Int -> Int -> Int -> (List (tDecl) -> Int -> Int -> Int -> Int -> List (tTNode) -> List Int -> List Int -> List (tTNode) -> List Int -> Int -> Int -> Int -> Int -> Int -> Int -> Prop) -> Prop
 | 0, _, _, _, _, _, _, _, _, _, _, _, _, _, _, _, _, _, _, _ => False
 | n + 1, x86, x87, x88, x89, x90, x91, x92, x93, x94, x95, x96, x97, x98, x99, x100, x101, x102, x103, Kc34w0 => Z91.q34.b n  x86 x87 x88 x89 x90 x91 x92 x93 x94 x95 x96 x97 x98 x99 x100 x101 x102 x103  Kc34w0
def Z91.j13 (Kx0w5 : List (tDecl) -> Int -> Int -> List (tTNode) -> List (tTNode) -> List Int -> Int -> Prop) (again5 : List (tDecl) -> Int -> Int -> Int -> Int -> List (tTNode) -> List (tTNode) -> List Int -> Int -> Prop) (r1211 : Int) (x797 : List (tDecl)) (x798 : Int) (x799 : Int) (x801 : Int) (x803 : List (tTNode)) (j1283 : Int) (j1284 : List (tTNode)) (j1285 : List Int) (j1286 : List Int) (j1287 : Int) : Prop :=
 if (decide (j1283 > 200)) = true then (Kx0w5 x797 x798 x799 j1284 x803 j1286 j1287) else (let t1288 : List (tTNode) := ([(r1211, 0, 0, 0, 0, ([] : List (Int)), j1285)] : List (tTNode)); grd (decide (j1284.length + t1288.length <= 790660046940)) (let t1289 : Int := IntKind.wrap .i64 (((j1284 ++ t1288).length : Int) - 1); again5 x797 x798 t1289 j1283 (IntKind.wrap .i64 (x801 - 1)) (j1284 ++ t1288) x803 j1286 j1287))
def Z91.j14 (Kx0w5 : List (tDecl) -> Int -> Int -> List (tTNode) -> List (tTNode) -> List Int -> Int -> Prop) (again5 : List (tDecl) -> Int -> Int -> Int -> Int -> List (tTNode) -> List (tTNode) -> List Int -> Int -> Prop) (j1290 : List (tDecl)) (j1291 : Int) (j1292 : Int) (j1293 : Int) (j1294 : Int) (j1295 : List (tTNode)) (j1296 : List Int) (j1297 : List Int) (j1298 : List (tTNode)) (j1299 : List Int) (j1300 : Int) (j1301 : Int) (j1302 : Int) (j1303 : Int) (j1304 : Int) (j1305 : Int) : Prop :=
 if (decide (j1293 > 200)) = true then (Kx0w5 j1290 j1291 j1292 j1295 j1298 j1299 j1300) else (let t1306 : List (tTNode) := ([(j1301, j1302, j1303, j1304, j1305, j1297, j1296)] : List (tTNode)); grd (decide (j1295.length + t1306.length <= 790660046940)) (let t1307 : Int := IntKind.wrap .i64 (((j1295 ++ t1306).length : Int) - 1); again5 j1290 j1291 t1307 j1293 (IntKind.wrap .i64 (j1294 - 1)) (j1295 ++ t1306) j1298 j1299 j1300))
def Z91.j15 (Kx0w5 : List (tDecl) -> Int -> Int -> List (tTNode) -> List (tTNode) -> List Int -> Int -> Prop) (again5 : List (tDecl) -> Int -> Int -> Int -> Int -> List (tTNode) -> List (tTNode) -> List Int -> Int -> Prop) (r1383 : Int) (x797 : List (tDecl)) (x798 : Int) (x799 : Int) (x801 : Int) (x803 : List (tTNode)) (j1455 : Int) (j1456 : List (tTNode)) (j1457 : List Int) (j1458 : List Int) (j1459 : Int) : Prop :=
 if (decide (j1455 > 200)) = true then (Kx0w5 x797 x798 x799 j1456 x803 j1458 j1459) else (let t1460 : List (tTNode) := ([(r1383, 0, 0, 0, 0, ([] : List (Int)), j1457)] : List (tTNode)); grd (decide (j1456.length + t1460.length <= 790660046940)) (let t1461 : Int := IntKind.wrap .i64 (((j1456 ++ t1460).length : Int) - 1); again5 x797 x798 t1461 j1455 (IntKind.wrap .i64 (x801 - 1)) (j1456 ++ t1460) x803 j1458 j1459))
def Z91.j16 (Kx0w5 : List (tDecl) -> Int -> Int -> List (tTNode) -> List (tTNode) -> List Int -> Int -> Prop) (again5 : List (tDecl) -> Int -> Int -> Int -> Int -> List (tTNode) -> List (tTNode) -> List Int -> Int -> Prop) (j1462 : List (tDecl)) (j1463 : Int) (j1464 : Int) (j1465 : Int) (j1466 : Int) (j1467 : List (tTNode)) (j1468 : List Int) (j1469 : List Int) (j1470 : List (tTNode)) (j1471 : List Int) (j1472 : Int) (j1473 : Int) (j1474 : Int) (j1475 : Int) (j1476 : Int) (j1477 : Int) : Prop :=
 if (decide (j1465 > 200)) = true then (Kx0w5 j1462 j1463 j1464 j1467 j1470 j1471 j1472) else (let t1478 : List (tTNode) := ([(j1473, j1474, j1475, j1476, j1477, j1469, j1468)] : List (tTNode)); grd (decide (j1467.length + t1478.length <= 790660046940)) (let t1479 : Int := IntKind.wrap .i64 (((j1467 ++ t1478).length : Int) - 1); again5 j1462 j1463 t1479 j1465 (IntKind.wrap .i64 (j1466 - 1)) (j1467 ++ t1478) j1470 j1471 j1472))
def Z91.l5.b (n : Nat) (lpq34 : List (tDecl) -> Int -> Int -> Int -> Int -> Int -> Bool -> List (tTNode) -> List Int -> List Int -> List (tTNode) -> List Int -> Int -> Int -> Int -> Int -> Int -> Int -> (List (tDecl) -> Int -> Int -> Int -> Int -> List (tTNode) -> List Int -> List Int -> List (tTNode) -> List Int -> Int -> Int -> Int -> Int -> Int -> Int -> Prop) -> Prop) (again5 : List (tDecl) -> Int -> Int -> Int -> Int -> List (tTNode) -> List (tTNode) -> List Int -> Int -> Prop) (x797 : List (tDecl)) (x798 : Int) (x799 : Int) (x800 : Int) (x801 : Int) (x802 : List (tTNode)) (x803 : List (tTNode)) (x804 : List Int) (x805 : Int) (Kx0w5 : List (tDecl) -> Int -> Int -> List (tTNode) -> List (tTNode) -> List Int -> Int -> Prop) : Prop :=
 if (decide (x801 > 0)) = true then (Z73.c n x804 x805 (x797.length : Int) (fun r1186 r1187 r1188 => grd (decide (0 <= r1186) && decide (r1186 < (x797.length : Int))) (Z81.c n r1187 r1188 5 (fun r1199 r1200 r1201 => if r1199 = true then (Z73.c n r1200 r1201 6 (fun r1202 r1203 r1204 => Z74.c n r1203 r1204 (IntKind.wrap .i64 (1 + r1202)) (fun r1205 r1206 r1207 r1208 => if (decide (x799 < 0)) = true then (let t1210 : List (tTNode) := ([(2, 0, 0, 0, r1205, r1206, ([] : List (Int)))] : List (tTNode)); grd (decide (x802.length + t1210.length <= 790660046940)) (again5 x797 x798 0 (IntKind.wrap .i64 (1 + r1202)) (IntKind.wrap .i64 (x801 - 1)) (x802 ++ t1210) x803 r1207 r1208)) else (Z76.c n r1207 r1208 3 9 (fun r1211 r1212 r1213 => if (decide (r1211 = 3)) = true then (let t1308 : List (tTNode) := ([(2, 0, 0, 0, r1205, r1206, ([] : List (Int)))] : List (tTNode)); grd (decide (x802.length + t1308.length <= 790660046940)) (let t1309 : Int := IntKind.wrap .i64 (((x802 ++ t1308).length : Int) - 1); Z81.c n r1212 r1213 2 (fun r1313 r1314 r1315 => if r1313 = true then (Z81.c n r1314 r1315 6 (fun r1321 r1322 r1323 => if r1321 = true then (grd (decide (([t1309, x799] : List (Int)).length + ([x799] : List (Int)).length <= 7818749353073)) (let t1324 : List Int := ([t1309, x799] : List (Int)) ++ ([x799] : List (Int)); let t1325 : Int := IntKind.wrap .i64 ((IntKind.wrap .i64 (1 + r1202)) + x800); Z91.j13 Kx0w5 again5 r1211 x797 x798 x799 x801 x803 (IntKind.wrap .i64 (x800 + t1325)) (x802 ++ t1308) t1324 r1322 r1323)) else (let t1326 : Int := IntKind.wrap .i64 (x800 + (IntKind.wrap .i64 (1 + r1202))); if (decide (t1326 > 200)) = true then (Kx0w5 x797 x798 x799 (x802 ++ t1308) x803 r1322 r1323) else (let t1327 : List (tTNode) := ([(r1211, 0, 0, 0, 0, ([] : List (Int)), ([t1309, x799] : List (Int)))] : List (tTNode)); grd (decide ((x802 ++ t1308).length + t1327.length <= 790660046940)) (let t1328 : Int := IntKind.wrap .i64 ((((x802 ++ t1308) ++ t1327).length : Int) - 1); again5 x797 x798 t1328 t1326 (IntKind.wrap .i64 (x801 - 1)) ((x802 ++ t1308) ++ t1327) x803 r1322 r1323))))) else (Z81.c n r1314 r1315 6 (fun r1334 r1335 r1336 => if r1334 = true then (grd (decide (([x799, t1309] : List (Int)).length + ([x799] : List (Int)).length <= 7818749353073)) (let t1337 : List Int := ([x799, t1309] : List (Int)) ++ ([x799] : List (Int)); let t1338 : Int := IntKind.wrap .i64 ((IntKind.wrap .i64 (1 + r1202)) + x800); Z91.j13 Kx0w5 again5 r1211 x797 x798 x799 x801 x803 (IntKind.wrap .i64 (x800 + t1338)) (x802 ++ t1308) t1337 r1335 r1336)) else (let t1339 : Int := IntKind.wrap .i64 (x800 + (IntKind.wrap .i64 (1 + r1202))); if (decide (t1339 > 200)) = true then (Kx0w5 x797 x798 x799 (x802 ++ t1308) x803 r1335 r1336) else (let t1340 : List (tTNode) := ([(r1211, 0, 0, 0, 0, ([] : List (Int)), ([x799, t1309] : List (Int)))] : List (tTNode)); grd (decide ((x802 ++ t1308).length + t1340.length <= 790660046940)) (let t1341 : Int := IntKind.wrap .i64 ((((x802 ++ t1308) ++ t1340).length : Int) - 1); again5 x797 x798 t1341 t1339 (IntKind.wrap .i64 (x801 - 1)) ((x802 ++ t1308) ++ t1340) x803 r1335 r1336)))))))) else (if (decide (r1211 = 4)) = true then (Z76.c n r1212 r1213 0 (IntKind.wrap .i64 (x800 - 1)) (fun r1342 r1343 r1344 => Z76.c n r1343 r1344 0 r1342 (fun r1345 r1346 r1347 => let t1348 : Int := IntKind.wrap .i64 ((IntKind.wrap .i64 (r1342 - r1345)) + 1); Z91.j14 Kx0w5 again5 x797 x798 x799 t1348 x801 x802 ([x799] : List (Int)) ([] : List (Int)) x803 r1346 r1347 r1211 0 r1342 r1345 0))) else (if (decide (r1211 = 5)) = true then (lpq34 x797 x798 x799 x800 x801 r1211 true x802 ([x799] : List (Int)) ([] : List (Int)) x803 r1212 r1213 r1211 0 0 0 0 (fun y1349 y1350 y1351 y1352 y1353 y1354 y1355 y1356 y1357 y1358 y1359 y1360 y1361 y1362 y1363 y1364 => Z91.j14 Kx0w5 again5 y1349 y1350 y1351 y1352 y1353 y1354 y1355 y1356 y1357 y1358 y1359 y1360 y1361 y1362 y1363 y1364)) else (lpq34 x797 x798 x799 x800 x801 r1211 (decide (r1211 = 6)) x802 ([x799] : List (Int)) ([] : List (Int)) x803 r1212 r1213 r1211 0 0 0 0 (fun y1365 y1366 y1367 y1368 y1369 y1370 y1371 y1372 y1373 y1374 y1375 y1376 y1377 y1378 y1379 y1380 => Z91.j14 Kx0w5 again5 y1365 y1366 y1367 y1368 y1369 y1370 y1371 y1372 y1373 y1374 y1375 y1376 y1377 y1378 y1379 y1380))))))))) else (if (decide (x799 < 0)) = true then (let t1382 : List (tTNode) := ([(1, r1186, 0, 0, 0, ([] : List (Int)), ([] : List (Int)))] : List (tTNode)); grd (decide (x802.length + t1382.length <= 790660046940)) (again5 x797 x798 0 ((rd x797 (Int.toNat r1186)).2) (IntKind.wrap .i64 (x801 - 1)) (x802 ++ t1382) x803 r1200 r1201)) else (Z76.c n r1200 r1201 3 9 (fun r1383 r1384 r1385 => if (decide (r1383 = 3)) = true then (let t1480 : List (tTNode) := ([(1, r1186, 0, 0, 0, ([] : List (Int)), ([] : List (Int)))] : List (tTNode)); grd (decide (x802.length + t1480.length <= 790660046940)) (let t1481 : Int := IntKind.wrap .i64 (((x802 ++ t1480).length : Int) - 1); Z81.c n r1384 r1385 2 (fun r1485 r1486 r1487 => if r1485 = true then (Z81.c n r1486 r1487 6 (fun r1493 r1494 r1495 => if r1493 = true then (grd (decide (([t1481, x799] : List (Int)).length + ([x799] : List (Int)).length <= 7818749353073)) (let t1496 : List Int := ([t1481, x799] : List (Int)) ++ ([x799] : List (Int)); let t1497 : Int := IntKind.wrap .i64 (((rd x797 (Int.toNat r1186)).2) + x800); Z91.j15 Kx0w5 again5 r1383 x797 x798 x799 x801 x803 (IntKind.wrap .i64 (x800 + t1497)) (x802 ++ t1480) t1496 r1494 r1495)) else (let t1498 : Int := IntKind.wrap .i64 (x800 + ((rd x797 (Int.toNat r1186)).2)); if (decide (t1498 > 200)) = true then (Kx0w5 x797 x798 x799 (x802 ++ t1480) x803 r1494 r1495) else (let t1499 : List (tTNode) := ([(r1383, 0, 0, 0, 0, ([] : List (Int)), ([t1481, x799] : List (Int)))] : List (tTNode)); grd (decide ((x802 ++ t1480).length + t1499.length <= 790660046940)) (let t1500 : Int := IntKind.wrap .i64 ((((x802 ++ t1480) ++ t1499).length : Int) - 1); again5 x797 x798 t1500 t1498 (IntKind.wrap .i64 (x801 - 1)) ((x802 ++ t1480) ++ t1499) x803 r1494 r1495))))) else (Z81.c n r1486 r1487 6 (fun r1506 r1507 r1508 => if r1506 = true then (grd (decide (([x799, t1481] : List (Int)).length + ([x799] : List (Int)).length <= 7818749353073)) (let t1509 : List Int := ([x799, t1481] : List (Int)) ++ ([x799] : List (Int)); let t1510 : Int := IntKind.wrap .i64 (((rd x797 (Int.toNat r1186)).2) + x800); Z91.j15 Kx0w5 again5 r1383 x797 x798 x799 x801 x803 (IntKind.wrap .i64 (x800 + t1510)) (x802 ++ t1480) t1509 r1507 r1508)) else (let t1511 : Int := IntKind.wrap .i64 (x800 + ((rd x797 (Int.toNat r1186)).2)); if (decide (t1511 > 200)) = true then (Kx0w5 x797 x798 x799 (x802 ++ t1480) x803 r1507 r1508) else (let t1512 : List (tTNode) := ([(r1383, 0, 0, 0, 0, ([] : List (Int)), ([x799, t1481] : List (Int)))] : List (tTNode)); grd (decide ((x802 ++ t1480).length + t1512.length <= 790660046940)) (let t1513 : Int := IntKind.wrap .i64 ((((x802 ++ t1480) ++ t1512).length : Int) - 1); again5 x797 x798 t1513 t1511 (IntKind.wrap .i64 (x801 - 1)) ((x802 ++ t1480) ++ t1512) x803 r1507 r1508)))))))) else (if (decide (r1383 = 4)) = true then (Z76.c n r1384 r1385 0 (IntKind.wrap .i64 (x800 - 1)) (fun r1514 r1515 r1516 => Z76.c n r1515 r1516 0 r1514 (fun r1517 r1518 r1519 => let t1520 : Int := IntKind.wrap .i64 ((IntKind.wrap .i64 (r1514 - r1517)) + 1); Z91.j16 Kx0w5 again5 x797 x798 x799 t1520 x801 x802 ([x799] : List (Int)) ([] : List (Int)) x803 r1518 r1519 r1383 0 r1514 r1517 0))) else (if (decide (r1383 = 5)) = true then (lpq34 x797 x798 x799 x800 x801 r1383 true x802 ([x799] : List (Int)) ([] : List (Int)) x803 r1384 r1385 r1383 0 0 0 0 (fun y1521 y1522 y1523 y1524 y1525 y1526 y1527 y1528 y1529 y1530 y1531 y1532 y1533 y1534 y1535 y1536 => Z91.j16 Kx0w5 again5 y1521 y1522 y1523 y1524 y1525 y1526 y1527 y1528 y1529 y1530 y1531 y1532 y1533 y1534 y1535 y1536)) else (lpq34 x797 x798 x799 x800 x801 r1383 (decide (r1383 = 6)) x802 ([x799] : List (Int)) ([] : List (Int)) x803 r1384 r1385 r1383 0 0 0 0 (fun y1537 y1538 y1539 y1540 y1541 y1542 y1543 y1544 y1545 y1546 y1547 y1548 y1549 y1550 y1551 y1552 => Z91.j16 Kx0w5 again5 y1537 y1538 y1539 y1540 y1541 y1542 y1543 y1544 y1545 y1546 y1547 y1548 y1549 y1550 y1551 y1552))))))))))) else (Kx0w5 x797 x798 x799 x802 x803 x804 x805)
def Z91.l5 : Nat -> List (tDecl) -> Int -> Int -> Int -> Int -> List (tTNode) -> List (tTNode) -> List Int -> Int -> (List (tDecl) -> Int -> Int -> List (tTNode) -> List (tTNode) -> List Int -> Int -> Prop) -> Prop
 | 0, _, _, _, _, _, _, _, _, _, _ => False
 | n + 1, x797, x798, x799, x800, x801, x802, x803, x804, x805, Kx0w5 => Z91.l5.b n (Z91.q34 n)  (fun x797q x798q x799q x800q x801q x802q x803q x804q x805q => Z91.l5 n x797q x798q x799q x800q x801q x802q x803q x804q x805q Kx0w5) x797 x798 x799 x800 x801 x802 x803 x804 x805 Kx0w5
def Z91.w (n : Nat) (lp5 : List (tDecl) -> Int -> Int -> Int -> Int -> List (tTNode) -> List (tTNode) -> List Int -> Int -> (List (tDecl) -> Int -> Int -> List (tTNode) -> List (tTNode) -> List Int -> Int -> Prop) -> Prop) (a1 : List Int) (a2 : Int) (a3 : List (tDecl)) (a4 : Int) (K : List (tTNode) -> List Int -> Int -> Prop) : Prop :=
 let t5 : List (tTNode) := ([] : List (tTNode)); let t6 : List (tTNode) := ([] : List (tTNode)); let t1560 : Int := IntKind.wrap .i64 (Int.tdiv (a1.length : Int) 12); let t1561 : Int := (if (IntKind.wrap .i64 (2 + t1560)) < 7 then IntKind.wrap .i64 (2 + t1560) else 7); Z73.c n a1 a2 t1561 (fun r1562 r1563 r1564 => lp5 a3 a4 (-1) 0 (IntKind.wrap .i64 (1 + r1562)) t6 t5 r1563 r1564 (fun y1565 y1566 y1567 y1568 y1569 y1570 y1571 => Z94.c n y1568 y1567 (fun r1572 => let t1573 : List (tTNode) := ([] : List (tTNode)); if (decide (y1566 > 0)) = true then (Z64.c n y1565 r1572 (fun r1576 => Z89.c n r1572 (IntKind.wrap .i64 ((r1572.length : Int) - 1)) r1576 y1566 (fun r1577 => K r1577 y1570 y1571))) else (K r1572 y1570 y1571))))
def Z91.c : Nat -> List Int -> Int -> List (tDecl) -> Int -> (List (tTNode) -> List Int -> Int -> Prop) -> Prop
 | 0, _, _, _, _, _ => False
 | n + 1, a1, a2, a3, a4, K => Z91.w n (Z91.l5 n) a1 a2 a3 a4 K
end Go.Vsi
end

section
set_option linter.unusedVariables false
set_option synthInstance.maxSize 4096
namespace Go.Vsi
def Z99.w (n : Nat) (a1 : List Int) (a2 : Int) (a3 : List (tDecl)) (a4 : Int) (K : Int -> Bool -> List (tTNode) -> List (tTNode) -> List Int -> Int -> Prop) : Prop :=
 let t5 : List (tTNode) := ([] : List (tTNode)); let t6 : List (tTNode) := ([] : List (tTNode)); Z91.c n a1 a2 a3 0 (fun r7 r8 r9 => let t10 : List (tTNode) := ([] : List (tTNode)); Z64.c n a3 r7 (fun r11 => Z81.c n r8 r9 2 (fun r19 r20 r21 => if r19 = true then (Z73.c n r20 r21 (a3.length : Int) (fun r22 r23 r24 => let t25 : List (tTNode) := ([(1, r22, 0, 0, 0, ([] : List (Int)), ([] : List (Int)))] : List (tTNode)); grd (decide (0 <= r22) && decide (r22 < (a3.length : Int))) (if (decide ((rd a3 (Int.toNat r22)).2 > 40)) = true then (Z89.c n t25 (IntKind.wrap .i64 ((t25.length : Int) - 1)) ((rd a3 (Int.toNat r22)).2) 12 (fun r27 => (Z81.c n r23 r24 3 (fun r47 r48 r49 => (Z91.c n r48 r49 a3 12 (fun r50 r51 r52 => K a4 (!r47) r27 r50 r51 r52)) /\ (Z91.c n r48 r49 a3 12 (fun r53 r54 r55 => K a4 (!r47) r27 r53 r54 r55)))) /\ (Z81.c n r23 r24 3 (fun r56 r57 r58 => Z91.c n r57 r58 a3 12 (fun r59 r60 r61 => K a4 (!r56) r27 r59 r60 r61))))) else ((Z81.c n r23 r24 3 (fun r81 r82 r83 => let p90 : Prop := (Z91.c n r82 r83 a3 ((rd a3 (Int.toNat r22)).2) (fun r84 r85 r86 => K a4 (!r81) t25 r84 r85 r86)); (p90 /\ p90))) /\ (Z81.c n r23 r24 3 (fun r91 r92 r93 => Z91.c n r92 r93 a3 ((rd a3 (Int.toNat r22)).2) (fun r94 r95 r96 => K a4 (!r91) t25 r94 r95 r96))))))) else (if (decide (r11 > 40)) = true then (Z89.c n r7 (IntKind.wrap .i64 ((r7.length : Int) - 1)) r11 12 (fun r98 => (Z81.c n r20 r21 3 (fun r118 r119 r120 => let p127 : Prop := (Z91.c n r119 r120 a3 12 (fun r121 r122 r123 => K a4 (!r118) r98 r121 r122 r123)); (p127 /\ p127))) /\ (Z81.c n r20 r21 3 (fun r128 r129 r130 => Z91.c n r129 r130 a3 12 (fun r131 r132 r133 => K a4 (!r128) r98 r131 r132 r133))))) else ((Z81.c n r20 r21 3 (fun r153 r154 r155 => let p162 : Prop := (Z91.c n r154 r155 a3 r11 (fun r156 r157 r158 => K a4 (!r153) r7 r156 r157 r158)); (p162 /\ p162))) /\ (Z81.c n r20 r21 3 (fun r163 r164 r165 => Z91.c n r164 r165 a3 r11 (fun r166 r167 r168 => K a4 (!r163) r7 r166 r167 r168))))))))
def Z99.c : Nat -> List Int -> Int -> List (tDecl) -> Int -> (Int -> Bool -> List (tTNode) -> List (tTNode) -> List Int -> Int -> Prop) -> Prop
 | 0, _, _, _, _, _ => False
 | n + 1, a1, a2, a3, a4, K => Z99.w n  a1 a2 a3 a4 K
def Z75.l4.b (n : Nat) (x38 : List (tDecl)) (again4 : Int -> Int -> List (tLiteral) -> List Int -> Int -> Prop) (x39 : Int) (x40 : Int) (x41 : List (tLiteral)) (x42 : List Int) (x43 : Int) (Kx0w4 : List (tLiteral) -> List Int -> Int -> Prop) : Prop :=
 if (decide (x40 > 0)) = true then (Z73.c n x42 x43 3 (fun r55 r56 r57 => let t58 : Int := IntKind.wrap .i64 ((IntKind.wrap .i64 (x39 + 1)) + r55); Z99.c n r56 r57 x38 t58 (fun r59 r60 r61 r62 r63 r64 => let t65 : List (tLiteral) := ([(r59, r60, r61, r62)] : List (tLiteral)); grd (decide (x41.length + t65.length <= 1082596064271)) (again4 t58 (IntKind.wrap .i64 (x40 - 1)) (x41 ++ t65) r63 r64)))) else (Kx0w4 x41 x42 x43)
def Z75.l4 : Nat -> List (tDecl) -> Int -> Int -> List (tLiteral) -> List Int -> Int -> (List (tLiteral) -> List Int -> Int -> Prop) -> Prop
 | 0, _, _, _, _, _, _, _ => False
 | n + 1, x38, x39, x40, x41, x42, x43, Kx0w4 => Z75.l4.b n  x38 (fun x39q x40q x41q x42q x43q => Z75.l4 n x38 x39q x40q x41q x42q x43q Kx0w4) x39 x40 x41 x42 x43 Kx0w4
def Z75.w (n : Nat) (lp4 : List (tDecl) -> Int -> Int -> List (tLiteral) -> List Int -> Int -> (List (tLiteral) -> List Int -> Int -> Prop) -> Prop) (a1 : List Int) (a2 : Int) (a3 : List (tDecl)) (a4 : Int) (K : List (tLiteral) -> List Int -> Int -> Prop) : Prop :=
 let t5 : List (tLiteral) := ([] : List (tLiteral)); let t6 : List (tLiteral) := ([] : List (tLiteral)); Z82.c n a1 a2 14 a4 (fun r69 r70 r71 => lp4 a3 0 r69 t6 r70 r71 (fun y72 y73 y74 => K y72 y73 y74))
def Z75.c : Nat -> List Int -> Int -> List (tDecl) -> Int -> (List (tLiteral) -> List Int -> Int -> Prop) -> Prop
 | 0, _, _, _, _, _ => False
 | n + 1, a1, a2, a3, a4, K => Z75.w n (Z75.l4 n) a1 a2 a3 a4 K
def Z79.q27.b (n : Nat) (x20 : List (tTNode)) (x21 : List (tTNode)) (x22 : List Int) (x23 : Int) (Kc27w0 : List (tTNode) -> List Int -> Int -> Prop) : Prop :=
 Kc27w0 x20 x22 x23
def Z79.q27 : Nat -> List (tTNode) -> List (tTNode) -> List Int -> Int -> (List (tTNode) -> List Int -> Int -> Prop) -> Prop
 | 0, _, _, _, _, _ => False
 | n + 1, x20, x21, x22, x23, Kc27w0 => Z79.q27.b n  x20 x21 x22 x23  Kc27w0
def Z79.q27_1.b (n : Nat) (x282 : List (tTNode)) (x283 : List (tTNode)) (x284 : List Int) (x285 : Int) (Kc27_1w0 : List (tTNode) -> List Int -> Int -> Prop) : Prop :=
 Kc27_1w0 x282 x284 x285
def Z79.q27_1 : Nat -> List (tTNode) -> List (tTNode) -> List Int -> Int -> (List (tTNode) -> List Int -> Int -> Prop) -> Prop
 | 0, _, _, _, _, _ => False
 | n + 1, x282, x283, x284, x285, Kc27_1w0 => Z79.q27_1.b n  x282 x283 x284 x285  Kc27_1w0
def Z79.j1 (again17 : List (tTNode) -> List Int -> Int -> Prop) (x340 : List (tTNode)) (j364 : List Int) (j365 : Int) : Prop :=
 let t366 : List Int := ([IntKind.wrap .i64 ((x340.length : Int) - 1)] : List (Int)); let t367 : List (tTNode) := ([(7, 0, 1, 0, 0, ([] : List (Int)), t366)] : List (tTNode)); grd (decide (x340.length + t367.length <= 790660046940)) (again17 (x340 ++ t367) j364 j365)
def Z79.l17.b (n : Nat) (x339 : List (tTNode)) (again17 : List (tTNode) -> List Int -> Int -> Prop) (x340 : List (tTNode)) (x341 : List Int) (x342 : Int) (Kx1w17 : List (tTNode) -> List (tTNode) -> List Int -> Int -> Prop) : Prop :=
 let p388 : Prop := (Z73.c n x341 x342 2 (fun r380 r381 r382 => let t383 : Bool := decide ((x340.length : Int) < IntKind.wrap .i64 (400 + r380)); if t383 = true then (Z79.j1 again17 x340 r381 r382) else (Kx1w17 x339 x340 r381 r382))); (p388 /\ p388)
def Z79.l17 : Nat -> List (tTNode) -> List (tTNode) -> List Int -> Int -> (List (tTNode) -> List (tTNode) -> List Int -> Int -> Prop) -> Prop
 | 0, _, _, _, _, _ => False
 | n + 1, x339, x340, x341, x342, Kx1w17 => Z79.l17.b n  x339 (fun x340q x341q x342q => Z79.l17 n x339 x340q x341q x342q Kx1w17) x340 x341 x342 Kx1w17
def Z79.q27_2.b (n : Nat) (x393 : List (tTNode)) (x394 : List (tTNode)) (x395 : List Int) (x396 : Int) (Kc27_2w0 : List (tTNode) -> List Int -> Int -> Prop) : Prop :=
 Kc27_2w0 x394 x395 x396
def Z79.q27_2 : Nat -> List (tTNode) -> List (tTNode) -> List Int -> Int -> (List (tTNode) -> List Int -> Int -> Prop) -> Prop
 | 0, _, _, _, _, _ => False
 | n + 1, x393, x394, x395, x396, Kc27_2w0 => Z79.q27_2.b n  x393 x394 x395 x396  Kc27_2w0
def Z79.j5 (again21 : Int -> List (tTNode) -> Prop) (r430 : Int) (x419 : Int) (x421 : List (tTNode)) : Prop :=
 let t432 : List Int := ([IntKind.wrap .i64 ((x421.length : Int) - 1), IntKind.wrap .i64 ((x421.length : Int) - 1)] : List (Int)); let t433 : Int := IntKind.wrap .i64 ((IntKind.wrap .i64 ((x421.length : Int) - 1)) + 1); let t434 : List (tTNode) := ([(3, 0, 0, 0, 0, ([] : List (Int)), t432), (4, 0, IntKind.wrap .i64 (r430 - 1), 0, 0, ([] : List (Int)), ([t433] : List (Int)))] : List (tTNode)); grd (decide (x421.length + t434.length <= 790660046940)) (again21 (IntKind.wrap .i64 (x419 + 1)) (x421 ++ t434))
def Z79.l21.b (n : Nat) (x418 : List (tDecl)) (x420 : List (tTNode)) (x422 : List Int) (x423 : Int) (again21 : Int -> List (tTNode) -> Prop) (x419 : Int) (x421 : List (tTNode)) (Kx3w21 : List (tTNode) -> List (tTNode) -> List Int -> Int -> Prop) : Prop :=
 if (decide (x419 < 40)) = true then (Z64.c n x418 x421 (fun r430 => if (decide (r430 < 1)) = false then (if (decide (IntKind.wrap .i64 (2 * r430) > 4096)) = true then (Kx3w21 x420 x421 x422 x423) else (Z79.j5 again21 r430 x419 x421)) else (Kx3w21 x420 x421 x422 x423))) else (Kx3w21 x420 x421 x422 x423)
def Z79.l21 : Nat -> List (tDecl) -> List (tTNode) -> List Int -> Int -> Int -> List (tTNode) -> (List (tTNode) -> List (tTNode) -> List Int -> Int -> Prop) -> Prop
 | 0, _, _, _, _, _, _, _ => False
 | n + 1, x418, x420, x422, x423, x419, x421, Kx3w21 => Z79.l21.b n  x418 x420 x422 x423 (fun x419q x421q => Z79.l21 n x418 x420 x422 x423 x419q x421q Kx3w21) x419 x421 Kx3w21
def Z79.w (n : Nat) (lp17 : List (tTNode) -> List (tTNode) -> List Int -> Int -> (List (tTNode) -> List (tTNode) -> List Int -> Int -> Prop) -> Prop) (lp21 : List (tDecl) -> List (tTNode) -> List Int -> Int -> Int -> List (tTNode) -> (List (tTNode) -> List (tTNode) -> List Int -> Int -> Prop) -> Prop) (lpq27 : List (tTNode) -> List (tTNode) -> List Int -> Int -> (List (tTNode) -> List Int -> Int -> Prop) -> Prop) (lpq27_1 : List (tTNode) -> List (tTNode) -> List Int -> Int -> (List (tTNode) -> List Int -> Int -> Prop) -> Prop) (lpq27_2 : List (tTNode) -> List (tTNode) -> List Int -> Int -> (List (tTNode) -> List Int -> Int -> Prop) -> Prop) (a1 : List Int) (a2 : Int) (a3 : List (tDecl)) (a4 : Int) (K : List (tTNode) -> List Int -> Int -> Prop) : Prop :=
 let t5 : List (tTNode) := ([] : List (tTNode)); Z91.c n a1 a2 a3 a4 (fun r6 r7 r8 => let t9 : List (tTNode) := ([] : List (tTNode)); Z73.c n r7 r8 (r6.length : Int) (fun r10 r11 r12 => Z73.c n r11 r12 40 (fun r13 r14 r15 => if (decide (r13 = 0)) = true then (let p34 : Prop := (Z80.c n r14 r15 1 9 (fun r16 r17 r18 => grd (decide (0 <= r10) && decide (r10 < (r6.length : Int))) (let t19 : List (tTNode) := List.set r6 (Int.toNat r10) (r16, ((rd r6 (Int.toNat r10)).2).1, (((rd r6 (Int.toNat r10)).2).2).1, ((((rd r6 (Int.toNat r10)).2).2).2).1, (((((rd r6 (Int.toNat r10)).2).2).2).2).1, ((((((rd r6 (Int.toNat r10)).2).2).2).2).2).1, ((((((rd r6 (Int.toNat r10)).2).2).2).2).2).2); lpq27 t19 t5 r17 r18 (fun y24 y25 y26 => K y24 y25 y26)))); (p34 /\ p34)) else (if (decide (r13 = 1)) = true then (let p49 : Prop := (Z80.c n r14 r15 0 9 (fun r35 r36 r37 => grd (decide (0 <= r10) && decide (r10 < (r6.length : Int))) (let t38 : List (tTNode) := List.set r6 (Int.toNat r10) ((rd r6 (Int.toNat r10)).1, ((rd r6 (Int.toNat r10)).2).1, r35, ((((rd r6 (Int.toNat r10)).2).2).2).1, (((((rd r6 (Int.toNat r10)).2).2).2).2).1, ((((((rd r6 (Int.toNat r10)).2).2).2).2).2).1, ((((((rd r6 (Int.toNat r10)).2).2).2).2).2).2); lpq27 t38 t5 r36 r37 (fun y39 y40 y41 => K y39 y40 y41)))); (p49 /\ p49)) else (if (decide (r13 = 2)) = true then (let p64 : Prop := (Z80.c n r14 r15 0 9 (fun r50 r51 r52 => grd (decide (0 <= r10) && decide (r10 < (r6.length : Int))) (let t53 : List (tTNode) := List.set r6 (Int.toNat r10) ((rd r6 (Int.toNat r10)).1, ((rd r6 (Int.toNat r10)).2).1, (((rd r6 (Int.toNat r10)).2).2).1, r50, (((((rd r6 (Int.toNat r10)).2).2).2).2).1, ((((((rd r6 (Int.toNat r10)).2).2).2).2).2).1, ((((((rd r6 (Int.toNat r10)).2).2).2).2).2).2); lpq27 t53 t5 r51 r52 (fun y54 y55 y56 => K y54 y55 y56)))); (p64 /\ p64)) else (if (decide (r13 = 3)) = true then (let p79 : Prop := (Z80.c n r14 r15 0 (a3.length : Int) (fun r65 r66 r67 => grd (decide (0 <= r10) && decide (r10 < (r6.length : Int))) (let t68 : List (tTNode) := List.set r6 (Int.toNat r10) ((rd r6 (Int.toNat r10)).1, r65, (((rd r6 (Int.toNat r10)).2).2).1, ((((rd r6 (Int.toNat r10)).2).2).2).1, (((((rd r6 (Int.toNat r10)).2).2).2).2).1, ((((((rd r6 (Int.toNat r10)).2).2).2).2).2).1, ((((((rd r6 (Int.toNat r10)).2).2).2).2).2).2); lpq27 t68 t5 r66 r67 (fun y69 y70 y71 => K y69 y70 y71)))); (p79 /\ p79)) else (if (decide (r13 = 4)) = true then (((grd (decide (0 <= r10) && decide (r10 < (r6.length : Int))) ((Z80.c n r14 r15 0 (r6.length : Int) (fun r80 r81 r82 => grd (decide ((((((((rd r6 (Int.toNat r10)).2).2).2).2).2).2).length + ([r80] : List (Int)).length <= 7818749353073)) (let t83 : List Int := (((((((rd r6 (Int.toNat r10)).2).2).2).2).2).2) ++ ([r80] : List (Int)); grd (decide (0 <= r10) && decide (r10 < (r6.length : Int))) (grd (decide (Int.toNat r10 = Int.toNat r10)) (let t84 : List (tTNode) := List.set r6 (Int.toNat r10) ((rd r6 (Int.toNat r10)).1, ((rd r6 (Int.toNat r10)).2).1, (((rd r6 (Int.toNat r10)).2).2).1, ((((rd r6 (Int.toNat r10)).2).2).2).1, (((((rd r6 (Int.toNat r10)).2).2).2).2).1, ((((((rd r6 (Int.toNat r10)).2).2).2).2).2).1, t83); lpq27 t84 t5 r81 r82 (fun y85 y86 y87 => K y85 y86 y87)))))) /\ (Z80.c n r14 r15 0 (r6.length : Int) (fun r88 r89 r90 => let p101 : Prop := (grd (decide ((((((((rd r6 (Int.toNat r10)).2).2).2).2).2).2).length + ([r88] : List (Int)).length <= 7818749353073)) (let t91 : List Int := (((((((rd r6 (Int.toNat r10)).2).2).2).2).2).2) ++ ([r88] : List (Int)); grd (decide (0 <= r10) && decide (r10 < (r6.length : Int))) (grd (decide (Int.toNat r10 = Int.toNat r10)) (let t92 : List (tTNode) := List.set r6 (Int.toNat r10) ((rd r6 (Int.toNat r10)).1, ((rd r6 (Int.toNat r10)).2).1, (((rd r6 (Int.toNat r10)).2).2).1, ((((rd r6 (Int.toNat r10)).2).2).2).1, (((((rd r6 (Int.toNat r10)).2).2).2).2).1, ((((((rd r6 (Int.toNat r10)).2).2).2).2).2).1, t91); lpq27 t92 t5 r89 r90 (fun y93 y94 y95 => K y93 y94 y95))))); (p101 /\ p101))))) /\ (Z80.c n r14 r15 0 (r6.length : Int) (fun r102 r103 r104 => (grd (decide (0 <= r10) && decide (r10 < (r6.length : Int))) (let p115 : Prop := (grd (decide ((((((((rd r6 (Int.toNat r10)).2).2).2).2).2).2).length + ([r102] : List (Int)).length <= 7818749353073)) (let t105 : List Int := (((((((rd r6 (Int.toNat r10)).2).2).2).2).2).2) ++ ([r102] : List (Int)); grd (decide (0 <= r10) && decide (r10 < (r6.length : Int))) (grd (decide (Int.toNat r10 = Int.toNat r10)) (let t106 : List (tTNode) := List.set r6 (Int.toNat r10) ((rd r6 (Int.toNat r10)).1, ((rd r6 (Int.toNat r10)).2).1, (((rd r6 (Int.toNat r10)).2).2).1, ((((rd r6 (Int.toNat r10)).2).2).2).1, (((((rd r6 (Int.toNat r10)).2).2).2).2).1, ((((((rd r6 (Int.toNat r10)).2).2).2).2).2).1, t105); lpq27 t106 t5 r103 r104 (fun y107 y108 y109 => K y107 y108 y109))))); (p115 /\ p115))) /\ (grd (decide (0 <= r10) && decide (r10 < (r6.length : Int))) (grd (decide ((((((((rd r6 (Int.toNat r10)).2).2).2).2).2).2).length + ([r102] : List (Int)).length <= 7818749353073)) (let t116 : List Int := (((((((rd r6 (Int.toNat r10)).2).2).2).2).2).2) ++ ([r102] : List (Int)); grd (decide (0 <= r10) && decide (r10 < (r6.length : Int))) (grd (decide (Int.toNat r10 = Int.toNat r10)) (let t117 : List (tTNode) := List.set r6 (Int.toNat r10) ((rd r6 (Int.toNat r10)).1, ((rd r6 (Int.toNat r10)).2).1, (((rd r6 (Int.toNat r10)).2).2).1, ((((rd r6 (Int.toNat r10)).2).2).2).1, (((((rd r6 (Int.toNat r10)).2).2).2).2).1, ((((((rd r6 (Int.toNat r10)).2).2).2).2).2).1, t116); lpq27 t117 t5 r103 r104 (fun y118 y119 y120 => K y118 y119 y120))))))))) /\ (grd (decide (0 <= r10) && decide (r10 < (r6.length : Int))) (((Z80.c n r14 r15 0 (r6.length : Int) (fun r121 r122 r123 => grd (decide ((((((((rd r6 (Int.toNat r10)).2).2).2).2).2).2).length + ([r121] : List (Int)).length <= 7818749353073)) (let t124 : List Int := (((((((rd r6 (Int.toNat r10)).2).2).2).2).2).2) ++ ([r121] : List (Int)); grd (decide (0 <= r10) && decide (r10 < (r6.length : Int))) (grd (decide (Int.toNat r10 = Int.toNat r10)) (let t125 : List (tTNode) := List.set r6 (Int.toNat r10) ((rd r6 (Int.toNat r10)).1, ((rd r6 (Int.toNat r10)).2).1, (((rd r6 (Int.toNat r10)).2).2).1, ((((rd r6 (Int.toNat r10)).2).2).2).1, (((((rd r6 (Int.toNat r10)).2).2).2).2).1, ((((((rd r6 (Int.toNat r10)).2).2).2).2).2).1, t124); lpq27 t125 t5 r122 r123 (fun y126 y127 y128 => K y126 y127 y128)))))) /\ (Z80.c n r14 r15 0 (r6.length : Int) (fun r129 r130 r131 => let p142 : Prop := (grd (decide ((((((((rd r6 (Int.toNat r10)).2).2).2).2).2).2).length + ([r129] : List (Int)).length <= 7818749353073)) (let t132 : List Int := (((((((rd r6 (Int.toNat r10)).2).2).2).2).2).2) ++ ([r129] : List (Int)); grd (decide (0 <= r10) && decide (r10 < (r6.length : Int))) (grd (decide (Int.toNat r10 = Int.toNat r10)) (let t133 : List (tTNode) := List.set r6 (Int.toNat r10) ((rd r6 (Int.toNat r10)).1, ((rd r6 (Int.toNat r10)).2).1, (((rd r6 (Int.toNat r10)).2).2).1, ((((rd r6 (Int.toNat r10)).2).2).2).1, (((((rd r6 (Int.toNat r10)).2).2).2).2).1, ((((((rd r6 (Int.toNat r10)).2).2).2).2).2).1, t132); lpq27 t133 t5 r130 r131 (fun y134 y135 y136 => K y134 y135 y136))))); (p142 /\ p142)))) /\ ((Z80.c n r14 r15 0 (r6.length : Int) (fun r143 r144 r145 => grd (decide ((((((((rd r6 (Int.toNat r10)).2).2).2).2).2).2).length + ([r143] : List (Int)).length <= 7818749353073)) (let t146 : List Int := (((((((rd r6 (Int.toNat r10)).2).2).2).2).2).2) ++ ([r143] : List (Int)); grd (decide (0 <= r10) && decide (r10 < (r6.length : Int))) (grd (decide (Int.toNat r10 = Int.toNat r10)) (let t147 : List (tTNode) := List.set r6 (Int.toNat r10) ((rd r6 (Int.toNat r10)).1, ((rd r6 (Int.toNat r10)).2).1, (((rd r6 (Int.toNat r10)).2).2).1, ((((rd r6 (Int.toNat r10)).2).2).2).1, (((((rd r6 (Int.toNat r10)).2).2).2).2).1, ((((((rd r6 (Int.toNat r10)).2).2).2).2).2).1, t146); lpq27 t147 t5 r144 r145 (fun y148 y149 y150 => K y148 y149 y150)))))) /\ (Z80.c n r14 r15 0 (r6.length : Int) (fun r151 r152 r153 => (grd (decide ((((((((rd r6 (Int.toNat r10)).2).2).2).2).2).2).length + ([r151] : List (Int)).length <= 7818749353073)) (let t154 : List Int := (((((((rd r6 (Int.toNat r10)).2).2).2).2).2).2) ++ ([r151] : List (Int)); grd (decide (0 <= r10) && decide (r10 < (r6.length : Int))) (grd (decide (Int.toNat r10 = Int.toNat r10)) (let t155 : List (tTNode) := List.set r6 (Int.toNat r10) ((rd r6 (Int.toNat r10)).1, ((rd r6 (Int.toNat r10)).2).1, (((rd r6 (Int.toNat r10)).2).2).1, ((((rd r6 (Int.toNat r10)).2).2).2).1, (((((rd r6 (Int.toNat r10)).2).2).2).2).1, ((((((rd r6 (Int.toNat r10)).2).2).2).2).2).1, t154); lpq27 t155 t5 r152 r153 (fun y156 y157 y158 => K y156 y157 y158))))) /\ (let p169 : Prop := (grd (decide ((((((((rd r6 (Int.toNat r10)).2).2).2).2).2).2).length + ([r151] : List (Int)).length <= 7818749353073)) (let t159 : List Int := (((((((rd r6 (Int.toNat r10)).2).2).2).2).2).2) ++ ([r151] : List (Int)); grd (decide (0 <= r10) && decide (r10 < (r6.length : Int))) (grd (decide (Int.toNat r10 = Int.toNat r10)) (let t160 : List (tTNode) := List.set r6 (Int.toNat r10) ((rd r6 (Int.toNat r10)).1, ((rd r6 (Int.toNat r10)).2).1, (((rd r6 (Int.toNat r10)).2).2).1, ((((rd r6 (Int.toNat r10)).2).2).2).1, (((((rd r6 (Int.toNat r10)).2).2).2).2).1, ((((((rd r6 (Int.toNat r10)).2).2).2).2).2).1, t159); lpq27 t160 t5 r152 r153 (fun y161 y162 y163 => K y161 y162 y163))))); (p169 /\ p169))))) /\ (Z80.c n r14 r15 0 (r6.length : Int) (fun r170 r171 r172 => let p211 : Prop := (let p183 : Prop := (grd (decide ((((((((rd r6 (Int.toNat r10)).2).2).2).2).2).2).length + ([r170] : List (Int)).length <= 7818749353073)) (let t173 : List Int := (((((((rd r6 (Int.toNat r10)).2).2).2).2).2).2) ++ ([r170] : List (Int)); grd (decide (0 <= r10) && decide (r10 < (r6.length : Int))) (grd (decide (Int.toNat r10 = Int.toNat r10)) (let t174 : List (tTNode) := List.set r6 (Int.toNat r10) ((rd r6 (Int.toNat r10)).1, ((rd r6 (Int.toNat r10)).2).1, (((rd r6 (Int.toNat r10)).2).2).1, ((((rd r6 (Int.toNat r10)).2).2).2).1, (((((rd r6 (Int.toNat r10)).2).2).2).2).1, ((((((rd r6 (Int.toNat r10)).2).2).2).2).2).1, t173); lpq27 t174 t5 r171 r172 (fun y175 y176 y177 => K y175 y176 y177))))); (p183 /\ p183)); (p211 /\ ((grd (decide ((((((((rd r6 (Int.toNat r10)).2).2).2).2).2).2).length + ([r170] : List (Int)).length <= 7818749353073)) (let t184 : List Int := (((((((rd r6 (Int.toNat r10)).2).2).2).2).2).2) ++ ([r170] : List (Int)); grd (decide (0 <= r10) && decide (r10 < (r6.length : Int))) (grd (decide (Int.toNat r10 = Int.toNat r10)) (let t185 : List (tTNode) := List.set r6 (Int.toNat r10) ((rd r6 (Int.toNat r10)).1, ((rd r6 (Int.toNat r10)).2).1, (((rd r6 (Int.toNat r10)).2).2).1, ((((rd r6 (Int.toNat r10)).2).2).2).1, (((((rd r6 (Int.toNat r10)).2).2).2).2).1, ((((((rd r6 (Int.toNat r10)).2).2).2).2).2).1, t184); lpq27 t185 t5 r171 r172 (fun y186 y187 y188 => K y186 y187 y188))))) /\ (let p199 : Prop := (grd (decide ((((((((rd r6 (Int.toNat r10)).2).2).2).2).2).2).length + ([r170] : List (Int)).length <= 7818749353073)) (let t189 : List Int := (((((((rd r6 (Int.toNat r10)).2).2).2).2).2).2) ++ ([r170] : List (Int)); grd (decide (0 <= r10) && decide (r10 < (r6.length : Int))) (grd (decide (Int.toNat r10 = Int.toNat r10)) (let t190 : List (tTNode) := List.set r6 (Int.toNat r10) ((rd r6 (Int.toNat r10)).1, ((rd r6 (Int.toNat r10)).2).1, (((rd r6 (Int.toNat r10)).2).2).1, ((((rd r6 (Int.toNat r10)).2).2).2).1, (((((rd r6 (Int.toNat r10)).2).2).2).2).1, ((((((rd r6 (Int.toNat r10)).2).2).2).2).2).1, t189); lpq27 t190 t5 r171 r172 (fun y191 y192 y193 => K y191 y192 y193))))); (p199 /\ p199))) /\ p211))))) /\ (Z80.c n r14 r15 0 (r6.length : Int) (fun r212 r213 r214 => ((grd (decide (0 <= r10) && decide (r10 < (r6.length : Int))) (let p225 : Prop := (grd (decide ((((((((rd r6 (Int.toNat r10)).2).2).2).2).2).2).length + ([r212] : List (Int)).length <= 7818749353073)) (let t215 : List Int := (((((((rd r6 (Int.toNat r10)).2).2).2).2).2).2) ++ ([r212] : List (Int)); grd (decide (0 <= r10) && decide (r10 < (r6.length : Int))) (grd (decide (Int.toNat r10 = Int.toNat r10)) (let t216 : List (tTNode) := List.set r6 (Int.toNat r10) ((rd r6 (Int.toNat r10)).1, ((rd r6 (Int.toNat r10)).2).1, (((rd r6 (Int.toNat r10)).2).2).1, ((((rd r6 (Int.toNat r10)).2).2).2).1, (((((rd r6 (Int.toNat r10)).2).2).2).2).1, ((((((rd r6 (Int.toNat r10)).2).2).2).2).2).1, t215); lpq27 t216 t5 r213 r214 (fun y217 y218 y219 => K y217 y218 y219))))); (p225 /\ p225))) /\ (grd (decide (0 <= r10) && decide (r10 < (r6.length : Int))) (grd (decide ((((((((rd r6 (Int.toNat r10)).2).2).2).2).2).2).length + ([r212] : List (Int)).length <= 7818749353073)) (let t226 : List Int := (((((((rd r6 (Int.toNat r10)).2).2).2).2).2).2) ++ ([r212] : List (Int)); grd (decide (0 <= r10) && decide (r10 < (r6.length : Int))) (grd (decide (Int.toNat r10 = Int.toNat r10)) (let t227 : List (tTNode) := List.set r6 (Int.toNat r10) ((rd r6 (Int.toNat r10)).1, ((rd r6 (Int.toNat r10)).2).1, (((rd r6 (Int.toNat r10)).2).2).1, ((((rd r6 (Int.toNat r10)).2).2).2).1, (((((rd r6 (Int.toNat r10)).2).2).2).2).1, ((((((rd r6 (Int.toNat r10)).2).2).2).2).2).1, t226); lpq27 t227 t5 r213 r214 (fun y228 y229 y230 => K y228 y229 y230))))))) /\ (grd (decide (0 <= r10) && decide (r10 < (r6.length : Int))) (let p269 : Prop := (let p241 : Prop := (grd (decide ((((((((rd r6 (Int.toNat r10)).2).2).2).2).2).2).length + ([r212] : List (Int)).length <= 7818749353073)) (let t231 : List Int := (((((((rd r6 (Int.toNat r10)).2).2).2).2).2).2) ++ ([r212] : List (Int)); grd (decide (0 <= r10) && decide (r10 < (r6.length : Int))) (grd (decide (Int.toNat r10 = Int.toNat r10)) (let t232 : List (tTNode) := List.set r6 (Int.toNat r10) ((rd r6 (Int.toNat r10)).1, ((rd r6 (Int.toNat r10)).2).1, (((rd r6 (Int.toNat r10)).2).2).1, ((((rd r6 (Int.toNat r10)).2).2).2).1, (((((rd r6 (Int.toNat r10)).2).2).2).2).1, ((((((rd r6 (Int.toNat r10)).2).2).2).2).2).1, t231); lpq27 t232 t5 r213 r214 (fun y233 y234 y235 => K y233 y234 y235))))); (p241 /\ p241)); (p269 /\ ((grd (decide ((((((((rd r6 (Int.toNat r10)).2).2).2).2).2).2).length + ([r212] : List (Int)).length <= 7818749353073)) (let t242 : List Int := (((((((rd r6 (Int.toNat r10)).2).2).2).2).2).2) ++ ([r212] : List (Int)); grd (decide (0 <= r10) && decide (r10 < (r6.length : Int))) (grd (decide (Int.toNat r10 = Int.toNat r10)) (let t243 : List (tTNode) := List.set r6 (Int.toNat r10) ((rd r6 (Int.toNat r10)).1, ((rd r6 (Int.toNat r10)).2).1, (((rd r6 (Int.toNat r10)).2).2).1, ((((rd r6 (Int.toNat r10)).2).2).2).1, (((((rd r6 (Int.toNat r10)).2).2).2).2).1, ((((((rd r6 (Int.toNat r10)).2).2).2).2).2).1, t242); lpq27 t243 t5 r213 r214 (fun y244 y245 y246 => K y244 y245 y246))))) /\ (let p257 : Prop := (grd (decide ((((((((rd r6 (Int.toNat r10)).2).2).2).2).2).2).length + ([r212] : List (Int)).length <= 7818749353073)) (let t247 : List Int := (((((((rd r6 (Int.toNat r10)).2).2).2).2).2).2) ++ ([r212] : List (Int)); grd (decide (0 <= r10) && decide (r10 < (r6.length : Int))) (grd (decide (Int.toNat r10 = Int.toNat r10)) (let t248 : List (tTNode) := List.set r6 (Int.toNat r10) ((rd r6 (Int.toNat r10)).1, ((rd r6 (Int.toNat r10)).2).1, (((rd r6 (Int.toNat r10)).2).2).1, ((((rd r6 (Int.toNat r10)).2).2).2).1, (((((rd r6 (Int.toNat r10)).2).2).2).2).1, ((((((rd r6 (Int.toNat r10)).2).2).2).2).2).1, t247); lpq27 t248 t5 r213 r214 (fun y249 y250 y251 => K y249 y250 y251))))); (p257 /\ p257))) /\ p269))) /\ (grd (decide (0 <= r10) && decide (r10 < (r6.length : Int))) (let p280 : Prop := (grd (decide ((((((((rd r6 (Int.toNat r10)).2).2).2).2).2).2).length + ([r212] : List (Int)).length <= 7818749353073)) (let t270 : List Int := (((((((rd r6 (Int.toNat r10)).2).2).2).2).2).2) ++ ([r212] : List (Int)); grd (decide (0 <= r10) && decide (r10 < (r6.length : Int))) (grd (decide (Int.toNat r10 = Int.toNat r10)) (let t271 : List (tTNode) := List.set r6 (Int.toNat r10) ((rd r6 (Int.toNat r10)).1, ((rd r6 (Int.toNat r10)).2).1, (((rd r6 (Int.toNat r10)).2).2).1, ((((rd r6 (Int.toNat r10)).2).2).2).1, (((((rd r6 (Int.toNat r10)).2).2).2).2).1, ((((((rd r6 (Int.toNat r10)).2).2).2).2).2).1, t270); lpq27 t271 t5 r213 r214 (fun y272 y273 y274 => K y272 y273 y274))))); (p280 /\ p280)))))) else (if (decide (r13 = 5)) = true then (let t281 : List (tTNode) := ([(1, 0, 0, 0, 0, ([] : List (Int)), ([] : List (Int)))] : List (tTNode)); grd (decide (r6.length + t281.length <= 790660046940)) (lpq27_1 (r6 ++ t281) t5 r14 r15 (fun y286 y287 y288 => K y286 y287 y288))) else (if (decide (r13 = 6)) = true then (lp17 t5 r6 r14 r15 (fun y389 y390 y391 y392 => lpq27_2 y389 y390 y391 y392 (fun y397 y398 y399 => K y397 y398 y399))) else (if (decide (r13 = 7)) = true then (lp21 a3 t5 r14 r15 0 r6 (fun y436 y437 y438 y439 => lpq27_2 y436 y437 y438 y439 (fun y440 y441 y442 => K y440 y441 y442))) else (lpq27 r6 t5 r14 r15 (fun y443 y444 y445 => K y443 y444 y445))))))))))))
def Z79.c : Nat -> List Int -> Int -> List (tDecl) -> Int -> (List (tTNode) -> List Int -> Int -> Prop) -> Prop
 | 0, _, _, _, _, _ => False
 | n + 1, a1, a2, a3, a4, K => Z79.w n (Z79.l17 n) (Z79.l21 n) (Z79.q27 n) (Z79.q27_1 n) (Z79.q27_2 n) a1 a2 a3 a4 K
def Z78.l9.b (n : Nat) (again9 : List (tLiteral) -> List Int -> Int -> Prop) (x38 : List (tLiteral)) (x39 : List Int) (x40 : Int) (Kx1w9 : List (tLiteral) -> List Int -> Int -> Prop) : Prop :=
 Z73.c n x39 x40 2 (fun r45 r46 r47 => let t48 : Bool := decide ((x38.length : Int) < IntKind.wrap .i64 (60 + r45)); if t48 = true then (grd (decide (0 < (x38.length : Int))) (let t49 : List (tTNode) := ([] : List (tTNode)); let t50 : List (tTNode) := ([] : List (tTNode)); grd (decide (0 <= IntKind.wrap .i64 ((x38.length : Int) - 1)) && decide (IntKind.wrap .i64 ((x38.length : Int) - 1) < (x38.length : Int))) (let t51 : Nat := Int.toNat (IntKind.wrap .i64 ((x38.length : Int) - 1)); let t52 : List (tLiteral) := ([(IntKind.wrap .i64 (((rd x38 t51).1) + 1), ((rd x38 0).2).1, (((rd x38 0).2).2).1, (((rd x38 0).2).2).2)] : List (tLiteral)); grd (decide (x38.length + t52.length <= 1082596064271)) (again9 (x38 ++ t52) r46 r47)))) else (Kx1w9 x38 r46 r47))
def Z78.l9 : Nat -> List (tLiteral) -> List Int -> Int -> (List (tLiteral) -> List Int -> Int -> Prop) -> Prop
 | 0, _, _, _, _ => False
 | n + 1, x38, x39, x40, Kx1w9 => Z78.l9.b n   (fun x38q x39q x40q => Z78.l9 n x38q x39q x40q Kx1w9) x38 x39 x40 Kx1w9
def Z78.w (n : Nat) (lp9 : List (tLiteral) -> List Int -> Int -> (List (tLiteral) -> List Int -> Int -> Prop) -> Prop) (a1 : List Int) (a2 : Int) (a3 : List (tDecl)) (a4 : Int) (K : List (tLiteral) -> List Int -> Int -> Prop) : Prop :=
 let t5 : List (tLiteral) := ([] : List (tLiteral)); Z75.c n a1 a2 a3 a4 (fun r6 r7 r8 => Z73.c n r7 r8 (r6.length : Int) (fun r9 r10 r11 => Z73.c n r10 r11 40 (fun r59 r60 r61 => if (decide (r59 = 0)) = true then (Z80.c n r60 r61 1 1000000 (fun r62 r63 r64 => grd (decide (0 <= r9) && decide (r9 < (r6.length : Int))) (let t65 : List (tLiteral) := List.set r6 (Int.toNat r9) (r62, ((rd r6 (Int.toNat r9)).2).1, (((rd r6 (Int.toNat r9)).2).2).1, (((rd r6 (Int.toNat r9)).2).2).2); K t65 r63 r64))) else (if (decide (r59 = 1)) = true then (Z79.c n r60 r61 a3 0 (fun r66 r67 r68 => grd (decide (0 <= r9) && decide (r9 < (r6.length : Int))) (let t69 : List (tLiteral) := List.set r6 (Int.toNat r9) ((rd r6 (Int.toNat r9)).1, ((rd r6 (Int.toNat r9)).2).1, r66, (((rd r6 (Int.toNat r9)).2).2).2); K t69 r67 r68))) else (if (decide (r59 = 2)) = true then (lp9 r6 r60 r61 (fun y70 y71 y72 => K y70 y71 y72)) else (if (decide (r59 = 3)) = true then (grd (decide (0 <= (r6.length : Int)) && true) (K (List.take 0 r6) r60 r61)) else (K r6 r60 r61)))))))
def Z78.c : Nat -> List Int -> Int -> List (tDecl) -> Int -> (List (tLiteral) -> List Int -> Int -> Prop) -> Prop
 | 0, _, _, _, _, _ => False
 | n + 1, a1, a2, a3, a4, K => Z78.w n (Z78.l9 n) a1 a2 a3 a4 K
def Z59.l4.b (n : Nat) (x29 : List (tDecl)) (x30 : List (tLiteral)) (again4 : Int -> Prop) (x31 : Int) (Kx0w4 : Prop) (Kr4 : Bool -> Prop) : Prop :=
 if (decide (x31 < (x30.length : Int))) = true then (grd (decide (0 <= x31) && decide (x31 < (x30.length : Int))) (Z64.c n x29 ((((rd x30 (Int.toNat x31)).2).2).1) (fun r42 => grd (decide (0 <= x31) && decide (x31 < (x30.length : Int))) (Z69.c n ((rd x30 (Int.toNat x31)).1) 1 1000000 (fun r48 => if (!r48) = false then (if (decide (x31 > 0)) = true then (grd (decide (0 <= x31) && decide (x31 < (x30.length : Int))) (grd (decide (0 <= IntKind.wrap .i64 (x31 - 1)) && decide (IntKind.wrap .i64 (x31 - 1) < (x30.length : Int))) (let t49 : tLiteral := rd x30 (Int.toNat (IntKind.wrap .i64 (x31 - 1))); if (decide ((rd x30 (Int.toNat x31)).1 <= t49.1)) = false then (if (decide (r42 < 0)) = false then (grd (decide (0 <= x31) && decide (x31 < (x30.length : Int))) (Z64.c n x29 ((((rd x30 (Int.toNat x31)).2).2).2) (fun r50 => if (!(decide (r50 = r42))) = true then (Kr4 false) else (again4 (IntKind.wrap .i64 (x31 + 1)))))) else (Kr4 false)) else (Kr4 false)))) else (if (decide (r42 < 0)) = false then (grd (decide (0 <= x31) && decide (x31 < (x30.length : Int))) (Z64.c n x29 ((((rd x30 (Int.toNat x31)).2).2).2) (fun r51 => if (!(decide (r51 = r42))) = true then (Kr4 false) else (again4 (IntKind.wrap .i64 (x31 + 1)))))) else (Kr4 false))) else (Kr4 false)))))) else (Kx0w4)
def Z59.l4 : Nat -> List (tDecl) -> List (tLiteral) -> Int -> Prop -> (Bool -> Prop) -> Prop
 | 0, _, _, _, _, _ => False
 | n + 1, x29, x30, x31, Kx0w4, Kr4 => Z59.l4.b n  x29 x30 (fun x31q => Z59.l4 n x29 x30 x31q Kx0w4 Kr4) x31 Kx0w4 Kr4
def Z59.w (n : Nat) (lp4 : List (tDecl) -> List (tLiteral) -> Int -> Prop -> (Bool -> Prop) -> Prop) (a1 : List (tDecl)) (a2 : List (tLiteral)) (K : Bool -> Prop) : Prop :=
 Z56.c n a1 (fun r58 => if (!r58) = false then (if (decide ((a2.length : Int) > 60)) = true then (K false) else (lp4 a1 a2 0 (K true) (fun y60 => K y60))) else (K false))
def Z59.c : Nat -> List (tDecl) -> List (tLiteral) -> (Bool -> Prop) -> Prop
 | 0, _, _, _ => False
 | n + 1, a1, a2, K => Z59.w n (Z59.l4 n) a1 a2 K
def Z70.l3.b (n : Nat) (x11 : Int) (x12 : List Int) (again3 : Int -> List Int -> Prop) (x9 : Int) (x10 : List Int) (Kx0w3 : List Int -> Prop) : Prop :=
 if (decide (x9 < x11)) = true then (Z66.c n x11 x12 x9 (fun r14 => grd (decide (x10.length + ([r14] : List (Int)).length <= 35184372088832)) (again3 (IntKind.wrap .i64 (x9 + 1)) (x10 ++ ([r14] : List (Int)))))) else (Kx0w3 x10)
def Z70.l3 : Nat -> Int -> List Int -> Int -> List Int -> (List Int -> Prop) -> Prop
 | 0, _, _, _, _, _ => False
 | n + 1, x11, x12, x9, x10, Kx0w3 => Z70.l3.b n  x11 x12 (fun x9q x10q => Z70.l3 n x11 x12 x9q x10q Kx0w3) x9 x10 Kx0w3
def Z70.w (n : Nat) (lp3 : Int -> List Int -> Int -> List Int -> (List Int -> Prop) -> Prop) (a1 : Int) (a2 : List Int) (K : List Int -> Prop) : Prop :=
 lp3 a1 a2 0 ([] : List (Int)) (fun y16 => K y16)
def Z70.c : Nat -> Int -> List Int -> (List Int -> Prop) -> Prop
 | 0, _, _, _ => False
 | n + 1, a1, a2, K => Z70.w n (Z70.l3 n) a1 a2 K
def Z58.j0 (K : Int -> List Int -> Bool -> Prop) (a1 : Int) (a2 : List Int) (a3 : Int) (a4 : List Int) (n : Nat) : Prop :=
 let p34 : Prop := (Z70.c n a3 a4 (fun r24 => Z70.c n a1 a2 (fun r25 => grd (decide (r24.length + r25.length <= 35184372088832)) (Z68.c n (r24 ++ r25) (fun r26 r27 r28 => K r26 r27 r28))))); (p34 /\ p34)
def Z58.w (n : Nat) (a1 : Int) (a2 : List Int) (a3 : Int) (a4 : List Int) (K : Int -> List Int -> Bool -> Prop) : Prop :=
 Z53.c n a1 a2 (fun r38 => if (!r38) = false then (Z53.c n a3 a4 (fun r39 => if (!r39) = true then (K 0 ([] : List (Int)) false) else (Z58.j0 K a1 a2 a3 a4 n))) else (K 0 ([] : List (Int)) false))
def Z58.c : Nat -> Int -> List Int -> Int -> List Int -> (Int -> List Int -> Bool -> Prop) -> Prop
 | 0, _, _, _, _, _ => False
 | n + 1, a1, a2, a3, a4, K => Z58.w n  a1 a2 a3 a4 K
def Z60.j0 (K : Int -> List Int -> Bool -> Prop) (a1 : Int) (a2 : List Int) (a3 : Int) (a4 : Int) (n : Nat) : Prop :=
 Z70.c n a1 a2 (fun r8 => grd ((decide (0 <= a4) && (decide (0 <= IntKind.wrap .i64 (a3 + 1)) && decide (IntKind.wrap .i64 (a3 + 1) <= (r8.length : Int)))) && decide (a4 <= IntKind.wrap .i64 (a3 + 1))) (Z68.c n (List.drop (Int.toNat a4) (List.take (Int.toNat (IntKind.wrap .i64 (a3 + 1))) r8)) (fun r9 r10 r11 => K r9 r10 r11)))
def Z60.w (n : Nat) (a1 : Int) (a2 : List Int) (a3 : Int) (a4 : Int) (K : Int -> List Int -> Bool -> Prop) : Prop :=
 Z53.c n a1 a2 (fun r14 => if (!r14) = false then (if (decide (a4 < 0)) = false then (if (decide (a3 < a4)) = false then (if (decide (a3 >= a1)) = true then (K 0 ([] : List (Int)) false) else (Z60.j0 K a1 a2 a3 a4 n)) else (K 0 ([] : List (Int)) false)) else (K 0 ([] : List (Int)) false)) else (K 0 ([] : List (Int)) false))
def Z60.c : Nat -> Int -> List Int -> Int -> Int -> (Int -> List Int -> Bool -> Prop) -> Prop
 | 0, _, _, _, _, _ => False
 | n + 1, a1, a2, a3, a4, K => Z60.w n  a1 a2 a3 a4 K
def Z63.l8.b (n : Nat) (x19 : Int) (x20 : Int) (x23 : List Int) (x24 : Int) (again8 : Int -> List Int -> Prop) (x21 : Int) (x22 : List Int) (Kx0w8 : List Int -> List Int -> Int -> Prop) : Prop :=
 if (decide (x21 < x19)) = true then (grd (decide (x22.length + ([x20] : List (Int)).length <= 35184372088832)) (again8 (IntKind.wrap .i64 (x21 + 1)) (x22 ++ ([x20] : List (Int))))) else (Kx0w8 x22 x23 x24)
def Z63.l8 : Nat -> Int -> Int -> List Int -> Int -> Int -> List Int -> (List Int -> List Int -> Int -> Prop) -> Prop
 | 0, _, _, _, _, _, _, _ => False
 | n + 1, x19, x20, x23, x24, x21, x22, Kx0w8 => Z63.l8.b n  x19 x20 x23 x24 (fun x21q x22q => Z63.l8 n x19 x20 x23 x24 x21q x22q Kx0w8) x21 x22 Kx0w8
def Z63.j0 (K : Int -> List Int -> Bool -> Prop) (a1 : Int) (a2 : List Int) (a3 : Int) (a4 : Bool) (lp8 : Int -> Int -> List Int -> Int -> Int -> List Int -> (List Int -> List Int -> Int -> Prop) -> Prop) (n : Nat) : Prop :=
 Z70.c n a1 a2 (fun r10 => if a4 = true then (grd (decide (0 <= IntKind.wrap .i64 ((r10.length : Int) - 1)) && decide (IntKind.wrap .i64 ((r10.length : Int) - 1) < (r10.length : Int))) (let t34 : Nat := Int.toNat (IntKind.wrap .i64 ((r10.length : Int) - 1)); lp8 a3 (rd r10 t34) ([] : List (Int)) 0 0 r10 (fun y38 y39 y40 => Z68.c n y38 (fun r41 r42 r43 => K r41 r42 r43)))) else (lp8 a3 0 ([] : List (Int)) 0 0 r10 (fun y47 y48 y49 => Z68.c n y47 (fun r50 r51 r52 => K r50 r51 r52))))
def Z63.w (n : Nat) (lp8 : Int -> Int -> List Int -> Int -> Int -> List Int -> (List Int -> List Int -> Int -> Prop) -> Prop) (a1 : Int) (a2 : List Int) (a3 : Int) (a4 : Bool) (K : Int -> List Int -> Bool -> Prop) : Prop :=
 Z53.c n a1 a2 (fun r56 => if (!r56) = false then (Z69.c n a3 0 4096 (fun r57 => if (!r57) = true then (K 0 ([] : List (Int)) false) else (Z63.j0 K a1 a2 a3 a4 lp8 n))) else (K 0 ([] : List (Int)) false))
def Z63.c : Nat -> Int -> List Int -> Int -> Bool -> (Int -> List Int -> Bool -> Prop) -> Prop
 | 0, _, _, _, _, _ => False
 | n + 1, a1, a2, a3, a4, K => Z63.w n (Z63.l8 n) a1 a2 a3 a4 K
def Z62.l6.b (n : Nat) (x21 : Int) (x23 : List Int) (x25 : List Int) (x26 : Int) (again6 : Int -> List Int -> Prop) (x22 : Int) (x24 : List Int) (Kx0w6 : List Int -> List Int -> Int -> Prop) : Prop :=
 if (decide (x22 < (x23.length : Int))) = true then (grd (!(decide ((x23.length : Int) = 0))) (let t29 : Int := Int.tmod (IntKind.wrap .i64 (x22 + x21)) (x23.length : Int); grd (decide (0 <= x22) && decide (x22 < (x23.length : Int))) (grd (decide (0 <= t29) && decide (t29 < (x24.length : Int))) (let t30 : List Int := List.set x24 (Int.toNat t29) (rd x23 (Int.toNat x22)); again6 (IntKind.wrap .i64 (x22 + 1)) t30)))) else (Kx0w6 x24 x25 x26)
def Z62.l6 : Nat -> Int -> List Int -> List Int -> Int -> Int -> List Int -> (List Int -> List Int -> Int -> Prop) -> Prop
 | 0, _, _, _, _, _, _, _ => False
 | n + 1, x21, x23, x25, x26, x22, x24, Kx0w6 => Z62.l6.b n  x21 x23 x25 x26 (fun x22q x24q => Z62.l6 n x21 x23 x25 x26 x22q x24q Kx0w6) x22 x24 Kx0w6
def Z62.j0 (K : Int -> List Int -> Bool -> Prop) (a1 : Int) (a2 : List Int) (a3 : Int) (lp6 : Int -> List Int -> List Int -> Int -> Int -> List Int -> (List Int -> List Int -> Int -> Prop) -> Prop) (n : Nat) : Prop :=
 Z70.c n a1 a2 (fun r9 => grd ((decide (0 <= (r9.length : Int)) && decide ((r9.length : Int) <= 35184372088832)) && decide ((r9.length : Int) = (r9.length : Int))) (let t10 : List Int := List.replicate (Int.toNat (r9.length : Int)) 0; lp6 a3 r9 ([] : List (Int)) 0 0 t10 (fun y34 y35 y36 => Z68.c n y34 (fun r37 r38 r39 => K r37 r38 r39))))
def Z62.w (n : Nat) (lp6 : Int -> List Int -> List Int -> Int -> Int -> List Int -> (List Int -> List Int -> Int -> Prop) -> Prop) (a1 : Int) (a2 : List Int) (a3 : Int) (K : Int -> List Int -> Bool -> Prop) : Prop :=
 Z53.c n a1 a2 (fun r43 => if (!r43) = false then (Z69.c n a3 0 4096 (fun r44 => if (!r44) = true then (K 0 ([] : List (Int)) false) else (Z62.j0 K a1 a2 a3 lp6 n))) else (K 0 ([] : List (Int)) false))
def Z62.c : Nat -> Int -> List Int -> Int -> (Int -> List Int -> Bool -> Prop) -> Prop
 | 0, _, _, _, _ => False
 | n + 1, a1, a2, a3, K => Z62.w n (Z62.l6 n) a1 a2 a3 K
def Z61.l6.b (n : Nat) (x16 : Int) (x19 : List Int) (x20 : List Int) (x21 : Int) (again6 : Int -> List Int -> Prop) (x17 : Int) (x18 : List Int) (Kx0w6 : List Int -> List Int -> Int -> Prop) : Prop :=
 if (decide (x17 < x16)) = true then (grd (decide (x18.length + x19.length <= 35184372088832)) (again6 (IntKind.wrap .i64 (x17 + 1)) (x18 ++ x19))) else (Kx0w6 x18 x20 x21)
def Z61.l6 : Nat -> Int -> List Int -> List Int -> Int -> Int -> List Int -> (List Int -> List Int -> Int -> Prop) -> Prop
 | 0, _, _, _, _, _, _, _ => False
 | n + 1, x16, x19, x20, x21, x17, x18, Kx0w6 => Z61.l6.b n  x16 x19 x20 x21 (fun x17q x18q => Z61.l6 n x16 x19 x20 x21 x17q x18q Kx0w6) x17 x18 Kx0w6
def Z61.j0 (K : Int -> List Int -> Bool -> Prop) (a1 : Int) (a2 : List Int) (a3 : Int) (lp6 : Int -> List Int -> List Int -> Int -> Int -> List Int -> (List Int -> List Int -> Int -> Prop) -> Prop) (n : Nat) (j33 : Bool) : Prop :=
 if j33 = true then (K 0 ([] : List (Int)) false) else (Z70.c n a1 a2 (fun r34 => lp6 a3 r34 ([] : List (Int)) 0 0 ([] : List (Int)) (fun y38 y39 y40 => Z68.c n y38 (fun r41 r42 r43 => K r41 r42 r43))))
def Z61.w (n : Nat) (lp6 : Int -> List Int -> List Int -> Int -> Int -> List Int -> (List Int -> List Int -> Int -> Prop) -> Prop) (a1 : Int) (a2 : List Int) (a3 : Int) (K : Int -> List Int -> Bool -> Prop) : Prop :=
 Z53.c n a1 a2 (fun r44 => if (!r44) = false then (Z69.c n a3 1 4096 (fun r45 => if (!r45) = false then (Z61.j0 K a1 a2 a3 lp6 n (decide (IntKind.wrap .i64 (a1 * a3) > 4096))) else (Z61.j0 K a1 a2 a3 lp6 n true))) else (Z61.j0 K a1 a2 a3 lp6 n true))
def Z61.c : Nat -> Int -> List Int -> Int -> (Int -> List Int -> Bool -> Prop) -> Prop
 | 0, _, _, _, _ => False
 | n + 1, a1, a2, a3, K => Z61.w n (Z61.l6 n) a1 a2 a3 K
def Z100.l10.b (n : Nat) (x22 : List (tBits)) (x24 : List Int) (x25 : Int) (again10 : Int -> Int -> List Int -> Prop) (x23 : Int) (x26 : Int) (x27 : List Int) (Kx1w10 : List Int -> Int -> Int -> List Int -> Prop) : Prop :=
 if (decide (x23 < (x22.length : Int))) = true then (grd (decide (0 <= x23) && decide (x23 < (x22.length : Int))) (Z58.c n x26 x27 ((rd x22 (Int.toNat x23)).1) ((rd x22 (Int.toNat x23)).2) (fun r31 r32 r33 => again10 (IntKind.wrap .i64 (x23 + 1)) r31 r32))) else (Kx1w10 x24 x25 x26 x27)
def Z100.l10 : Nat -> List (tBits) -> List Int -> Int -> Int -> Int -> List Int -> (List Int -> Int -> Int -> List Int -> Prop) -> Prop
 | 0, _, _, _, _, _, _, _ => False
 | n + 1, x22, x24, x25, x23, x26, x27, Kx1w10 => Z100.l10.b n  x22 x24 x25 (fun x23q x26q x27q => Z100.l10 n x22 x24 x25 x23q x26q x27q Kx1w10) x23 x26 x27 Kx1w10
def Z100.w (n : Nat) (lp10 : List (tBits) -> List Int -> Int -> Int -> Int -> List Int -> (List Int -> Int -> Int -> List Int -> Prop) -> Prop) (a1 : List (tBits)) (a2 : Int) (a3 : Int) (a4 : Int) (a5 : Int) (a6 : Int) (a7 : List Int) (a8 : List Int) (a9 : List (tBits)) (K : Int -> List Int -> Prop) : Prop :=
 if (decide (a2 = 1)) = true then (grd (decide (0 <= a3) && decide (a3 < (a1.length : Int))) (K ((rd a1 (Int.toNat a3)).1) ((rd a1 (Int.toNat a3)).2))) else (if (decide (a2 = 2)) = true then (K a6 a7) else (if (decide (a2 = 3)) = true then (grd (decide (0 < (a9.length : Int))) (lp10 a9 ([] : List (Int)) 0 1 ((rd a9 0).1) ((rd a9 0).2) (fun y61 y62 y63 y64 => K y63 y64))) else (if (decide (a2 = 4)) = true then (grd (decide (0 < (a9.length : Int))) (Z60.c n ((rd a9 0).1) ((rd a9 0).2) a4 a5 (fun r65 r66 r67 => K r65 r66))) else (if (decide (a2 = 5)) = true then (grd (decide (0 < (a9.length : Int))) (Z63.c n ((rd a9 0).1) ((rd a9 0).2) a4 false (fun r68 r69 r70 => K r68 r69))) else (if (decide (a2 = 6)) = true then (grd (decide (0 < (a9.length : Int))) (Z63.c n ((rd a9 0).1) ((rd a9 0).2) a4 true (fun r71 r72 r73 => K r71 r72))) else (if (decide (a2 = 7)) = true then (grd (decide (0 < (a9.length : Int))) (Z62.c n ((rd a9 0).1) ((rd a9 0).2) a4 (fun r74 r75 r76 => K r74 r75))) else (if (decide (a2 = 8)) = true then (grd (decide (0 < (a9.length : Int))) (grd (decide (0 < (a9.length : Int))) (grd (!(decide ((rd a9 0).1 = 0))) (let t77 : Int := IntKind.wrap .i64 (((rd a9 0).1) - (Int.tmod a4 ((rd a9 0).1))); grd (!(decide ((rd a9 0).1 = 0))) (Z62.c n ((rd a9 0).1) ((rd a9 0).2) (Int.tmod t77 ((rd a9 0).1)) (fun r78 r79 r80 => K r78 r79)))))) else (if (decide (a2 = 9)) = true then (grd (decide (0 < (a9.length : Int))) (Z61.c n ((rd a9 0).1) ((rd a9 0).2) a4 (fun r81 r82 r83 => K r81 r82))) else (K 0 ([] : List (Int)))))))))))
def Z100.c : Nat -> List (tBits) -> Int -> Int -> Int -> Int -> Int -> List Int -> List Int -> List (tBits) -> (Int -> List Int -> Prop) -> Prop
 | 0, _, _, _, _, _, _, _, _, _, _ => False
 | n + 1, a1, a2, a3, a4, a5, a6, a7, a8, a9, K => Z100.w n (Z100.l10 n) a1 a2 a3 a4 a5 a6 a7 a8 a9 K
def Z98.l7.b (n : Nat) (x27 : List (tBits)) (x28 : Int) (x30 : List (tBits)) (x32 : List Int) (x33 : List (tTNode)) (x34 : Int) (again7 : Int -> List (tBits) -> Prop) (x29 : Int) (x31 : List (tBits)) (Kx2w7 : List (tBits) -> Int -> List (tBits) -> List (tBits) -> List Int -> List (tTNode) -> Int -> Prop) : Prop :=
 grd (decide (0 <= x28) && decide (x28 < (x33.length : Int))) (let t36 : List Int := ((((((rd x33 (Int.toNat x28)).2).2).2).2).2).2; if (decide (x29 < (t36.length : Int))) = true then (grd (decide (0 <= x28) && decide (x28 < (x33.length : Int))) (let t41 : List Int := ((((((rd x33 (Int.toNat x28)).2).2).2).2).2).2; grd (decide (0 <= x29) && decide (x29 < (t41.length : Int))) (grd (decide (0 <= rd t41 (Int.toNat x29)) && decide (rd t41 (Int.toNat x29) < (x30.length : Int))) (let t42 : Int := (rd x30 (Int.toNat (rd t41 (Int.toNat x29)))).1; let t43 : List Int := (rd x30 (Int.toNat (rd t41 (Int.toNat x29)))).2; grd (decide (x31.length + ([(t42, t43)] : List (tBits)).length <= 2132386187201)) (let t44 : List (tBits) := x31 ++ ([(t42, t43)] : List (tBits)); again7 (IntKind.wrap .i64 (x29 + 1)) t44))))) else (Kx2w7 x27 x28 x30 x31 x32 x33 x34))
def Z98.l7 : Nat -> List (tBits) -> Int -> List (tBits) -> List Int -> List (tTNode) -> Int -> Int -> List (tBits) -> (List (tBits) -> Int -> List (tBits) -> List (tBits) -> List Int -> List (tTNode) -> Int -> Prop) -> Prop
 | 0, _, _, _, _, _, _, _, _, _ => False
 | n + 1, x27, x28, x30, x32, x33, x34, x29, x31, Kx2w7 => Z98.l7.b n  x27 x28 x30 x32 x33 x34 (fun x29q x31q => Z98.l7 n x27 x28 x30 x32 x33 x34 x29q x31q Kx2w7) x29 x31 Kx2w7
def Z98.l3.b (n : Nat) (lp7 : List (tBits) -> Int -> List (tBits) -> List Int -> List (tTNode) -> Int -> Int -> List (tBits) -> (List (tBits) -> Int -> List (tBits) -> List (tBits) -> List Int -> List (tTNode) -> Int -> Prop) -> Prop) (again3 : List (tBits) -> Int -> List (tBits) -> List Int -> List (tTNode) -> Int -> Prop) (x83 : List (tBits)) (x84 : Int) (x85 : List (tBits)) (x86 : List Int) (x87 : List (tTNode)) (x88 : Int) (Kx0w3 : List (tBits) -> List Int -> Int -> Prop) : Prop :=
 if (decide (x84 < (x87.length : Int))) = true then (lp7 x83 x84 x85 x86 x87 x88 0 ([] : List (tBits)) (fun y115 y116 y117 y118 y119 y120 y121 => grd (decide (0 <= y116) && decide (y116 < (y120.length : Int))) (let t122 : List Int := ((((((rd y120 (Int.toNat y116)).2).2).2).2).2).1; let t123 : List Int := ((((((rd y120 (Int.toNat y116)).2).2).2).2).2).2; Z100.c n y115 ((rd y120 (Int.toNat y116)).1) (((rd y120 (Int.toNat y116)).2).1) ((((rd y120 (Int.toNat y116)).2).2).1) (((((rd y120 (Int.toNat y116)).2).2).2).1) ((((((rd y120 (Int.toNat y116)).2).2).2).2).1) t122 t123 y118 (fun r124 r125 => grd (decide (y117.length + ([(r124, r125)] : List (tBits)).length <= 2132386187201)) (let t126 : List (tBits) := y117 ++ ([(r124, r125)] : List (tBits)); again3 y115 (IntKind.wrap .i64 (y116 + 1)) t126 y119 y120 y121))))) else (Kx0w3 x85 x86 x88)
def Z98.l3 : Nat -> List (tBits) -> Int -> List (tBits) -> List Int -> List (tTNode) -> Int -> (List (tBits) -> List Int -> Int -> Prop) -> Prop
 | 0, _, _, _, _, _, _, _ => False
 | n + 1, x83, x84, x85, x86, x87, x88, Kx0w3 => Z98.l3.b n (Z98.l7 n)  (fun x83q x84q x85q x86q x87q x88q => Z98.l3 n x83q x84q x85q x86q x87q x88q Kx0w3) x83 x84 x85 x86 x87 x88 Kx0w3
def Z98.w (n : Nat) (lp3 : List (tBits) -> Int -> List (tBits) -> List Int -> List (tTNode) -> Int -> (List (tBits) -> List Int -> Int -> Prop) -> Prop) (a1 : List (tBits)) (a2 : List (tTNode)) (K : Int -> List Int -> Prop) : Prop :=
 lp3 a1 0 ([] : List (tBits)) ([] : List (Int)) a2 0 (fun y130 y131 y132 => grd (decide (0 <= IntKind.wrap .i64 ((y130.length : Int) - 1)) && decide (IntKind.wrap .i64 ((y130.length : Int) - 1) < (y130.length : Int))) (let t133 : Nat := Int.toNat (IntKind.wrap .i64 ((y130.length : Int) - 1)); let p141 : Prop := (let p138 : Prop := (grd (decide (([] : List (Int)).length + ((rd y130 t133).2).length <= 7818749353073)) (K ((rd y130 t133).1) (([] : List (Int)) ++ ((rd y130 t133).2)))); (p138 /\ p138)); (p141 /\ p141 /\ ((grd (decide (([] : List (Int)).length + ((rd y130 t133).2).length <= 7818749353073)) (K ((rd y130 t133).1) (([] : List (Int)) ++ ((rd y130 t133).2)))) /\ (let p140 : Prop := (grd (decide (([] : List (Int)).length + ((rd y130 t133).2).length <= 7818749353073)) (K ((rd y130 t133).1) (([] : List (Int)) ++ ((rd y130 t133).2)))); (p140 /\ p140))))))
def Z98.c : Nat -> List (tBits) -> List (tTNode) -> (Int -> List Int -> Prop) -> Prop
 | 0, _, _, _ => False
 | n + 1, a1, a2, K => Z98.w n (Z98.l3 n) a1 a2 K
def Z95.l4.b (n : Nat) (x18 : Int) (x19 : List Int) (x20 : Int) (x21 : List Int) (again4 : Int -> Prop) (x17 : Int) (Kx0w4 : Prop) (Kr4 : Bool -> Prop) : Prop :=
 if (decide (x17 < (x19.length : Int))) = true then (grd (decide (0 <= x17) && decide (x17 < (x19.length : Int))) (grd (decide (0 <= x17) && decide (x17 < (x21.length : Int))) (let t25 : Bool := !(decide (rd x19 (Int.toNat x17) = rd x21 (Int.toNat x17))); if t25 = true then (Kr4 false) else (again4 (IntKind.wrap .i64 (x17 + 1)))))) else (Kx0w4)
def Z95.l4 : Nat -> Int -> List Int -> Int -> List Int -> Int -> Prop -> (Bool -> Prop) -> Prop
 | 0, _, _, _, _, _, _, _ => False
 | n + 1, x18, x19, x20, x21, x17, Kx0w4, Kr4 => Z95.l4.b n  x18 x19 x20 x21 (fun x17q => Z95.l4 n x18 x19 x20 x21 x17q Kx0w4 Kr4) x17 Kx0w4 Kr4
def Z95.w (n : Nat) (lp4 : Int -> List Int -> Int -> List Int -> Int -> Prop -> (Bool -> Prop) -> Prop) (a1 : Int) (a2 : List Int) (a3 : Int) (a4 : List Int) (K : Bool -> Prop) : Prop :=
 if (!(decide (a1 = a3))) = false then (let t32 : Bool := !(decide ((a2.length : Int) = (a4.length : Int))); if t32 = true then (K false) else (lp4 a1 a2 a3 a4 0 (K true) (fun y34 => K y34))) else (K false)
def Z95.c : Nat -> Int -> List Int -> Int -> List Int -> (Bool -> Prop) -> Prop
 | 0, _, _, _, _, _ => False
 | n + 1, a1, a2, a3, a4, K => Z95.w n (Z95.l4 n) a1 a2 a3 a4 K
def Z34.l4.b (n : Nat) (x35 : List UInt8) (again4 : Int -> Prop) (x36 : Int) (Kx0w4 : Prop) (Kr4 : Bool -> Prop) : Prop :=
 if (decide (x36 < (x35.length : Int))) = true then (grd (decide (0 <= x36) && decide (x36 < (x35.length : Int))) (let t57 : Int := ((List.getD x35 (Int.toNat x36) 0).toNat : Int); if (decide (t57 < 97)) = false then (grd (decide (0 <= x36) && decide (x36 < (x35.length : Int))) (let t58 : Int := ((List.getD x35 (Int.toNat x36) 0).toNat : Int); if (decide (t58 > 122)) = true then (grd (decide (0 <= x36) && decide (x36 < (x35.length : Int))) (let t59 : Int := ((List.getD x35 (Int.toNat x36) 0).toNat : Int); if (decide (t59 < 48)) = false then (grd (decide (0 <= x36) && decide (x36 < (x35.length : Int))) (let t60 : Int := ((List.getD x35 (Int.toNat x36) 0).toNat : Int); if (decide (t60 > 57)) = true then (Kr4 false) else (again4 (IntKind.wrap .i64 (x36 + 1))))) else (Kr4 false))) else (again4 (IntKind.wrap .i64 (x36 + 1))))) else (grd (decide (0 <= x36) && decide (x36 < (x35.length : Int))) (let t61 : Int := ((List.getD x35 (Int.toNat x36) 0).toNat : Int); if (decide (t61 < 48)) = false then (grd (decide (0 <= x36) && decide (x36 < (x35.length : Int))) (let t62 : Int := ((List.getD x35 (Int.toNat x36) 0).toNat : Int); if (decide (t62 > 57)) = true then (Kr4 false) else (again4 (IntKind.wrap .i64 (x36 + 1))))) else (Kr4 false))))) else (Kx0w4)
def Z34.l4 : Nat -> List UInt8 -> Int -> Prop -> (Bool -> Prop) -> Prop
 | 0, _, _, _, _ => False
 | n + 1, x35, x36, Kx0w4, Kr4 => Z34.l4.b n  x35 (fun x36q => Z34.l4 n x35 x36q Kx0w4 Kr4) x36 Kx0w4 Kr4
def Z34.w (n : Nat) (lp4 : List UInt8 -> Int -> Prop -> (Bool -> Prop) -> Prop) (a1 : List UInt8) (K : Bool -> Prop) : Prop :=
 if (decide ((a1.length : Int) < 1)) = false then (if (decide ((a1.length : Int) > 12)) = false then (grd (decide (0 < (a1.length : Int))) (let t70 : Bool := decide (((List.getD a1 0 0).toNat : Int) < 97); if t70 = false then (grd (decide (0 < (a1.length : Int))) (let t71 : Bool := decide (((List.getD a1 0 0).toNat : Int) > 122); if t71 = true then (K false) else (lp4 a1 0 (K true) (fun y73 => K y73)))) else (K false))) else (K false)) else (K false)
def Z34.c : Nat -> List UInt8 -> (Bool -> Prop) -> Prop
 | 0, _, _ => False
 | n + 1, a1, K => Z34.w n (Z34.l4 n) a1 K
def Z29.w (n : Nat) (a1 : Int) (a2 : Int) (a3 : Int) (K : Bool -> Prop) : Prop :=
 if (decide (a1 >= a2)) = true then (K (decide (a1 <= a3))) else (K false)
def Z29.c : Nat -> Int -> Int -> Int -> (Bool -> Prop) -> Prop
 | 0, _, _, _, _ => False
 | n + 1, a1, a2, a3, K => Z29.w n  a1 a2 a3 K
def Z27.w (n : Nat) (a1 : List UInt8) (a2 : Int) (a3 : List UInt8) (K : Bool -> Prop) : Prop :=
 K (a1 == a3)
def Z27.c : Nat -> List UInt8 -> Int -> List UInt8 -> (Bool -> Prop) -> Prop
 | 0, _, _, _, _ => False
 | n + 1, a1, a2, a3, K => Z27.w n  a1 a2 a3 K
def Z48.l2.b (n : Nat) (x9 : List (tDecl)) (x10 : List UInt8) (x11 : Int) (again2 : Int -> Prop) (x12 : Int) (Kx0w2 : Prop) (Kr2 : Int -> Prop) : Prop :=
 if (decide (x12 < x11)) = true then (grd (decide (0 <= x12) && decide (x12 < (x9.length : Int))) (Z27.c n ((rd x9 (Int.toNat x12)).1) ((rd x9 (Int.toNat x12)).2) x10 (fun r14 => if r14 = true then (Kr2 x12) else (again2 (IntKind.wrap .i64 (x12 + 1)))))) else (Kx0w2)
def Z48.l2 : Nat -> List (tDecl) -> List UInt8 -> Int -> Int -> Prop -> (Int -> Prop) -> Prop
 | 0, _, _, _, _, _, _ => False
 | n + 1, x9, x10, x11, x12, Kx0w2, Kr2 => Z48.l2.b n  x9 x10 x11 (fun x12q => Z48.l2 n x9 x10 x11 x12q Kx0w2 Kr2) x12 Kx0w2 Kr2
def Z48.w (n : Nat) (lp2 : List (tDecl) -> List UInt8 -> Int -> Int -> Prop -> (Int -> Prop) -> Prop) (a1 : List (tDecl)) (a2 : List UInt8) (K : Int -> Prop) : Prop :=
 lp2 a1 a2 (a1.length : Int) 0 (K (-1)) (fun y16 => K y16)
def Z48.c : Nat -> List (tDecl) -> List UInt8 -> (Int -> Prop) -> Prop
 | 0, _, _, _ => False
 | n + 1, a1, a2, K => Z48.w n (Z48.l2 n) a1 a2 K
def Z26.w (n : Nat) (a1 : List (tDecl)) (a2 : List UInt8) (K : Int -> Prop) : Prop :=
 Z48.c n a1 a2 (fun r3 => K r3)
def Z26.c : Nat -> List (tDecl) -> List UInt8 -> (Int -> Prop) -> Prop
 | 0, _, _, _ => False
 | n + 1, a1, a2, K => Z26.w n  a1 a2 K
def Z13.l5.b (n : Nat) (x42 : List (tDecl)) (x44 : List (tDecl)) (x45 : Int) (again5 : Int -> Int -> Prop) (x43 : Int) (x46 : Int) (Kx0w5 : Int -> Prop) (Kr5 : Bool -> Prop) : Prop :=
 if (decide (x46 < x45)) = true then (grd (decide (0 <= x46) && decide (x46 < (x44.length : Int))) (Z34.c n ((rd x44 (Int.toNat x46)).1) (fun r78 => if (!r78) = false then (Z29.c n ((rd x44 (Int.toNat x46)).2) 1 4096 (fun r79 => if (!r79) = false then (grd ((decide (0 <= x46) && decide (x46 <= (x42.length : Int))) && decide (0 <= x46)) (Z26.c n (List.drop 0 (List.take (Int.toNat x46) x42)) ((rd x44 (Int.toNat x46)).1) (fun r80 => if (decide (r80 >= 0)) = true then (Kr5 false) else (let t81 : Int := IntKind.wrap .i64 (x43 + ((rd x44 (Int.toNat x46)).2)); again5 t81 (IntKind.wrap .i64 (x46 + 1)))))) else (Kr5 false))) else (Kr5 false)))) else (Kx0w5 x43)
def Z13.l5 : Nat -> List (tDecl) -> List (tDecl) -> Int -> Int -> Int -> (Int -> Prop) -> (Bool -> Prop) -> Prop
 | 0, _, _, _, _, _, _, _ => False
 | n + 1, x42, x44, x45, x43, x46, Kx0w5, Kr5 => Z13.l5.b n  x42 x44 x45 (fun x43q x46q => Z13.l5 n x42 x44 x45 x43q x46q Kx0w5 Kr5) x43 x46 Kx0w5 Kr5
def Z13.w (n : Nat) (lp5 : List (tDecl) -> List (tDecl) -> Int -> Int -> Int -> (Int -> Prop) -> (Bool -> Prop) -> Prop) (a1 : List (tDecl)) (K : Bool -> Prop) : Prop :=
 if (decide ((a1.length : Int) > 60)) = true then (K false) else (lp5 a1 a1 (a1.length : Int) 0 0 (fun y84 => K (decide (y84 <= 20000))) (fun y85 => K y85))
def Z13.c : Nat -> List (tDecl) -> (Bool -> Prop) -> Prop
 | 0, _, _ => False
 | n + 1, a1, K => Z13.w n (Z13.l5 n) a1 K
def Z40.w (n : Nat) (a1 : Int) (K : Int -> Prop) : Prop :=
 let t2 : Int := IntKind.wrap .i64 (Int.tdiv (IntKind.wrap .i64 (a1 + 63)) 64); K t2
def Z40.c : Nat -> Int -> (Int -> Prop) -> Prop
 | 0, _, _ => False
 | n + 1, a1, K => Z40.w n  a1 K
def Z1.j0 (K : Bool -> Prop) (a1 : Int) (a2 : List Int) : Prop :=
 if (decide (Int.tmod a1 64 = 0)) = false then (grd (decide (0 <= IntKind.wrap .i64 ((a2.length : Int) - 1)) && decide (IntKind.wrap .i64 ((a2.length : Int) - 1) < (a2.length : Int))) (let t14 : Int := rd a2 (Int.toNat (IntKind.wrap .i64 ((a2.length : Int) - 1))); grd (decide (0 <= Int.tmod a1 64)) (let t15 : Int := Int.fdiv t14 (2 ^ (Nat.min (Int.toNat (Int.tmod a1 64)) 64)); K (decide (t15 = 0))))) else (K true)
def Z1.w (n : Nat) (a1 : Int) (a2 : List Int) (K : Bool -> Prop) : Prop :=
 Z29.c n a1 1 4096 (fun r20 => if (!r20) = false then (let p23 : Prop := (Z40.c n a1 (fun r21 => if (!(decide ((a2.length : Int) = r21))) = true then (K false) else (Z1.j0 K a1 a2))); (p23 /\ p23)) else ((K false) /\ (K false)))
def Z1.c : Nat -> Int -> List Int -> (Bool -> Prop) -> Prop
 | 0, _, _, _ => False
 | n + 1, a1, a2, K => Z1.w n  a1 a2 K
def Z37.l4.b (n : Nat) (x19 : List (tDecl)) (x20 : List (tBits)) (x21 : Int) (again4 : Int -> Prop) (x22 : Int) (Kx0w4 : Prop) (Kr4 : Bool -> Prop) : Prop :=
 if (decide (x22 < x21)) = true then (grd (decide (0 <= x22) && decide (x22 < (x20.length : Int))) (Z1.c n ((rd x20 (Int.toNat x22)).1) ((rd x20 (Int.toNat x22)).2) (fun r31 => if (!r31) = false then (grd (decide (0 <= x22) && decide (x22 < (x19.length : Int))) (let t32 : Bool := !(decide ((rd x20 (Int.toNat x22)).1 = (rd x19 (Int.toNat x22)).2)); if t32 = true then (Kr4 false) else (again4 (IntKind.wrap .i64 (x22 + 1))))) else (Kr4 false)))) else (Kx0w4)
def Z37.l4 : Nat -> List (tDecl) -> List (tBits) -> Int -> Int -> Prop -> (Bool -> Prop) -> Prop
 | 0, _, _, _, _, _, _ => False
 | n + 1, x19, x20, x21, x22, Kx0w4, Kr4 => Z37.l4.b n  x19 x20 x21 (fun x22q => Z37.l4 n x19 x20 x21 x22q Kx0w4 Kr4) x22 Kx0w4 Kr4
def Z37.w (n : Nat) (lp4 : List (tDecl) -> List (tBits) -> Int -> Int -> Prop -> (Bool -> Prop) -> Prop) (a1 : List (tDecl)) (a2 : List (tBits)) (K : Bool -> Prop) : Prop :=
 let t4 : Bool := !(decide ((a2.length : Int) = (a1.length : Int))); if t4 = true then (K false) else (lp4 a1 a2 (a2.length : Int) 0 (K true) (fun y34 => K y34))
def Z37.c : Nat -> List (tDecl) -> List (tBits) -> (Bool -> Prop) -> Prop
 | 0, _, _, _ => False
 | n + 1, a1, a2, K => Z37.w n (Z37.l4 n) a1 a2 K
def Z23.w (n : Nat) (a1 : List (tDecl)) (a2 : List (tBits)) (K : Bool -> Prop) : Prop :=
 Z13.c n a1 (fun r6 => if r6 = true then (Z37.c n a1 a2 (fun r7 => K r7)) else (K false))
def Z23.c : Nat -> List (tDecl) -> List (tBits) -> (Bool -> Prop) -> Prop
 | 0, _, _, _ => False
 | n + 1, a1, a2, K => Z23.w n  a1 a2 K
def Z22.l11.b (n : Nat) (x24 : List Int) (x25 : Int) (again11 : Int -> Int -> Prop) (x23 : Int) (x26 : Int) (Kx1w11 : Int -> Prop) : Prop :=
 if (decide (x26 < x25)) = true then (grd (decide (0 <= x26) && decide (x26 < (x24.length : Int))) (let t28 : Int := IntKind.wrap .i64 (x23 + (rd x24 (Int.toNat x26))); again11 t28 (IntKind.wrap .i64 (x26 + 1)))) else (Kx1w11 x23)
def Z22.l11 : Nat -> List Int -> Int -> Int -> Int -> (Int -> Prop) -> Prop
 | 0, _, _, _, _, _ => False
 | n + 1, x24, x25, x23, x26, Kx1w11 => Z22.l11.b n  x24 x25 (fun x23q x26q => Z22.l11 n x24 x25 x23q x26q Kx1w11) x23 x26 Kx1w11
def Z22.j0 (Kc21w0 : Int -> Prop) (Kc21w1 : Prop) (n : Nat) (x35 : tTNode) (x36 : Int) (j40 : Bool) : Prop :=
 if j40 = true then (Kc21w0 x36) else (if (decide (x35.1 = 9)) = true then (Z29.c n x35.2.2.1 1 4096 (fun r43 => if r43 = true then (Kc21w0 (IntKind.wrap .i64 (x36 * x35.2.2.1))) else (Kc21w1))) else (Kc21w1))
def Z22.q21.b (n : Nat) (x35 : tTNode) (x36 : Int) (x37 : Bool) (Kc21w0 : Int -> Prop) (Kc21w1 : Prop) : Prop :=
 if x37 = true then (Kc21w0 (IntKind.wrap .i64 (x36 + x35.2.2.1))) else (if (decide (x35.1 = 7)) = false then (if (decide (x35.1 = 8)) = true then (Z29.c n x35.2.2.1 0 4096 (fun r44 => Z22.j0 Kc21w0 Kc21w1 n x35 x36 r44)) else (Z22.j0 Kc21w0 Kc21w1 n x35 x36 false)) else (Z29.c n x35.2.2.1 0 4096 (fun r45 => Z22.j0 Kc21w0 Kc21w1 n x35 x36 r45)))
def Z22.q21 : Nat -> tTNode -> Int -> Bool -> (Int -> Prop) -> Prop -> Prop
 | 0, _, _, _, _, _ => False
 | n + 1, x35, x36, x37, Kc21w0, Kc21w1 => Z22.q21.b n  x35 x36 x37  Kc21w0 Kc21w1
def Z22.j1 (Kc9w0 : Int -> Prop) (Kc9w1 : Prop) (lpq21 : tTNode -> Int -> Bool -> (Int -> Prop) -> Prop -> Prop) (n : Nat) (x13 : tTNode) (x15 : Int) (j31 : Bool) : Prop :=
 if j31 = true then (let t33 : Int := IntKind.wrap .i64 ((IntKind.wrap .i64 (x13.2.2.1 - x13.2.2.2.1)) + 1); Kc9w0 t33) else (if (decide (x13.1 = 5)) = false then (if (decide (x13.1 = 6)) = true then (Z29.c n x13.2.2.1 0 4096 (fun r34 => lpq21 x13 x15 r34 (fun y46 => Kc9w0 y46) (Kc9w1))) else (lpq21 x13 x15 false (fun y47 => Kc9w0 y47) (Kc9w1))) else (Z29.c n x13.2.2.1 0 4096 (fun r48 => lpq21 x13 x15 r48 (fun y49 => Kc9w0 y49) (Kc9w1))))
def Z22.q9.b (n : Nat) (lp11 : List Int -> Int -> Int -> Int -> (Int -> Prop) -> Prop) (lpq21 : tTNode -> Int -> Bool -> (Int -> Prop) -> Prop -> Prop) (x13 : tTNode) (x14 : List Int) (x15 : Int) (x16 : Bool) (Kc9w0 : Int -> Prop) (Kc9w1 : Prop) : Prop :=
 if x16 = true then (lp11 x14 (x14.length : Int) 0 0 (fun y30 => Kc9w0 y30)) else (if (!(decide ((x14.length : Int) = 1))) = true then (Kc9w0 (-1)) else (if (decide (x13.1 = 4)) = true then (if (decide (x13.2.2.2.1 >= 0)) = true then (if (decide (x13.2.2.2.1 <= x13.2.2.1)) = true then (Z22.j1 Kc9w0 Kc9w1 lpq21 n x13 x15 (decide (x13.2.2.1 < x15))) else (Z22.j1 Kc9w0 Kc9w1 lpq21 n x13 x15 false)) else (Z22.j1 Kc9w0 Kc9w1 lpq21 n x13 x15 false)) else (Z22.j1 Kc9w0 Kc9w1 lpq21 n x13 x15 false)))
def Z22.q9 : Nat -> tTNode -> List Int -> Int -> Bool -> (Int -> Prop) -> Prop -> Prop
 | 0, _, _, _, _, _, _ => False
 | n + 1, x13, x14, x15, x16, Kc9w0, Kc9w1 => Z22.q9.b n (Z22.l11 n) (Z22.q21 n) x13 x14 x15 x16  Kc9w0 Kc9w1
def Z22.j2 (Kc5w0 : Int -> Prop) (Kc5w1 : Prop) (lpq9 : tTNode -> List Int -> Int -> Bool -> (Int -> Prop) -> Prop -> Prop) (x6 : tTNode) (x8 : List Int) (x9 : Int) (j12 : Bool) : Prop :=
 if j12 = true then (Kc5w0 x6.2.2.2.2.1) else (if (decide (x6.1 = 3)) = true then (lpq9 x6 x8 x9 (decide ((x8.length : Int) > 1)) (fun y50 => Kc5w0 y50) (Kc5w1)) else (lpq9 x6 x8 x9 false (fun y51 => Kc5w0 y51) (Kc5w1)))
def Z22.q5.b (n : Nat) (lpq9 : tTNode -> List Int -> Int -> Bool -> (Int -> Prop) -> Prop -> Prop) (x6 : tTNode) (x7 : List (tDecl)) (x8 : List Int) (x9 : Int) (x10 : Bool) (Kc5w0 : Int -> Prop) (Kc5w1 : Prop) : Prop :=
 if x10 = true then (grd (decide (0 <= x6.2.1) && decide (x6.2.1 < (x7.length : Int))) (Kc5w0 ((rd x7 (Int.toNat x6.2.1)).2))) else (if (decide (x6.1 = 2)) = true then (if (decide ((x8.length : Int) = 0)) = true then (Z1.c n x6.2.2.2.2.1 x6.2.2.2.2.2.1 (fun r52 => Z22.j2 Kc5w0 Kc5w1 lpq9 x6 x8 x9 r52)) else (Z22.j2 Kc5w0 Kc5w1 lpq9 x6 x8 x9 false)) else (Z22.j2 Kc5w0 Kc5w1 lpq9 x6 x8 x9 false))
def Z22.q5 : Nat -> tTNode -> List (tDecl) -> List Int -> Int -> Bool -> (Int -> Prop) -> Prop -> Prop
 | 0, _, _, _, _, _, _, _ => False
 | n + 1, x6, x7, x8, x9, x10, Kc5w0, Kc5w1 => Z22.q5.b n (Z22.q9 n) x6 x7 x8 x9 x10  Kc5w0 Kc5w1
def Z22.j3 (K : Int -> Prop) (a1 : tTNode) (a2 : List (tDecl)) (a3 : List Int) (lpq5 : tTNode -> List (tDecl) -> List Int -> Int -> Bool -> (Int -> Prop) -> Prop -> Prop) (n : Nat) (j4 : Int) : Prop :=
 if (decide (a1.1 = 1)) = true then (if (decide ((a3.length : Int) = 0)) = true then (Z29.c n a1.2.1 0 (IntKind.wrap .i64 ((a2.length : Int) - 1)) (fun r56 => lpq5 a1 a2 a3 j4 r56 (fun y57 => K y57) (K (-1)))) else (lpq5 a1 a2 a3 j4 false (fun y58 => K y58) (K (-1)))) else (lpq5 a1 a2 a3 j4 false (fun y59 => K y59) (K (-1)))
def Z22.w (n : Nat) (lpq5 : tTNode -> List (tDecl) -> List Int -> Int -> Bool -> (Int -> Prop) -> Prop -> Prop) (a1 : tTNode) (a2 : List (tDecl)) (a3 : List Int) (K : Int -> Prop) : Prop :=
 if (decide ((a3.length : Int) > 0)) = true then (grd (decide (0 < (a3.length : Int))) (Z22.j3 K a1 a2 a3 lpq5 n (rd a3 0))) else (Z22.j3 K a1 a2 a3 lpq5 n 0)
def Z22.c : Nat -> tTNode -> List (tDecl) -> List Int -> (Int -> Prop) -> Prop
 | 0, _, _, _, _ => False
 | n + 1, a1, a2, a3, K => Z22.w n (Z22.q5 n) a1 a2 a3 K
end Go.Vsi
end

section
set_option linter.unusedVariables false
set_option synthInstance.maxSize 4096
namespace Go.Vsi
def Z21.q3.b (n : Nat) (x4 : tTNode) (x5 : Bool) (Kc3w0 : Bool -> Prop) (Kc3w1 : tTNode -> Prop) : Prop :=
 if x5 = true then (Kc3w0 false) else (Kc3w1 x4)
def Z21.q3 : Nat -> tTNode -> Bool -> (Bool -> Prop) -> (tTNode -> Prop) -> Prop
 | 0, _, _, _, _ => False
 | n + 1, x4, x5, Kc3w0, Kc3w1 => Z21.q3.b n  x4 x5  Kc3w0 Kc3w1
def Z21.j0 (Kc2w0 : Bool -> Prop) (j28 : tTNode) : Prop :=
 if (decide (j28.1 = 2)) = false then (if (decide (j28.2.2.2.2.1 = 0)) = true then (Kc2w0 (decide ((j28.2.2.2.2.2.1.length : Int) = 0))) else (Kc2w0 false)) else (Kc2w0 true)
def Z21.q2.b (n : Nat) (lpq3 : tTNode -> Bool -> (Bool -> Prop) -> (tTNode -> Prop) -> Prop) (x2 : tTNode) (x3 : Bool) (Kc2w0 : Bool -> Prop) : Prop :=
 if (!x3) = true then (if (!(decide (x2.2.2.1 = 0))) = false then (if (!(decide (x2.1 = 4))) = true then (if (!(decide (x2.2.2.2.1 = 0))) = false then (if (!(decide (x2.1 = 1))) = true then (lpq3 x2 (!(decide (x2.2.1 = 0))) (fun y30 => Kc2w0 y30) (fun y31 => Z21.j0 Kc2w0 y31)) else (lpq3 x2 false (fun y32 => Kc2w0 y32) (fun y33 => Z21.j0 Kc2w0 y33))) else (lpq3 x2 true (fun y34 => Kc2w0 y34) (fun y35 => Z21.j0 Kc2w0 y35))) else (if (!(decide (x2.1 = 1))) = true then (lpq3 x2 (!(decide (x2.2.1 = 0))) (fun y36 => Kc2w0 y36) (fun y37 => Z21.j0 Kc2w0 y37)) else (lpq3 x2 false (fun y38 => Kc2w0 y38) (fun y39 => Z21.j0 Kc2w0 y39)))) else (lpq3 x2 true (fun y40 => Kc2w0 y40) (fun y41 => Z21.j0 Kc2w0 y41))) else (if (!(decide (x2.1 = 4))) = true then (if (!(decide (x2.2.2.2.1 = 0))) = false then (if (!(decide (x2.1 = 1))) = true then (lpq3 x2 (!(decide (x2.2.1 = 0))) (fun y42 => Kc2w0 y42) (fun y43 => Z21.j0 Kc2w0 y43)) else (lpq3 x2 false (fun y44 => Kc2w0 y44) (fun y45 => Z21.j0 Kc2w0 y45))) else (lpq3 x2 true (fun y46 => Kc2w0 y46) (fun y47 => Z21.j0 Kc2w0 y47))) else (if (!(decide (x2.1 = 1))) = true then (lpq3 x2 (!(decide (x2.2.1 = 0))) (fun y48 => Kc2w0 y48) (fun y49 => Z21.j0 Kc2w0 y49)) else (lpq3 x2 false (fun y50 => Kc2w0 y50) (fun y51 => Z21.j0 Kc2w0 y51))))
def Z21.q2 : Nat -> tTNode -> Bool -> (Bool -> Prop) -> Prop
 | 0, _, _, _ => False
 | n + 1, x2, x3, Kc2w0 => Z21.q2.b n (Z21.q3 n) x2 x3  Kc2w0
def Z21.w (n : Nat) (lpq2 : tTNode -> Bool -> (Bool -> Prop) -> Prop) (a1 : tTNode) (K : Bool -> Prop) : Prop :=
 if (decide (a1.1 >= 4)) = true then (lpq2 a1 (decide (a1.1 <= 9)) (fun y52 => K y52)) else (lpq2 a1 false (fun y53 => K y53))
def Z21.c : Nat -> tTNode -> (Bool -> Prop) -> Prop
 | 0, _, _ => False
 | n + 1, a1, K => Z21.w n (Z21.q2 n) a1 K
def Z51.l2.b (n : Nat) (x7 : List Bool) (x8 : Bool) (x9 : Int) (again2 : Int -> Prop) (x10 : Int) (Kx0w2 : Prop) (Kr2 : Int -> Prop) : Prop :=
 if (decide (x10 < x9)) = true then (grd (decide (0 <= x10) && decide (x10 < (x7.length : Int))) (if (x8 == (rd x7 (Int.toNat x10))) = true then (Kr2 x10) else (again2 (IntKind.wrap .i64 (x10 + 1))))) else (Kx0w2)
def Z51.l2 : Nat -> List Bool -> Bool -> Int -> Int -> Prop -> (Int -> Prop) -> Prop
 | 0, _, _, _, _, _, _ => False
 | n + 1, x7, x8, x9, x10, Kx0w2, Kr2 => Z51.l2.b n  x7 x8 x9 (fun x10q => Z51.l2 n x7 x8 x9 x10q Kx0w2 Kr2) x10 Kx0w2 Kr2
def Z51.w (n : Nat) (lp2 : List Bool -> Bool -> Int -> Int -> Prop -> (Int -> Prop) -> Prop) (a1 : List Bool) (a2 : Bool) (K : Int -> Prop) : Prop :=
 lp2 a1 a2 (a1.length : Int) 0 (K (-1)) (fun y12 => K y12)
def Z51.c : Nat -> List Bool -> Bool -> (Int -> Prop) -> Prop
 | 0, _, _, _ => False
 | n + 1, a1, a2, K => Z51.w n (Z51.l2 n) a1 a2 K
def Z46.w (n : Nat) (a1 : List Bool) (a2 : Bool) (K : Bool -> Prop) : Prop :=
 Z51.c n a1 a2 (fun r3 => K (decide (r3 >= 0)))
def Z46.c : Nat -> List Bool -> Bool -> (Bool -> Prop) -> Prop
 | 0, _, _, _ => False
 | n + 1, a1, a2, K => Z46.w n  a1 a2 K
def Z39.l13.b (n : Nat) (x43 : List (tDecl)) (x44 : Int) (x45 : Int) (x46 : tTNode) (x47 : Int) (x48 : Int) (x49 : List Int) (x50 : Int) (x52 : List Int) (x55 : List (tTNode)) (again13 : Int -> List Bool -> List Int -> Prop) (x51 : Int) (x53 : List Bool) (x54 : List Int) (Kx2w13 : List (tDecl) -> Int -> Int -> tTNode -> Int -> Int -> List Int -> List Bool -> List Int -> List (tTNode) -> Prop) (Kr13 : Bool -> List Int -> Prop) : Prop :=
 if (decide (x51 < x50)) = true then (grd (decide (0 <= x51) && decide (x51 < (x49.length : Int))) (Z29.c n (rd x49 (Int.toNat x51)) 0 (IntKind.wrap .i64 (x45 - 1)) (fun r61 => if (!r61) = true then (Kr13 false ([] : List (Int))) else (grd (decide (0 <= rd x49 (Int.toNat x51)) && decide (rd x49 (Int.toNat x51) < (x52.length : Int))) (grd (decide (0 <= rd x49 (Int.toNat x51)) && decide (rd x49 (Int.toNat x51) < (x53.length : Int))) (let t62 : List Bool := List.set x53 (Int.toNat (rd x49 (Int.toNat x51))) true; grd (decide (0 <= x51) && decide (x51 < (x54.length : Int))) (let t63 : List Int := List.set x54 (Int.toNat x51) (rd x52 (Int.toNat (rd x49 (Int.toNat x51)))); again13 (IntKind.wrap .i64 (x51 + 1)) t62 t63))))))) else (Kx2w13 x43 x44 x45 x46 x47 x48 x52 x53 x54 x55)
def Z39.l13 : Nat -> List (tDecl) -> Int -> Int -> tTNode -> Int -> Int -> List Int -> Int -> List Int -> List (tTNode) -> Int -> List Bool -> List Int -> (List (tDecl) -> Int -> Int -> tTNode -> Int -> Int -> List Int -> List Bool -> List Int -> List (tTNode) -> Prop) -> (Bool -> List Int -> Prop) -> Prop
 | 0, _, _, _, _, _, _, _, _, _, _, _, _, _, _, _ => False
 | n + 1, x43, x44, x45, x46, x47, x48, x49, x50, x52, x55, x51, x53, x54, Kx2w13, Kr13 => Z39.l13.b n  x43 x44 x45 x46 x47 x48 x49 x50 x52 x55 (fun x51q x53q x54q => Z39.l13 n x43 x44 x45 x46 x47 x48 x49 x50 x52 x55 x51q x53q x54q Kx2w13 Kr13) x51 x53 x54 Kx2w13 Kr13
def Z39.l6.b (n : Nat) (lp13 : List (tDecl) -> Int -> Int -> tTNode -> Int -> Int -> List Int -> Int -> List Int -> List (tTNode) -> Int -> List Bool -> List Int -> (List (tDecl) -> Int -> Int -> tTNode -> Int -> Int -> List Int -> List Bool -> List Int -> List (tTNode) -> Prop) -> (Bool -> List Int -> Prop) -> Prop) (again6 : List (tDecl) -> Int -> Int -> Int -> List Int -> List Bool -> List (tTNode) -> Prop) (x142 : List (tDecl)) (x143 : Int) (x144 : Int) (x145 : Int) (x146 : List Int) (x147 : List Bool) (x148 : List (tTNode)) (Kx0w6 : Int -> List Int -> List Bool -> Prop) (Kr6 : Bool -> List Int -> Prop) : Prop :=
 if (decide (x145 < x144)) = true then (grd (decide (0 <= x145) && decide (x145 < (x148.length : Int))) (let t195 : List Int := ((((((rd x148 (Int.toNat x145)).2).2).2).2).2).2; if (decide ((t195.length : Int) > 4096)) = true then (Kr6 false ([] : List (Int))) else (let t196 : List Int := ((((((rd x148 (Int.toNat x145)).2).2).2).2).2).2; grd ((decide (0 <= (t196.length : Int)) && decide ((t196.length : Int) <= 7818749353073)) && decide ((t196.length : Int) = (t196.length : Int))) (let t197 : List Int := List.replicate (Int.toNat (t196.length : Int)) 0; let t211 : List Int := ((((((rd x148 (Int.toNat x145)).2).2).2).2).2).2; lp13 x142 x143 x145 (rd x148 (Int.toNat x145)) x144 x145 t211 (t211.length : Int) x146 x148 0 x147 t197 (fun y212 y213 y214 y215 y216 y217 y218 y219 y220 y221 => Z22.c n y215 y212 y220 (fun r222 => grd (decide (0 <= y214) && decide (y214 < (y218.length : Int))) (Z21.c n y215 (fun r227 => if (!r227) = false then (grd (decide (0 <= y214) && decide (y214 < ((List.set y218 (Int.toNat y214) r222).length : Int))) (let t228 : Int := rd (List.set y218 (Int.toNat y214) r222) (Int.toNat y214); Z29.c n t228 1 4096 (fun r229 => if (!r229) = true then (Kr6 false ([] : List (Int))) else (again6 y212 y213 y216 (IntKind.wrap .i64 (y217 + 1)) (List.set y218 (Int.toNat y214) r222) y219 y221)))) else (Kr6 false ([] : List (Int))))))) (fun y230 y231 => Kr6 y230 y231))))) else (Kx0w6 x143 x146 x147)
def Z39.l6 : Nat -> List (tDecl) -> Int -> Int -> Int -> List Int -> List Bool -> List (tTNode) -> (Int -> List Int -> List Bool -> Prop) -> (Bool -> List Int -> Prop) -> Prop
 | 0, _, _, _, _, _, _, _, _, _ => False
 | n + 1, x142, x143, x144, x145, x146, x147, x148, Kx0w6, Kr6 => Z39.l6.b n (Z39.l13 n)  (fun x142q x143q x144q x145q x146q x147q x148q => Z39.l6 n x142q x143q x144q x145q x146q x147q x148q Kx0w6 Kr6) x142 x143 x144 x145 x146 x147 x148 Kx0w6 Kr6
def Z39.j0 (K : List Int -> Bool -> Prop) (a1 : List (tDecl)) (a2 : List (tTNode)) (lp6 : List (tDecl) -> Int -> Int -> Int -> List Int -> List Bool -> List (tTNode) -> (Int -> List Int -> List Bool -> Prop) -> (Bool -> List Int -> Prop) -> Prop) (n : Nat) (j8 : List Int) (j9 : List Bool) : Prop :=
 lp6 a1 (a2.length : Int) (a2.length : Int) 0 j8 j9 a2 (fun y237 y238 y239 => grd ((decide (0 <= IntKind.wrap .i64 (y237 - 1)) && decide (IntKind.wrap .i64 (y237 - 1) <= (y239.length : Int))) && decide (0 <= IntKind.wrap .i64 (y237 - 1))) (Z46.c n (List.drop 0 (List.take (Int.toNat (IntKind.wrap .i64 (y237 - 1))) y239)) false (fun r240 => K y238 (!r240)))) (fun y241 y242 => K y242 y241)
def Z39.j1 (K : List Int -> Bool -> Prop) (a1 : List (tDecl)) (a2 : List (tTNode)) (lp6 : List (tDecl) -> Int -> Int -> Int -> List Int -> List Bool -> List (tTNode) -> (Int -> List Int -> List Bool -> Prop) -> (Bool -> List Int -> Prop) -> Prop) (n : Nat) : Prop :=
 (grd ((decide (0 <= (a2.length : Int)) && decide ((a2.length : Int) <= 7818749353073)) && decide ((a2.length : Int) = (a2.length : Int))) (let t243 : List Int := List.replicate (Int.toNat (a2.length : Int)) 0; grd ((decide (0 <= (a2.length : Int)) && decide ((a2.length : Int) <= 35184372088832)) && decide ((a2.length : Int) = (a2.length : Int))) (let t244 : List Bool := List.replicate (Int.toNat (a2.length : Int)) false; Z39.j0 K a1 a2 lp6 n t243 t244))) /\ (grd ((decide (0 <= (a2.length : Int)) && decide ((a2.length : Int) <= 35184372088832)) && decide ((a2.length : Int) = (a2.length : Int))) (let t245 : List Bool := List.replicate (Int.toNat (a2.length : Int)) false; grd ((decide (0 <= (a2.length : Int)) && decide ((a2.length : Int) <= 7818749353073)) && decide ((a2.length : Int) = (a2.length : Int))) (let t246 : List Int := List.replicate (Int.toNat (a2.length : Int)) 0; Z39.j0 K a1 a2 lp6 n t246 t245)))
def Z39.w (n : Nat) (lp6 : List (tDecl) -> Int -> Int -> Int -> List Int -> List Bool -> List (tTNode) -> (Int -> List Int -> List Bool -> Prop) -> (Bool -> List Int -> Prop) -> Prop) (a1 : List (tDecl)) (a2 : List (tTNode)) (K : List Int -> Bool -> Prop) : Prop :=
 if (decide ((a2.length : Int) < 1)) = false then (if (decide ((a2.length : Int) > 400)) = true then (K ([] : List (Int)) false) else (Z39.j1 K a1 a2 lp6 n)) else (K ([] : List (Int)) false)
def Z39.c : Nat -> List (tDecl) -> List (tTNode) -> (List Int -> Bool -> Prop) -> Prop
 | 0, _, _, _ => False
 | n + 1, a1, a2, K => Z39.w n (Z39.l6 n) a1 a2 K
def Z38.w (n : Nat) (a1 : List (tDecl)) (a2 : List (tTNode)) (K : Int -> Prop) : Prop :=
 Z39.c n a1 a2 (fun r3 r4 => if (!r4) = true then (K (-1)) else (grd (decide (0 <= IntKind.wrap .i64 ((r3.length : Int) - 1)) && decide (IntKind.wrap .i64 ((r3.length : Int) - 1) < (r3.length : Int))) (let t5 : Nat := Int.toNat (IntKind.wrap .i64 ((r3.length : Int) - 1)); K (rd r3 t5))))
def Z38.c : Nat -> List (tDecl) -> List (tTNode) -> (Int -> Prop) -> Prop
 | 0, _, _, _ => False
 | n + 1, a1, a2, K => Z38.w n  a1 a2 K
def Z30.l5.b (n : Nat) (x34 : List (tDecl)) (x36 : List (tLiteral)) (x37 : Int) (again5 : Int -> Int -> Prop) (x35 : Int) (x38 : Int) (Kx0w5 : Prop) (Kr5 : Bool -> Prop) : Prop :=
 if (decide (x38 < x37)) = true then (grd (decide (0 <= x38) && decide (x38 < (x36.length : Int))) (let t52 : List (tTNode) := ([] : List (tTNode)); let t53 : List (tTNode) := ([] : List (tTNode)); Z38.c n x34 ((((rd x36 (Int.toNat x38)).2).2).1) (fun r54 => Z29.c n ((rd x36 (Int.toNat x38)).1) (IntKind.wrap .i64 (x35 + 1)) 1000000 (fun r63 => if (!r63) = false then (if (decide (r54 < 0)) = false then (Z38.c n x34 ((((rd x36 (Int.toNat x38)).2).2).2) (fun r64 => if (!(decide (r54 = r64))) = true then (Kr5 false) else (again5 ((rd x36 (Int.toNat x38)).1) (IntKind.wrap .i64 (x38 + 1))))) else (Kr5 false)) else (Kr5 false))))) else (Kx0w5)
def Z30.l5 : Nat -> List (tDecl) -> List (tLiteral) -> Int -> Int -> Int -> Prop -> (Bool -> Prop) -> Prop
 | 0, _, _, _, _, _, _, _ => False
 | n + 1, x34, x36, x37, x35, x38, Kx0w5, Kr5 => Z30.l5.b n  x34 x36 x37 (fun x35q x38q => Z30.l5 n x34 x36 x37 x35q x38q Kx0w5 Kr5) x35 x38 Kx0w5 Kr5
def Z30.w (n : Nat) (lp5 : List (tDecl) -> List (tLiteral) -> Int -> Int -> Int -> Prop -> (Bool -> Prop) -> Prop) (a1 : List (tDecl)) (a2 : List (tLiteral)) (K : Bool -> Prop) : Prop :=
 if (decide ((a2.length : Int) > 60)) = true then (K false) else (lp5 a1 a2 (a2.length : Int) 0 0 (K true) (fun y66 => K y66))
def Z30.c : Nat -> List (tDecl) -> List (tLiteral) -> (Bool -> Prop) -> Prop
 | 0, _, _, _ => False
 | n + 1, a1, a2, K => Z30.w n (Z30.l5 n) a1 a2 K
def Z41.w (n : Nat) (a1 : Int) (K : Int -> List Int -> Prop) : Prop :=
 Z40.c n a1 (fun r2 => grd ((decide (0 <= r2) && decide (r2 <= 7818749353073)) && decide (r2 = r2)) (K a1 (List.replicate (Int.toNat r2) 0)))
def Z41.c : Nat -> Int -> (Int -> List Int -> Prop) -> Prop
 | 0, _, _ => False
 | n + 1, a1, K => Z41.w n  a1 K
def Z5.j3 (again2 : Int -> List Int -> Prop) (t65 : Int) (t73 : List Int) (x44 : List Int) (x46 : Int) (j75 : Bool) : Prop :=
 if j75 = true then (let t76 : Int := IntKind.wrap .i64 ((IntKind.wrap .i64 (Int.tdiv t65 64)) + 1); grd (decide (0 <= t76) && decide (t76 < (t73.length : Int))) (grd (decide (0 <= IntKind.wrap .i64 (64 - (Int.tmod t65 64)))) (let t77 : Int := Int.fdiv (rd x44 (Int.toNat x46)) (2 ^ (Nat.min (Int.toNat (IntKind.wrap .i64 (64 - (Int.tmod t65 64)))) 64)); grd (decide (0 <= t76) && decide (t76 < (t73.length : Int))) (let t78 : List Int := List.set t73 (Int.toNat t76) (ibits .or .u64 (rd t73 (Int.toNat t76)) t77); again2 (IntKind.wrap .i64 (x46 + 1)) t78)))) else (again2 (IntKind.wrap .i64 (x46 + 1)) t73)
def Z5.l2.b (n : Nat) (x43 : Int) (x44 : List Int) (x45 : Int) (x48 : Int) (again2 : Int -> List Int -> Prop) (x46 : Int) (x47 : List Int) (Kx0w2 : List Int -> Prop) : Prop :=
 if (decide (x46 < x45)) = true then (grd (decide (0 <= x46) && decide (x46 < (x44.length : Int))) (let t65 : Int := IntKind.wrap .i64 (x43 + (IntKind.wrap .i64 (64 * x46))); grd (decide (0 <= IntKind.wrap .i64 (Int.tdiv t65 64)) && decide (IntKind.wrap .i64 (Int.tdiv t65 64) < (x47.length : Int))) (let t70 : Nat := Int.toNat (IntKind.wrap .i64 (Int.tdiv t65 64)); grd (decide (0 <= Int.tmod t65 64)) (let t71 : Int := IntKind.wrap .u64 ((rd x44 (Int.toNat x46)) * 2 ^ (Nat.min (Int.toNat (Int.tmod t65 64)) 64)); grd (decide (0 <= IntKind.wrap .i64 (Int.tdiv t65 64)) && decide (IntKind.wrap .i64 (Int.tdiv t65 64) < (x47.length : Int))) (let t72 : Nat := Int.toNat (IntKind.wrap .i64 (Int.tdiv t65 64)); let t73 : List Int := List.set x47 t72 (ibits .or .u64 (rd x47 t70) t71); if (!(decide (Int.tmod t65 64 = 0))) = true then (let t79 : Int := IntKind.wrap .i64 ((IntKind.wrap .i64 (Int.tdiv t65 64)) + 1); Z5.j3 again2 t65 t73 x44 x46 (decide (t79 < (t73.length : Int)))) else (Z5.j3 again2 t65 t73 x44 x46 false)))))) else (Kx0w2 x47)
def Z5.l2 : Nat -> Int -> List Int -> Int -> Int -> Int -> List Int -> (List Int -> Prop) -> Prop
 | 0, _, _, _, _, _, _, _ => False
 | n + 1, x43, x44, x45, x48, x46, x47, Kx0w2 => Z5.l2.b n  x43 x44 x45 x48 (fun x46q x47q => Z5.l2 n x43 x44 x45 x48 x46q x47q Kx0w2) x46 x47 Kx0w2
def Z5.w (n : Nat) (lp2 : Int -> List Int -> Int -> Int -> Int -> List Int -> (List Int -> Prop) -> Prop) (a1 : Int) (a2 : List Int) (a3 : Int) (a4 : Int) (a5 : List Int) (K : Int -> List Int -> Prop) : Prop :=
 lp2 a3 a5 (a5.length : Int) a1 0 a2 (fun y80 => K a1 y80)
def Z5.c : Nat -> Int -> List Int -> Int -> Int -> List Int -> (Int -> List Int -> Prop) -> Prop
 | 0, _, _, _, _, _, _ => False
 | n + 1, a1, a2, a3, a4, a5, K => Z5.w n (Z5.l2 n) a1 a2 a3 a4 a5 K
def Z4.w (n : Nat) (a1 : Int) (a2 : List Int) (a3 : Int) (a4 : List Int) (K : Int -> List Int -> Prop) : Prop :=
 Z41.c n (IntKind.wrap .i64 (a1 + a3)) (fun r5 r6 => Z5.c n r5 r6 0 a3 a4 (fun r7 r8 => Z5.c n r5 r8 a3 a1 a2 (fun r9 r10 => K r5 r10)))
def Z4.c : Nat -> Int -> List Int -> Int -> List Int -> (Int -> List Int -> Prop) -> Prop
 | 0, _, _, _, _, _ => False
 | n + 1, a1, a2, a3, a4, K => Z4.w n  a1 a2 a3 a4 K
def Z3.j3 (again3 : Int -> List Int -> Prop) (t65 : Int) (t69 : Int) (x45 : Int) (x46 : List Int) (x49 : List Int) (j71 : Bool) : Prop :=
 if j71 = true then (grd (decide (0 <= x45) && decide (x45 < ((List.set x46 (Int.toNat x45) t69).length : Int))) (let t72 : Int := rd (List.set x46 (Int.toNat x45) t69) (Int.toNat x45); let t73 : Int := IntKind.wrap .i64 ((IntKind.wrap .i64 (Int.tdiv t65 64)) + 1); grd (decide (0 <= t73) && decide (t73 < (x49.length : Int))) (grd (decide (0 <= IntKind.wrap .i64 (64 - (Int.tmod t65 64)))) (let t74 : Int := IntKind.wrap .u64 ((rd x49 (Int.toNat t73)) * 2 ^ (Nat.min (Int.toNat (IntKind.wrap .i64 (64 - (Int.tmod t65 64)))) 64)); grd (decide (0 <= x45) && decide (x45 < ((List.set x46 (Int.toNat x45) t69).length : Int))) (let t75 : List Int := List.set (List.set x46 (Int.toNat x45) t69) (Int.toNat x45) (ibits .or .u64 t72 t74); again3 (IntKind.wrap .i64 (x45 + 1)) t75))))) else (again3 (IntKind.wrap .i64 (x45 + 1)) (List.set x46 (Int.toNat x45) t69))
def Z3.l3.b (n : Nat) (x42 : Int) (x43 : Int) (x44 : Int) (x47 : List Int) (x48 : Int) (x49 : List Int) (x50 : Int) (x51 : Int) (again3 : Int -> List Int -> Prop) (x45 : Int) (x46 : List Int) (Kx0w3 : Int -> List Int -> List Int -> Int -> Int -> Prop) : Prop :=
 if (decide (x45 < x44)) = true then (let t65 : Int := IntKind.wrap .i64 (x42 + (IntKind.wrap .i64 (64 * x45))); grd (decide (0 <= IntKind.wrap .i64 (Int.tdiv t65 64)) && decide (IntKind.wrap .i64 (Int.tdiv t65 64) < (x49.length : Int))) (let t68 : Int := rd x49 (Int.toNat (IntKind.wrap .i64 (Int.tdiv t65 64))); grd (decide (0 <= Int.tmod t65 64)) (let t69 : Int := Int.fdiv t68 (2 ^ (Nat.min (Int.toNat (Int.tmod t65 64)) 64)); grd (decide (0 <= x45) && decide (x45 < (x46.length : Int))) (if (!(decide (Int.tmod t65 64 = 0))) = true then (let t76 : Int := IntKind.wrap .i64 ((IntKind.wrap .i64 (Int.tdiv t65 64)) + 1); Z3.j3 again3 t65 t69 x45 x46 x49 (decide (t76 < (x49.length : Int)))) else (Z3.j3 again3 t65 t69 x45 x46 x49 false))))) else (Kx0w3 x43 x46 x47 x50 x51)
def Z3.l3 : Nat -> Int -> Int -> Int -> List Int -> Int -> List Int -> Int -> Int -> Int -> List Int -> (Int -> List Int -> List Int -> Int -> Int -> Prop) -> Prop
 | 0, _, _, _, _, _, _, _, _, _, _, _ => False
 | n + 1, x42, x43, x44, x47, x48, x49, x50, x51, x45, x46, Kx0w3 => Z3.l3.b n  x42 x43 x44 x47 x48 x49 x50 x51 (fun x45q x46q => Z3.l3 n x42 x43 x44 x47 x48 x49 x50 x51 x45q x46q Kx0w3) x45 x46 Kx0w3
def Z3.w (n : Nat) (lp3 : Int -> Int -> Int -> List Int -> Int -> List Int -> Int -> Int -> Int -> List Int -> (Int -> List Int -> List Int -> Int -> Int -> Prop) -> Prop) (a1 : Int) (a2 : List Int) (a3 : Int) (a4 : Int) (K : Int -> List Int -> Prop) : Prop :=
 Z41.c n a4 (fun r5 r6 => lp3 a3 a4 (r6.length : Int) ([] : List (Int)) a1 a2 0 r5 0 r6 (fun y82 y83 y84 y85 y86 => if (!(decide (Int.tmod y82 64 = 0))) = true then (grd (decide (0 <= IntKind.wrap .i64 ((y83.length : Int) - 1)) && decide (IntKind.wrap .i64 ((y83.length : Int) - 1) < (y83.length : Int))) (let t92 : Nat := Int.toNat (IntKind.wrap .i64 ((y83.length : Int) - 1)); grd (decide (0 <= Int.tmod y82 64)) (let t93 : Int := IntKind.wrap .u64 (1 * 2 ^ (Nat.min (Int.toNat (Int.tmod y82 64)) 64)); let t94 : Int := ibits .and .u64 (rd y83 t92) (IntKind.wrap .u64 (t93 - 1)); grd (decide (0 <= IntKind.wrap .i64 ((y83.length : Int) - 1)) && decide (IntKind.wrap .i64 ((y83.length : Int) - 1) < (y83.length : Int))) (let t95 : Nat := Int.toNat (IntKind.wrap .i64 ((y83.length : Int) - 1)); K y86 (List.set y83 t95 t94))))) else (K y86 y83)))
def Z3.c : Nat -> Int -> List Int -> Int -> Int -> (Int -> List Int -> Prop) -> Prop
 | 0, _, _, _, _, _ => False
 | n + 1, a1, a2, a3, a4, K => Z3.w n (Z3.l3 n) a1 a2 a3 a4 K
def Z44.w (n : Nat) (a1 : List Int) (K : List Int -> Prop) : Prop :=
 (a1.length = 0 -> (K ([] : List (Int)))) /\ (grd (decide (([] : List (Int)).length + a1.length <= 7818749353073)) (K (([] : List (Int)) ++ a1)))
def Z44.c : Nat -> List Int -> (List Int -> Prop) -> Prop
 | 0, _, _ => False
 | n + 1, a1, K => Z44.w n  a1 K
def Z24.w (n : Nat) (a1 : Int) (a2 : List Int) (K : Int -> List Int -> Prop) : Prop :=
 (Z44.c n a2 (fun r6 => K a1 r6)) /\ (Z44.c n a2 (fun r7 => K a1 r7))
def Z24.c : Nat -> Int -> List Int -> (Int -> List Int -> Prop) -> Prop
 | 0, _, _, _ => False
 | n + 1, a1, a2, K => Z24.w n  a1 a2 K
def Z9.w (n : Nat) (a1 : Int) (a2 : List Int) (a3 : Int) (K : Int -> List Int -> Prop) : Prop :=
 grd (!(decide (a1 = 0))) (if (decide (Int.tmod a3 a1 = 0)) = true then (Z24.c n a1 a2 (fun r6 r7 => K r6 r7)) else (let p75 : Prop := (let p61 : Prop := (Z3.c n a1 a2 0 (IntKind.wrap .i64 (a1 - (Int.tmod a3 a1))) (fun r49 r50 => Z3.c n a1 a2 (IntKind.wrap .i64 (a1 - (Int.tmod a3 a1))) (Int.tmod a3 a1) (fun r51 r52 => Z4.c n r49 r50 r51 r52 (fun r53 r54 => K r53 r54)))); (p61 /\ p61)); ((Z3.c n a1 a2 0 (IntKind.wrap .i64 (a1 - (Int.tmod a3 a1))) (fun r43 r44 => Z3.c n a1 a2 (IntKind.wrap .i64 (a1 - (Int.tmod a3 a1))) (Int.tmod a3 a1) (fun r45 r46 => Z4.c n r43 r44 r45 r46 (fun r47 r48 => K r47 r48)))) /\ p75 /\ p75)))
def Z9.c : Nat -> Int -> List Int -> Int -> (Int -> List Int -> Prop) -> Prop
 | 0, _, _, _, _ => False
 | n + 1, a1, a2, a3, K => Z9.w n  a1 a2 a3 K
def Z6.l3.b (n : Nat) (x18 : Int) (x21 : List Int) (x22 : Int) (x23 : List Int) (x24 : Int) (x25 : Int) (again3 : Int -> List Int -> Prop) (x19 : Int) (x20 : List Int) (Kx0w3 : List Int -> List Int -> Int -> Int -> Prop) : Prop :=
 if (decide (x19 < x18)) = true then (Z5.c n x25 x20 (IntKind.wrap .i64 (x19 * x22)) x22 x23 (fun r28 r29 => again3 (IntKind.wrap .i64 (x19 + 1)) r29)) else (Kx0w3 x20 x21 x24 x25)
def Z6.l3 : Nat -> Int -> List Int -> Int -> List Int -> Int -> Int -> Int -> List Int -> (List Int -> List Int -> Int -> Int -> Prop) -> Prop
 | 0, _, _, _, _, _, _, _, _, _ => False
 | n + 1, x18, x21, x22, x23, x24, x25, x19, x20, Kx0w3 => Z6.l3.b n  x18 x21 x22 x23 x24 x25 (fun x19q x20q => Z6.l3 n x18 x21 x22 x23 x24 x25 x19q x20q Kx0w3) x19 x20 Kx0w3
def Z6.w (n : Nat) (lp3 : Int -> List Int -> Int -> List Int -> Int -> Int -> Int -> List Int -> (List Int -> List Int -> Int -> Int -> Prop) -> Prop) (a1 : Int) (a2 : List Int) (a3 : Int) (K : Int -> List Int -> Prop) : Prop :=
 Z41.c n (IntKind.wrap .i64 (a3 * a1)) (fun r4 r5 => lp3 a3 ([] : List (Int)) a1 a2 0 r4 0 r5 (fun y34 y35 y36 y37 => K y37 y34))
def Z6.c : Nat -> Int -> List Int -> Int -> (Int -> List Int -> Prop) -> Prop
 | 0, _, _, _, _ => False
 | n + 1, a1, a2, a3, K => Z6.w n (Z6.l3 n) a1 a2 a3 K
def Z2.w (n : Nat) (a1 : Int) (a2 : List Int) (a3 : Int) (K : Int -> Prop) : Prop :=
 grd (decide (0 <= IntKind.wrap .i64 (Int.tdiv a3 64)) && decide (IntKind.wrap .i64 (Int.tdiv a3 64) < (a2.length : Int))) (let t4 : Int := rd a2 (Int.toNat (IntKind.wrap .i64 (Int.tdiv a3 64))); grd (decide (0 <= Int.tmod a3 64)) (let t5 : Int := Int.fdiv t4 (2 ^ (Nat.min (Int.toNat (Int.tmod a3 64)) 64)); K (ibits .and .u64 t5 1)))
def Z2.c : Nat -> Int -> List Int -> Int -> (Int -> Prop) -> Prop
 | 0, _, _, _, _ => False
 | n + 1, a1, a2, a3, K => Z2.w n  a1 a2 a3 K
def Z8.w (n : Nat) (a1 : Int) (a2 : List Int) (a3 : Int) (K : Int -> List Int -> Prop) : Prop :=
 grd (decide (0 <= IntKind.wrap .i64 (Int.tdiv a3 64)) && decide (IntKind.wrap .i64 (Int.tdiv a3 64) < (a2.length : Int))) (let t4 : Nat := Int.toNat (IntKind.wrap .i64 (Int.tdiv a3 64)); grd (decide (0 <= Int.tmod a3 64)) (let t5 : Int := IntKind.wrap .u64 (1 * 2 ^ (Nat.min (Int.toNat (Int.tmod a3 64)) 64)); grd (decide (0 <= IntKind.wrap .i64 (Int.tdiv a3 64)) && decide (IntKind.wrap .i64 (Int.tdiv a3 64) < (a2.length : Int))) (let t6 : Nat := Int.toNat (IntKind.wrap .i64 (Int.tdiv a3 64)); let t7 : List Int := List.set a2 t6 (ibits .or .u64 (rd a2 t4) t5); K a1 t7)))
def Z8.c : Nat -> Int -> List Int -> Int -> (Int -> List Int -> Prop) -> Prop
 | 0, _, _, _, _ => False
 | n + 1, a1, a2, a3, K => Z8.w n  a1 a2 a3 K
def Z10.l5.b (n : Nat) (x23 : Int) (x26 : List Int) (x27 : Int) (x28 : List Int) (x29 : Int) (x30 : Int) (again5 : Int -> List Int -> Prop) (x24 : Int) (x25 : List Int) (Kx0w5 : List Int -> List Int -> Int -> Int -> Prop) : Prop :=
 if (decide (x24 < x23)) = true then (Z8.c n x30 x25 (IntKind.wrap .i64 (x27 + x24)) (fun r33 r34 => again5 (IntKind.wrap .i64 (x24 + 1)) r34)) else (Kx0w5 x25 x26 x29 x30)
def Z10.l5 : Nat -> Int -> List Int -> Int -> List Int -> Int -> Int -> Int -> List Int -> (List Int -> List Int -> Int -> Int -> Prop) -> Prop
 | 0, _, _, _, _, _, _, _, _, _ => False
 | n + 1, x23, x26, x27, x28, x29, x30, x24, x25, Kx0w5 => Z10.l5.b n  x23 x26 x27 x28 x29 x30 (fun x24q x25q => Z10.l5 n x23 x26 x27 x28 x29 x30 x24q x25q Kx0w5) x24 x25 Kx0w5
def Z10.w (n : Nat) (lp5 : Int -> List Int -> Int -> List Int -> Int -> Int -> Int -> List Int -> (List Int -> List Int -> Int -> Int -> Prop) -> Prop) (a1 : Int) (a2 : List Int) (a3 : Int) (a4 : Bool) (K : Int -> List Int -> Prop) : Prop :=
 Z41.c n (IntKind.wrap .i64 (a1 + a3)) (fun r5 r6 => Z5.c n r5 r6 0 a1 a2 (fun r7 r8 => if a4 = true then (Z2.c n a1 a2 (IntKind.wrap .i64 (a1 - 1)) (fun r54 => if (decide (r54 = 1)) = true then (lp5 a3 ([] : List (Int)) a1 a2 0 r5 0 r8 (fun y55 y56 y57 y58 => K y58 y55)) else (K r5 r8))) else (K r5 r8)))
def Z10.c : Nat -> Int -> List Int -> Int -> Bool -> (Int -> List Int -> Prop) -> Prop
 | 0, _, _, _, _, _ => False
 | n + 1, a1, a2, a3, a4, K => Z10.w n (Z10.l5 n) a1 a2 a3 a4 K
def Z20.l9.b (n : Nat) (x16 : List (tBits)) (x17 : Int) (x19 : List Int) (x20 : Int) (again9 : Int -> Int -> List Int -> Prop) (x18 : Int) (x21 : Int) (x22 : List Int) (Kx1w9 : List Int -> Int -> Int -> List Int -> Prop) : Prop :=
 if (decide (x18 < x17)) = true then (grd (decide (0 <= x18) && decide (x18 < (x16.length : Int))) (Z4.c n x21 x22 ((rd x16 (Int.toNat x18)).1) ((rd x16 (Int.toNat x18)).2) (fun r25 r26 => again9 (IntKind.wrap .i64 (x18 + 1)) r25 r26))) else (Kx1w9 x19 x20 x21 x22)
def Z20.l9 : Nat -> List (tBits) -> Int -> List Int -> Int -> Int -> Int -> List Int -> (List Int -> Int -> Int -> List Int -> Prop) -> Prop
 | 0, _, _, _, _, _, _, _, _ => False
 | n + 1, x16, x17, x19, x20, x18, x21, x22, Kx1w9 => Z20.l9.b n  x16 x17 x19 x20 (fun x18q x21q x22q => Z20.l9 n x16 x17 x19 x20 x18q x21q x22q Kx1w9) x18 x21 x22 Kx1w9
def Z20.w (n : Nat) (lp9 : List (tBits) -> Int -> List Int -> Int -> Int -> Int -> List Int -> (List Int -> Int -> Int -> List Int -> Prop) -> Prop) (a1 : tTNode) (a2 : List (tBits)) (a3 : List (tBits)) (K : Int -> List Int -> Prop) : Prop :=
 if (decide (a1.1 = 1)) = true then (grd (decide (0 <= a1.2.1) && decide (a1.2.1 < (a2.length : Int))) (K ((rd a2 (Int.toNat a1.2.1)).1) ((rd a2 (Int.toNat a1.2.1)).2))) else (if (decide (a1.1 = 2)) = true then (K a1.2.2.2.2.1 a1.2.2.2.2.2.1) else (if (decide (a1.1 = 3)) = true then (grd (decide (0 < (a3.length : Int))) (grd (decide (1 <= (a3.length : Int))) (let t41 : List (tBits) := List.drop 1 (List.take (Int.toNat (a3.length : Int)) a3); lp9 t41 (t41.length : Int) ([] : List (Int)) 0 0 ((rd a3 0).1) ((rd a3 0).2) (fun y42 y43 y44 y45 => K y44 y45)))) else (grd (decide (0 < (a3.length : Int))) (if (decide (a1.1 = 4)) = true then (let t69 : Int := IntKind.wrap .i64 ((IntKind.wrap .i64 (a1.2.2.1 - a1.2.2.2.1)) + 1); Z3.c n ((rd a3 0).1) ((rd a3 0).2) a1.2.2.2.1 t69 (fun r70 r71 => K r70 r71)) else (if (decide (a1.1 = 7)) = true then (Z9.c n ((rd a3 0).1) ((rd a3 0).2) a1.2.2.1 (fun r74 r75 => K r74 r75)) else (if (decide (a1.1 = 8)) = true then (grd (!(decide ((rd a3 0).1 = 0))) (let t79 : Int := IntKind.wrap .i64 (((rd a3 0).1) - (Int.tmod a1.2.2.1 ((rd a3 0).1))); Z9.c n ((rd a3 0).1) ((rd a3 0).2) t79 (fun r80 r81 => K r80 r81))) else (if (decide (a1.1 = 9)) = true then (Z6.c n ((rd a3 0).1) ((rd a3 0).2) a1.2.2.1 (fun r84 r85 => K r84 r85)) else (Z10.c n ((rd a3 0).1) ((rd a3 0).2) a1.2.2.1 (decide (a1.1 = 6)) (fun r88 r89 => K r88 r89)))))))))
def Z20.c : Nat -> tTNode -> List (tBits) -> List (tBits) -> (Int -> List Int -> Prop) -> Prop
 | 0, _, _, _, _ => False
 | n + 1, a1, a2, a3, K => Z20.w n (Z20.l9 n) a1 a2 a3 K
def Z28.l8.b (n : Nat) (x31 : List (tBits)) (x32 : Int) (x33 : tTNode) (x34 : Int) (x35 : Int) (x36 : List Int) (x37 : Int) (x39 : List (tBits)) (x41 : List Int) (x42 : List (tTNode)) (x43 : Int) (again8 : Int -> List (tBits) -> Prop) (x38 : Int) (x40 : List (tBits)) (Kx2w8 : List (tBits) -> Int -> tTNode -> Int -> Int -> List (tBits) -> List (tBits) -> List Int -> List (tTNode) -> Int -> Prop) : Prop :=
 if (decide (x38 < x37)) = true then (grd (decide (0 <= x38) && decide (x38 < (x36.length : Int))) (grd (decide (0 <= rd x36 (Int.toNat x38)) && decide (rd x36 (Int.toNat x38) < (x39.length : Int))) (let t46 : Int := (rd x39 (Int.toNat (rd x36 (Int.toNat x38)))).1; let t47 : List Int := (rd x39 (Int.toNat (rd x36 (Int.toNat x38)))).2; grd (decide (0 <= x38) && decide (x38 < (x40.length : Int))) (again8 (IntKind.wrap .i64 (x38 + 1)) (List.set x40 (Int.toNat x38) (t46, t47)))))) else (Kx2w8 x31 x32 x33 x34 x35 x39 x40 x41 x42 x43)
def Z28.l8 : Nat -> List (tBits) -> Int -> tTNode -> Int -> Int -> List Int -> Int -> List (tBits) -> List Int -> List (tTNode) -> Int -> Int -> List (tBits) -> (List (tBits) -> Int -> tTNode -> Int -> Int -> List (tBits) -> List (tBits) -> List Int -> List (tTNode) -> Int -> Prop) -> Prop
 | 0, _, _, _, _, _, _, _, _, _, _, _, _, _, _ => False
 | n + 1, x31, x32, x33, x34, x35, x36, x37, x39, x41, x42, x43, x38, x40, Kx2w8 => Z28.l8.b n  x31 x32 x33 x34 x35 x36 x37 x39 x41 x42 x43 (fun x38q x40q => Z28.l8 n x31 x32 x33 x34 x35 x36 x37 x39 x41 x42 x43 x38q x40q Kx2w8) x38 x40 Kx2w8
def Z28.l3.b (n : Nat) (lp8 : List (tBits) -> Int -> tTNode -> Int -> Int -> List Int -> Int -> List (tBits) -> List Int -> List (tTNode) -> Int -> Int -> List (tBits) -> (List (tBits) -> Int -> tTNode -> Int -> Int -> List (tBits) -> List (tBits) -> List Int -> List (tTNode) -> Int -> Prop) -> Prop) (again3 : List (tBits) -> Int -> Int -> List (tBits) -> List Int -> List (tTNode) -> Int -> Prop) (x97 : List (tBits)) (x98 : Int) (x99 : Int) (x100 : List (tBits)) (x101 : List Int) (x102 : List (tTNode)) (x103 : Int) (Kx0w3 : List (tBits) -> List Int -> Int -> Prop) : Prop :=
 if (decide (x99 < x98)) = true then (grd (decide (0 <= x99) && decide (x99 < (x102.length : Int))) (let t130 : List Int := ((((((rd x102 (Int.toNat x99)).2).2).2).2).2).2; grd ((decide (0 <= (t130.length : Int)) && decide ((t130.length : Int) <= 2132386187201)) && decide ((t130.length : Int) = (t130.length : Int))) (let t131 : List (tBits) := List.replicate (Int.toNat (t130.length : Int)) (0, ([] : List (Int))); let t143 : List Int := ((((((rd x102 (Int.toNat x99)).2).2).2).2).2).2; lp8 x97 x99 (rd x102 (Int.toNat x99)) x98 x99 t143 (t143.length : Int) x100 x101 x102 x103 0 t131 (fun y144 y145 y146 y147 y148 y149 y150 y151 y152 y153 => Z20.c n y146 y144 y150 (fun r154 r155 => grd (decide (0 <= y145) && decide (y145 < (y149.length : Int))) (again3 y144 y147 (IntKind.wrap .i64 (y148 + 1)) (List.set y149 (Int.toNat y145) (r154, r155)) y151 y152 y153)))))) else (Kx0w3 x100 x101 x103)
def Z28.l3 : Nat -> List (tBits) -> Int -> Int -> List (tBits) -> List Int -> List (tTNode) -> Int -> (List (tBits) -> List Int -> Int -> Prop) -> Prop
 | 0, _, _, _, _, _, _, _, _ => False
 | n + 1, x97, x98, x99, x100, x101, x102, x103, Kx0w3 => Z28.l3.b n (Z28.l8 n)  (fun x97q x98q x99q x100q x101q x102q x103q => Z28.l3 n x97q x98q x99q x100q x101q x102q x103q Kx0w3) x97 x98 x99 x100 x101 x102 x103 Kx0w3
def Z28.w (n : Nat) (lp3 : List (tBits) -> Int -> Int -> List (tBits) -> List Int -> List (tTNode) -> Int -> (List (tBits) -> List Int -> Int -> Prop) -> Prop) (a1 : List (tBits)) (a2 : List (tTNode)) (K : Int -> List Int -> Prop) : Prop :=
 grd ((decide (0 <= (a2.length : Int)) && decide ((a2.length : Int) <= 2132386187201)) && decide ((a2.length : Int) = (a2.length : Int))) (let t3 : List (tBits) := List.replicate (Int.toNat (a2.length : Int)) (0, ([] : List (Int))); lp3 a1 (a2.length : Int) 0 t3 ([] : List (Int)) a2 0 (fun y159 y160 y161 => grd (decide (0 <= IntKind.wrap .i64 ((y159.length : Int) - 1)) && decide (IntKind.wrap .i64 ((y159.length : Int) - 1) < (y159.length : Int))) (let t162 : Nat := Int.toNat (IntKind.wrap .i64 ((y159.length : Int) - 1)); Z24.c n ((rd y159 t162).1) ((rd y159 t162).2) (fun r163 r164 => K r163 r164))))
def Z28.c : Nat -> List (tBits) -> List (tTNode) -> (Int -> List Int -> Prop) -> Prop
 | 0, _, _, _ => False
 | n + 1, a1, a2, K => Z28.w n (Z28.l3 n) a1 a2 K
def Z47.l4.b (n : Nat) (x13 : List Int) (x14 : List Int) (x15 : Int) (again4 : Int -> Prop) (x16 : Int) (Kx0w4 : Prop) (Kr4 : Bool -> Prop) : Prop :=
 if (decide (x16 < x15)) = true then (grd (decide (0 <= x16) && decide (x16 < (x13.length : Int))) (grd (decide (0 <= x16) && decide (x16 < (x14.length : Int))) (let t20 : Bool := !(decide (rd x13 (Int.toNat x16) = rd x14 (Int.toNat x16))); if t20 = true then (Kr4 false) else (again4 (IntKind.wrap .i64 (x16 + 1)))))) else (Kx0w4)
def Z47.l4 : Nat -> List Int -> List Int -> Int -> Int -> Prop -> (Bool -> Prop) -> Prop
 | 0, _, _, _, _, _, _ => False
 | n + 1, x13, x14, x15, x16, Kx0w4, Kr4 => Z47.l4.b n  x13 x14 x15 (fun x16q => Z47.l4 n x13 x14 x15 x16q Kx0w4 Kr4) x16 Kx0w4 Kr4
def Z47.w (n : Nat) (lp4 : List Int -> List Int -> Int -> Int -> Prop -> (Bool -> Prop) -> Prop) (a1 : List Int) (a2 : List Int) (K : Bool -> Prop) : Prop :=
 let t4 : Bool := !(decide ((a1.length : Int) = (a2.length : Int))); if t4 = true then (K false) else (lp4 a1 a2 (a1.length : Int) 0 (K true) (fun y22 => K y22))
def Z47.c : Nat -> List Int -> List Int -> (Bool -> Prop) -> Prop
 | 0, _, _, _ => False
 | n + 1, a1, a2, K => Z47.w n (Z47.l4 n) a1 a2 K
def Z7.w (n : Nat) (a1 : Int) (a2 : List Int) (a3 : Int) (a4 : List Int) (K : Bool -> Prop) : Prop :=
 if (decide (a1 = a3)) = true then (Z47.c n a2 a4 (fun r7 => K r7)) else (K false)
def Z7.c : Nat -> Int -> List Int -> Int -> List Int -> (Bool -> Prop) -> Prop
 | 0, _, _, _, _, _ => False
 | n + 1, a1, a2, a3, a4, K => Z7.w n  a1 a2 a3 a4 K
def Z16.w (n : Nat) (a1 : tLiteral) (a2 : List (tBits)) (K : Bool -> Prop) : Prop :=
 (Z28.c n a2 a1.2.2.1 (fun r38 r39 => (Z28.c n a2 a1.2.2.2 (fun r40 r41 => (Z7.c n r38 r39 r40 r41 (fun r42 => K (r42 == a1.2.1))) /\ (Z7.c n r38 r39 r40 r41 (fun r43 => K (r43 == a1.2.1))))) /\ (Z28.c n a2 a1.2.2.2 (fun r44 r45 => Z7.c n r38 r39 r44 r45 (fun r46 => K (r46 == a1.2.1)))))) /\ ((Z28.c n a2 a1.2.2.1 (fun r47 r48 => (Z28.c n a2 a1.2.2.2 (fun r49 r50 => (Z7.c n r47 r48 r49 r50 (fun r51 => K (r51 == a1.2.1))) /\ (Z7.c n r47 r48 r49 r50 (fun r52 => K (r52 == a1.2.1))))) /\ (Z28.c n a2 a1.2.2.2 (fun r53 r54 => Z7.c n r47 r48 r53 r54 (fun r55 => K (r55 == a1.2.1)))))) /\ (Z28.c n a2 a1.2.2.1 (fun r56 r57 => Z28.c n a2 a1.2.2.2 (fun r58 r59 => Z7.c n r56 r57 r58 r59 (fun r60 => K (r60 == a1.2.1)))))) /\ (let p71 : Prop := (Z28.c n a2 a1.2.2.1 (fun r61 r62 => Z28.c n a2 a1.2.2.2 (fun r63 r64 => Z7.c n r61 r62 r63 r64 (fun r65 => K (r65 == a1.2.1))))); (p71 /\ p71))
def Z16.c : Nat -> tLiteral -> List (tBits) -> (Bool -> Prop) -> Prop
 | 0, _, _, _ => False
 | n + 1, a1, a2, K => Z16.w n  a1 a2 K
def Z15.w (n : Nat) (a1 : Int) (a2 : Bool) (a3 : List (tTNode)) (a4 : List (tTNode)) (a5 : List (tBits)) (K : Bool -> Prop) : Prop :=
 Z16.c n (a1, a2, a3, a4) a5 (fun r6 => K (!r6))
def Z15.c : Nat -> Int -> Bool -> List (tTNode) -> List (tTNode) -> List (tBits) -> (Bool -> Prop) -> Prop
 | 0, _, _, _, _, _, _ => False
 | n + 1, a1, a2, a3, a4, a5, K => Z15.w n  a1 a2 a3 a4 a5 K
def Z49.l2.b (n : Nat) (x9 : List (tLiteral)) (x10 : List (tBits)) (x11 : Int) (again2 : Int -> Prop) (x12 : Int) (Kx0w2 : Prop) (Kr2 : Int -> Prop) : Prop :=
 if (decide (x12 < x11)) = true then (grd (decide (0 <= x12) && decide (x12 < (x9.length : Int))) (Z15.c n ((rd x9 (Int.toNat x12)).1) (((rd x9 (Int.toNat x12)).2).1) ((((rd x9 (Int.toNat x12)).2).2).1) ((((rd x9 (Int.toNat x12)).2).2).2) x10 (fun r14 => if r14 = true then (Kr2 x12) else (again2 (IntKind.wrap .i64 (x12 + 1)))))) else (Kx0w2)
def Z49.l2 : Nat -> List (tLiteral) -> List (tBits) -> Int -> Int -> Prop -> (Int -> Prop) -> Prop
 | 0, _, _, _, _, _, _ => False
 | n + 1, x9, x10, x11, x12, Kx0w2, Kr2 => Z49.l2.b n  x9 x10 x11 (fun x12q => Z49.l2 n x9 x10 x11 x12q Kx0w2 Kr2) x12 Kx0w2 Kr2
def Z49.w (n : Nat) (lp2 : List (tLiteral) -> List (tBits) -> Int -> Int -> Prop -> (Int -> Prop) -> Prop) (a1 : List (tLiteral)) (a2 : List (tBits)) (K : Int -> Prop) : Prop :=
 lp2 a1 a2 (a1.length : Int) 0 (K (-1)) (fun y16 => K y16)
def Z49.c : Nat -> List (tLiteral) -> List (tBits) -> (Int -> Prop) -> Prop
 | 0, _, _, _ => False
 | n + 1, a1, a2, K => Z49.w n (Z49.l2 n) a1 a2 K
def Z14.j0 (K : Int -> Prop) (a2 : List (tBits)) (a3 : List (tLiteral)) (n : Nat) : Prop :=
 Z49.c n a3 a2 (fun r9 => if (decide (r9 < 0)) = true then (K 0) else (grd (decide (0 <= r9) && decide (r9 < (a3.length : Int))) (K ((rd a3 (Int.toNat r9)).1))))
def Z14.w (n : Nat) (a1 : List (tDecl)) (a2 : List (tBits)) (a3 : List (tLiteral)) (K : Int -> Prop) : Prop :=
 Z23.c n a1 a2 (fun r13 => if (!r13) = false then (Z30.c n a1 a3 (fun r14 => if (!r14) = true then (K (-1)) else (Z14.j0 K a2 a3 n))) else (K (-1)))
def Z14.c : Nat -> List (tDecl) -> List (tBits) -> List (tLiteral) -> (Int -> Prop) -> Prop
 | 0, _, _, _, _ => False
 | n + 1, a1, a2, a3, K => Z14.w n  a1 a2 a3 K
def Z85.j1 (again5 : Int -> List (tDecl) -> List Int -> Int -> Prop) (n : Nat) (x22 : Int) (x23 : List (tDecl)) (x24 : List Int) (x25 : Int) : Prop :=
 Z73.c n x24 x25 (if 4 < x22 then 4 else x22) (fun r27 r28 r29 => let t30 : Int := IntKind.wrap .u8 (IntKind.wrap .i64 (97 + (x23.length : Int))); let t31 : List (tDecl) := ([(bytesStr ([t30] : List (Int)), IntKind.wrap .i64 (1 + r27))] : List (tDecl)); grd (decide (x23.length + t31.length <= 2814749767106)) (let t32 : Int := IntKind.wrap .i64 (x22 - (IntKind.wrap .i64 (1 + r27))); again5 t32 (x23 ++ t31) r28 r29))
def Z85.l5.b (n : Nat) (again5 : Int -> List (tDecl) -> List Int -> Int -> Prop) (x22 : Int) (x23 : List (tDecl)) (x24 : List Int) (x25 : Int) (Kx0w5 : List (tDecl) -> List Int -> Int -> Prop) : Prop :=
 if (decide (x22 > 0)) = true then (if (decide ((x23.length : Int) < 4)) = true then (Z85.j1 again5 n x22 x23 x24 x25) else (Kx0w5 x23 x24 x25)) else (Kx0w5 x23 x24 x25)
def Z85.l5 : Nat -> Int -> List (tDecl) -> List Int -> Int -> (List (tDecl) -> List Int -> Int -> Prop) -> Prop
 | 0, _, _, _, _, _ => False
 | n + 1, x22, x23, x24, x25, Kx0w5 => Z85.l5.b n   (fun x22q x23q x24q x25q => Z85.l5 n x22q x23q x24q x25q Kx0w5) x22 x23 x24 x25 Kx0w5
def Z85.j2 (K : List (tDecl) -> List (tLiteral) -> List Int -> Int -> Prop) (n : Nat) (j43 : List (tDecl)) (j44 : List Int) (j45 : Int) : Prop :=
 Z78.c n j44 j45 j43 3 (fun r46 r47 r48 => if (decide ((r46.length : Int) > 5)) = true then (grd (decide (5 <= (r46.length : Int)) && true) (K j43 (List.take 5 r46) r47 r48)) else (K j43 r46 r47 r48))
def Z85.j3 (K : List (tDecl) -> List (tLiteral) -> List Int -> Int -> Prop) (lp5 : Int -> List (tDecl) -> List Int -> Int -> (List (tDecl) -> List Int -> Int -> Prop) -> Prop) (n : Nat) (j7 : Int) (j8 : List Int) (j9 : Int) : Prop :=
 lp5 j7 ([] : List (tDecl)) j8 j9 (fun y37 y38 y39 => Z81.c n y38 y39 24 (fun r49 r50 r51 => if r49 = true then (grd (decide (0 < (y37.length : Int))) (Z85.j2 K n (List.set y37 0 ((rd y37 0).1, 15)) r50 r51)) else (Z85.j2 K n y37 r50 r51)))
def Z85.w (n : Nat) (lp5 : Int -> List (tDecl) -> List Int -> Int -> (List (tDecl) -> List Int -> Int -> Prop) -> Prop) (a1 : List Int) (a2 : Int) (K : List (tDecl) -> List (tLiteral) -> List Int -> Int -> Prop) : Prop :=
 let t3 : List (tLiteral) := ([] : List (tLiteral)); Z81.c n a1 a2 20 (fun r52 r53 r54 => if r52 = true then (Z85.j3 K lp5 n 8 r53 r54) else (Z85.j3 K lp5 n 7 r53 r54))
def Z85.c : Nat -> List Int -> Int -> (List (tDecl) -> List (tLiteral) -> List Int -> Int -> Prop) -> Prop
 | 0, _, _, _ => False
 | n + 1, a1, a2, K => Z85.w n (Z85.l5 n) a1 a2 K
def Z57.w (n : Nat) (a1 : List Int) (K : List (tDecl) -> List (tLiteral) -> Prop) : Prop :=
 let t2 : List (tLiteral) := ([] : List (tLiteral)); Z72.c n a1 (fun r3 r4 => Z85.c n r3 r4 (fun r5 r6 r7 r8 => K r5 r6))
def Z57.c : Nat -> List Int -> (List (tDecl) -> List (tLiteral) -> Prop) -> Prop
 | 0, _, _ => False
 | n + 1, a1, K => Z57.w n  a1 K
def Z17.w (n : Nat) (a1 : List (tDecl)) (a2 : List (tLiteral)) (K : Bool -> Prop) : Prop :=
 Z13.c n a1 (fun r6 => if r6 = true then (Z30.c n a1 a2 (fun r7 => K r7)) else (K false))
def Z17.c : Nat -> List (tDecl) -> List (tLiteral) -> (Bool -> Prop) -> Prop
 | 0, _, _, _ => False
 | n + 1, a1, a2, K => Z17.w n  a1 a2 K
def Z36.l3.b (n : Nat) (x9 : List (tDecl)) (x10 : Int) (again3 : Int -> Int -> Prop) (x8 : Int) (x11 : Int) (Kx0w3 : Int -> Prop) : Prop :=
 if (decide (x11 < x10)) = true then (grd (decide (0 <= x11) && decide (x11 < (x9.length : Int))) (let t13 : Int := IntKind.wrap .i64 (x8 + ((rd x9 (Int.toNat x11)).2)); again3 t13 (IntKind.wrap .i64 (x11 + 1)))) else (Kx0w3 x8)
def Z36.l3 : Nat -> List (tDecl) -> Int -> Int -> Int -> (Int -> Prop) -> Prop
 | 0, _, _, _, _, _ => False
 | n + 1, x9, x10, x8, x11, Kx0w3 => Z36.l3.b n  x9 x10 (fun x8q x11q => Z36.l3 n x9 x10 x8q x11q Kx0w3) x8 x11 Kx0w3
def Z36.w (n : Nat) (lp3 : List (tDecl) -> Int -> Int -> Int -> (Int -> Prop) -> Prop) (a1 : List (tDecl)) (K : Int -> Prop) : Prop :=
 lp3 a1 (a1.length : Int) 0 0 (fun y15 => K y15)
def Z36.c : Nat -> List (tDecl) -> (Int -> Prop) -> Prop
 | 0, _, _ => False
 | n + 1, a1, K => Z36.w n (Z36.l3 n) a1 K
def Z25.w (n : Nat) (a1 : List (tDecl)) (a2 : List (tLiteral)) (K : Bool -> Prop) : Prop :=
 Z17.c n a1 a2 (fun r6 => if r6 = true then (Z36.c n a1 (fun r7 => K (decide (r7 <= 14)))) else (K false))
def Z25.c : Nat -> List (tDecl) -> List (tLiteral) -> (Bool -> Prop) -> Prop
 | 0, _, _, _ => False
 | n + 1, a1, a2, K => Z25.w n  a1 a2 K
def Z0.j0 (K : Int -> List Int -> Bool -> Prop) (a1 : Int) (a2 : Int) (n : Nat) (j12 : Bool) : Prop :=
 if j12 = true then (K 0 ([] : List (Int)) false) else (Z41.c n a1 (fun r13 r14 => grd (decide (0 < (r14.length : Int))) (K r13 (List.set r14 0 (IntKind.wrap .u64 a2)) true)))
def Z0.w (n : Nat) (a1 : Int) (a2 : Int) (K : Int -> List Int -> Bool -> Prop) : Prop :=
 Z29.c n a1 1 4096 (fun r15 => if (!r15) = false then (if (decide (a2 < 0)) = false then (if (decide (a1 < 63)) = true then (grd (decide (0 <= a1)) (let t16 : Int := Int.fdiv a2 (2 ^ (Nat.min (Int.toNat a1) 64)); Z0.j0 K a1 a2 n (!(decide (t16 = 0))))) else (Z0.j0 K a1 a2 n false)) else (Z0.j0 K a1 a2 n true)) else (Z0.j0 K a1 a2 n true))
def Z0.c : Nat -> Int -> Int -> (Int -> List Int -> Bool -> Prop) -> Prop
 | 0, _, _, _ => False
 | n + 1, a1, a2, K => Z0.w n  a1 a2 K
def Z35.l3.b (n : Nat) (x20 : List (tDecl)) (again3 : Int -> Int -> List (tBits) -> Prop) (x21 : Int) (x22 : Int) (x23 : List (tBits)) (Kx0w3 : List (tBits) -> Prop) : Prop :=
 if (decide (x22 >= 0)) = true then (grd (decide (0 <= x22) && decide (x22 < (x20.length : Int))) (grd (decide (0 <= (rd x20 (Int.toNat x22)).2)) (let t30 : Int := IntKind.wrap .i64 (1 * 2 ^ (Nat.min (Int.toNat ((rd x20 (Int.toNat x22)).2)) 64)); let t31 : Int := ibits .and .i64 x21 (IntKind.wrap .i64 (t30 - 1)); Z0.c n ((rd x20 (Int.toNat x22)).2) t31 (fun r32 r33 r34 => grd (decide (0 <= x22) && decide (x22 < (x23.length : Int))) (grd (decide (0 <= (rd x20 (Int.toNat x22)).2)) (let t35 : Int := Int.fdiv x21 (2 ^ (Nat.min (Int.toNat ((rd x20 (Int.toNat x22)).2)) 64)); again3 t35 (IntKind.wrap .i64 (x22 - 1)) (List.set x23 (Int.toNat x22) (r32, r33)))))))) else (Kx0w3 x23)
def Z35.l3 : Nat -> List (tDecl) -> Int -> Int -> List (tBits) -> (List (tBits) -> Prop) -> Prop
 | 0, _, _, _, _, _ => False
 | n + 1, x20, x21, x22, x23, Kx0w3 => Z35.l3.b n  x20 (fun x21q x22q x23q => Z35.l3 n x20 x21q x22q x23q Kx0w3) x21 x22 x23 Kx0w3
def Z35.w (n : Nat) (lp3 : List (tDecl) -> Int -> Int -> List (tBits) -> (List (tBits) -> Prop) -> Prop) (a1 : List (tDecl)) (a2 : Int) (K : List (tBits) -> Prop) : Prop :=
 grd ((decide (0 <= (a1.length : Int)) && decide ((a1.length : Int) <= 2132386187201)) && decide ((a1.length : Int) = (a1.length : Int))) (let t3 : List (tBits) := List.replicate (Int.toNat (a1.length : Int)) (0, ([] : List (Int))); lp3 a1 a2 (IntKind.wrap .i64 ((a1.length : Int) - 1)) t3 (fun y37 => K y37))
def Z35.c : Nat -> List (tDecl) -> Int -> (List (tBits) -> Prop) -> Prop
 | 0, _, _, _ => False
 | n + 1, a1, a2, K => Z35.w n (Z35.l3 n) a1 a2 K
def Z31.w (n : Nat) (a1 : Int) (a2 : Bool) (a3 : List (tTNode)) (a4 : List (tTNode)) (a5 : List (tBits)) (K : Bool -> Prop) : Prop :=
 Z16.c n (a1, a2, a3, a4) a5 (fun r6 => K (!r6))
def Z31.c : Nat -> Int -> Bool -> List (tTNode) -> List (tTNode) -> List (tBits) -> (Bool -> Prop) -> Prop
 | 0, _, _, _, _, _, _ => False
 | n + 1, a1, a2, a3, a4, a5, K => Z31.w n  a1 a2 a3 a4 a5 K
def Z50.l2.b (n : Nat) (x9 : List (tLiteral)) (x10 : List (tBits)) (x11 : Int) (again2 : Int -> Prop) (x12 : Int) (Kx0w2 : Prop) (Kr2 : Int -> Prop) : Prop :=
 if (decide (x12 < x11)) = true then (grd (decide (0 <= x12) && decide (x12 < (x9.length : Int))) (Z31.c n ((rd x9 (Int.toNat x12)).1) (((rd x9 (Int.toNat x12)).2).1) ((((rd x9 (Int.toNat x12)).2).2).1) ((((rd x9 (Int.toNat x12)).2).2).2) x10 (fun r14 => if r14 = true then (Kr2 x12) else (again2 (IntKind.wrap .i64 (x12 + 1)))))) else (Kx0w2)
def Z50.l2 : Nat -> List (tLiteral) -> List (tBits) -> Int -> Int -> Prop -> (Int -> Prop) -> Prop
 | 0, _, _, _, _, _, _ => False
 | n + 1, x9, x10, x11, x12, Kx0w2, Kr2 => Z50.l2.b n  x9 x10 x11 (fun x12q => Z50.l2 n x9 x10 x11 x12q Kx0w2 Kr2) x12 Kx0w2 Kr2
def Z50.w (n : Nat) (lp2 : List (tLiteral) -> List (tBits) -> Int -> Int -> Prop -> (Int -> Prop) -> Prop) (a1 : List (tLiteral)) (a2 : List (tBits)) (K : Int -> Prop) : Prop :=
 lp2 a1 a2 (a1.length : Int) 0 (K (-1)) (fun y16 => K y16)
def Z50.c : Nat -> List (tLiteral) -> List (tBits) -> (Int -> Prop) -> Prop
 | 0, _, _, _ => False
 | n + 1, a1, a2, K => Z50.w n (Z50.l2 n) a1 a2 K
def Z45.w (n : Nat) (a1 : List (tLiteral)) (a2 : List (tBits)) (K : Bool -> Prop) : Prop :=
 Z50.c n a1 a2 (fun r3 => K (decide (r3 >= 0)))
def Z45.c : Nat -> List (tLiteral) -> List (tBits) -> (Bool -> Prop) -> Prop
 | 0, _, _, _ => False
 | n + 1, a1, a2, K => Z45.w n  a1 a2 K
def Z12.w (n : Nat) (a1 : Int) (a2 : Int) (K : Bool -> Int -> Prop) : Prop :=
 K true (IntKind.wrap .i64 (a2 + 1))
def Z12.c : Nat -> Int -> Int -> (Bool -> Int -> Prop) -> Prop
 | 0, _, _, _ => False
 | n + 1, a1, a2, K => Z12.w n  a1 a2 K
def Z32.l1.b (n : Nat) (x22 : List (tDecl)) (x23 : List (tLiteral)) (x24 : Int) (again1 : Int -> Int -> Prop) (x25 : Int) (x26 : Int) (Kx0w1 : Int -> Prop) (Kr1 : Int -> Prop) : Prop :=
 if (decide (x25 < x24)) = true then (Z35.c n x22 x25 (fun r33 => Z45.c n x23 r33 (fun r35 => if r35 = true then (again1 (IntKind.wrap .i64 (x25 + 1)) x26) else (Z12.c n x25 x26 (fun r36 r37 => if (!r36) = true then (Kr1 r37) else (again1 (IntKind.wrap .i64 (x25 + 1)) r37)))))) else (Kx0w1 x26)
def Z32.l1 : Nat -> List (tDecl) -> List (tLiteral) -> Int -> Int -> Int -> (Int -> Prop) -> (Int -> Prop) -> Prop
 | 0, _, _, _, _, _, _, _ => False
 | n + 1, x22, x23, x24, x25, x26, Kx0w1, Kr1 => Z32.l1.b n  x22 x23 x24 (fun x25q x26q => Z32.l1 n x22 x23 x24 x25q x26q Kx0w1 Kr1) x25 x26 Kx0w1 Kr1
def Z32.w (n : Nat) (lp1 : List (tDecl) -> List (tLiteral) -> Int -> Int -> Int -> (Int -> Prop) -> (Int -> Prop) -> Prop) (a1 : List (tDecl)) (a2 : List (tLiteral)) (a3 : Int) (K : Int -> Prop) : Prop :=
 Z36.c n a1 (fun r4 => grd (decide (0 <= r4)) (let t5 : Int := IntKind.wrap .i64 (1 * 2 ^ (Nat.min (Int.toNat r4) 64)); lp1 a1 a2 t5 0 a3 (fun y38 => K y38) (fun y39 => K y39)))
def Z32.c : Nat -> List (tDecl) -> List (tLiteral) -> Int -> (Int -> Prop) -> Prop
 | 0, _, _, _, _ => False
 | n + 1, a1, a2, a3, K => Z32.w n (Z32.l1 n) a1 a2 a3 K
def Z11.w (n : Nat) (a1 : List (tDecl)) (a2 : List (tLiteral)) (K : Int -> Prop) : Prop :=
 Z25.c n a1 a2 (fun r4 => if (!r4) = true then (K (-1)) else (Z32.c n a1 a2 0 (fun r5 => K r5)))
def Z11.c : Nat -> List (tDecl) -> List (tLiteral) -> (Int -> Prop) -> Prop
 | 0, _, _, _ => False
 | n + 1, a1, a2, K => Z11.w n  a1 a2 K
def Z65.l4.b (n : Nat) (x8 : List (tDecl)) (again4 : Int -> Int -> List Int -> Prop) (x9 : Int) (x10 : Int) (x11 : List Int) (Kx0w4 : Int -> List Int -> Prop) : Prop :=
 if (decide (x10 < (x8.length : Int))) = true then (grd (decide (x11.length + ([x9] : List (Int)).length <= 7818749353073)) (grd (decide (0 <= x10) && decide (x10 < (x8.length : Int))) (let t13 : Int := IntKind.wrap .i64 (x9 + ((rd x8 (Int.toNat x10)).2)); again4 t13 (IntKind.wrap .i64 (x10 + 1)) (x11 ++ ([x9] : List (Int)))))) else (Kx0w4 x9 x11)
def Z65.l4 : Nat -> List (tDecl) -> Int -> Int -> List Int -> (Int -> List Int -> Prop) -> Prop
 | 0, _, _, _, _, _ => False
 | n + 1, x8, x9, x10, x11, Kx0w4 => Z65.l4.b n  x8 (fun x9q x10q x11q => Z65.l4 n x8 x9q x10q x11q Kx0w4) x9 x10 x11 Kx0w4
def Z65.w (n : Nat) (lp4 : List (tDecl) -> Int -> Int -> List Int -> (Int -> List Int -> Prop) -> Prop) (a1 : List (tDecl)) (K : List Int -> Int -> Prop) : Prop :=
 lp4 a1 0 0 ([] : List (Int)) (fun y16 y17 => K y17 y16)
def Z65.c : Nat -> List (tDecl) -> (List Int -> Int -> Prop) -> Prop
 | 0, _, _ => False
 | n + 1, a1, K => Z65.w n (Z65.l4 n) a1 K
def Z87.w (n : Nat) (a1 : List (tDecl)) (a2 : List (tLiteral)) (K : Int -> Prop) : Prop :=
 Z59.c n a1 a2 (fun r4 => if (!r4) = true then (K (-1)) else (Z65.c n a1 (fun r5 r6 => if (decide (r6 > 14)) = true then (K (-1)) else (K r6))))
def Z87.c : Nat -> List (tDecl) -> List (tLiteral) -> (Int -> Prop) -> Prop
 | 0, _, _, _ => False
 | n + 1, a1, a2, K => Z87.w n  a1 a2 K
def Z52.l5.b (n : Nat) (x14 : Int) (x18 : List Int) (x19 : Int) (again5 : Int -> Int -> List Int -> Prop) (x15 : Int) (x16 : Int) (x17 : List Int) (Kx0w5 : Int -> List Int -> List Int -> Int -> Prop) : Prop :=
 if (decide (x16 < x14)) = true then (let t21 : List Int := ([IntKind.wrap .u8 (Int.tmod x15 2)] : List (Int)); grd (decide (x17.length + t21.length <= 35184372088832)) (again5 (IntKind.wrap .i64 (Int.tdiv x15 2)) (IntKind.wrap .i64 (x16 + 1)) (x17 ++ t21))) else (Kx0w5 x15 x17 x18 x19)
def Z52.l5 : Nat -> Int -> List Int -> Int -> Int -> Int -> List Int -> (Int -> List Int -> List Int -> Int -> Prop) -> Prop
 | 0, _, _, _, _, _, _, _ => False
 | n + 1, x14, x18, x19, x15, x16, x17, Kx0w5 => Z52.l5.b n  x14 x18 x19 (fun x15q x16q x17q => Z52.l5 n x14 x18 x19 x15q x16q x17q Kx0w5) x15 x16 x17 Kx0w5
def Z52.j0 (K : Int -> List Int -> Bool -> Prop) (a1 : Int) (a2 : Int) (lp5 : Int -> List Int -> Int -> Int -> Int -> List Int -> (Int -> List Int -> List Int -> Int -> Prop) -> Prop) (n : Nat) : Prop :=
 lp5 a1 ([] : List (Int)) 0 a2 0 ([] : List (Int)) (fun y26 y27 y28 y29 => if (decide (y26 > 0)) = true then (K 0 ([] : List (Int)) false) else (Z68.c n y27 (fun r30 r31 r32 => K r30 r31 r32)))
def Z52.w (n : Nat) (lp5 : Int -> List Int -> Int -> Int -> Int -> List Int -> (Int -> List Int -> List Int -> Int -> Prop) -> Prop) (a1 : Int) (a2 : Int) (K : Int -> List Int -> Bool -> Prop) : Prop :=
 Z69.c n a1 1 4096 (fun r35 => if (!r35) = false then (if (decide (a2 < 0)) = true then (K 0 ([] : List (Int)) false) else (Z52.j0 K a1 a2 lp5 n)) else (K 0 ([] : List (Int)) false))
def Z52.c : Nat -> Int -> Int -> (Int -> List Int -> Bool -> Prop) -> Prop
 | 0, _, _, _ => False
 | n + 1, a1, a2, K => Z52.w n (Z52.l5 n) a1 a2 K
def Z86.l3.b (n : Nat) (x22 : List (tDecl)) (again3 : Int -> Int -> List (tBits) -> Prop) (x23 : Int) (x24 : Int) (x25 : List (tBits)) (Kx0w3 : List (tBits) -> Prop) : Prop :=
 if (decide (x24 >= 0)) = true then (grd (decide (0 <= x24) && decide (x24 < (x22.length : Int))) (let t34 : Int := IntKind.wrap .u64 ((rd x22 (Int.toNat x24)).2); grd (decide (0 <= t34)) (let t35 : Int := IntKind.wrap .i64 (1 * 2 ^ (Nat.min (Int.toNat t34) 64)); grd (decide (0 <= x24) && decide (x24 < (x22.length : Int))) (grd (!(decide (t35 = 0))) (Z52.c n ((rd x22 (Int.toNat x24)).2) (Int.tmod x23 t35) (fun r39 r40 r41 => grd (decide (0 <= x24) && decide (x24 < (x25.length : Int))) (grd (!(decide (t35 = 0))) (again3 (IntKind.wrap .i64 (Int.tdiv x23 t35)) (IntKind.wrap .i64 (x24 - 1)) (List.set x25 (Int.toNat x24) (r39, r40)))))))))) else (Kx0w3 x25)
def Z86.l3 : Nat -> List (tDecl) -> Int -> Int -> List (tBits) -> (List (tBits) -> Prop) -> Prop
 | 0, _, _, _, _, _ => False
 | n + 1, x22, x23, x24, x25, Kx0w3 => Z86.l3.b n  x22 (fun x23q x24q x25q => Z86.l3 n x22 x23q x24q x25q Kx0w3) x23 x24 x25 Kx0w3
def Z86.w (n : Nat) (lp3 : List (tDecl) -> Int -> Int -> List (tBits) -> (List (tBits) -> Prop) -> Prop) (a1 : List (tDecl)) (a2 : Int) (K : List (tBits) -> Prop) : Prop :=
 grd ((decide (0 <= (a1.length : Int)) && decide ((a1.length : Int) <= 2132386187201)) && decide ((a1.length : Int) = (a1.length : Int))) (let t3 : List (tBits) := List.replicate (Int.toNat (a1.length : Int)) (0, ([] : List (Int))); lp3 a1 a2 (IntKind.wrap .i64 ((a1.length : Int) - 1)) t3 (fun y43 => K y43))
def Z86.c : Nat -> List (tDecl) -> Int -> (List (tBits) -> Prop) -> Prop
 | 0, _, _, _ => False
 | n + 1, a1, a2, K => Z86.w n (Z86.l3 n) a1 a2 K
def Z84.l2.b (n : Nat) (x148 : List (tBits)) (x149 : List (tLiteral)) (again2 : Int -> Prop) (x150 : Int) (Kx0w2 : Prop) (Kr2 : Bool -> Prop) : Prop :=
 if (decide (x150 < (x149.length : Int))) = true then (grd (decide (0 <= x150) && decide (x150 < (x149.length : Int))) (grd (decide (0 <= x150) && decide (x150 < (x149.length : Int))) (grd (decide (0 <= x150) && decide (x150 < (x149.length : Int))) ((Z98.c n x148 ((((rd x149 (Int.toNat x150)).2).2).1) (fun r288 r289 => (Z98.c n x148 ((((rd x149 (Int.toNat x150)).2).2).2) (fun r290 r291 => let p296 : Prop := (Z95.c n r288 r289 r290 r291 (fun r292 => let t293 : Bool := !(r292 == (((rd x149 (Int.toNat x150)).2).1)); if t293 = true then (Kr2 false) else (again2 (IntKind.wrap .i64 (x150 + 1))))); (p296 /\ p296))) /\ (Z98.c n x148 ((((rd x149 (Int.toNat x150)).2).2).2) (fun r297 r298 => Z95.c n r288 r289 r297 r298 (fun r299 => let t300 : Bool := !(r299 == (((rd x149 (Int.toNat x150)).2).1)); if t300 = true then (Kr2 false) else (again2 (IntKind.wrap .i64 (x150 + 1)))))))) /\ ((Z98.c n x148 ((((rd x149 (Int.toNat x150)).2).2).1) (fun r301 r302 => (Z98.c n x148 ((((rd x149 (Int.toNat x150)).2).2).2) (fun r303 r304 => let p309 : Prop := (Z95.c n r301 r302 r303 r304 (fun r305 => let t306 : Bool := !(r305 == (((rd x149 (Int.toNat x150)).2).1)); if t306 = true then (Kr2 false) else (again2 (IntKind.wrap .i64 (x150 + 1))))); (p309 /\ p309))) /\ (Z98.c n x148 ((((rd x149 (Int.toNat x150)).2).2).2) (fun r310 r311 => Z95.c n r301 r302 r310 r311 (fun r312 => let t313 : Bool := !(r312 == (((rd x149 (Int.toNat x150)).2).1)); if t313 = true then (Kr2 false) else (again2 (IntKind.wrap .i64 (x150 + 1)))))))) /\ (Z98.c n x148 ((((rd x149 (Int.toNat x150)).2).2).1) (fun r314 r315 => Z98.c n x148 ((((rd x149 (Int.toNat x150)).2).2).2) (fun r316 r317 => Z95.c n r314 r315 r316 r317 (fun r318 => let t319 : Bool := !(r318 == (((rd x149 (Int.toNat x150)).2).1)); if t319 = true then (Kr2 false) else (again2 (IntKind.wrap .i64 (x150 + 1)))))))) /\ (let p332 : Prop := (Z98.c n x148 ((((rd x149 (Int.toNat x150)).2).2).1) (fun r320 r321 => Z98.c n x148 ((((rd x149 (Int.toNat x150)).2).2).2) (fun r322 r323 => Z95.c n r320 r321 r322 r323 (fun r324 => let t325 : Bool := !(r324 == (((rd x149 (Int.toNat x150)).2).1)); if t325 = true then (Kr2 false) else (again2 (IntKind.wrap .i64 (x150 + 1))))))); (p332 /\ p332)))))) else (Kx0w2)
def Z84.l2 : Nat -> List (tBits) -> List (tLiteral) -> Int -> Prop -> (Bool -> Prop) -> Prop
 | 0, _, _, _, _, _ => False
 | n + 1, x148, x149, x150, Kx0w2, Kr2 => Z84.l2.b n  x148 x149 (fun x150q => Z84.l2 n x148 x149 x150q Kx0w2 Kr2) x150 Kx0w2 Kr2
def Z84.w (n : Nat) (lp2 : List (tBits) -> List (tLiteral) -> Int -> Prop -> (Bool -> Prop) -> Prop) (a1 : List (tBits)) (a2 : List (tLiteral)) (K : Bool -> Prop) : Prop :=
 lp2 a1 a2 0 (K true) (fun y334 => K y334)
def Z84.c : Nat -> List (tBits) -> List (tLiteral) -> (Bool -> Prop) -> Prop
 | 0, _, _, _ => False
 | n + 1, a1, a2, K => Z84.w n (Z84.l2 n) a1 a2 K
end Go.Vsi
end

section
set_option linter.unusedVariables false
set_option synthInstance.maxSize 4096
namespace Go.Vsi
def Z55.l6.b (n : Nat) (x16 : List (tDecl)) (x17 : List (tLiteral)) (x18 : Int) (again6 : Int -> Int -> Prop) (x19 : Int) (x20 : Int) (Kx0w6 : Int -> Prop) : Prop :=
 grd (decide (0 <= IntKind.wrap .u64 x18)) (let t22 : Int := IntKind.wrap .i64 (1 * 2 ^ (Nat.min (Int.toNat (IntKind.wrap .u64 x18)) 64)); if (decide (x20 < t22)) = true then (Z86.c n x16 x20 (fun r26 => Z84.c n r26 x17 (fun r27 => if r27 = true then (again6 (IntKind.wrap .i64 (x19 + 1)) (IntKind.wrap .i64 (x20 + 1))) else (again6 x19 (IntKind.wrap .i64 (x20 + 1)))))) else (Kx0w6 x19))
def Z55.l6 : Nat -> List (tDecl) -> List (tLiteral) -> Int -> Int -> Int -> (Int -> Prop) -> Prop
 | 0, _, _, _, _, _, _ => False
 | n + 1, x16, x17, x18, x19, x20, Kx0w6 => Z55.l6.b n  x16 x17 x18 (fun x19q x20q => Z55.l6 n x16 x17 x18 x19q x20q Kx0w6) x19 x20 Kx0w6
def Z55.w (n : Nat) (lp6 : List (tDecl) -> List (tLiteral) -> Int -> Int -> Int -> (Int -> Prop) -> Prop) (a1 : List (tDecl)) (a2 : List (tLiteral)) (K : Int -> Prop) : Prop :=
 Z87.c n a1 a2 (fun r3 => if (decide (r3 < 0)) = true then (K (-1)) else (lp6 a1 a2 r3 0 0 (fun y29 => K y29)))
def Z55.c : Nat -> List (tDecl) -> List (tLiteral) -> (Int -> Prop) -> Prop
 | 0, _, _, _ => False
 | n + 1, a1, a2, K => Z55.w n (Z55.l6 n) a1 a2 K
def Z19.w (n : Nat) (a1 : Int) (a2 : Int) (a3 : Int) (K : Bool -> Int -> Int -> Prop) : Prop :=
 if (decide (a2 = 0)) = true then (K (decide (a1 < 0)) (IntKind.wrap .i64 (a2 - 1)) a1) else (K (decide (a3 < 0)) (IntKind.wrap .i64 (a2 - 1)) a3)
def Z19.c : Nat -> Int -> Int -> Int -> (Bool -> Int -> Int -> Prop) -> Prop
 | 0, _, _, _, _ => False
 | n + 1, a1, a2, a3, K => Z19.w n  a1 a2 a3 K
def Z33.l1.b (n : Nat) (x27 : List (tDecl)) (x28 : List (tLiteral)) (x29 : Int) (again1 : Int -> Int -> Int -> Prop) (x30 : Int) (x31 : Int) (x32 : Int) (Kx0w1 : Int -> Int -> Prop) (Kr1 : Int -> Int -> Prop) : Prop :=
 if (decide (x30 < x29)) = true then (Z35.c n x27 x30 (fun r41 => Z45.c n x28 r41 (fun r43 => if r43 = true then (again1 (IntKind.wrap .i64 (x30 + 1)) x31 x32) else (Z19.c n x30 x31 x32 (fun r44 r45 r46 => if (!r44) = true then (Kr1 r45 r46) else (again1 (IntKind.wrap .i64 (x30 + 1)) r45 r46)))))) else (Kx0w1 x31 x32)
def Z33.l1 : Nat -> List (tDecl) -> List (tLiteral) -> Int -> Int -> Int -> Int -> (Int -> Int -> Prop) -> (Int -> Int -> Prop) -> Prop
 | 0, _, _, _, _, _, _, _, _ => False
 | n + 1, x27, x28, x29, x30, x31, x32, Kx0w1, Kr1 => Z33.l1.b n  x27 x28 x29 (fun x30q x31q x32q => Z33.l1 n x27 x28 x29 x30q x31q x32q Kx0w1 Kr1) x30 x31 x32 Kx0w1 Kr1
def Z33.w (n : Nat) (lp1 : List (tDecl) -> List (tLiteral) -> Int -> Int -> Int -> Int -> (Int -> Int -> Prop) -> (Int -> Int -> Prop) -> Prop) (a1 : List (tDecl)) (a2 : List (tLiteral)) (a3 : Int) (a4 : Int) (K : Int -> Int -> Prop) : Prop :=
 Z36.c n a1 (fun r5 => grd (decide (0 <= r5)) (let t6 : Int := IntKind.wrap .i64 (1 * 2 ^ (Nat.min (Int.toNat r5) 64)); lp1 a1 a2 t6 0 a3 a4 (fun y47 y48 => K y47 y48) (fun y49 y50 => K y49 y50)))
def Z33.c : Nat -> List (tDecl) -> List (tLiteral) -> Int -> Int -> (Int -> Int -> Prop) -> Prop
 | 0, _, _, _, _, _ => False
 | n + 1, a1, a2, a3, a4, K => Z33.w n (Z33.l1 n) a1 a2 a3 a4 K
def Z18.j0 (K : List (tBits) -> Bool -> Prop) (a1 : List (tDecl)) (a2 : List (tLiteral)) (a3 : Int) (n : Nat) : Prop :=
 Z33.c n a1 a2 a3 (-1) (fun r7 r8 => if (decide (r8 < 0)) = true then (K ([] : List (tBits)) false) else (Z35.c n a1 r8 (fun r9 => K r9 true)))
def Z18.w (n : Nat) (a1 : List (tDecl)) (a2 : List (tLiteral)) (a3 : Int) (K : List (tBits) -> Bool -> Prop) : Prop :=
 Z25.c n a1 a2 (fun r12 => if (!r12) = false then (if (decide (a3 < 0)) = true then (K ([] : List (tBits)) false) else (Z18.j0 K a1 a2 a3 n)) else (K ([] : List (tBits)) false))
def Z18.c : Nat -> List (tDecl) -> List (tLiteral) -> Int -> (List (tBits) -> Bool -> Prop) -> Prop
 | 0, _, _, _, _ => False
 | n + 1, a1, a2, a3, K => Z18.w n  a1 a2 a3 K
def Z43.w (n : Nat) (a1 : Int) (a2 : List Int) (K : Int -> List Int -> Prop) : Prop :=
 let p7 : Prop := (let p4 : Prop := (grd (decide (([] : List (Int)).length + a2.length <= 7818749353073)) (K a1 (([] : List (Int)) ++ a2))); (p4 /\ p4)); (p7 /\ p7 /\ ((grd (decide (([] : List (Int)).length + a2.length <= 7818749353073)) (K a1 (([] : List (Int)) ++ a2))) /\ (let p6 : Prop := (grd (decide (([] : List (Int)).length + a2.length <= 7818749353073)) (K a1 (([] : List (Int)) ++ a2))); (p6 /\ p6))))
def Z43.c : Nat -> Int -> List Int -> (Int -> List Int -> Prop) -> Prop
 | 0, _, _, _ => False
 | n + 1, a1, a2, K => Z43.w n  a1 a2 K
def Z54.l4.b (n : Nat) (x20 : Int) (x21 : List Int) (x22 : Int) (x23 : List Int) (again4 : Int -> Prop) (x19 : Int) (Kx0w4 : Prop) (Kr4 : Int -> Prop) : Prop :=
 if (decide (x19 >= 0)) = true then (Z66.c n x20 x21 x19 (fun r26 => Z66.c n x22 x23 x19 (fun r27 => if (decide (r26 < r27)) = true then (Kr4 (-1)) else (if (decide (r26 > r27)) = true then (Kr4 1) else (again4 (IntKind.wrap .i64 (x19 - 1))))))) else (Kx0w4)
def Z54.l4 : Nat -> Int -> List Int -> Int -> List Int -> Int -> Prop -> (Int -> Prop) -> Prop
 | 0, _, _, _, _, _, _, _ => False
 | n + 1, x20, x21, x22, x23, x19, Kx0w4, Kr4 => Z54.l4.b n  x20 x21 x22 x23 (fun x19q => Z54.l4 n x20 x21 x22 x23 x19q Kx0w4 Kr4) x19 Kx0w4 Kr4
def Z54.w (n : Nat) (lp4 : Int -> List Int -> Int -> List Int -> Int -> Prop -> (Int -> Prop) -> Prop) (a1 : Int) (a2 : List Int) (a3 : Int) (a4 : List Int) (K : Int -> Prop) : Prop :=
 Z53.c n a1 a2 (fun r35 => if (!r35) = false then (Z53.c n a3 a4 (fun r36 => if (!r36) = false then (if (!(decide (a1 = a3))) = true then (K (-2)) else (lp4 a1 a2 a3 a4 (IntKind.wrap .i64 (a1 - 1)) (K 0) (fun y38 => K y38))) else (K (-2)))) else (K (-2)))
def Z54.c : Nat -> Int -> List Int -> Int -> List Int -> (Int -> Prop) -> Prop
 | 0, _, _, _, _, _ => False
 | n + 1, a1, a2, a3, a4, K => Z54.w n (Z54.l4 n) a1 a2 a3 a4 K
def laws_FnNumbered.l16.b (n : Nat) (x39 : Int) (x40 : Int) (x42 : List (tDecl)) (x43 : List (tLiteral)) (x44 : List (tBits)) (x45 : List Int) (x47 : Int) (again16 : Int -> List Int -> Int -> Prop) (x41 : Int) (x46 : List Int) (x48 : Int) (Kx2w16 : Int -> Int -> List (tDecl) -> List (tLiteral) -> List Int -> List Int -> Int -> Int -> Prop) : Prop :=
 if (decide (x41 < (x44.length : Int))) = true then (grd (decide (0 <= x41) && decide (x41 < (x44.length : Int))) (Z58.c n x48 x46 ((rd x44 (Int.toNat x41)).1) ((rd x44 (Int.toNat x41)).2) (fun r52 r53 r54 => again16 (IntKind.wrap .i64 (x41 + 1)) r53 r52))) else (Kx2w16 x39 x40 x42 x43 x45 x46 x47 x48)
def laws_FnNumbered.l16 : Nat -> Int -> Int -> List (tDecl) -> List (tLiteral) -> List (tBits) -> List Int -> Int -> Int -> List Int -> Int -> (Int -> Int -> List (tDecl) -> List (tLiteral) -> List Int -> List Int -> Int -> Int -> Prop) -> Prop
 | 0, _, _, _, _, _, _, _, _, _, _, _ => False
 | n + 1, x39, x40, x42, x43, x44, x45, x47, x41, x46, x48, Kx2w16 => laws_FnNumbered.l16.b n  x39 x40 x42 x43 x44 x45 x47 (fun x41q x46q x48q => laws_FnNumbered.l16 n x39 x40 x42 x43 x44 x45 x47 x41q x46q x48q Kx2w16) x41 x46 x48 Kx2w16
def laws_FnNumbered.j4 (Kr9 : Bool -> Prop) (again9 : Int -> Int -> List (tDecl) -> List (tLiteral) -> List Int -> Int -> Prop) (lp16 : Int -> Int -> List (tDecl) -> List (tLiteral) -> List (tBits) -> List Int -> Int -> Int -> List Int -> Int -> (Int -> Int -> List (tDecl) -> List (tLiteral) -> List Int -> List Int -> Int -> Int -> Prop) -> Prop) (n : Nat) (r164 : List (tBits)) (x119 : Int) (x120 : Int) (x121 : List (tDecl)) (x122 : List (tLiteral)) (x123 : List Int) (x124 : Int) : Prop :=
 grd (decide (0 < (r164.length : Int))) (Z43.c n ((rd r164 0).1) ((rd r164 0).2) (fun r169 r170 => lp16 x119 x120 x121 x122 r164 x123 x124 1 r170 r169 (fun y179 y180 y181 y182 y183 y184 y185 y186 => if (decide (y180 > 0)) = true then (Z54.c n y185 y183 y186 y184 (fun r192 => if (!(decide (r192 = (-1)))) = true then (Kr9 false) else (again9 y179 (IntKind.wrap .i64 (y180 + 1)) y181 y182 y184 y186))) else (again9 y179 (IntKind.wrap .i64 (y180 + 1)) y181 y182 y184 y186))))
def laws_FnNumbered.j5 (Kr9 : Bool -> Prop) (again9 : Int -> Int -> List (tDecl) -> List (tLiteral) -> List Int -> Int -> Prop) (lp16 : Int -> Int -> List (tDecl) -> List (tLiteral) -> List (tBits) -> List Int -> Int -> Int -> List Int -> Int -> (Int -> Int -> List (tDecl) -> List (tLiteral) -> List Int -> List Int -> Int -> Int -> Prop) -> Prop) (n : Nat) (x119 : Int) (x120 : Int) (x121 : List (tDecl)) (x122 : List (tLiteral)) (x123 : List Int) (x124 : Int) : Prop :=
 Z18.c n x121 x122 x120 (fun r164 r165 => if (!r165) = false then (Z14.c n x121 r164 x122 (fun r195 => if (!(decide (r195 = 0))) = true then (Kr9 false) else (laws_FnNumbered.j4 Kr9 again9 lp16 n r164 x119 x120 x121 x122 x123 x124))) else (Kr9 false))
def laws_FnNumbered.l9.b (n : Nat) (lp16 : Int -> Int -> List (tDecl) -> List (tLiteral) -> List (tBits) -> List Int -> Int -> Int -> List Int -> Int -> (Int -> Int -> List (tDecl) -> List (tLiteral) -> List Int -> List Int -> Int -> Int -> Prop) -> Prop) (again9 : Int -> Int -> List (tDecl) -> List (tLiteral) -> List Int -> Int -> Prop) (x119 : Int) (x120 : Int) (x121 : List (tDecl)) (x122 : List (tLiteral)) (x123 : List Int) (x124 : Int) (Kx0w9 : Int -> List (tDecl) -> List (tLiteral) -> Prop) (Kr9 : Bool -> Prop) : Prop :=
 if (decide (x120 < x119)) = true then (if (decide (x120 < 40)) = true then (laws_FnNumbered.j5 Kr9 again9 lp16 n x119 x120 x121 x122 x123 x124) else (Kx0w9 x119 x121 x122)) else (Kx0w9 x119 x121 x122)
def laws_FnNumbered.l9 : Nat -> Int -> Int -> List (tDecl) -> List (tLiteral) -> List Int -> Int -> (Int -> List (tDecl) -> List (tLiteral) -> Prop) -> (Bool -> Prop) -> Prop
 | 0, _, _, _, _, _, _, _, _ => False
 | n + 1, x119, x120, x121, x122, x123, x124, Kx0w9, Kr9 => laws_FnNumbered.l9.b n (laws_FnNumbered.l16 n)  (fun x119q x120q x121q x122q x123q x124q => laws_FnNumbered.l9 n x119q x120q x121q x122q x123q x124q Kx0w9 Kr9) x119 x120 x121 x122 x123 x124 Kx0w9 Kr9
def laws_FnNumbered.w (n : Nat) (lp9 : Int -> Int -> List (tDecl) -> List (tLiteral) -> List Int -> Int -> (Int -> List (tDecl) -> List (tLiteral) -> Prop) -> (Bool -> Prop) -> Prop) (a1 : List Int) (K : Bool -> Prop) : Prop :=
 Z42.c n a1 (fun r3 => if r3 = true then (K true) else (Z57.c n a1 (fun r4 r5 => Z11.c n r4 r5 (fun r6 => Z55.c n r4 r5 (fun r8 => if (!(decide (r6 = r8))) = true then (K false) else (lp9 r6 0 r4 r5 ([] : List (Int)) 0 (fun y201 y202 y203 => Z18.c n y202 y203 (if 0 > y201 then 0 else y201) (fun r204 r205 => K (!r205))) (fun y206 => K y206)))))))
def laws_FnNumbered.c : Nat -> List Int -> (Bool -> Prop) -> Prop
 | 0, _, _ => False
 | n + 1, a1, K => laws_FnNumbered.w n (laws_FnNumbered.l9 n) a1 K
end Go.Vsi
end
