/- Go functions, told on plain data. No statement is proved here. -/
import Derived.Test.YtligefedbeibiaaM1

section
set_option linter.unusedVariables false
set_option synthInstance.maxSize 4096
namespace Go.Vsi
def Z6.w (n : Nat) (a1 : List Int) (K : Bool -> Prop) : Prop :=
 K (decide ((a1.length : Int) > 1048576))
def Z6.c : Nat -> List Int -> (Bool -> Prop) -> Prop
 | 0, _, _ => False
 | n + 1, a1, K => Z6.w n  a1 K
def Z20.w (n : Nat) (a1 : List Int) (K : List Int -> Int -> Prop) : Prop :=
 K a1 0
def Z20.c : Nat -> List Int -> (List Int -> Int -> Prop) -> Prop
 | 0, _, _ => False
 | n + 1, a1, K => Z20.w n  a1 K
def Z24.w (n : Nat) (a1 : List Int) (a2 : Int) (K : Int -> List Int -> Int -> Prop) : Prop :=
 if (decide (a2 >= (a1.length : Int))) = true then (K 0 a1 a2) else (let t4 : Int := IntKind.wrap .i64 ((IntKind.wrap .i64 (a2 + 1)) - 1); grd (decide (0 <= t4) && decide (t4 < (a1.length : Int))) (K (IntKind.wrap .i64 (rd a1 (Int.toNat t4))) a1 (IntKind.wrap .i64 (a2 + 1))))
def Z24.c : Nat -> List Int -> Int -> (Int -> List Int -> Int -> Prop) -> Prop
 | 0, _, _, _ => False
 | n + 1, a1, a2, K => Z24.w n  a1 a2 K
def Z21.w (n : Nat) (a1 : List Int) (a2 : Int) (a3 : Int) (K : Int -> List Int -> Int -> Prop) : Prop :=
 if (decide (a3 <= 1)) = true then (K 0 a1 a2) else (if (decide (a3 <= 256)) = true then (Z24.c n a1 a2 (fun r7 r8 r9 => grd (!(decide (a3 = 0))) (K (Int.tmod r7 a3) r8 r9))) else (Z24.c n a1 a2 (fun r10 r11 r12 => Z24.c n r11 r12 (fun r13 r14 r15 => let t16 : Int := IntKind.wrap .i64 ((IntKind.wrap .i64 (r10 * 256)) + r13); grd (!(decide (a3 = 0))) (K (Int.tmod t16 a3) r14 r15)))))
def Z21.c : Nat -> List Int -> Int -> Int -> (Int -> List Int -> Int -> Prop) -> Prop
 | 0, _, _, _, _ => False
 | n + 1, a1, a2, a3, K => Z21.w n  a1 a2 a3 K
def Z28.w (n : Nat) (a1 : List Int) (a2 : Int) (K : Int -> List Int -> Int -> Prop) : Prop :=
 Z21.c n a1 a2 10 (fun r13 r14 r15 => if (decide (r13 = 0)) = true then (let t16 : List Int := ([63, 64, 65, 127, 128, 129, 200] : List (Int)); Z21.c n r14 r15 7 (fun r17 r18 r19 => grd (decide (0 <= r17) && decide (r17 < (t16.length : Int))) (K (rd t16 (Int.toNat r17)) r18 r19))) else (if (decide (r13 = 1)) = true then (Z21.c n r14 r15 40 (fun r20 r21 r22 => K (IntKind.wrap .i64 (1 + r20)) r21 r22)) else (Z21.c n r14 r15 12 (fun r23 r24 r25 => K (IntKind.wrap .i64 (1 + r23)) r24 r25))))
def Z28.c : Nat -> List Int -> Int -> (Int -> List Int -> Int -> Prop) -> Prop
 | 0, _, _, _ => False
 | n + 1, a1, a2, K => Z28.w n  a1 a2 K
def Z29.l3.b (n : Nat) (again3 : Int -> Int -> List Int -> Int -> Prop) (x15 : Int) (x16 : Int) (x17 : List Int) (x18 : Int) (Kx0w3 : Int -> List Int -> Int -> Prop) : Prop :=
 if (decide (x16 < 8)) = true then (Z24.c n x17 x18 (fun r23 r24 r25 => let t26 : Int := ibits .or .u64 (IntKind.wrap .u64 (x15 * 2 ^ 8)) (IntKind.wrap .u64 r23); again3 t26 (IntKind.wrap .i64 (x16 + 1)) r24 r25)) else (Kx0w3 x15 x17 x18)
def Z29.l3 : Nat -> Int -> Int -> List Int -> Int -> (Int -> List Int -> Int -> Prop) -> Prop
 | 0, _, _, _, _, _ => False
 | n + 1, x15, x16, x17, x18, Kx0w3 => Z29.l3.b n   (fun x15q x16q x17q x18q => Z29.l3 n x15q x16q x17q x18q Kx0w3) x15 x16 x17 x18 Kx0w3
def Z29.w (n : Nat) (lp3 : Int -> Int -> List Int -> Int -> (Int -> List Int -> Int -> Prop) -> Prop) (a1 : List Int) (a2 : Int) (K : Int -> List Int -> Int -> Prop) : Prop :=
 lp3 0 0 a1 a2 (fun y30 y31 y32 => K y30 y31 y32)
def Z29.c : Nat -> List Int -> Int -> (Int -> List Int -> Int -> Prop) -> Prop
 | 0, _, _, _ => False
 | n + 1, a1, a2, K => Z29.w n (Z29.l3 n) a1 a2 K
def Z16.l5.b (n : Nat) (x18 : List Int) (x21 : List Int) (x22 : Int) (x23 : Int) (again5 : Int -> List Int -> Prop) (x19 : Int) (x20 : List Int) (Kx0w5 : List Int -> List Int -> Int -> Int -> Prop) : Prop :=
 if (decide (x19 < (x18.length : Int))) = true then (grd (decide (0 <= IntKind.wrap .i64 (Int.tdiv x19 64)) && decide (IntKind.wrap .i64 (Int.tdiv x19 64) < (x20.length : Int))) (let t28 : Nat := Int.toNat (IntKind.wrap .i64 (Int.tdiv x19 64)); grd (decide (0 <= x19) && decide (x19 < (x18.length : Int))) (grd (decide (0 <= IntKind.wrap .u64 (Int.tmod x19 64))) (let t29 : Int := IntKind.wrap .u64 ((IntKind.wrap .u64 (rd x18 (Int.toNat x19))) * 2 ^ (Nat.min (Int.toNat (IntKind.wrap .u64 (Int.tmod x19 64))) 64)); grd (decide (0 <= IntKind.wrap .i64 (Int.tdiv x19 64)) && decide (IntKind.wrap .i64 (Int.tdiv x19 64) < (x20.length : Int))) (let t30 : Nat := Int.toNat (IntKind.wrap .i64 (Int.tdiv x19 64)); let t31 : List Int := List.set x20 t30 (ibits .or .u64 (rd x20 t28) t29); again5 (IntKind.wrap .i64 (x19 + 1)) t31))))) else (Kx0w5 x20 x21 x22 x23)
def Z16.l5 : Nat -> List Int -> List Int -> Int -> Int -> Int -> List Int -> (List Int -> List Int -> Int -> Int -> Prop) -> Prop
 | 0, _, _, _, _, _, _, _ => False
 | n + 1, x18, x21, x22, x23, x19, x20, Kx0w5 => Z16.l5.b n  x18 x21 x22 x23 (fun x19q x20q => Z16.l5 n x18 x21 x22 x23 x19q x20q Kx0w5) x19 x20 Kx0w5
def Z16.j0 (K : Int -> List Int -> Bool -> Prop) (a1 : List Int) (lp5 : List Int -> List Int -> Int -> Int -> Int -> List Int -> (List Int -> List Int -> Int -> Int -> Prop) -> Prop) : Prop :=
 let t3 : Int := IntKind.wrap .i64 (Int.tdiv (IntKind.wrap .i64 ((a1.length : Int) + 63)) 64); grd ((decide (0 <= t3) && decide (t3 <= 7818749353073)) && decide (t3 = t3)) (lp5 a1 ([] : List (Int)) 0 (a1.length : Int) 0 (List.replicate (Int.toNat t3) 0) (fun y36 y37 y38 y39 => K y39 y36 true))
def Z16.w (n : Nat) (lp5 : List Int -> List Int -> Int -> Int -> Int -> List Int -> (List Int -> List Int -> Int -> Int -> Prop) -> Prop) (a1 : List Int) (K : Int -> List Int -> Bool -> Prop) : Prop :=
 if (decide ((a1.length : Int) < 1)) = false then (if (decide ((a1.length : Int) > 4096)) = true then (K 0 ([] : List (Int)) false) else (Z16.j0 K a1 lp5)) else (K 0 ([] : List (Int)) false)
def Z16.c : Nat -> List Int -> (Int -> List Int -> Bool -> Prop) -> Prop
 | 0, _, _ => False
 | n + 1, a1, K => Z16.w n (Z16.l5 n) a1 K
def Z22.j4 (again5 : Int -> List Int -> Prop) (x30 : Int) (x31 : Int) (x32 : List Int) (j44 : Int) : Prop :=
 if (decide (x30 = 1)) = true then (grd (decide (x32.length + ([1] : List (Int)).length <= 35184372088832)) (again5 (IntKind.wrap .i64 (x31 + 1)) (x32 ++ ([1] : List (Int))))) else (grd (decide (x32.length + ([j44] : List (Int)).length <= 35184372088832)) (again5 (IntKind.wrap .i64 (x31 + 1)) (x32 ++ ([j44] : List (Int)))))
def Z22.l5.b (n : Nat) (x28 : Int) (x29 : Int) (x30 : Int) (x33 : List Int) (x34 : List Int) (x35 : Int) (x36 : Int) (again5 : Int -> List Int -> Prop) (x31 : Int) (x32 : List Int) (Kx0w5 : List Int -> List Int -> List Int -> Int -> Int -> Prop) : Prop :=
 if (decide (x31 < x28)) = true then (let t42 : Int := IntKind.wrap .u64 (Int.tmod (IntKind.wrap .i64 (x31 * 7)) 64); grd (decide (0 <= t42)) (let t43 : Int := Int.fdiv x29 (2 ^ (Nat.min (Int.toNat t42) 64)); if (decide (x30 = 0)) = true then (Z22.j4 again5 x30 x31 x32 0) else (Z22.j4 again5 x30 x31 x32 (IntKind.wrap .u8 (ibits .and .u64 t43 1))))) else (Kx0w5 x32 x33 x34 x35 x36)
def Z22.l5 : Nat -> Int -> Int -> Int -> List Int -> List Int -> Int -> Int -> Int -> List Int -> (List Int -> List Int -> List Int -> Int -> Int -> Prop) -> Prop
 | 0, _, _, _, _, _, _, _, _, _, _ => False
 | n + 1, x28, x29, x30, x33, x34, x35, x36, x31, x32, Kx0w5 => Z22.l5.b n  x28 x29 x30 x33 x34 x35 x36 (fun x31q x32q => Z22.l5 n x28 x29 x30 x33 x34 x35 x36 x31q x32q Kx0w5) x31 x32 Kx0w5
def Z22.w (n : Nat) (lp5 : Int -> Int -> Int -> List Int -> List Int -> Int -> Int -> Int -> List Int -> (List Int -> List Int -> List Int -> Int -> Int -> Prop) -> Prop) (a1 : List Int) (a2 : Int) (a3 : Int) (K : Int -> List Int -> List Int -> Int -> Prop) : Prop :=
 Z29.c n a1 a2 (fun r4 r5 r6 => Z21.c n r5 r6 4 (fun r7 r8 r9 => lp5 a3 r4 r7 ([] : List (Int)) r8 r9 0 0 ([] : List (Int)) (fun y51 y52 y53 y54 y55 => Z16.c n y51 (fun r56 r57 r58 => K r56 r57 y53 y54))))
def Z22.c : Nat -> List Int -> Int -> Int -> (Int -> List Int -> List Int -> Int -> Prop) -> Prop
 | 0, _, _, _, _ => False
 | n + 1, a1, a2, a3, K => Z22.w n (Z22.l5 n) a1 a2 a3 K
def Z27.w (n : Nat) (a1 : List Int) (a2 : Int) (a3 : Int) (K : Bool -> List Int -> Int -> Prop) : Prop :=
 Z21.c n a1 a2 a3 (fun r4 r5 r6 => K (decide (r4 = IntKind.wrap .i64 (a3 - 1))) r5 r6)
def Z27.c : Nat -> List Int -> Int -> Int -> (Bool -> List Int -> Int -> Prop) -> Prop
 | 0, _, _, _, _ => False
 | n + 1, a1, a2, a3, K => Z27.w n  a1 a2 a3 K
def Z23.w (n : Nat) (a1 : List Int) (a2 : Int) (a3 : Int) (a4 : Int) (K : Int -> List Int -> Int -> Prop) : Prop :=
 Z21.c n a1 a2 8 (fun r8 r9 r10 => if (decide (r8 = 0)) = true then (K a3 r9 r10) else (if (decide (r8 = 1)) = true then (K a4 r9 r10) else (if (decide (a4 < a3)) = true then (K a3 r9 r10) else (Z29.c n r9 r10 (fun r11 r12 r13 => let t14 : Int := IntKind.wrap .i64 ((IntKind.wrap .i64 (a4 - a3)) + 1); grd (!(decide (IntKind.wrap .u64 t14 = 0))) (let t15 : Int := Int.tmod (Int.fdiv r11 (2 ^ 1)) (IntKind.wrap .u64 t14); let t16 : Int := IntKind.wrap .i64 (a3 + (IntKind.wrap .i64 t15)); K t16 r12 r13))))))
def Z23.c : Nat -> List Int -> Int -> Int -> Int -> (Int -> List Int -> Int -> Prop) -> Prop
 | 0, _, _, _, _, _ => False
 | n + 1, a1, a2, a3, a4, K => Z23.w n  a1 a2 a3 a4 K
def Z26.w (n : Nat) (a1 : List Int) (a2 : Int) (a3 : Int) (a4 : Int) (K : Int -> List Int -> Int -> Prop) : Prop :=
 Z27.c n a1 a2 24 (fun r12 r13 r14 => if r12 = true then (let t15 : List Int := ([IntKind.wrap .i64 (a3 - 1), IntKind.wrap .i64 (a4 + 1), (-9223372036854775808), 9223372036854775807] : List (Int)); Z21.c n r13 r14 4 (fun r16 r17 r18 => grd (decide (0 <= r16) && decide (r16 < (t15.length : Int))) (K (rd t15 (Int.toNat r16)) r17 r18))) else (Z23.c n r13 r14 a3 a4 (fun r19 r20 r21 => K r19 r20 r21)))
def Z26.c : Nat -> List Int -> Int -> Int -> Int -> (Int -> List Int -> Int -> Prop) -> Prop
 | 0, _, _, _, _, _ => False
 | n + 1, a1, a2, a3, a4, K => Z26.w n  a1 a2 a3 a4 K
def Z25.w (n : Nat) (a1 : List Int) (a2 : Int) (K : Int -> List Int -> List Int -> Int -> Prop) : Prop :=
 Z28.c n a1 a2 (fun r3 r4 r5 => Z22.c n r4 r5 r3 (fun r6 r7 r8 r9 => Z21.c n r8 r9 30 (fun r52 r53 r54 => if (decide (r52 = 0)) = true then (K (IntKind.wrap .i64 (r6 + 1)) r7 r53 r54) else (if (decide (r52 = 1)) = true then (grd (decide (r7.length + ([0] : List (Int)).length <= 7818749353073)) (K r6 (r7 ++ ([0] : List (Int))) r53 r54)) else (if (decide (r52 = 2)) = true then (let p77 : Prop := (let p63 : Prop := (Z29.c n r53 r54 (fun r55 r56 r57 => grd (decide (0 <= IntKind.wrap .i64 ((r7.length : Int) - 1)) && decide (IntKind.wrap .i64 ((r7.length : Int) - 1) < (r7.length : Int))) (let t58 : Nat := Int.toNat (IntKind.wrap .i64 ((r7.length : Int) - 1)); K r6 (List.set r7 t58 r55) r56 r57))); (p63 /\ p63)); (p77 /\ p77 /\ (Z29.c n r53 r54 (fun r73 r74 r75 => grd (decide (0 <= IntKind.wrap .i64 ((r7.length : Int) - 1)) && decide (IntKind.wrap .i64 ((r7.length : Int) - 1) < (r7.length : Int))) (let t76 : Nat := Int.toNat (IntKind.wrap .i64 ((r7.length : Int) - 1)); K r6 (List.set r7 t76 r73) r74 r75))))) else (if (decide (r52 = 3)) = true then (Z26.c n r53 r54 0 4096 (fun r78 r79 r80 => K r78 r7 r79 r80)) else (if (decide (r52 = 4)) = true then (let p87 : Prop := (Z21.c n r53 r54 2 (fun r81 r82 r83 => K (IntKind.wrap .i64 (4096 + r81)) (List.replicate 64 0) r82 r83)); (p87 /\ p87)) else (K r6 r7 r53 r54))))))))
def Z25.c : Nat -> List Int -> Int -> (Int -> List Int -> List Int -> Int -> Prop) -> Prop
 | 0, _, _, _ => False
 | n + 1, a1, a2, K => Z25.w n  a1 a2 K
def Z9.w (n : Nat) (a1 : List Int) (K : Int -> List Int -> Prop) : Prop :=
 Z20.c n a1 (fun r2 r3 => Z25.c n r2 r3 (fun r4 r5 r6 r7 => K r4 r5))
def Z9.c : Nat -> List Int -> (Int -> List Int -> Prop) -> Prop
 | 0, _, _ => False
 | n + 1, a1, K => Z9.w n  a1 K
def Z11.w (n : Nat) (a1 : List Int) (K : Int -> List Int -> Prop) : Prop :=
 Z9.c n a1 (fun r2 r3 => K r2 r3)
def Z11.c : Nat -> List Int -> (Int -> List Int -> Prop) -> Prop
 | 0, _, _ => False
 | n + 1, a1, K => Z11.w n  a1 K
def Z18.w (n : Nat) (a1 : Int) (a2 : Int) (a3 : Int) (K : Bool -> Prop) : Prop :=
 if (decide (a1 >= a2)) = true then (K (decide (a1 <= a3))) else (K false)
def Z18.c : Nat -> Int -> Int -> Int -> (Bool -> Prop) -> Prop
 | 0, _, _, _, _ => False
 | n + 1, a1, a2, a3, K => Z18.w n  a1 a2 a3 K
def Z14.w (n : Nat) (a1 : Int) (a2 : List Int) (a3 : Int) (K : Int -> Prop) : Prop :=
 grd (decide (0 <= IntKind.wrap .i64 (Int.tdiv a3 64)) && decide (IntKind.wrap .i64 (Int.tdiv a3 64) < (a2.length : Int))) (let t4 : Int := rd a2 (Int.toNat (IntKind.wrap .i64 (Int.tdiv a3 64))); grd (decide (0 <= IntKind.wrap .u64 (Int.tmod a3 64))) (let t5 : Int := Int.fdiv t4 (2 ^ (Nat.min (Int.toNat (IntKind.wrap .u64 (Int.tmod a3 64))) 64)); K (IntKind.wrap .u8 (ibits .and .u64 t5 1))))
def Z14.c : Nat -> Int -> List Int -> Int -> (Int -> Prop) -> Prop
 | 0, _, _, _, _ => False
 | n + 1, a1, a2, a3, K => Z14.w n  a1 a2 a3 K
def Z8.l4.b (n : Nat) (x16 : Int) (x17 : List Int) (again4 : Int -> Prop) (x15 : Int) (Kx0w4 : Prop) (Kr4 : Bool -> Prop) : Prop :=
 let t19 : Bool := decide (x15 < IntKind.wrap .i64 (64 * (x17.length : Int))); if t19 = true then (Z14.c n x16 x17 x15 (fun r21 => if (!(decide (r21 = 0))) = true then (Kr4 false) else (again4 (IntKind.wrap .i64 (x15 + 1))))) else (Kx0w4)
def Z8.l4 : Nat -> Int -> List Int -> Int -> Prop -> (Bool -> Prop) -> Prop
 | 0, _, _, _, _, _ => False
 | n + 1, x16, x17, x15, Kx0w4, Kr4 => Z8.l4.b n  x16 x17 (fun x15q => Z8.l4 n x16 x17 x15q Kx0w4 Kr4) x15 Kx0w4 Kr4
def Z8.w (n : Nat) (lp4 : Int -> List Int -> Int -> Prop -> (Bool -> Prop) -> Prop) (a1 : Int) (a2 : List Int) (K : Bool -> Prop) : Prop :=
 Z18.c n a1 1 4096 (fun r29 => if (!r29) = false then (let t30 : Int := IntKind.wrap .i64 (Int.tdiv (IntKind.wrap .i64 (a1 + 63)) 64); if (!(decide ((a2.length : Int) = t30))) = true then (K false) else (lp4 a1 a2 a1 (K true) (fun y32 => K y32))) else (K false))
def Z8.c : Nat -> Int -> List Int -> (Bool -> Prop) -> Prop
 | 0, _, _, _ => False
 | n + 1, a1, a2, K => Z8.w n (Z8.l4 n) a1 a2 K
def Z3.w (n : Nat) (a1 : Int) (a2 : Int) (a3 : Int) (K : Bool -> Prop) : Prop :=
 if (decide (a1 >= a2)) = true then (K (decide (a1 <= a3))) else (K false)
def Z3.c : Nat -> Int -> Int -> Int -> (Bool -> Prop) -> Prop
 | 0, _, _, _, _ => False
 | n + 1, a1, a2, a3, K => Z3.w n  a1 a2 a3 K
def Z4.w (n : Nat) (a1 : Int) (K : Int -> Prop) : Prop :=
 let t2 : Int := IntKind.wrap .i64 (Int.tdiv (IntKind.wrap .i64 (a1 + 63)) 64); K t2
def Z4.c : Nat -> Int -> (Int -> Prop) -> Prop
 | 0, _, _ => False
 | n + 1, a1, K => Z4.w n  a1 K
def Z0.j0 (K : Bool -> Prop) (a1 : Int) (a2 : List Int) : Prop :=
 if (decide (Int.tmod a1 64 = 0)) = false then (grd (decide (0 <= IntKind.wrap .i64 ((a2.length : Int) - 1)) && decide (IntKind.wrap .i64 ((a2.length : Int) - 1) < (a2.length : Int))) (let t14 : Int := rd a2 (Int.toNat (IntKind.wrap .i64 ((a2.length : Int) - 1))); grd (decide (0 <= Int.tmod a1 64)) (let t15 : Int := Int.fdiv t14 (2 ^ (Nat.min (Int.toNat (Int.tmod a1 64)) 64)); K (decide (t15 = 0))))) else (K true)
def Z0.w (n : Nat) (a1 : Int) (a2 : List Int) (K : Bool -> Prop) : Prop :=
 Z3.c n a1 1 4096 (fun r20 => if (!r20) = false then (let p23 : Prop := (Z4.c n a1 (fun r21 => if (!(decide ((a2.length : Int) = r21))) = true then (K false) else (Z0.j0 K a1 a2))); (p23 /\ p23)) else ((K false) /\ (K false)))
def Z0.c : Nat -> Int -> List Int -> (Bool -> Prop) -> Prop
 | 0, _, _, _ => False
 | n + 1, a1, a2, K => Z0.w n  a1 a2 K
def Z2.l8.b (n : Nat) (x22 : Int) (x25 : Int) (x26 : List Int) (again8 : Int -> List Int -> Prop) (x23 : Int) (x24 : List Int) (Kx0w8 : List Int -> Prop) : Prop :=
 if (decide (x23 >= 0)) = true then (grd (decide (0 <= IntKind.wrap .i64 (Int.tdiv x23 64)) && decide (IntKind.wrap .i64 (Int.tdiv x23 64) < (x26.length : Int))) (let t32 : Int := rd x26 (Int.toNat (IntKind.wrap .i64 (Int.tdiv x23 64))); grd (decide (0 <= Int.tmod x23 64)) (let t33 : Int := Int.fdiv t32 (2 ^ (Nat.min (Int.toNat (Int.tmod x23 64)) 64)); grd (decide (0 <= x22)) (let t34 : Int := IntKind.wrap .u64 (1 * 2 ^ (Nat.min (Int.toNat x22) 64)); let t35 : Int := ibits .and .u64 t33 (IntKind.wrap .u64 (t34 - 1)); grd (decide (0 <= t35) && decide (t35 < (([48, 49, 50, 51, 52, 53, 54, 55, 56, 57, 97, 98, 99, 100, 101, 102] : List UInt8).length : Int))) (let t36 : Int := ((List.getD ([48, 49, 50, 51, 52, 53, 54, 55, 56, 57, 97, 98, 99, 100, 101, 102] : List UInt8) (Int.toNat t35) 0).toNat : Int); grd (decide (x24.length + ([t36] : List (Int)).length <= 35184372088832)) (again8 (IntKind.wrap .i64 (x23 - x22)) (x24 ++ ([t36] : List (Int))))))))) else (Kx0w8 x24)
def Z2.l8 : Nat -> Int -> Int -> List Int -> Int -> List Int -> (List Int -> Prop) -> Prop
 | 0, _, _, _, _, _, _ => False
 | n + 1, x22, x25, x26, x23, x24, Kx0w8 => Z2.l8.b n  x22 x25 x26 (fun x23q x24q => Z2.l8 n x22 x25 x26 x23q x24q Kx0w8) x23 x24 Kx0w8
def Z2.w (n : Nat) (lp8 : Int -> Int -> List Int -> Int -> List Int -> (List Int -> Prop) -> Prop) (a1 : Int) (a2 : List Int) (K : List UInt8 -> Prop) : Prop :=
 Z0.c n a1 a2 (fun r4 => if (!r4) = true then (K ([] : List UInt8)) else (if (decide (Int.tmod a1 4 = 0)) = true then (lp8 4 a1 a2 (IntKind.wrap .i64 (a1 - 4)) ([35, 120] : List (Int)) (fun y40 => K (bytesStr y40))) else (lp8 1 a1 a2 (IntKind.wrap .i64 (a1 - 1)) ([35, 98] : List (Int)) (fun y42 => K (bytesStr y42)))))
def Z2.c : Nat -> Int -> List Int -> (List UInt8 -> Prop) -> Prop
 | 0, _, _, _ => False
 | n + 1, a1, a2, K => Z2.w n (Z2.l8 n) a1 a2 K
def Z5.w (n : Nat) (a1 : Int) (K : Int -> List Int -> Prop) : Prop :=
 Z4.c n a1 (fun r2 => grd ((decide (0 <= r2) && decide (r2 <= 7818749353073)) && decide (r2 = r2)) (K a1 (List.replicate (Int.toNat r2) 0)))
def Z5.c : Nat -> Int -> (Int -> List Int -> Prop) -> Prop
 | 0, _, _ => False
 | n + 1, a1, K => Z5.w n  a1 K
def Z31.w (n : Nat) (a1 : List UInt8) (a2 : Int) (K : Int -> Prop) : Prop :=
 K (Go.Lib.indexByte a1 (Int.toNat a2).toUInt8)
def Z31.c : Nat -> List UInt8 -> Int -> (Int -> Prop) -> Prop
 | 0, _, _, _ => False
 | n + 1, a1, a2, K => Z31.w n  a1 a2 K
def Z1.j1 (again12 : List Int -> Int -> Prop) (r46 : Int) (x36 : Int) (x38 : List Int) (x43 : Int) : Prop :=
 let t50 : Int := IntKind.wrap .i64 (Int.tdiv (IntKind.wrap .i64 (x36 * x43)) 64); grd (decide (0 <= t50) && decide (t50 < (x38.length : Int))) (grd (decide (0 <= Int.tmod (IntKind.wrap .i64 (x36 * x43)) 64)) (let t51 : Int := IntKind.wrap .u64 ((IntKind.wrap .u64 r46) * 2 ^ (Nat.min (Int.toNat (Int.tmod (IntKind.wrap .i64 (x36 * x43)) 64)) 64)); grd (decide (0 <= t50) && decide (t50 < (x38.length : Int))) (let t52 : List Int := List.set x38 (Int.toNat t50) (ibits .or .u64 (rd x38 (Int.toNat t50)) t51); again12 t52 (x43 + 1))))
def Z1.l12.b (n : Nat) (x36 : Int) (x37 : List UInt8) (x39 : List Int) (x40 : Int) (x41 : Int) (x42 : List UInt8) (again12 : List Int -> Int -> Prop) (x38 : List Int) (x43 : Int) (Kx0w12 : List Int -> List Int -> Int -> Int -> Prop) (Kr12 : Bool -> List Int -> Int -> Prop) : Prop :=
 if (decide (x43 < (x42.length : Int))) = true then (grd (decide ((List.getD x42 (Int.toNat x43) 0).toNat < 128)) (let t44 : Int := IntKind.wrap .i64 ((IntKind.wrap .i64 ((x37.length : Int) - 1)) - x43); grd (decide (0 <= t44) && decide (t44 < (x37.length : Int))) (let t45 : Int := ((List.getD x37 (Int.toNat t44) 0).toNat : Int); Z31.c n ([48, 49, 50, 51, 52, 53, 54, 55, 56, 57, 97, 98, 99, 100, 101, 102] : List UInt8) t45 (fun r46 => if (decide (r46 < 0)) = false then (grd (decide (0 <= x36)) (let t55 : Int := IntKind.wrap .i64 (1 * 2 ^ (Nat.min (Int.toNat x36) 64)); if (decide (r46 >= t55)) = true then (Kr12 false ([] : List (Int)) 0) else (Z1.j1 again12 r46 x36 x38 x43))) else (Kr12 false ([] : List (Int)) 0))))) else (Kx0w12 x38 x39 x40 x41)
def Z1.l12 : Nat -> Int -> List UInt8 -> List Int -> Int -> Int -> List UInt8 -> List Int -> Int -> (List Int -> List Int -> Int -> Int -> Prop) -> (Bool -> List Int -> Int -> Prop) -> Prop
 | 0, _, _, _, _, _, _, _, _, _, _ => False
 | n + 1, x36, x37, x39, x40, x41, x42, x38, x43, Kx0w12, Kr12 => Z1.l12.b n  x36 x37 x39 x40 x41 x42 (fun x38q x43q => Z1.l12 n x36 x37 x39 x40 x41 x42 x38q x43q Kx0w12 Kr12) x38 x43 Kx0w12 Kr12
def Z1.j2 (K : Int -> List Int -> Bool -> Prop) (a1 : List UInt8) (lp12 : Int -> List UInt8 -> List Int -> Int -> Int -> List UInt8 -> List Int -> Int -> (List Int -> List Int -> Int -> Int -> Prop) -> (Bool -> List Int -> Int -> Prop) -> Prop) (n : Nat) (j10 : Int) : Prop :=
 grd (decide (2 <= (a1.length : Int))) (let t11 : List UInt8 := List.drop 2 (List.take (Int.toNat (a1.length : Int)) a1); let t13 : Bool := decide (IntKind.wrap .i64 (j10 * (t11.length : Int)) > 4096); if t13 = true then (K 0 ([] : List (Int)) false) else (Z5.c n (IntKind.wrap .i64 (j10 * (t11.length : Int))) (fun r14 r15 => lp12 j10 t11 ([] : List (Int)) 0 r14 t11 r15 0 (fun y63 y64 y65 y66 => K y66 y63 true) (fun y67 y68 y69 => K y69 y68 y67))))
def Z1.j3 (K : Int -> List Int -> Bool -> Prop) (a1 : List UInt8) (lp12 : Int -> List UInt8 -> List Int -> Int -> Int -> List UInt8 -> List Int -> Int -> (List Int -> List Int -> Int -> Int -> Prop) -> (Bool -> List Int -> Int -> Prop) -> Prop) (n : Nat) : Prop :=
 grd (decide (1 < (a1.length : Int))) (let t70 : Bool := decide (((List.getD a1 1 0).toNat : Int) = 120); if t70 = true then (Z1.j2 K a1 lp12 n 4) else (Z1.j2 K a1 lp12 n 1))
def Z1.w (n : Nat) (lp12 : Int -> List UInt8 -> List Int -> Int -> Int -> List UInt8 -> List Int -> Int -> (List Int -> List Int -> Int -> Int -> Prop) -> (Bool -> List Int -> Int -> Prop) -> Prop) (a1 : List UInt8) (K : Int -> List Int -> Bool -> Prop) : Prop :=
 if (decide ((a1.length : Int) < 3)) = false then (grd (decide (0 < (a1.length : Int))) (let t75 : Bool := !(decide (((List.getD a1 0 0).toNat : Int) = 35)); if t75 = false then (grd (decide (1 < (a1.length : Int))) (let t76 : Bool := !(decide (((List.getD a1 1 0).toNat : Int) = 98)); if t76 = true then (grd (decide (1 < (a1.length : Int))) (let t77 : Bool := !(decide (((List.getD a1 1 0).toNat : Int) = 120)); if t77 = true then (K 0 ([] : List (Int)) false) else (Z1.j3 K a1 lp12 n))) else (Z1.j3 K a1 lp12 n))) else (K 0 ([] : List (Int)) false))) else (K 0 ([] : List (Int)) false)
def Z1.c : Nat -> List UInt8 -> (Int -> List Int -> Bool -> Prop) -> Prop
 | 0, _, _ => False
 | n + 1, a1, K => Z1.w n (Z1.l12 n) a1 K
def Z7.l4.b (n : Nat) (x18 : Int) (x19 : List Int) (x20 : Int) (x21 : List Int) (again4 : Int -> Prop) (x17 : Int) (Kx0w4 : Prop) (Kr4 : Bool -> Prop) : Prop :=
 if (decide (x17 < (x19.length : Int))) = true then (grd (decide (0 <= x17) && decide (x17 < (x19.length : Int))) (grd (decide (0 <= x17) && decide (x17 < (x21.length : Int))) (let t25 : Bool := !(decide (rd x19 (Int.toNat x17) = rd x21 (Int.toNat x17))); if t25 = true then (Kr4 false) else (again4 (IntKind.wrap .i64 (x17 + 1)))))) else (Kx0w4)
def Z7.l4 : Nat -> Int -> List Int -> Int -> List Int -> Int -> Prop -> (Bool -> Prop) -> Prop
 | 0, _, _, _, _, _, _, _ => False
 | n + 1, x18, x19, x20, x21, x17, Kx0w4, Kr4 => Z7.l4.b n  x18 x19 x20 x21 (fun x17q => Z7.l4 n x18 x19 x20 x21 x17q Kx0w4 Kr4) x17 Kx0w4 Kr4
def Z7.w (n : Nat) (lp4 : Int -> List Int -> Int -> List Int -> Int -> Prop -> (Bool -> Prop) -> Prop) (a1 : Int) (a2 : List Int) (a3 : Int) (a4 : List Int) (K : Bool -> Prop) : Prop :=
 if (!(decide (a1 = a3))) = false then (let t32 : Bool := !(decide ((a2.length : Int) = (a4.length : Int))); if t32 = true then (K false) else (lp4 a1 a2 a3 a4 0 (K true) (fun y34 => K y34))) else (K false)
def Z7.c : Nat -> Int -> List Int -> Int -> List Int -> (Bool -> Prop) -> Prop
 | 0, _, _, _, _, _ => False
 | n + 1, a1, a2, a3, a4, K => Z7.w n (Z7.l4 n) a1 a2 a3 a4 K
def Z19.l3.b (n : Nat) (x11 : Int) (x12 : List Int) (again3 : Int -> List Int -> Prop) (x9 : Int) (x10 : List Int) (Kx0w3 : List Int -> Prop) : Prop :=
 if (decide (x9 < x11)) = true then (Z14.c n x11 x12 x9 (fun r14 => grd (decide (x10.length + ([r14] : List (Int)).length <= 35184372088832)) (again3 (IntKind.wrap .i64 (x9 + 1)) (x10 ++ ([r14] : List (Int)))))) else (Kx0w3 x10)
def Z19.l3 : Nat -> Int -> List Int -> Int -> List Int -> (List Int -> Prop) -> Prop
 | 0, _, _, _, _, _ => False
 | n + 1, x11, x12, x9, x10, Kx0w3 => Z19.l3.b n  x11 x12 (fun x9q x10q => Z19.l3 n x11 x12 x9q x10q Kx0w3) x9 x10 Kx0w3
def Z19.w (n : Nat) (lp3 : Int -> List Int -> Int -> List Int -> (List Int -> Prop) -> Prop) (a1 : Int) (a2 : List Int) (K : List Int -> Prop) : Prop :=
 lp3 a1 a2 0 ([] : List (Int)) (fun y16 => K y16)
def Z19.c : Nat -> Int -> List Int -> (List Int -> Prop) -> Prop
 | 0, _, _, _ => False
 | n + 1, a1, a2, K => Z19.w n (Z19.l3 n) a1 a2 K
def Z30.l3.b (n : Nat) (x5 : List Int) (again3 : Int -> List Int -> Prop) (x6 : Int) (x7 : List Int) (Kx0w3 : List Int -> Prop) : Prop :=
 if (decide (x6 >= 0)) = true then (grd (decide (0 <= x6) && decide (x6 < (x5.length : Int))) (grd (decide (x7.length + ([rd x5 (Int.toNat x6)] : List (Int)).length <= 35184372088832)) (again3 (IntKind.wrap .i64 (x6 - 1)) (x7 ++ ([rd x5 (Int.toNat x6)] : List (Int)))))) else (Kx0w3 x7)
def Z30.l3 : Nat -> List Int -> Int -> List Int -> (List Int -> Prop) -> Prop
 | 0, _, _, _, _ => False
 | n + 1, x5, x6, x7, Kx0w3 => Z30.l3.b n  x5 (fun x6q x7q => Z30.l3 n x5 x6q x7q Kx0w3) x6 x7 Kx0w3
def Z30.w (n : Nat) (lp3 : List Int -> Int -> List Int -> (List Int -> Prop) -> Prop) (a1 : List Int) (K : List Int -> Prop) : Prop :=
 lp3 a1 (IntKind.wrap .i64 ((a1.length : Int) - 1)) ([] : List (Int)) (fun y9 => K y9)
def Z30.c : Nat -> List Int -> (List Int -> Prop) -> Prop
 | 0, _, _ => False
 | n + 1, a1, K => Z30.w n (Z30.l3 n) a1 K
def Z13.l8.b (n : Nat) (x30 : List Int) (x31 : Int) (x32 : List Int) (again8 : Int -> List Int -> Prop) (x28 : Int) (x29 : List Int) (Kx0w8 : List Int -> Prop) : Prop :=
 if (decide (x28 < (x30.length : Int))) = true then (if (!(decide (Int.tmod x31 4 = 0))) = true then (grd (decide (0 <= x28) && decide (x28 < (x30.length : Int))) (let t41 : Int := IntKind.wrap .u8 (48 + (rd x30 (Int.toNat x28))); grd (decide (x29.length + ([t41] : List (Int)).length <= 35184372088832)) (again8 (IntKind.wrap .i64 (x28 + 1)) (x29 ++ ([t41] : List (Int)))))) else (if (decide (Int.tmod x28 4 = 0)) = true then (grd (decide (0 <= x28) && decide (x28 < (x30.length : Int))) (let t42 : Int := IntKind.wrap .u8 (8 * (rd x30 (Int.toNat x28))); grd (decide (0 <= IntKind.wrap .i64 (x28 + 1)) && decide (IntKind.wrap .i64 (x28 + 1) < (x30.length : Int))) (let t43 : Int := rd x30 (Int.toNat (IntKind.wrap .i64 (x28 + 1))); let t44 : Int := IntKind.wrap .u8 (t42 + (IntKind.wrap .u8 (4 * t43))); grd (decide (0 <= IntKind.wrap .i64 (x28 + 2)) && decide (IntKind.wrap .i64 (x28 + 2) < (x30.length : Int))) (let t45 : Int := rd x30 (Int.toNat (IntKind.wrap .i64 (x28 + 2))); let t46 : Int := IntKind.wrap .u8 (t44 + (IntKind.wrap .u8 (2 * t45))); grd (decide (0 <= IntKind.wrap .i64 (x28 + 3)) && decide (IntKind.wrap .i64 (x28 + 3) < (x30.length : Int))) (let t47 : Int := rd x30 (Int.toNat (IntKind.wrap .i64 (x28 + 3))); grd (decide (0 <= IntKind.wrap .u8 (t46 + t47)) && decide (IntKind.wrap .u8 (t46 + t47) < (([48, 49, 50, 51, 52, 53, 54, 55, 56, 57, 97, 98, 99, 100, 101, 102] : List UInt8).length : Int))) (let t48 : Int := ((List.getD ([48, 49, 50, 51, 52, 53, 54, 55, 56, 57, 97, 98, 99, 100, 101, 102] : List UInt8) (Int.toNat (IntKind.wrap .u8 (t46 + t47))) 0).toNat : Int); grd (decide (x29.length + ([t48] : List (Int)).length <= 35184372088832)) (again8 (IntKind.wrap .i64 (x28 + 1)) (x29 ++ ([t48] : List (Int)))))))))) else (again8 (IntKind.wrap .i64 (x28 + 1)) x29))) else (Kx0w8 x29)
def Z13.l8 : Nat -> List Int -> Int -> List Int -> Int -> List Int -> (List Int -> Prop) -> Prop
 | 0, _, _, _, _, _, _ => False
 | n + 1, x30, x31, x32, x28, x29, Kx0w8 => Z13.l8.b n  x30 x31 x32 (fun x28q x29q => Z13.l8 n x30 x31 x32 x28q x29q Kx0w8) x28 x29 Kx0w8
def Z13.w (n : Nat) (lp8 : List Int -> Int -> List Int -> Int -> List Int -> (List Int -> Prop) -> Prop) (a1 : Int) (a2 : List Int) (K : List UInt8 -> Prop) : Prop :=
 Z8.c n a1 a2 (fun r4 => if (!r4) = true then (K ([] : List UInt8)) else (Z19.c n a1 a2 (fun r5 => Z30.c n r5 (fun r6 => grd (decide (0 < ([35, 98] : List (Int)).length)) (if (decide (Int.tmod a1 4 = 0)) = true then (grd (decide (0 < ([35, 120] : List (Int)).length)) (lp8 r6 a1 a2 0 ([35, 120] : List (Int)) (fun y50 => K (bytesStr y50)))) else (lp8 r6 a1 a2 0 ([35, 98] : List (Int)) (fun y52 => K (bytesStr y52))))))))
def Z13.c : Nat -> Int -> List Int -> (List UInt8 -> Prop) -> Prop
 | 0, _, _, _ => False
 | n + 1, a1, a2, K => Z13.w n (Z13.l8 n) a1 a2 K
def Z10.l9.b (n : Nat) (x44 : List Int) (x45 : Int) (again9 : List UInt8 -> Int -> Prop) (x42 : List UInt8) (x43 : Int) (Kx0w9 : List UInt8 -> List Int -> Int -> Prop) : Prop :=
 if (decide (x43 > 0)) = true then (grd (decide (x42.length + ([97] : List UInt8).length <= 9223372036854775807)) (again9 (x42 ++ ([97] : List UInt8)) (IntKind.wrap .i64 (x43 - 1)))) else (Kx0w9 x42 x44 x45)
def Z10.l9 : Nat -> List Int -> Int -> List UInt8 -> Int -> (List UInt8 -> List Int -> Int -> Prop) -> Prop
 | 0, _, _, _, _, _ => False
 | n + 1, x44, x45, x42, x43, Kx0w9 => Z10.l9.b n  x44 x45 (fun x42q x43q => Z10.l9 n x44 x45 x42q x43q Kx0w9) x42 x43 Kx0w9
def Z10.j0 (K : List UInt8 -> Prop) (n : Nat) (j49 : List UInt8) (j50 : List Int) (j51 : Int) : Prop :=
 Z27.c n j50 j51 20 (fun r57 r58 r59 => if r57 = true then (let t60 : Int := (if (j49.length : Int) < 2 then (j49.length : Int) else 2); grd ((decide (0 <= t60) && decide (t60 <= (j49.length : Int))) && decide (0 <= t60)) (K (List.drop 0 (List.take (Int.toNat t60) j49)))) else (K j49))
def Z10.j1 (K : List UInt8 -> Prop) (lp9 : List Int -> Int -> List UInt8 -> Int -> (List UInt8 -> List Int -> Int -> Prop) -> Prop) (n : Nat) (j29 : List UInt8) (j30 : List Int) (j31 : Int) : Prop :=
 Z27.c n j30 j31 20 (fun r61 r62 r63 => if r61 = true then (Z21.c n r62 r63 2 (fun r64 r65 r66 => lp9 r65 r66 ([35, 120] : List UInt8) (IntKind.wrap .i64 (1024 + r64)) (fun y67 y68 y69 => Z10.j0 K n y67 y68 y69))) else (Z10.j0 K n j29 r62 r63))
def Z10.w (n : Nat) (lp9 : List Int -> Int -> List UInt8 -> Int -> (List UInt8 -> List Int -> Int -> Prop) -> Prop) (a1 : List Int) (K : List UInt8 -> Prop) : Prop :=
 Z20.c n a1 (fun r2 r3 => Z28.c n r2 r3 (fun r4 r5 r6 => Z22.c n r5 r6 r4 (fun r7 r8 r9 r10 => Z13.c n r7 r8 (fun r11 => Z27.c n r9 r10 3 (fun r70 r71 r72 => if r70 = true then (Z21.c n r71 r72 (IntKind.wrap .i64 ((r11.length : Int) + 1)) (fun r73 r74 r75 => grd ((decide (0 <= r73) && decide (r73 <= (r11.length : Int))) && decide (0 <= r73)) (grd ((decide (0 <= r73) && true) && decide (r73 <= (r11.length : Int))) (let t76 : List UInt8 := List.drop (Int.toNat r73) (List.take (Int.toNat (r11.length : Int)) r11); (let t77 : List (List UInt8) := ([([48] : List UInt8), ([49] : List UInt8), ([50] : List UInt8), ([103] : List UInt8), ([102] : List UInt8), ([70] : List UInt8), ([35] : List UInt8), ([120] : List UInt8), ([98] : List UInt8)] : List (List UInt8)); Z21.c n r74 r75 9 (fun r78 r79 r80 => grd (decide (0 <= r78) && decide (r78 < (t77.length : Int))) (grd (decide ((List.drop 0 (List.take (Int.toNat r73) r11)).length + (rd t77 (Int.toNat r78)).length <= 9223372036854775807)) (let t81 : List UInt8 := (List.drop 0 (List.take (Int.toNat r73) r11)) ++ (rd t77 (Int.toNat r78)); grd (decide (t81.length + t76.length <= 9223372036854775807)) (Z10.j1 K lp9 n (t81 ++ t76) r79 r80))))) /\ (Z21.c n r74 r75 9 (fun r82 r83 r84 => let t85 : List (List UInt8) := ([([48] : List UInt8), ([49] : List UInt8), ([50] : List UInt8), ([103] : List UInt8), ([102] : List UInt8), ([70] : List UInt8), ([35] : List UInt8), ([120] : List UInt8), ([98] : List UInt8)] : List (List UInt8)); grd (decide (0 <= r82) && decide (r82 < (t85.length : Int))) (grd (decide ((List.drop 0 (List.take (Int.toNat r73) r11)).length + (rd t85 (Int.toNat r82)).length <= 9223372036854775807)) (let t86 : List UInt8 := (List.drop 0 (List.take (Int.toNat r73) r11)) ++ (rd t85 (Int.toNat r82)); grd (decide (t86.length + t76.length <= 9223372036854775807)) (Z10.j1 K lp9 n (t86 ++ t76) r83 r84))))))))) else (Z10.j1 K lp9 n r11 r71 r72))))))
def Z10.c : Nat -> List Int -> (List UInt8 -> Prop) -> Prop
 | 0, _, _ => False
 | n + 1, a1, K => Z10.w n (Z10.l9 n) a1 K
def Z15.w (n : Nat) (a1 : Int) (K : Bool -> Prop) : Prop :=
 if (decide (a1 >= 48)) = true then (K (decide (a1 <= 57))) else (K false)
def Z15.c : Nat -> Int -> (Bool -> Prop) -> Prop
 | 0, _, _ => False
 | n + 1, a1, K => Z15.w n  a1 K
def Z17.w (n : Nat) (a1 : Int) (K : Int -> Prop) : Prop :=
 Z15.c n a1 (fun r4 => if r4 = true then (let t5 : Int := IntKind.wrap .i64 (IntKind.wrap .u8 (a1 - 48)); K t5) else (if (decide (a1 >= 97)) = true then (if (decide (a1 <= 102)) = true then (let t11 : Int := IntKind.wrap .i64 (IntKind.wrap .u8 (a1 - 97)); K (IntKind.wrap .i64 (t11 + 10))) else (K (-1))) else (K (-1))))
def Z17.c : Nat -> Int -> (Int -> Prop) -> Prop
 | 0, _, _ => False
 | n + 1, a1, K => Z17.w n  a1 K
def Z12.l13.b (n : Nat) (x32 : List UInt8) (x33 : Int) (x34 : Int) (x37 : List Int) (x38 : Int) (again13 : Int -> List Int -> Prop) (x35 : Int) (x36 : List Int) (Kx2w13 : List UInt8 -> Int -> List Int -> List Int -> Int -> Prop) : Prop :=
 if (decide (x35 >= 0)) = true then (grd (decide (0 <= IntKind.wrap .u64 x35)) (let t41 : Int := Int.fdiv x34 (2 ^ (Nat.min (Int.toNat (IntKind.wrap .u64 x35)) 64)); let t42 : List Int := ([IntKind.wrap .u8 (ibits .and .i64 t41 1)] : List (Int)); grd (decide (x36.length + t42.length <= 35184372088832)) (again13 (IntKind.wrap .i64 (x35 - 1)) (x36 ++ t42)))) else (Kx2w13 x32 x33 x36 x37 x38)
def Z12.l13 : Nat -> List UInt8 -> Int -> Int -> List Int -> Int -> Int -> List Int -> (List UInt8 -> Int -> List Int -> List Int -> Int -> Prop) -> Prop
 | 0, _, _, _, _, _, _, _, _ => False
 | n + 1, x32, x33, x34, x37, x38, x35, x36, Kx2w13 => Z12.l13.b n  x32 x33 x34 x37 x38 (fun x35q x36q => Z12.l13 n x32 x33 x34 x37 x38 x35q x36q Kx2w13) x35 x36 Kx2w13
def Z12.j3 (again5 : List UInt8 -> Int -> List Int -> List Int -> Int -> Prop) (lp13 : List UInt8 -> Int -> Int -> List Int -> Int -> Int -> List Int -> (List UInt8 -> Int -> List Int -> List Int -> Int -> Prop) -> Prop) (r87 : Int) (x66 : List UInt8) (x67 : Int) (x68 : List Int) (x69 : List Int) (x70 : Int) : Prop :=
 grd (decide (1 < (x66.length : Int))) (let t92 : Bool := decide (((List.getD x66 1 0).toNat : Int) = 98); if t92 = true then (grd (decide (x68.length + ([IntKind.wrap .u8 r87] : List (Int)).length <= 35184372088832)) (again5 x66 (IntKind.wrap .i64 (x67 + 1)) (x68 ++ ([IntKind.wrap .u8 r87] : List (Int))) x69 x70)) else (lp13 x66 x67 r87 x69 x70 3 x68 (fun y93 y94 y95 y96 y97 => again5 y93 (IntKind.wrap .i64 (y94 + 1)) y95 y96 y97)))
def Z12.l5.b (n : Nat) (lp13 : List UInt8 -> Int -> Int -> List Int -> Int -> Int -> List Int -> (List UInt8 -> Int -> List Int -> List Int -> Int -> Prop) -> Prop) (again5 : List UInt8 -> Int -> List Int -> List Int -> Int -> Prop) (x66 : List UInt8) (x67 : Int) (x68 : List Int) (x69 : List Int) (x70 : Int) (Kx0w5 : List Int -> List Int -> Int -> Prop) (Kr5 : Bool -> List Int -> Int -> Prop) : Prop :=
 if (decide (x67 < (x66.length : Int))) = true then (grd (decide (0 <= x67) && decide (x67 < (x66.length : Int))) (let t86 : Int := ((List.getD x66 (Int.toNat x67) 0).toNat : Int); Z17.c n t86 (fun r87 => if (decide (r87 < 0)) = false then (grd (decide (1 < (x66.length : Int))) (let t100 : Bool := decide (((List.getD x66 1 0).toNat : Int) = 98); if t100 = true then (if (decide (r87 > 1)) = true then (Kr5 false ([] : List (Int)) 0) else (Z12.j3 again5 lp13 r87 x66 x67 x68 x69 x70)) else (Z12.j3 again5 lp13 r87 x66 x67 x68 x69 x70))) else (Kr5 false ([] : List (Int)) 0)))) else (Kx0w5 x68 x69 x70)
def Z12.l5 : Nat -> List UInt8 -> Int -> List Int -> List Int -> Int -> (List Int -> List Int -> Int -> Prop) -> (Bool -> List Int -> Int -> Prop) -> Prop
 | 0, _, _, _, _, _, _, _ => False
 | n + 1, x66, x67, x68, x69, x70, Kx0w5, Kr5 => Z12.l5.b n (Z12.l13 n)  (fun x66q x67q x68q x69q x70q => Z12.l5 n x66q x67q x68q x69q x70q Kx0w5 Kr5) x66 x67 x68 x69 x70 Kx0w5 Kr5
def Z12.j4 (K : Int -> List Int -> Bool -> Prop) (a1 : List UInt8) (lp5 : List UInt8 -> Int -> List Int -> List Int -> Int -> (List Int -> List Int -> Int -> Prop) -> (Bool -> List Int -> Int -> Prop) -> Prop) (n : Nat) : Prop :=
 lp5 a1 2 ([] : List (Int)) ([] : List (Int)) 0 (fun y107 y108 y109 => Z30.c n y107 (fun r110 => Z16.c n r110 (fun r111 r112 r113 => K r111 r112 r113))) (fun y114 y115 y116 => K y116 y115 y114)
def Z12.w (n : Nat) (lp5 : List UInt8 -> Int -> List Int -> List Int -> Int -> (List Int -> List Int -> Int -> Prop) -> (Bool -> List Int -> Int -> Prop) -> Prop) (a1 : List UInt8) (K : Int -> List Int -> Bool -> Prop) : Prop :=
 if (decide ((a1.length : Int) < 3)) = false then (if (decide ((a1.length : Int) > 4098)) = false then (grd (decide (0 < (a1.length : Int))) (let t121 : Bool := !(decide (((List.getD a1 0 0).toNat : Int) = 35)); if t121 = false then (grd (decide (1 < (a1.length : Int))) (let t122 : Bool := !(decide (((List.getD a1 1 0).toNat : Int) = 98)); if t122 = true then (grd (decide (1 < (a1.length : Int))) (let t123 : Bool := !(decide (((List.getD a1 1 0).toNat : Int) = 120)); if t123 = true then (K 0 ([] : List (Int)) false) else (Z12.j4 K a1 lp5 n))) else (Z12.j4 K a1 lp5 n))) else (K 0 ([] : List (Int)) false))) else (K 0 ([] : List (Int)) false)) else (K 0 ([] : List (Int)) false)
def Z12.c : Nat -> List UInt8 -> (Int -> List Int -> Bool -> Prop) -> Prop
 | 0, _, _ => False
 | n + 1, a1, K => Z12.w n (Z12.l5 n) a1 K
def laws_FnBitsText.j0 (K : Bool -> Prop) (a2 : List Int) (n : Nat) : Prop :=
 Z10.c n a2 (fun r18 => Z12.c n r18 (fun r19 r20 r21 => Z1.c n r18 (fun r22 r23 r24 => if (!(r24 == r21)) = true then (K false) else (if (!r24) = true then (K true) else (Z2.c n r22 r23 (fun r25 => Z1.c n r25 (fun r26 r27 r28 => if r28 = true then (Z7.c n r26 r27 r22 r23 (fun r31 => K r31)) else (K false))))))))
def laws_FnBitsText.j1 (K : Bool -> Prop) (a1 : List Int) (a2 : List Int) (n : Nat) : Prop :=
 Z11.c n a1 (fun r8 r9 => Z8.c n r8 r9 (fun r32 => if r32 = true then (Z2.c n r8 r9 (fun r33 => Z1.c n r33 (fun r34 r35 r36 => if (!r36) = false then (Z7.c n r34 r35 r8 r9 (fun r39 => if (!r39) = true then (K false) else (laws_FnBitsText.j0 K a2 n))) else (K false)))) else (laws_FnBitsText.j0 K a2 n)))
def laws_FnBitsText.w (n : Nat) (a1 : List Int) (a2 : List Int) (K : Bool -> Prop) : Prop :=
 Z6.c n a1 (fun r43 => if r43 = false then (Z6.c n a2 (fun r44 => if r44 = true then (K true) else (laws_FnBitsText.j1 K a1 a2 n))) else (K true))
def laws_FnBitsText.c : Nat -> List Int -> List Int -> (Bool -> Prop) -> Prop
 | 0, _, _, _ => False
 | n + 1, a1, a2, K => laws_FnBitsText.w n  a1 a2 K
end Go.Vsi
end
