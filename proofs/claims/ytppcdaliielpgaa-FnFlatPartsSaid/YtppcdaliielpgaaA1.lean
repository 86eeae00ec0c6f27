/- Go functions, told on plain data. No statement is proved here. -/
import Derived.Test.YtppcdaliielpgaaM1

section
set_option linter.unusedVariables false
set_option synthInstance.maxSize 4096
namespace Go.Vsi
abbrev tDecl : Type := List UInt8 × Int
instance : DecidableEq tDecl := inferInstance
abbrev tTNode : Type := Int × Int × Int × Int × Int × List (Int) × List (Int)
instance : DecidableEq tTNode := inferInstance
abbrev tl5Bit : Type := Int × Int
instance : DecidableEq tl5Bit := inferInstance
abbrev tSeg : Type := Int × Int × Int × Int × List (Int)
instance : DecidableEq tSeg := inferInstance
def Z28.w (n : Nat) (a1 : List Int) (K : List Int -> Prop) : Prop :=
 (a1.length = 0 -> (K ([] : List (Int)))) /\ (grd (decide (([] : List (Int)).length + a1.length <= 7818749353073)) (K (([] : List (Int)) ++ a1)))
def Z28.c : Nat -> List Int -> (List Int -> Prop) -> Prop
 | 0, _, _ => False
 | n + 1, a1, K => Z28.w n  a1 K
def Z10.w (n : Nat) (a1 : Int) (a2 : List Int) (K : Int -> List Int -> Prop) : Prop :=
 (Z28.c n a2 (fun r6 => K a1 r6)) /\ (Z28.c n a2 (fun r7 => K a1 r7))
def Z10.c : Nat -> Int -> List Int -> (Int -> List Int -> Prop) -> Prop
 | 0, _, _, _ => False
 | n + 1, a1, a2, K => Z10.w n  a1 a2 K
def Z40.w (n : Nat) (a1 : Int) (a2 : Int) (a3 : Int) (K : Bool -> Prop) : Prop :=
 if (decide (a1 >= a2)) = true then (K (decide (a1 <= a3))) else (K false)
def Z40.c : Nat -> Int -> Int -> Int -> (Bool -> Prop) -> Prop
 | 0, _, _, _, _ => False
 | n + 1, a1, a2, a3, K => Z40.w n  a1 a2 a3 K
def Z57.w (n : Nat) (a1 : Int) (a2 : List Int) (K : Bool -> Prop) : Prop :=
 if (decide (a1 = 0)) = true then (K (decide ((a2.length : Int) = 0))) else (K false)
def Z57.c : Nat -> Int -> List Int -> (Bool -> Prop) -> Prop
 | 0, _, _, _ => False
 | n + 1, a1, a2, K => Z57.w n  a1 a2 K
def Z37.w (n : Nat) (a1 : Int) (a2 : List Int) (a3 : Int) (K : Int -> Prop) : Prop :=
 grd (decide (0 <= IntKind.wrap .i64 (Int.tdiv a3 64)) && decide (IntKind.wrap .i64 (Int.tdiv a3 64) < (a2.length : Int))) (let t4 : Int := rd a2 (Int.toNat (IntKind.wrap .i64 (Int.tdiv a3 64))); grd (decide (0 <= IntKind.wrap .u64 (Int.tmod a3 64))) (let t5 : Int := Int.fdiv t4 (2 ^ (Nat.min (Int.toNat (IntKind.wrap .u64 (Int.tmod a3 64))) 64)); K (IntKind.wrap .u8 (ibits .and .u64 t5 1))))
def Z37.c : Nat -> Int -> List Int -> Int -> (Int -> Prop) -> Prop
 | 0, _, _, _, _ => False
 | n + 1, a1, a2, a3, K => Z37.w n  a1 a2 a3 K
def Z30.l4.b (n : Nat) (x16 : Int) (x17 : List Int) (again4 : Int -> Prop) (x15 : Int) (Kx0w4 : Prop) (Kr4 : Bool -> Prop) : Prop :=
 let t19 : Bool := decide (x15 < IntKind.wrap .i64 (64 * (x17.length : Int))); if t19 = true then (Z37.c n x16 x17 x15 (fun r21 => if (!(decide (r21 = 0))) = true then (Kr4 false) else (again4 (IntKind.wrap .i64 (x15 + 1))))) else (Kx0w4)
def Z30.l4 : Nat -> Int -> List Int -> Int -> Prop -> (Bool -> Prop) -> Prop
 | 0, _, _, _, _, _ => False
 | n + 1, x16, x17, x15, Kx0w4, Kr4 => Z30.l4.b n  x16 x17 (fun x15q => Z30.l4 n x16 x17 x15q Kx0w4 Kr4) x15 Kx0w4 Kr4
def Z30.w (n : Nat) (lp4 : Int -> List Int -> Int -> Prop -> (Bool -> Prop) -> Prop) (a1 : Int) (a2 : List Int) (K : Bool -> Prop) : Prop :=
 Z40.c n a1 1 4096 (fun r29 => if (!r29) = false then (let t30 : Int := IntKind.wrap .i64 (Int.tdiv (IntKind.wrap .i64 (a1 + 63)) 64); if (!(decide ((a2.length : Int) = t30))) = true then (K false) else (lp4 a1 a2 a1 (K true) (fun y32 => K y32))) else (K false))
def Z30.c : Nat -> Int -> List Int -> (Bool -> Prop) -> Prop
 | 0, _, _, _ => False
 | n + 1, a1, a2, K => Z30.w n (Z30.l4 n) a1 a2 K
def Z18.w (n : Nat) (a1 : Int) (a2 : Int) (a3 : Int) (K : Bool -> Prop) : Prop :=
 if (decide (a1 >= a2)) = true then (K (decide (a1 <= a3))) else (K false)
def Z18.c : Nat -> Int -> Int -> Int -> (Bool -> Prop) -> Prop
 | 0, _, _, _, _ => False
 | n + 1, a1, a2, a3, K => Z18.w n  a1 a2 a3 K
def Z23.w (n : Nat) (a1 : Int) (K : Int -> Prop) : Prop :=
 let t2 : Int := IntKind.wrap .i64 (Int.tdiv (IntKind.wrap .i64 (a1 + 63)) 64); K t2
def Z23.c : Nat -> Int -> (Int -> Prop) -> Prop
 | 0, _, _ => False
 | n + 1, a1, K => Z23.w n  a1 K
def Z0.j0 (K : Bool -> Prop) (a1 : Int) (a2 : List Int) : Prop :=
 if (decide (Int.tmod a1 64 = 0)) = false then (grd (decide (0 <= IntKind.wrap .i64 ((a2.length : Int) - 1)) && decide (IntKind.wrap .i64 ((a2.length : Int) - 1) < (a2.length : Int))) (let t14 : Int := rd a2 (Int.toNat (IntKind.wrap .i64 ((a2.length : Int) - 1))); grd (decide (0 <= Int.tmod a1 64)) (let t15 : Int := Int.fdiv t14 (2 ^ (Nat.min (Int.toNat (Int.tmod a1 64)) 64)); K (decide (t15 = 0))))) else (K true)
def Z0.w (n : Nat) (a1 : Int) (a2 : List Int) (K : Bool -> Prop) : Prop :=
 Z18.c n a1 1 4096 (fun r20 => if (!r20) = false then (let p23 : Prop := (Z23.c n a1 (fun r21 => if (!(decide ((a2.length : Int) = r21))) = true then (K false) else (Z0.j0 K a1 a2))); (p23 /\ p23)) else ((K false) /\ (K false)))
def Z0.c : Nat -> Int -> List Int -> (Bool -> Prop) -> Prop
 | 0, _, _, _ => False
 | n + 1, a1, a2, K => Z0.w n  a1 a2 K
def Z38.w (n : Nat) (a1 : Int) (K : Bool -> Prop) : Prop :=
 if (decide (a1 >= 48)) = true then (K (decide (a1 <= 57))) else (K false)
def Z38.c : Nat -> Int -> (Bool -> Prop) -> Prop
 | 0, _, _ => False
 | n + 1, a1, K => Z38.w n  a1 K
def Z41.l4.b (n : Nat) (x25 : List UInt8) (again4 : Int -> Prop) (x26 : Int) (Kx0w4 : Prop) (Kr4 : Bool -> Prop) : Prop :=
 if (decide (x26 < (x25.length : Int))) = true then (grd (decide (0 <= x26) && decide (x26 < (x25.length : Int))) (let t41 : Int := ((List.getD x25 (Int.toNat x26) 0).toNat : Int); Z38.c n t41 (fun r42 => if (!r42) = true then (grd (decide (0 <= x26) && decide (x26 < (x25.length : Int))) (let t43 : Int := ((List.getD x25 (Int.toNat x26) 0).toNat : Int); if (decide (t43 < 97)) = false then (grd (decide (0 <= x26) && decide (x26 < (x25.length : Int))) (let t44 : Int := ((List.getD x25 (Int.toNat x26) 0).toNat : Int); if (decide (t44 > 122)) = true then (Kr4 false) else (again4 (IntKind.wrap .i64 (x26 + 1))))) else (Kr4 false))) else (again4 (IntKind.wrap .i64 (x26 + 1)))))) else (Kx0w4)
def Z41.l4 : Nat -> List UInt8 -> Int -> Prop -> (Bool -> Prop) -> Prop
 | 0, _, _, _, _ => False
 | n + 1, x25, x26, Kx0w4, Kr4 => Z41.l4.b n  x25 (fun x26q => Z41.l4 n x25 x26q Kx0w4 Kr4) x26 Kx0w4 Kr4
def Z41.w (n : Nat) (lp4 : List UInt8 -> Int -> Prop -> (Bool -> Prop) -> Prop) (a1 : List UInt8) (K : Bool -> Prop) : Prop :=
 if (decide ((a1.length : Int) < 1)) = false then (if (decide ((a1.length : Int) > 12)) = false then (grd (decide (0 < (a1.length : Int))) (Z38.c n ((List.getD a1 0 0).toNat : Int) (fun r51 => if r51 = true then (K false) else (lp4 a1 0 (K true) (fun y53 => K y53))))) else (K false)) else (K false)
def Z41.c : Nat -> List UInt8 -> (Bool -> Prop) -> Prop
 | 0, _, _ => False
 | n + 1, a1, K => Z41.w n (Z41.l4 n) a1 K
def Z31.l10.b (n : Nat) (x18 : List (tDecl)) (x19 : Int) (x20 : Int) (again10 : Int -> Prop) (x21 : Int) (Kx2w10 : List (tDecl) -> Int -> Int -> Prop) (Kr10 : Bool -> Prop) : Prop :=
 if (decide (x21 < x20)) = true then (grd (decide (0 <= x21) && decide (x21 < (x18.length : Int))) (grd (decide (0 <= x20) && decide (x20 < (x18.length : Int))) (let t25 : Bool := (((rd x18 (Int.toNat x21)).1) == ((rd x18 (Int.toNat x20)).1)); if t25 = true then (Kr10 false) else (again10 (IntKind.wrap .i64 (x21 + 1)))))) else (Kx2w10 x18 x19 x20)
def Z31.l10 : Nat -> List (tDecl) -> Int -> Int -> Int -> (List (tDecl) -> Int -> Int -> Prop) -> (Bool -> Prop) -> Prop
 | 0, _, _, _, _, _, _ => False
 | n + 1, x18, x19, x20, x21, Kx2w10, Kr10 => Z31.l10.b n  x18 x19 x20 (fun x21q => Z31.l10 n x18 x19 x20 x21q Kx2w10 Kr10) x21 Kx2w10 Kr10
def Z31.j3 (Kr5 : Bool -> Prop) (again5 : List (tDecl) -> Int -> Int -> Prop) (lp10 : List (tDecl) -> Int -> Int -> Int -> (List (tDecl) -> Int -> Int -> Prop) -> (Bool -> Prop) -> Prop) (x59 : List (tDecl)) (x60 : Int) (x61 : Int) : Prop :=
 lp10 x59 x60 x61 0 (fun y90 y91 y92 => grd (decide (0 <= y92) && decide (y92 < (y90.length : Int))) (let t93 : Int := IntKind.wrap .i64 (y91 + ((rd y90 (Int.toNat y92)).2)); again5 y90 t93 (IntKind.wrap .i64 (y92 + 1)))) (fun y94 => Kr5 y94)
def Z31.l5.b (n : Nat) (lp10 : List (tDecl) -> Int -> Int -> Int -> (List (tDecl) -> Int -> Int -> Prop) -> (Bool -> Prop) -> Prop) (again5 : List (tDecl) -> Int -> Int -> Prop) (x59 : List (tDecl)) (x60 : Int) (x61 : Int) (Kx0w5 : Int -> Prop) (Kr5 : Bool -> Prop) : Prop :=
 if (decide (x61 < (x59.length : Int))) = true then (grd (decide (0 <= x61) && decide (x61 < (x59.length : Int))) (Z41.c n ((rd x59 (Int.toNat x61)).1) (fun r98 => if (!r98) = false then (grd (decide (0 <= x61) && decide (x61 < (x59.length : Int))) (Z40.c n ((rd x59 (Int.toNat x61)).2) 1 4096 (fun r99 => if (!r99) = true then (Kr5 false) else (Z31.j3 Kr5 again5 lp10 x59 x60 x61)))) else (Kr5 false)))) else (Kx0w5 x60)
def Z31.l5 : Nat -> List (tDecl) -> Int -> Int -> (Int -> Prop) -> (Bool -> Prop) -> Prop
 | 0, _, _, _, _, _ => False
 | n + 1, x59, x60, x61, Kx0w5, Kr5 => Z31.l5.b n (Z31.l10 n)  (fun x59q x60q x61q => Z31.l5 n x59q x60q x61q Kx0w5 Kr5) x59 x60 x61 Kx0w5 Kr5
def Z31.w (n : Nat) (lp5 : List (tDecl) -> Int -> Int -> (Int -> Prop) -> (Bool -> Prop) -> Prop) (a1 : List (tDecl)) (K : Bool -> Prop) : Prop :=
 if (decide ((a1.length : Int) > 60)) = true then (K false) else (lp5 a1 0 0 (fun y102 => K (decide (y102 <= 20000))) (fun y103 => K y103))
def Z31.c : Nat -> List (tDecl) -> (Bool -> Prop) -> Prop
 | 0, _, _ => False
 | n + 1, a1, K => Z31.w n (Z31.l5 n) a1 K
def Z58.w (n : Nat) (a1 : Int) (K : Bool -> Prop) : Prop :=
 Z40.c n a1 4 9 (fun r2 => K r2)
def Z58.c : Nat -> Int -> (Bool -> Prop) -> Prop
 | 0, _, _ => False
 | n + 1, a1, K => Z58.w n  a1 K
def Z55.l2.b (n : Nat) (x22 : List (tDecl)) (x23 : Int) (x25 : Int) (x26 : Int) (x27 : Int) (x28 : Int) (x29 : Int) (x30 : List Int) (x31 : List Int) (again2 : Int -> Prop) (x24 : Int) (Kx0w2 : List (tDecl) -> Int -> Int -> Int -> Int -> Int -> List Int -> List Int -> Prop) (Kr2 : Bool -> Prop) : Prop :=
 if (decide (x24 < (x31.length : Int))) = true then (grd (decide (0 <= x24) && decide (x24 < (x31.length : Int))) (Z40.c n (rd x31 (Int.toNat x24)) 0 (IntKind.wrap .i64 (x23 - 1)) (fun r33 => if (!r33) = true then (Kr2 false) else (again2 (IntKind.wrap .i64 (x24 + 1)))))) else (Kx0w2 x22 x25 x26 x27 x28 x29 x30 x31)
def Z55.l2 : Nat -> List (tDecl) -> Int -> Int -> Int -> Int -> Int -> Int -> List Int -> List Int -> Int -> (List (tDecl) -> Int -> Int -> Int -> Int -> Int -> List Int -> List Int -> Prop) -> (Bool -> Prop) -> Prop
 | 0, _, _, _, _, _, _, _, _, _, _, _, _ => False
 | n + 1, x22, x23, x25, x26, x27, x28, x29, x30, x31, x24, Kx0w2, Kr2 => Z55.l2.b n  x22 x23 x25 x26 x27 x28 x29 x30 x31 (fun x24q => Z55.l2 n x22 x23 x25 x26 x27 x28 x29 x30 x31 x24q Kx0w2 Kr2) x24 Kx0w2 Kr2
def Z55.q7.b (n : Nat) (x53 : List (tDecl)) (x54 : Bool) (x55 : Int) (x56 : Int) (x57 : Int) (x58 : Int) (x59 : Int) (x60 : List Int) (x61 : List Int) (Kc7w0 : Bool -> Prop) (Kc7w1 : List (tDecl) -> Int -> Int -> Int -> Int -> Int -> List Int -> List Int -> Prop) : Prop :=
 if x54 = true then (Kc7w0 false) else (Kc7w1 x53 x55 x56 x57 x58 x59 x60 x61)
def Z55.q7 : Nat -> List (tDecl) -> Bool -> Int -> Int -> Int -> Int -> Int -> List Int -> List Int -> (Bool -> Prop) -> (List (tDecl) -> Int -> Int -> Int -> Int -> Int -> List Int -> List Int -> Prop) -> Prop
 | 0, _, _, _, _, _, _, _, _, _, _, _ => False
 | n + 1, x53, x54, x55, x56, x57, x58, x59, x60, x61, Kc7w0, Kc7w1 => Z55.q7.b n  x53 x54 x55 x56 x57 x58 x59 x60 x61  Kc7w0 Kc7w1
def Z55.q8.b (n : Nat) (x71 : List (tDecl)) (x72 : Int) (x73 : Int) (x74 : Int) (x75 : Int) (x76 : Int) (x77 : List Int) (x78 : List Int) (Kc8w0 : Bool -> Prop) : Prop :=
 if (decide (x72 = 1)) = true then (if (decide ((x78.length : Int) = 0)) = true then (Z40.c n x73 0 (IntKind.wrap .i64 ((x71.length : Int) - 1)) (fun r88 => Kc8w0 r88)) else (Kc8w0 false)) else (if (decide (x72 = 2)) = true then (if (decide ((x78.length : Int) = 0)) = true then (Z30.c n x76 x77 (fun r91 => Kc8w0 r91)) else (Kc8w0 false)) else (if (decide (x72 = 3)) = true then (Kc8w0 (decide ((x78.length : Int) >= 2))) else (Z58.c n x72 (fun r92 => if r92 = true then (Kc8w0 (decide ((x78.length : Int) = 1))) else (Kc8w0 false)))))
def Z55.q8 : Nat -> List (tDecl) -> Int -> Int -> Int -> Int -> Int -> List Int -> List Int -> (Bool -> Prop) -> Prop
 | 0, _, _, _, _, _, _, _, _, _ => False
 | n + 1, x71, x72, x73, x74, x75, x76, x77, x78, Kc8w0 => Z55.q8.b n  x71 x72 x73 x74 x75 x76 x77 x78  Kc8w0
def Z55.w (n : Nat) (lp2 : List (tDecl) -> Int -> Int -> Int -> Int -> Int -> Int -> List Int -> List Int -> Int -> (List (tDecl) -> Int -> Int -> Int -> Int -> Int -> List Int -> List Int -> Prop) -> (Bool -> Prop) -> Prop) (lpq7 : List (tDecl) -> Bool -> Int -> Int -> Int -> Int -> Int -> List Int -> List Int -> (Bool -> Prop) -> (List (tDecl) -> Int -> Int -> Int -> Int -> Int -> List Int -> List Int -> Prop) -> Prop) (lpq8 : List (tDecl) -> Int -> Int -> Int -> Int -> Int -> List Int -> List Int -> (Bool -> Prop) -> Prop) (a1 : List (tDecl)) (a2 : Int) (a3 : Int) (a4 : Int) (a5 : Int) (a6 : Int) (a7 : List Int) (a8 : List Int) (a9 : Int) (K : Bool -> Prop) : Prop :=
 lp2 a1 a9 a2 a3 a4 a5 a6 a7 a8 0 (fun y43 y44 y45 y46 y47 y48 y49 y50 => if (!(decide (y44 = 1))) = true then (if (!(decide (y45 = 0))) = false then (if (!(decide (y44 = 2))) = true then (Z57.c n y48 y49 (fun r51 => if (!r51) = false then (if (!(decide (y44 = 4))) = true then (if (!(decide (y47 = 0))) = false then (Z58.c n y44 (fun r52 => if (!r52) = true then (lpq7 y43 (!(decide (y46 = 0))) y44 y45 y46 y47 y48 y49 y50 (fun y62 => K y62) (fun y63 y64 y65 y66 y67 y68 y69 y70 => lpq8 y63 y64 y65 y66 y67 y68 y69 y70 (fun y93 => K y93))) else (lpq7 y43 false y44 y45 y46 y47 y48 y49 y50 (fun y94 => K y94) (fun y95 y96 y97 y98 y99 y100 y101 y102 => lpq8 y95 y96 y97 y98 y99 y100 y101 y102 (fun y103 => K y103))))) else (lpq7 y43 true y44 y45 y46 y47 y48 y49 y50 (fun y104 => K y104) (fun y105 y106 y107 y108 y109 y110 y111 y112 => lpq8 y105 y106 y107 y108 y109 y110 y111 y112 (fun y113 => K y113)))) else (Z58.c n y44 (fun r114 => if (!r114) = true then (lpq7 y43 (!(decide (y46 = 0))) y44 y45 y46 y47 y48 y49 y50 (fun y115 => K y115) (fun y116 y117 y118 y119 y120 y121 y122 y123 => lpq8 y116 y117 y118 y119 y120 y121 y122 y123 (fun y124 => K y124))) else (lpq7 y43 false y44 y45 y46 y47 y48 y49 y50 (fun y125 => K y125) (fun y126 y127 y128 y129 y130 y131 y132 y133 => lpq8 y126 y127 y128 y129 y130 y131 y132 y133 (fun y134 => K y134)))))) else (lpq7 y43 true y44 y45 y46 y47 y48 y49 y50 (fun y135 => K y135) (fun y136 y137 y138 y139 y140 y141 y142 y143 => lpq8 y136 y137 y138 y139 y140 y141 y142 y143 (fun y144 => K y144))))) else (if (!(decide (y44 = 4))) = true then (if (!(decide (y47 = 0))) = false then (Z58.c n y44 (fun r145 => if (!r145) = true then (lpq7 y43 (!(decide (y46 = 0))) y44 y45 y46 y47 y48 y49 y50 (fun y146 => K y146) (fun y147 y148 y149 y150 y151 y152 y153 y154 => lpq8 y147 y148 y149 y150 y151 y152 y153 y154 (fun y155 => K y155))) else (lpq7 y43 false y44 y45 y46 y47 y48 y49 y50 (fun y156 => K y156) (fun y157 y158 y159 y160 y161 y162 y163 y164 => lpq8 y157 y158 y159 y160 y161 y162 y163 y164 (fun y165 => K y165))))) else (lpq7 y43 true y44 y45 y46 y47 y48 y49 y50 (fun y166 => K y166) (fun y167 y168 y169 y170 y171 y172 y173 y174 => lpq8 y167 y168 y169 y170 y171 y172 y173 y174 (fun y175 => K y175)))) else (Z58.c n y44 (fun r176 => if (!r176) = true then (lpq7 y43 (!(decide (y46 = 0))) y44 y45 y46 y47 y48 y49 y50 (fun y177 => K y177) (fun y178 y179 y180 y181 y182 y183 y184 y185 => lpq8 y178 y179 y180 y181 y182 y183 y184 y185 (fun y186 => K y186))) else (lpq7 y43 false y44 y45 y46 y47 y48 y49 y50 (fun y187 => K y187) (fun y188 y189 y190 y191 y192 y193 y194 y195 => lpq8 y188 y189 y190 y191 y192 y193 y194 y195 (fun y196 => K y196))))))) else (lpq7 y43 true y44 y45 y46 y47 y48 y49 y50 (fun y197 => K y197) (fun y198 y199 y200 y201 y202 y203 y204 y205 => lpq8 y198 y199 y200 y201 y202 y203 y204 y205 (fun y206 => K y206)))) else (if (!(decide (y44 = 2))) = true then (Z57.c n y48 y49 (fun r207 => if (!r207) = false then (if (!(decide (y44 = 4))) = true then (if (!(decide (y47 = 0))) = false then (Z58.c n y44 (fun r208 => if (!r208) = true then (lpq7 y43 (!(decide (y46 = 0))) y44 y45 y46 y47 y48 y49 y50 (fun y209 => K y209) (fun y210 y211 y212 y213 y214 y215 y216 y217 => lpq8 y210 y211 y212 y213 y214 y215 y216 y217 (fun y218 => K y218))) else (lpq7 y43 false y44 y45 y46 y47 y48 y49 y50 (fun y219 => K y219) (fun y220 y221 y222 y223 y224 y225 y226 y227 => lpq8 y220 y221 y222 y223 y224 y225 y226 y227 (fun y228 => K y228))))) else (lpq7 y43 true y44 y45 y46 y47 y48 y49 y50 (fun y229 => K y229) (fun y230 y231 y232 y233 y234 y235 y236 y237 => lpq8 y230 y231 y232 y233 y234 y235 y236 y237 (fun y238 => K y238)))) else (Z58.c n y44 (fun r239 => if (!r239) = true then (lpq7 y43 (!(decide (y46 = 0))) y44 y45 y46 y47 y48 y49 y50 (fun y240 => K y240) (fun y241 y242 y243 y244 y245 y246 y247 y248 => lpq8 y241 y242 y243 y244 y245 y246 y247 y248 (fun y249 => K y249))) else (lpq7 y43 false y44 y45 y46 y47 y48 y49 y50 (fun y250 => K y250) (fun y251 y252 y253 y254 y255 y256 y257 y258 => lpq8 y251 y252 y253 y254 y255 y256 y257 y258 (fun y259 => K y259)))))) else (lpq7 y43 true y44 y45 y46 y47 y48 y49 y50 (fun y260 => K y260) (fun y261 y262 y263 y264 y265 y266 y267 y268 => lpq8 y261 y262 y263 y264 y265 y266 y267 y268 (fun y269 => K y269))))) else (if (!(decide (y44 = 4))) = true then (if (!(decide (y47 = 0))) = false then (Z58.c n y44 (fun r270 => if (!r270) = true then (lpq7 y43 (!(decide (y46 = 0))) y44 y45 y46 y47 y48 y49 y50 (fun y271 => K y271) (fun y272 y273 y274 y275 y276 y277 y278 y279 => lpq8 y272 y273 y274 y275 y276 y277 y278 y279 (fun y280 => K y280))) else (lpq7 y43 false y44 y45 y46 y47 y48 y49 y50 (fun y281 => K y281) (fun y282 y283 y284 y285 y286 y287 y288 y289 => lpq8 y282 y283 y284 y285 y286 y287 y288 y289 (fun y290 => K y290))))) else (lpq7 y43 true y44 y45 y46 y47 y48 y49 y50 (fun y291 => K y291) (fun y292 y293 y294 y295 y296 y297 y298 y299 => lpq8 y292 y293 y294 y295 y296 y297 y298 y299 (fun y300 => K y300)))) else (Z58.c n y44 (fun r301 => if (!r301) = true then (lpq7 y43 (!(decide (y46 = 0))) y44 y45 y46 y47 y48 y49 y50 (fun y302 => K y302) (fun y303 y304 y305 y306 y307 y308 y309 y310 => lpq8 y303 y304 y305 y306 y307 y308 y309 y310 (fun y311 => K y311))) else (lpq7 y43 false y44 y45 y46 y47 y48 y49 y50 (fun y312 => K y312) (fun y313 y314 y315 y316 y317 y318 y319 y320 => lpq8 y313 y314 y315 y316 y317 y318 y319 y320 (fun y321 => K y321)))))))) (fun y322 => K y322)
def Z55.c : Nat -> List (tDecl) -> Int -> Int -> Int -> Int -> Int -> List Int -> List Int -> Int -> (Bool -> Prop) -> Prop
 | 0, _, _, _, _, _, _, _, _, _, _ => False
 | n + 1, a1, a2, a3, a4, a5, a6, a7, a8, a9, K => Z55.w n (Z55.l2 n) (Z55.q7 n) (Z55.q8 n) a1 a2 a3 a4 a5 a6 a7 a8 a9 K
def Z60.l3.b (n : Nat) (x23 : List (tDecl)) (x24 : List Int) (x27 : Int) (x28 : Int) (x29 : Int) (x30 : Int) (x31 : Int) (x32 : List Int) (x33 : List Int) (again3 : Int -> Int -> Prop) (x25 : Int) (x26 : Int) (Kx0w3 : List (tDecl) -> Int -> Int -> Int -> Int -> Int -> Int -> List Int -> List Int -> Prop) : Prop :=
 if (decide (x26 < (x33.length : Int))) = true then (grd (decide (0 <= x26) && decide (x26 < (x33.length : Int))) (grd (decide (0 <= rd x33 (Int.toNat x26)) && decide (rd x33 (Int.toNat x26) < (x24.length : Int))) (let t35 : Int := IntKind.wrap .i64 (x25 + (rd x24 (Int.toNat (rd x33 (Int.toNat x26))))); again3 (if t35 < 8192 then t35 else 8192) (IntKind.wrap .i64 (x26 + 1))))) else (Kx0w3 x23 x25 x27 x28 x29 x30 x31 x32 x33)
def Z60.l3 : Nat -> List (tDecl) -> List Int -> Int -> Int -> Int -> Int -> Int -> List Int -> List Int -> Int -> Int -> (List (tDecl) -> Int -> Int -> Int -> Int -> Int -> Int -> List Int -> List Int -> Prop) -> Prop
 | 0, _, _, _, _, _, _, _, _, _, _, _, _ => False
 | n + 1, x23, x24, x27, x28, x29, x30, x31, x32, x33, x25, x26, Kx0w3 => Z60.l3.b n  x23 x24 x27 x28 x29 x30 x31 x32 x33 (fun x25q x26q => Z60.l3 n x23 x24 x27 x28 x29 x30 x31 x32 x33 x25q x26q Kx0w3) x25 x26 Kx0w3
def Z60.j2 (K : Int -> Prop) (n : Nat) (y46 : Int) (y47 : Int) (y49 : Int) (j74 : Bool) : Prop :=
 if j74 = true then (Z40.c n y49 0 4096 (fun r75 => if (!r75) = true then (K (-1)) else (K y46))) else (if (decide (y47 = 9)) = true then (Z40.c n y49 1 4096 (fun r77 => if (!r77) = true then (K (-1)) else (K (IntKind.wrap .i64 (y46 * y49))))) else (K y46))
def Z60.j3 (K : Int -> Prop) (n : Nat) (y46 : Int) (y47 : Int) (y49 : Int) (j71 : Bool) : Prop :=
 if j71 = true then (Z40.c n y49 0 4096 (fun r73 => if (!r73) = true then (K (-1)) else (K (IntKind.wrap .i64 (y46 + y49))))) else (if (decide (y47 = 7)) = true then (Z60.j2 K n y46 y47 y49 true) else (Z60.j2 K n y46 y47 y49 (decide (y47 = 8))))
def Z60.w (n : Nat) (lp3 : List (tDecl) -> List Int -> Int -> Int -> Int -> Int -> Int -> List Int -> List Int -> Int -> Int -> (List (tDecl) -> Int -> Int -> Int -> Int -> Int -> Int -> List Int -> List Int -> Prop) -> Prop) (a1 : List (tDecl)) (a2 : Int) (a3 : Int) (a4 : Int) (a5 : Int) (a6 : Int) (a7 : List Int) (a8 : List Int) (a9 : List Int) (K : Int -> Prop) : Prop :=
 lp3 a1 a9 a2 a3 a4 a5 a6 a7 a8 0 0 (fun y45 y46 y47 y48 y49 y50 y51 y52 y53 => if (decide (y47 = 1)) = true then (grd (decide (0 <= y48) && decide (y48 < (y45.length : Int))) (K ((rd y45 (Int.toNat y48)).2))) else (if (decide (y47 = 2)) = true then (K y51) else (if (decide (y47 = 4)) = true then (if (decide (y50 < 0)) = false then (if (decide (y49 < y50)) = false then (if (decide (y49 >= y46)) = true then (K (-1)) else (let t70 : Int := IntKind.wrap .i64 ((IntKind.wrap .i64 (y49 - y50)) + 1); K t70)) else (K (-1))) else (K (-1))) else (if (decide (y47 = 5)) = true then (Z60.j3 K n y46 y47 y49 true) else (Z60.j3 K n y46 y47 y49 (decide (y47 = 6)))))))
def Z60.c : Nat -> List (tDecl) -> Int -> Int -> Int -> Int -> Int -> List Int -> List Int -> List Int -> (Int -> Prop) -> Prop
 | 0, _, _, _, _, _, _, _, _, _, _ => False
 | n + 1, a1, a2, a3, a4, a5, a6, a7, a8, a9, K => Z60.w n (Z60.l3 n) a1 a2 a3 a4 a5 a6 a7 a8 a9 K
def Z61.l16.b (n : Nat) (x37 : List (tDecl)) (x38 : Int) (x40 : List Int) (x42 : List Int) (x43 : List (tTNode)) (again16 : Int -> List Bool -> Prop) (x39 : Int) (x41 : List Bool) (Kx2w16 : List (tDecl) -> Int -> List Int -> List Bool -> List Int -> List (tTNode) -> Prop) : Prop :=
 grd (decide (0 <= x38) && decide (x38 < (x43.length : Int))) (let t45 : List Int := ((((((rd x43 (Int.toNat x38)).2).2).2).2).2).2; if (decide (x39 < (t45.length : Int))) = true then (grd (decide (0 <= x38) && decide (x38 < (x43.length : Int))) (let t48 : List Int := ((((((rd x43 (Int.toNat x38)).2).2).2).2).2).2; grd (decide (0 <= x39) && decide (x39 < (t48.length : Int))) (grd (decide (0 <= rd t48 (Int.toNat x39)) && decide (rd t48 (Int.toNat x39) < (x41.length : Int))) (let t49 : List Bool := List.set x41 (Int.toNat (rd t48 (Int.toNat x39))) true; again16 (IntKind.wrap .i64 (x39 + 1)) t49)))) else (Kx2w16 x37 x38 x40 x41 x42 x43))
def Z61.l16 : Nat -> List (tDecl) -> Int -> List Int -> List Int -> List (tTNode) -> Int -> List Bool -> (List (tDecl) -> Int -> List Int -> List Bool -> List Int -> List (tTNode) -> Prop) -> Prop
 | 0, _, _, _, _, _, _, _, _ => False
 | n + 1, x37, x38, x40, x42, x43, x39, x41, Kx2w16 => Z61.l16.b n  x37 x38 x40 x42 x43 (fun x39q x41q => Z61.l16 n x37 x38 x40 x42 x43 x39q x41q Kx2w16) x39 x41 Kx2w16
def Z61.l7.b (n : Nat) (lp16 : List (tDecl) -> Int -> List Int -> List Int -> List (tTNode) -> Int -> List Bool -> (List (tDecl) -> Int -> List Int -> List Bool -> List Int -> List (tTNode) -> Prop) -> Prop) (again7 : List (tDecl) -> Int -> List Int -> List Int -> List Bool -> List (tTNode) -> Prop) (x73 : List (tDecl)) (x74 : Int) (x75 : List Int) (x76 : List Int) (x77 : List Bool) (x78 : List (tTNode)) (Kx0w7 : List Int -> List Int -> List Bool -> Prop) (Kr7 : List Int -> Prop) : Prop :=
 if (decide (x74 < (x78.length : Int))) = true then (grd (decide (0 <= x74) && decide (x74 < (x78.length : Int))) (let t99 : List Int := ((((((rd x78 (Int.toNat x74)).2).2).2).2).2).1; let t100 : List Int := ((((((rd x78 (Int.toNat x74)).2).2).2).2).2).2; Z55.c n x73 ((rd x78 (Int.toNat x74)).1) (((rd x78 (Int.toNat x74)).2).1) ((((rd x78 (Int.toNat x74)).2).2).1) (((((rd x78 (Int.toNat x74)).2).2).2).1) ((((((rd x78 (Int.toNat x74)).2).2).2).2).1) t99 t100 x74 (fun r101 => if (!r101) = true then (Kr7 x76) else (grd (decide (0 <= x74) && decide (x74 < (x78.length : Int))) (let t102 : List Int := ((((((rd x78 (Int.toNat x74)).2).2).2).2).2).1; let t103 : List Int := ((((((rd x78 (Int.toNat x74)).2).2).2).2).2).2; Z60.c n x73 ((rd x78 (Int.toNat x74)).1) (((rd x78 (Int.toNat x74)).2).1) ((((rd x78 (Int.toNat x74)).2).2).1) (((((rd x78 (Int.toNat x74)).2).2).2).1) ((((((rd x78 (Int.toNat x74)).2).2).2).2).1) t102 t103 x75 (fun r104 => Z40.c n r104 1 4096 (fun r106 => if (!r106) = true then (Kr7 x76) else (grd (decide (x75.length + ([r104] : List (Int)).length <= 7818749353073)) (lp16 x73 x74 x76 (x75 ++ ([r104] : List (Int))) x78 0 x77 (fun y107 y108 y109 y110 y111 y112 => again7 y107 (IntKind.wrap .i64 (y108 + 1)) y111 y109 y110 y112)))))))))) else (Kx0w7 x75 x76 x77)
def Z61.l7 : Nat -> List (tDecl) -> Int -> List Int -> List Int -> List Bool -> List (tTNode) -> (List Int -> List Int -> List Bool -> Prop) -> (List Int -> Prop) -> Prop
 | 0, _, _, _, _, _, _, _, _ => False
 | n + 1, x73, x74, x75, x76, x77, x78, Kx0w7, Kr7 => Z61.l7.b n (Z61.l16 n)  (fun x73q x74q x75q x76q x77q x78q => Z61.l7 n x73q x74q x75q x76q x77q x78q Kx0w7 Kr7) x73 x74 x75 x76 x77 x78 Kx0w7 Kr7
def Z61.l20.b (n : Nat) (x127 : List Int) (x128 : List Int) (x129 : List Bool) (again20 : Int -> Prop) (x126 : Int) (Kx4w20 : List Int -> Prop) (Kr20 : List Int -> Prop) : Prop :=
 let t131 : Bool := decide (IntKind.wrap .i64 (x126 + 1) < (x129.length : Int)); if t131 = true then (grd (decide (0 <= x126) && decide (x126 < (x129.length : Int))) (if (!(rd x129 (Int.toNat x126))) = true then (Kr20 x128) else (again20 (IntKind.wrap .i64 (x126 + 1))))) else (Kx4w20 x127)
def Z61.l20 : Nat -> List Int -> List Int -> List Bool -> Int -> (List Int -> Prop) -> (List Int -> Prop) -> Prop
 | 0, _, _, _, _, _, _ => False
 | n + 1, x127, x128, x129, x126, Kx4w20, Kr20 => Z61.l20.b n  x127 x128 x129 (fun x126q => Z61.l20 n x127 x128 x129 x126q Kx4w20 Kr20) x126 Kx4w20 Kr20
def Z61.j0 (K : List Int -> Prop) (a1 : List (tDecl)) (a2 : List (tTNode)) (lp7 : List (tDecl) -> Int -> List Int -> List Int -> List Bool -> List (tTNode) -> (List Int -> List Int -> List Bool -> Prop) -> (List Int -> Prop) -> Prop) (lp20 : List Int -> List Int -> List Bool -> Int -> (List Int -> Prop) -> (List Int -> Prop) -> Prop) : Prop :=
 grd ((decide (0 <= (a2.length : Int)) && decide ((a2.length : Int) <= 35184372088832)) && decide ((a2.length : Int) = (a2.length : Int))) (let t6 : List Bool := List.replicate (Int.toNat (a2.length : Int)) false; lp7 a1 0 ([] : List (Int)) ([] : List (Int)) t6 a2 (fun y117 y118 y119 => lp20 y117 y118 y119 0 (fun y134 => K y134) (fun y135 => K y135)) (fun y136 => K y136))
def Z61.w (n : Nat) (lp7 : List (tDecl) -> Int -> List Int -> List Int -> List Bool -> List (tTNode) -> (List Int -> List Int -> List Bool -> Prop) -> (List Int -> Prop) -> Prop) (lp20 : List Int -> List Int -> List Bool -> Int -> (List Int -> Prop) -> (List Int -> Prop) -> Prop) (a1 : List (tDecl)) (a2 : List (tTNode)) (K : List Int -> Prop) : Prop :=
 Z31.c n a1 (fun r139 => if (!r139) = false then (if (decide ((a2.length : Int) < 1)) = false then (if (decide ((a2.length : Int) > 400)) = true then (K ([] : List (Int))) else (Z61.j0 K a1 a2 lp7 lp20)) else (K ([] : List (Int)))) else (K ([] : List (Int))))
def Z61.c : Nat -> List (tDecl) -> List (tTNode) -> (List Int -> Prop) -> Prop
 | 0, _, _, _ => False
 | n + 1, a1, a2, K => Z61.w n (Z61.l7 n) (Z61.l20 n) a1 a2 K
def Z36.w (n : Nat) (a1 : List (tDecl)) (a2 : List (tTNode)) (K : Int -> Prop) : Prop :=
 Z61.c n a1 a2 (fun r3 => if (decide ((r3.length : Int) = 0)) = true then (K (-1)) else (grd (decide (0 <= IntKind.wrap .i64 ((r3.length : Int) - 1)) && decide (IntKind.wrap .i64 ((r3.length : Int) - 1) < (r3.length : Int))) (let t4 : Nat := Int.toNat (IntKind.wrap .i64 ((r3.length : Int) - 1)); K (rd r3 t4))))
def Z36.c : Nat -> List (tDecl) -> List (tTNode) -> (Int -> Prop) -> Prop
 | 0, _, _, _ => False
 | n + 1, a1, a2, K => Z36.w n  a1 a2 K
def Z19.l4.b (n : Nat) (x35 : List UInt8) (again4 : Int -> Prop) (x36 : Int) (Kx0w4 : Prop) (Kr4 : Bool -> Prop) : Prop :=
 if (decide (x36 < (x35.length : Int))) = true then (grd (decide (0 <= x36) && decide (x36 < (x35.length : Int))) (let t57 : Int := ((List.getD x35 (Int.toNat x36) 0).toNat : Int); if (decide (t57 < 97)) = false then (grd (decide (0 <= x36) && decide (x36 < (x35.length : Int))) (let t58 : Int := ((List.getD x35 (Int.toNat x36) 0).toNat : Int); if (decide (t58 > 122)) = true then (grd (decide (0 <= x36) && decide (x36 < (x35.length : Int))) (let t59 : Int := ((List.getD x35 (Int.toNat x36) 0).toNat : Int); if (decide (t59 < 48)) = false then (grd (decide (0 <= x36) && decide (x36 < (x35.length : Int))) (let t60 : Int := ((List.getD x35 (Int.toNat x36) 0).toNat : Int); if (decide (t60 > 57)) = true then (Kr4 false) else (again4 (IntKind.wrap .i64 (x36 + 1))))) else (Kr4 false))) else (again4 (IntKind.wrap .i64 (x36 + 1))))) else (grd (decide (0 <= x36) && decide (x36 < (x35.length : Int))) (let t61 : Int := ((List.getD x35 (Int.toNat x36) 0).toNat : Int); if (decide (t61 < 48)) = false then (grd (decide (0 <= x36) && decide (x36 < (x35.length : Int))) (let t62 : Int := ((List.getD x35 (Int.toNat x36) 0).toNat : Int); if (decide (t62 > 57)) = true then (Kr4 false) else (again4 (IntKind.wrap .i64 (x36 + 1))))) else (Kr4 false))))) else (Kx0w4)
def Z19.l4 : Nat -> List UInt8 -> Int -> Prop -> (Bool -> Prop) -> Prop
 | 0, _, _, _, _ => False
 | n + 1, x35, x36, Kx0w4, Kr4 => Z19.l4.b n  x35 (fun x36q => Z19.l4 n x35 x36q Kx0w4 Kr4) x36 Kx0w4 Kr4
def Z19.w (n : Nat) (lp4 : List UInt8 -> Int -> Prop -> (Bool -> Prop) -> Prop) (a1 : List UInt8) (K : Bool -> Prop) : Prop :=
 if (decide ((a1.length : Int) < 1)) = false then (if (decide ((a1.length : Int) > 12)) = false then (grd (decide (0 < (a1.length : Int))) (let t70 : Bool := decide (((List.getD a1 0 0).toNat : Int) < 97); if t70 = false then (grd (decide (0 < (a1.length : Int))) (let t71 : Bool := decide (((List.getD a1 0 0).toNat : Int) > 122); if t71 = true then (K false) else (lp4 a1 0 (K true) (fun y73 => K y73)))) else (K false))) else (K false)) else (K false)
def Z19.c : Nat -> List UInt8 -> (Bool -> Prop) -> Prop
 | 0, _, _ => False
 | n + 1, a1, K => Z19.w n (Z19.l4 n) a1 K
def Z14.w (n : Nat) (a1 : List UInt8) (a2 : Int) (a3 : List UInt8) (K : Bool -> Prop) : Prop :=
 K (a1 == a3)
def Z14.c : Nat -> List UInt8 -> Int -> List UInt8 -> (Bool -> Prop) -> Prop
 | 0, _, _, _, _ => False
 | n + 1, a1, a2, a3, K => Z14.w n  a1 a2 a3 K
def Z29.l2.b (n : Nat) (x9 : List (tDecl)) (x10 : List UInt8) (x11 : Int) (again2 : Int -> Prop) (x12 : Int) (Kx0w2 : Prop) (Kr2 : Int -> Prop) : Prop :=
 if (decide (x12 < x11)) = true then (grd (decide (0 <= x12) && decide (x12 < (x9.length : Int))) (Z14.c n ((rd x9 (Int.toNat x12)).1) ((rd x9 (Int.toNat x12)).2) x10 (fun r14 => if r14 = true then (Kr2 x12) else (again2 (IntKind.wrap .i64 (x12 + 1)))))) else (Kx0w2)
def Z29.l2 : Nat -> List (tDecl) -> List UInt8 -> Int -> Int -> Prop -> (Int -> Prop) -> Prop
 | 0, _, _, _, _, _, _ => False
 | n + 1, x9, x10, x11, x12, Kx0w2, Kr2 => Z29.l2.b n  x9 x10 x11 (fun x12q => Z29.l2 n x9 x10 x11 x12q Kx0w2 Kr2) x12 Kx0w2 Kr2
def Z29.w (n : Nat) (lp2 : List (tDecl) -> List UInt8 -> Int -> Int -> Prop -> (Int -> Prop) -> Prop) (a1 : List (tDecl)) (a2 : List UInt8) (K : Int -> Prop) : Prop :=
 lp2 a1 a2 (a1.length : Int) 0 (K (-1)) (fun y16 => K y16)
def Z29.c : Nat -> List (tDecl) -> List UInt8 -> (Int -> Prop) -> Prop
 | 0, _, _, _ => False
 | n + 1, a1, a2, K => Z29.w n (Z29.l2 n) a1 a2 K
def Z13.w (n : Nat) (a1 : List (tDecl)) (a2 : List UInt8) (K : Int -> Prop) : Prop :=
 Z29.c n a1 a2 (fun r3 => K r3)
def Z13.c : Nat -> List (tDecl) -> List UInt8 -> (Int -> Prop) -> Prop
 | 0, _, _, _ => False
 | n + 1, a1, a2, K => Z13.w n  a1 a2 K
def Z4.l5.b (n : Nat) (x42 : List (tDecl)) (x44 : List (tDecl)) (x45 : Int) (again5 : Int -> Int -> Prop) (x43 : Int) (x46 : Int) (Kx0w5 : Int -> Prop) (Kr5 : Bool -> Prop) : Prop :=
 if (decide (x46 < x45)) = true then (grd (decide (0 <= x46) && decide (x46 < (x44.length : Int))) (Z19.c n ((rd x44 (Int.toNat x46)).1) (fun r78 => if (!r78) = false then (Z18.c n ((rd x44 (Int.toNat x46)).2) 1 4096 (fun r79 => if (!r79) = false then (grd ((decide (0 <= x46) && decide (x46 <= (x42.length : Int))) && decide (0 <= x46)) (Z13.c n (List.drop 0 (List.take (Int.toNat x46) x42)) ((rd x44 (Int.toNat x46)).1) (fun r80 => if (decide (r80 >= 0)) = true then (Kr5 false) else (let t81 : Int := IntKind.wrap .i64 (x43 + ((rd x44 (Int.toNat x46)).2)); again5 t81 (IntKind.wrap .i64 (x46 + 1)))))) else (Kr5 false))) else (Kr5 false)))) else (Kx0w5 x43)
def Z4.l5 : Nat -> List (tDecl) -> List (tDecl) -> Int -> Int -> Int -> (Int -> Prop) -> (Bool -> Prop) -> Prop
 | 0, _, _, _, _, _, _, _ => False
 | n + 1, x42, x44, x45, x43, x46, Kx0w5, Kr5 => Z4.l5.b n  x42 x44 x45 (fun x43q x46q => Z4.l5 n x42 x44 x45 x43q x46q Kx0w5 Kr5) x43 x46 Kx0w5 Kr5
def Z4.w (n : Nat) (lp5 : List (tDecl) -> List (tDecl) -> Int -> Int -> Int -> (Int -> Prop) -> (Bool -> Prop) -> Prop) (a1 : List (tDecl)) (K : Bool -> Prop) : Prop :=
 if (decide ((a1.length : Int) > 60)) = true then (K false) else (lp5 a1 a1 (a1.length : Int) 0 0 (fun y84 => K (decide (y84 <= 20000))) (fun y85 => K y85))
def Z4.c : Nat -> List (tDecl) -> (Bool -> Prop) -> Prop
 | 0, _, _ => False
 | n + 1, a1, K => Z4.w n (Z4.l5 n) a1 K
def Z25.w (n : Nat) (a1 : List Int) (K : Bool -> Prop) : Prop :=
 K (decide ((a1.length : Int) > 1048576))
def Z25.c : Nat -> List Int -> (Bool -> Prop) -> Prop
 | 0, _, _ => False
 | n + 1, a1, K => Z25.w n  a1 K
def Z42.w (n : Nat) (a1 : List Int) (K : List Int -> Int -> Prop) : Prop :=
 K a1 0
def Z42.c : Nat -> List Int -> (List Int -> Int -> Prop) -> Prop
 | 0, _, _ => False
 | n + 1, a1, K => Z42.w n  a1 K
def Z48.w (n : Nat) (a1 : List Int) (a2 : Int) (K : Int -> List Int -> Int -> Prop) : Prop :=
 if (decide (a2 >= (a1.length : Int))) = true then (K 0 a1 a2) else (let t4 : Int := IntKind.wrap .i64 ((IntKind.wrap .i64 (a2 + 1)) - 1); grd (decide (0 <= t4) && decide (t4 < (a1.length : Int))) (K (IntKind.wrap .i64 (rd a1 (Int.toNat t4))) a1 (IntKind.wrap .i64 (a2 + 1))))
def Z48.c : Nat -> List Int -> Int -> (Int -> List Int -> Int -> Prop) -> Prop
 | 0, _, _, _ => False
 | n + 1, a1, a2, K => Z48.w n  a1 a2 K
def Z43.w (n : Nat) (a1 : List Int) (a2 : Int) (a3 : Int) (K : Int -> List Int -> Int -> Prop) : Prop :=
 if (decide (a3 <= 1)) = true then (K 0 a1 a2) else (if (decide (a3 <= 256)) = true then (Z48.c n a1 a2 (fun r7 r8 r9 => grd (!(decide (a3 = 0))) (K (Int.tmod r7 a3) r8 r9))) else (Z48.c n a1 a2 (fun r10 r11 r12 => Z48.c n r11 r12 (fun r13 r14 r15 => let t16 : Int := IntKind.wrap .i64 ((IntKind.wrap .i64 (r10 * 256)) + r13); grd (!(decide (a3 = 0))) (K (Int.tmod t16 a3) r14 r15)))))
def Z43.c : Nat -> List Int -> Int -> Int -> (Int -> List Int -> Int -> Prop) -> Prop
 | 0, _, _, _, _ => False
 | n + 1, a1, a2, a3, K => Z43.w n  a1 a2 a3 K
def Z50.w (n : Nat) (a1 : List Int) (a2 : Int) (a3 : Int) (K : Bool -> List Int -> Int -> Prop) : Prop :=
 Z43.c n a1 a2 a3 (fun r4 r5 r6 => K (decide (r4 = IntKind.wrap .i64 (a3 - 1))) r5 r6)
def Z50.c : Nat -> List Int -> Int -> Int -> (Bool -> List Int -> Int -> Prop) -> Prop
 | 0, _, _, _, _ => False
 | n + 1, a1, a2, a3, K => Z50.w n  a1 a2 a3 K
def Z51.w (n : Nat) (a1 : List Int) (a2 : Int) (K : Int -> List Int -> Int -> Prop) : Prop :=
 Z43.c n a1 a2 10 (fun r13 r14 r15 => if (decide (r13 = 0)) = true then (let t16 : List Int := ([63, 64, 65, 127, 128, 129, 200] : List (Int)); Z43.c n r14 r15 7 (fun r17 r18 r19 => grd (decide (0 <= r17) && decide (r17 < (t16.length : Int))) (K (rd t16 (Int.toNat r17)) r18 r19))) else (if (decide (r13 = 1)) = true then (Z43.c n r14 r15 40 (fun r20 r21 r22 => K (IntKind.wrap .i64 (1 + r20)) r21 r22)) else (Z43.c n r14 r15 12 (fun r23 r24 r25 => K (IntKind.wrap .i64 (1 + r23)) r24 r25))))
def Z51.c : Nat -> List Int -> Int -> (Int -> List Int -> Int -> Prop) -> Prop
 | 0, _, _, _ => False
 | n + 1, a1, a2, K => Z51.w n  a1 a2 K
def Z45.j3 (again3 : Int -> List (tDecl) -> List Int -> Int -> Prop) (x54 : Int) (x55 : List (tDecl)) (j88 : Int) (j89 : List Int) (j90 : Int) : Prop :=
 let t91 : Int := IntKind.wrap .i64 (97 + (Int.tmod (x55.length : Int) 26)); let t92 : List UInt8 := bytesStr ([IntKind.wrap .u8 t91] : List (Int)); grd (decide (x55.length + ([(t92, j88)] : List (tDecl)).length <= 2814749767106)) (let t93 : List (tDecl) := x55 ++ ([(t92, j88)] : List (tDecl)); again3 (IntKind.wrap .i64 (x54 - 1)) t93 j89 j90)
def Z45.l3.b (n : Nat) (again3 : Int -> List (tDecl) -> List Int -> Int -> Prop) (x54 : Int) (x55 : List (tDecl)) (x56 : List Int) (x57 : Int) (Kx0w3 : List (tDecl) -> List Int -> Int -> Prop) : Prop :=
 if (decide (x54 > 0)) = true then (Z43.c n x56 x57 8 (fun r79 r80 r81 => Z50.c n r80 r81 6 (fun r94 r95 r96 => if r94 = true then (Z51.c n r95 r96 (fun r97 r98 r99 => Z45.j3 again3 x54 x55 r97 r98 r99)) else (Z45.j3 again3 x54 x55 (IntKind.wrap .i64 (1 + r79)) r95 r96)))) else (Kx0w3 x55 x56 x57)
def Z45.l3 : Nat -> Int -> List (tDecl) -> List Int -> Int -> (List (tDecl) -> List Int -> Int -> Prop) -> Prop
 | 0, _, _, _, _, _ => False
 | n + 1, x54, x55, x56, x57, Kx0w3 => Z45.l3.b n   (fun x54q x55q x56q x57q => Z45.l3 n x54q x55q x56q x57q Kx0w3) x54 x55 x56 x57 Kx0w3
def Z45.w (n : Nat) (lp3 : Int -> List (tDecl) -> List Int -> Int -> (List (tDecl) -> List Int -> Int -> Prop) -> Prop) (a1 : List Int) (a2 : Int) (K : List (tDecl) -> List Int -> Int -> Prop) : Prop :=
 let t103 : Int := IntKind.wrap .i64 (Int.tdiv (a1.length : Int) 10); let t104 : Int := (if (IntKind.wrap .i64 (2 + t103)) < 6 then IntKind.wrap .i64 (2 + t103) else 6); Z43.c n a1 a2 t104 (fun r105 r106 r107 => lp3 (IntKind.wrap .i64 (1 + r105)) ([] : List (tDecl)) r106 r107 (fun y108 y109 y110 => K y108 y109 y110))
def Z45.c : Nat -> List Int -> Int -> (List (tDecl) -> List Int -> Int -> Prop) -> Prop
 | 0, _, _, _ => False
 | n + 1, a1, a2, K => Z45.w n (Z45.l3 n) a1 a2 K
def Z52.l3.b (n : Nat) (again3 : Int -> Int -> List Int -> Int -> Prop) (x15 : Int) (x16 : Int) (x17 : List Int) (x18 : Int) (Kx0w3 : Int -> List Int -> Int -> Prop) : Prop :=
 if (decide (x16 < 8)) = true then (Z48.c n x17 x18 (fun r23 r24 r25 => let t26 : Int := ibits .or .u64 (IntKind.wrap .u64 (x15 * 2 ^ 8)) (IntKind.wrap .u64 r23); again3 t26 (IntKind.wrap .i64 (x16 + 1)) r24 r25)) else (Kx0w3 x15 x17 x18)
def Z52.l3 : Nat -> Int -> Int -> List Int -> Int -> (Int -> List Int -> Int -> Prop) -> Prop
 | 0, _, _, _, _, _ => False
 | n + 1, x15, x16, x17, x18, Kx0w3 => Z52.l3.b n   (fun x15q x16q x17q x18q => Z52.l3 n x15q x16q x17q x18q Kx0w3) x15 x16 x17 x18 Kx0w3
def Z52.w (n : Nat) (lp3 : Int -> Int -> List Int -> Int -> (Int -> List Int -> Int -> Prop) -> Prop) (a1 : List Int) (a2 : Int) (K : Int -> List Int -> Int -> Prop) : Prop :=
 lp3 0 0 a1 a2 (fun y30 y31 y32 => K y30 y31 y32)
def Z52.c : Nat -> List Int -> Int -> (Int -> List Int -> Int -> Prop) -> Prop
 | 0, _, _, _ => False
 | n + 1, a1, a2, K => Z52.w n (Z52.l3 n) a1 a2 K
def Z47.w (n : Nat) (a1 : List Int) (a2 : Int) (a3 : Int) (a4 : Int) (K : Int -> List Int -> Int -> Prop) : Prop :=
 Z43.c n a1 a2 8 (fun r8 r9 r10 => if (decide (r8 = 0)) = true then (K a3 r9 r10) else (if (decide (r8 = 1)) = true then (K a4 r9 r10) else (if (decide (a4 < a3)) = true then (K a3 r9 r10) else (Z52.c n r9 r10 (fun r11 r12 r13 => let t14 : Int := IntKind.wrap .i64 ((IntKind.wrap .i64 (a4 - a3)) + 1); grd (!(decide (IntKind.wrap .u64 t14 = 0))) (let t15 : Int := Int.tmod (Int.fdiv r11 (2 ^ 1)) (IntKind.wrap .u64 t14); let t16 : Int := IntKind.wrap .i64 (a3 + (IntKind.wrap .i64 t15)); K t16 r12 r13))))))
def Z47.c : Nat -> List Int -> Int -> Int -> Int -> (Int -> List Int -> Int -> Prop) -> Prop
 | 0, _, _, _, _, _ => False
 | n + 1, a1, a2, a3, a4, K => Z47.w n  a1 a2 a3 a4 K
def Z49.w (n : Nat) (a1 : List Int) (a2 : Int) (a3 : Int) (a4 : Int) (K : Int -> List Int -> Int -> Prop) : Prop :=
 Z50.c n a1 a2 24 (fun r12 r13 r14 => if r12 = true then (let t15 : List Int := ([IntKind.wrap .i64 (a3 - 1), IntKind.wrap .i64 (a4 + 1), (-9223372036854775808), 9223372036854775807] : List (Int)); Z43.c n r13 r14 4 (fun r16 r17 r18 => grd (decide (0 <= r16) && decide (r16 < (t15.length : Int))) (K (rd t15 (Int.toNat r16)) r17 r18))) else (Z47.c n r13 r14 a3 a4 (fun r19 r20 r21 => K r19 r20 r21)))
def Z49.c : Nat -> List Int -> Int -> Int -> Int -> (Int -> List Int -> Int -> Prop) -> Prop
 | 0, _, _, _, _, _ => False
 | n + 1, a1, a2, a3, a4, K => Z49.w n  a1 a2 a3 a4 K
def Z39.l5.b (n : Nat) (x18 : List Int) (x21 : List Int) (x22 : Int) (x23 : Int) (again5 : Int -> List Int -> Prop) (x19 : Int) (x20 : List Int) (Kx0w5 : List Int -> List Int -> Int -> Int -> Prop) : Prop :=
 if (decide (x19 < (x18.length : Int))) = true then (grd (decide (0 <= IntKind.wrap .i64 (Int.tdiv x19 64)) && decide (IntKind.wrap .i64 (Int.tdiv x19 64) < (x20.length : Int))) (let t28 : Nat := Int.toNat (IntKind.wrap .i64 (Int.tdiv x19 64)); grd (decide (0 <= x19) && decide (x19 < (x18.length : Int))) (grd (decide (0 <= IntKind.wrap .u64 (Int.tmod x19 64))) (let t29 : Int := IntKind.wrap .u64 ((IntKind.wrap .u64 (rd x18 (Int.toNat x19))) * 2 ^ (Nat.min (Int.toNat (IntKind.wrap .u64 (Int.tmod x19 64))) 64)); grd (decide (0 <= IntKind.wrap .i64 (Int.tdiv x19 64)) && decide (IntKind.wrap .i64 (Int.tdiv x19 64) < (x20.length : Int))) (let t30 : Nat := Int.toNat (IntKind.wrap .i64 (Int.tdiv x19 64)); let t31 : List Int := List.set x20 t30 (ibits .or .u64 (rd x20 t28) t29); again5 (IntKind.wrap .i64 (x19 + 1)) t31))))) else (Kx0w5 x20 x21 x22 x23)
def Z39.l5 : Nat -> List Int -> List Int -> Int -> Int -> Int -> List Int -> (List Int -> List Int -> Int -> Int -> Prop) -> Prop
 | 0, _, _, _, _, _, _, _ => False
 | n + 1, x18, x21, x22, x23, x19, x20, Kx0w5 => Z39.l5.b n  x18 x21 x22 x23 (fun x19q x20q => Z39.l5 n x18 x21 x22 x23 x19q x20q Kx0w5) x19 x20 Kx0w5
def Z39.j0 (K : Int -> List Int -> Bool -> Prop) (a1 : List Int) (lp5 : List Int -> List Int -> Int -> Int -> Int -> List Int -> (List Int -> List Int -> Int -> Int -> Prop) -> Prop) : Prop :=
 let t3 : Int := IntKind.wrap .i64 (Int.tdiv (IntKind.wrap .i64 ((a1.length : Int) + 63)) 64); grd ((decide (0 <= t3) && decide (t3 <= 7818749353073)) && decide (t3 = t3)) (lp5 a1 ([] : List (Int)) 0 (a1.length : Int) 0 (List.replicate (Int.toNat t3) 0) (fun y36 y37 y38 y39 => K y39 y36 true))
def Z39.w (n : Nat) (lp5 : List Int -> List Int -> Int -> Int -> Int -> List Int -> (List Int -> List Int -> Int -> Int -> Prop) -> Prop) (a1 : List Int) (K : Int -> List Int -> Bool -> Prop) : Prop :=
 if (decide ((a1.length : Int) < 1)) = false then (if (decide ((a1.length : Int) > 4096)) = true then (K 0 ([] : List (Int)) false) else (Z39.j0 K a1 lp5)) else (K 0 ([] : List (Int)) false)
def Z39.c : Nat -> List Int -> (Int -> List Int -> Bool -> Prop) -> Prop
 | 0, _, _ => False
 | n + 1, a1, K => Z39.w n (Z39.l5 n) a1 K
def Z44.j4 (again5 : Int -> List Int -> Prop) (x30 : Int) (x31 : Int) (x32 : List Int) (j44 : Int) : Prop :=
 if (decide (x30 = 1)) = true then (grd (decide (x32.length + ([1] : List (Int)).length <= 35184372088832)) (again5 (IntKind.wrap .i64 (x31 + 1)) (x32 ++ ([1] : List (Int))))) else (grd (decide (x32.length + ([j44] : List (Int)).length <= 35184372088832)) (again5 (IntKind.wrap .i64 (x31 + 1)) (x32 ++ ([j44] : List (Int)))))
def Z44.l5.b (n : Nat) (x28 : Int) (x29 : Int) (x30 : Int) (x33 : List Int) (x34 : List Int) (x35 : Int) (x36 : Int) (again5 : Int -> List Int -> Prop) (x31 : Int) (x32 : List Int) (Kx0w5 : List Int -> List Int -> List Int -> Int -> Int -> Prop) : Prop :=
 if (decide (x31 < x28)) = true then (let t42 : Int := IntKind.wrap .u64 (Int.tmod (IntKind.wrap .i64 (x31 * 7)) 64); grd (decide (0 <= t42)) (let t43 : Int := Int.fdiv x29 (2 ^ (Nat.min (Int.toNat t42) 64)); if (decide (x30 = 0)) = true then (Z44.j4 again5 x30 x31 x32 0) else (Z44.j4 again5 x30 x31 x32 (IntKind.wrap .u8 (ibits .and .u64 t43 1))))) else (Kx0w5 x32 x33 x34 x35 x36)
def Z44.l5 : Nat -> Int -> Int -> Int -> List Int -> List Int -> Int -> Int -> Int -> List Int -> (List Int -> List Int -> List Int -> Int -> Int -> Prop) -> Prop
 | 0, _, _, _, _, _, _, _, _, _, _ => False
 | n + 1, x28, x29, x30, x33, x34, x35, x36, x31, x32, Kx0w5 => Z44.l5.b n  x28 x29 x30 x33 x34 x35 x36 (fun x31q x32q => Z44.l5 n x28 x29 x30 x33 x34 x35 x36 x31q x32q Kx0w5) x31 x32 Kx0w5
def Z44.w (n : Nat) (lp5 : Int -> Int -> Int -> List Int -> List Int -> Int -> Int -> Int -> List Int -> (List Int -> List Int -> List Int -> Int -> Int -> Prop) -> Prop) (a1 : List Int) (a2 : Int) (a3 : Int) (K : Int -> List Int -> List Int -> Int -> Prop) : Prop :=
 Z52.c n a1 a2 (fun r4 r5 r6 => Z43.c n r5 r6 4 (fun r7 r8 r9 => lp5 a3 r4 r7 ([] : List (Int)) r8 r9 0 0 ([] : List (Int)) (fun y51 y52 y53 y54 y55 => Z39.c n y51 (fun r56 r57 r58 => K r56 r57 y53 y54))))
def Z44.c : Nat -> List Int -> Int -> Int -> (Int -> List Int -> List Int -> Int -> Prop) -> Prop
 | 0, _, _, _, _ => False
 | n + 1, a1, a2, a3, K => Z44.w n (Z44.l5 n) a1 a2 a3 K
def Z26.l4.b (n : Nat) (x18 : Int) (x19 : List Int) (x20 : Int) (x21 : List Int) (again4 : Int -> Prop) (x17 : Int) (Kx0w4 : Prop) (Kr4 : Bool -> Prop) : Prop :=
 if (decide (x17 < (x19.length : Int))) = true then (grd (decide (0 <= x17) && decide (x17 < (x19.length : Int))) (grd (decide (0 <= x17) && decide (x17 < (x21.length : Int))) (let t25 : Bool := !(decide (rd x19 (Int.toNat x17) = rd x21 (Int.toNat x17))); if t25 = true then (Kr4 false) else (again4 (IntKind.wrap .i64 (x17 + 1)))))) else (Kx0w4)
def Z26.l4 : Nat -> Int -> List Int -> Int -> List Int -> Int -> Prop -> (Bool -> Prop) -> Prop
 | 0, _, _, _, _, _, _, _ => False
 | n + 1, x18, x19, x20, x21, x17, Kx0w4, Kr4 => Z26.l4.b n  x18 x19 x20 x21 (fun x17q => Z26.l4 n x18 x19 x20 x21 x17q Kx0w4 Kr4) x17 Kx0w4 Kr4
def Z26.w (n : Nat) (lp4 : Int -> List Int -> Int -> List Int -> Int -> Prop -> (Bool -> Prop) -> Prop) (a1 : Int) (a2 : List Int) (a3 : Int) (a4 : List Int) (K : Bool -> Prop) : Prop :=
 if (!(decide (a1 = a3))) = false then (let t32 : Bool := !(decide ((a2.length : Int) = (a4.length : Int))); if t32 = true then (K false) else (lp4 a1 a2 a3 a4 0 (K true) (fun y34 => K y34))) else (K false)
def Z26.c : Nat -> Int -> List Int -> Int -> List Int -> (Bool -> Prop) -> Prop
 | 0, _, _, _, _, _ => False
 | n + 1, a1, a2, a3, a4, K => Z26.w n (Z26.l4 n) a1 a2 a3 a4 K
def Z53.w (n : Nat) (a1 : Int) (a2 : Int) (a3 : Int) (a4 : Int) (a5 : Int) (a6 : List Int) (a7 : List Int) (K : Int -> Int -> Int -> Int -> Int -> List Int -> List Int -> Prop) : Prop :=
 grd (decide (([] : List (Int)).length + a7.length <= 7818749353073)) (let p12 : Prop := (let p9 : Prop := (grd (decide (([] : List (Int)).length + a6.length <= 7818749353073)) (K a1 a2 a3 a4 a5 (([] : List (Int)) ++ a6) (([] : List (Int)) ++ a7))); (p9 /\ p9)); (p12 /\ p12 /\ ((grd (decide (([] : List (Int)).length + a6.length <= 7818749353073)) (K a1 a2 a3 a4 a5 (([] : List (Int)) ++ a6) (([] : List (Int)) ++ a7))) /\ (let p11 : Prop := (grd (decide (([] : List (Int)).length + a6.length <= 7818749353073)) (K a1 a2 a3 a4 a5 (([] : List (Int)) ++ a6) (([] : List (Int)) ++ a7))); (p11 /\ p11)))))
def Z53.c : Nat -> Int -> Int -> Int -> Int -> Int -> List Int -> List Int -> (Int -> Int -> Int -> Int -> Int -> List Int -> List Int -> Prop) -> Prop
 | 0, _, _, _, _, _, _, _, _ => False
 | n + 1, a1, a2, a3, a4, a5, a6, a7, K => Z53.w n  a1 a2 a3 a4 a5 a6 a7 K
def Z59.j1 (again8 : Int -> List Bool -> Prop) (x25 : List (tTNode)) (x26 : Int) (x27 : Int) (x28 : List Bool) : Prop :=
 grd (decide (0 <= x26) && decide (x26 < (x25.length : Int))) (let t35 : List Int := ((((((rd x25 (Int.toNat x26)).2).2).2).2).2).2; grd (decide (0 <= x27) && decide (x27 < (t35.length : Int))) (grd (decide (0 <= rd t35 (Int.toNat x27)) && decide (rd t35 (Int.toNat x27) < (x28.length : Int))) (let t36 : List Bool := List.set x28 (Int.toNat (rd t35 (Int.toNat x27))) true; again8 (IntKind.wrap .i64 (x27 + 1)) t36)))
def Z59.l8.b (n : Nat) (x25 : List (tTNode)) (x26 : Int) (x29 : List Int) (again8 : Int -> List Bool -> Prop) (x27 : Int) (x28 : List Bool) (Kx2w8 : List (tTNode) -> Int -> List Bool -> List Int -> Prop) : Prop :=
 grd (decide (0 <= x26) && decide (x26 < (x28.length : Int))) (if (rd x28 (Int.toNat x26)) = true then (grd (decide (0 <= x26) && decide (x26 < (x25.length : Int))) (let t39 : List Int := ((((((rd x25 (Int.toNat x26)).2).2).2).2).2).2; if (decide (x27 < (t39.length : Int))) = true then (Z59.j1 again8 x25 x26 x27 x28) else (Kx2w8 x25 x26 x28 x29))) else (Kx2w8 x25 x26 x28 x29))
def Z59.l8 : Nat -> List (tTNode) -> Int -> List Int -> Int -> List Bool -> (List (tTNode) -> Int -> List Bool -> List Int -> Prop) -> Prop
 | 0, _, _, _, _, _, _ => False
 | n + 1, x25, x26, x29, x27, x28, Kx2w8 => Z59.l8.b n  x25 x26 x29 (fun x27q x28q => Z59.l8 n x25 x26 x29 x27q x28q Kx2w8) x27 x28 Kx2w8
def Z59.l5.b (n : Nat) (lp8 : List (tTNode) -> Int -> List Int -> Int -> List Bool -> (List (tTNode) -> Int -> List Bool -> List Int -> Prop) -> Prop) (again5 : List (tTNode) -> Int -> List Bool -> List Int -> Prop) (x48 : List (tTNode)) (x49 : Int) (x50 : List Bool) (x51 : List Int) (Kx0w5 : List (tTNode) -> List Bool -> List Int -> Prop) : Prop :=
 if (decide (x49 >= 0)) = true then (lp8 x48 x49 x51 0 x50 (fun y56 y57 y58 y59 => again5 y56 (IntKind.wrap .i64 (y57 - 1)) y58 y59)) else (Kx0w5 x48 x50 x51)
def Z59.l5 : Nat -> List (tTNode) -> Int -> List Bool -> List Int -> (List (tTNode) -> List Bool -> List Int -> Prop) -> Prop
 | 0, _, _, _, _, _ => False
 | n + 1, x48, x49, x50, x51, Kx0w5 => Z59.l5.b n (Z59.l8 n)  (fun x48q x49q x50q x51q => Z59.l5 n x48q x49q x50q x51q Kx0w5) x48 x49 x50 x51 Kx0w5
def Z59.l18.b (n : Nat) (x96 : List (tTNode)) (x97 : Int) (x99 : List (tTNode)) (x100 : List Bool) (x101 : List Int) (x102 : List Int) (x104 : Int) (x105 : Int) (x106 : Int) (x107 : Int) (x108 : Int) (again18 : Int -> List Int -> Prop) (x98 : Int) (x103 : List Int) (Kx6w18 : List (tTNode) -> Int -> List (tTNode) -> List Bool -> List Int -> List Int -> List Int -> Int -> Int -> Int -> Int -> Int -> Prop) : Prop :=
 if (decide (x98 < (x103.length : Int))) = true then (grd (decide (0 <= x98) && decide (x98 < (x103.length : Int))) (grd (decide (0 <= rd x103 (Int.toNat x98)) && decide (rd x103 (Int.toNat x98) < (x101.length : Int))) (let t110 : Int := rd x101 (Int.toNat (rd x103 (Int.toNat x98))); grd (decide (0 <= x98) && decide (x98 < (x103.length : Int))) (again18 (IntKind.wrap .i64 (x98 + 1)) (List.set x103 (Int.toNat x98) t110))))) else (Kx6w18 x96 x97 x99 x100 x101 x102 x103 x104 x105 x106 x107 x108)
def Z59.l18 : Nat -> List (tTNode) -> Int -> List (tTNode) -> List Bool -> List Int -> List Int -> Int -> Int -> Int -> Int -> Int -> Int -> List Int -> (List (tTNode) -> Int -> List (tTNode) -> List Bool -> List Int -> List Int -> List Int -> Int -> Int -> Int -> Int -> Int -> Prop) -> Prop
 | 0, _, _, _, _, _, _, _, _, _, _, _, _, _, _ => False
 | n + 1, x96, x97, x99, x100, x101, x102, x104, x105, x106, x107, x108, x98, x103, Kx6w18 => Z59.l18.b n  x96 x97 x99 x100 x101 x102 x104 x105 x106 x107 x108 (fun x98q x103q => Z59.l18 n x96 x97 x99 x100 x101 x102 x104 x105 x106 x107 x108 x98q x103q Kx6w18) x98 x103 Kx6w18
def Z59.l13.b (n : Nat) (lp18 : List (tTNode) -> Int -> List (tTNode) -> List Bool -> List Int -> List Int -> Int -> Int -> Int -> Int -> Int -> Int -> List Int -> (List (tTNode) -> Int -> List (tTNode) -> List Bool -> List Int -> List Int -> List Int -> Int -> Int -> Int -> Int -> Int -> Prop) -> Prop) (again13 : List (tTNode) -> Int -> List (tTNode) -> List Bool -> List Int -> Prop) (x172 : List (tTNode)) (x173 : Int) (x174 : List (tTNode)) (x175 : List Bool) (x176 : List Int) (Kx4w13 : List (tTNode) -> Prop) : Prop :=
 if (decide (x173 < (x172.length : Int))) = true then (grd (decide (0 <= x173) && decide (x173 < (x175.length : Int))) (if (!(rd x175 (Int.toNat x173))) = true then (again13 x172 (IntKind.wrap .i64 (x173 + 1)) x174 x175 x176) else (grd (decide (0 <= x173) && decide (x173 < (x172.length : Int))) (let t212 : List Int := ((((((rd x172 (Int.toNat x173)).2).2).2).2).2).1; let t213 : List Int := ((((((rd x172 (Int.toNat x173)).2).2).2).2).2).2; Z53.c n ((rd x172 (Int.toNat x173)).1) (((rd x172 (Int.toNat x173)).2).1) ((((rd x172 (Int.toNat x173)).2).2).1) (((((rd x172 (Int.toNat x173)).2).2).2).1) ((((((rd x172 (Int.toNat x173)).2).2).2).2).1) t212 t213 (fun r214 r215 r216 r217 r218 r219 r220 => lp18 x172 x173 x174 x175 x176 r219 r214 r215 r216 r217 r218 0 r220 (fun y233 y234 y235 y236 y237 y238 y239 y240 y241 y242 y243 y244 => grd (decide (0 <= y234) && decide (y234 < (y237.length : Int))) (let t245 : List Int := List.set y237 (Int.toNat y234) (y235.length : Int); let t246 : List (tTNode) := ([(y240, y241, y242, y243, y244, y238, y239)] : List (tTNode)); grd (decide (y235.length + t246.length <= 790660046940)) (again13 y233 (IntKind.wrap .i64 (y234 + 1)) (y235 ++ t246) y236 t245)))))))) else (Kx4w13 x174)
def Z59.l13 : Nat -> List (tTNode) -> Int -> List (tTNode) -> List Bool -> List Int -> (List (tTNode) -> Prop) -> Prop
 | 0, _, _, _, _, _, _ => False
 | n + 1, x172, x173, x174, x175, x176, Kx4w13 => Z59.l13.b n (Z59.l18 n)  (fun x172q x173q x174q x175q x176q => Z59.l13 n x172q x173q x174q x175q x176q Kx4w13) x172 x173 x174 x175 x176 Kx4w13
def Z59.w (n : Nat) (lp5 : List (tTNode) -> Int -> List Bool -> List Int -> (List (tTNode) -> List Bool -> List Int -> Prop) -> Prop) (lp13 : List (tTNode) -> Int -> List (tTNode) -> List Bool -> List Int -> (List (tTNode) -> Prop) -> Prop) (a1 : List (tTNode)) (a2 : Int) (K : List (tTNode) -> Prop) : Prop :=
 let t3 : List (tTNode) := ([] : List (tTNode)); grd ((decide (0 <= (a1.length : Int)) && decide ((a1.length : Int) <= 35184372088832)) && decide ((a1.length : Int) = (a1.length : Int))) (let t4 : List Bool := List.replicate (Int.toNat (a1.length : Int)) false; grd (decide (0 <= a2) && decide (a2 < (t4.length : Int))) (grd ((decide (0 <= (a1.length : Int)) && decide ((a1.length : Int) <= 7818749353073)) && decide ((a1.length : Int) = (a1.length : Int))) (let t5 : List Int := List.replicate (Int.toNat (a1.length : Int)) 0; lp5 a1 (IntKind.wrap .i64 ((a1.length : Int) - 1)) (List.set t4 (Int.toNat a2) true) t5 (fun y63 y64 y65 => let t66 : List (tTNode) := ([] : List (tTNode)); lp13 y63 0 t66 y64 y65 (fun y248 => K y248)))))
def Z59.c : Nat -> List (tTNode) -> Int -> (List (tTNode) -> Prop) -> Prop
 | 0, _, _, _ => False
 | n + 1, a1, a2, K => Z59.w n (Z59.l5 n) (Z59.l13 n) a1 a2 K
def Z54.w (n : Nat) (a1 : List (tTNode)) (a2 : Int) (a3 : Int) (a4 : Int) (K : List (tTNode) -> Prop) : Prop :=
 let t5 : List (tTNode) := ([] : List (tTNode)); if (decide (a3 > a4)) = true then (let t7 : List (tTNode) := ([(4, 0, IntKind.wrap .i64 (a4 - 1), 0, 0, ([] : List (Int)), ([a2] : List (Int)))] : List (tTNode)); grd (decide (a1.length + t7.length <= 790660046940)) (K (a1 ++ t7))) else (if (decide (a3 < a4)) = true then (let t9 : List (tTNode) := ([(5, 0, IntKind.wrap .i64 (a4 - a3), 0, 0, ([] : List (Int)), ([a2] : List (Int)))] : List (tTNode)); grd (decide (a1.length + t9.length <= 790660046940)) (K (a1 ++ t9))) else (K a1))
def Z54.c : Nat -> List (tTNode) -> Int -> Int -> Int -> (List (tTNode) -> Prop) -> Prop
 | 0, _, _, _, _, _ => False
 | n + 1, a1, a2, a3, a4, K => Z54.w n  a1 a2 a3 a4 K
def Z56.j0 (Kc34w0 : List (tDecl) -> Int -> Int -> Int -> Int -> List (tTNode) -> List Int -> List Int -> List (tTNode) -> List Int -> Int -> Int -> Int -> Int -> Int -> Int -> Prop) (n : Nat) (x86 : List (tDecl)) (x87 : Int) (x88 : Int) (x89 : Int) (x90 : Int) (x91 : Int) (x93 : List (tTNode)) (x94 : List Int) (x95 : List Int) (x96 : List (tTNode)) (x97 : List Int) (x98 : Int) (x99 : Int) (x100 : Int) (x101 : Int) (x102 : Int) (x103 : Int) (j107 : Bool) : Prop :=
 if j107 = true then (Z43.c n x97 x98 9 (fun r108 r109 r110 => Kc34w0 x86 x87 x88 x89 x90 x93 x94 x95 x96 r109 r110 x99 x100 r108 x102 x103)) else (if (decide (x91 = 9)) = true then (Z43.c n x97 x98 3 (fun r111 r112 r113 => let t114 : Int := IntKind.wrap .i64 (x89 * (IntKind.wrap .i64 (1 + r111))); Kc34w0 x86 x87 x88 t114 x90 x93 x94 x95 x96 r112 r113 x99 x100 (IntKind.wrap .i64 (1 + r111)) x102 x103)) else (Kc34w0 x86 x87 x88 x89 x90 x93 x94 x95 x96 x97 x98 x99 x100 x101 x102 x103))
def Z56.q34.b (n : Nat) (x86 : List (tDecl)) (x87 : Int) (x88 : Int) (x89 : Int) (x90 : Int) (x91 : Int) (x92 : Bool) (x93 : List (tTNode)) (x94 : List Int) (x95 : List Int) (x96 : List (tTNode)) (x97 : List Int) (x98 : Int) (x99 : Int) (x100 : Int) (x101 : Int) (x102 : Int) (x103 : Int) (Kc34w0 : List (tDecl) -> Int -> Int -> Int -> Int -> List (tTNode) -> List Int -> List Int -> List (tTNode) -> List Int -> Int -> Int -> Int -> Int -> Int -> Int -> Prop) : Prop :=
 if x92 = true then (Z43.c n x97 x98 5 (fun r104 r105 r106 => Kc34w0 x86 x87 x88 (IntKind.wrap .i64 (x89 + r104)) x90 x93 x94 x95 x96 r105 r106 x99 x100 r104 x102 x103)) else (if (decide (x91 = 7)) = true then (Z56.j0 Kc34w0 n x86 x87 x88 x89 x90 x91 x93 x94 x95 x96 x97 x98 x99 x100 x101 x102 x103 true) else (Z56.j0 Kc34w0 n x86 x87 x88 x89 x90 x91 x93 x94 x95 x96 x97 x98 x99 x100 x101 x102 x103 (decide (x91 = 8))))
def Z56.q34 : Nat -> List (tDecl) -> Int -> Int -> Int -> Int -> Int -> Bool -> List (tTNode) -> List Int -> List Int -> List (tTNode) -> List Int -> Int -> Int -> Int -> Int -> Int -> Int -> (List (tDecl) -> Int -> Int -> Int -> Int -> List (tTNode) -> List Int -> List Int -> List (tTNode) -> List Int -> Int -> Int -> Int -> Int -> Int -> Int -> Prop) -> Prop
 | 0, _, _, _, _, _, _, _, _, _, _, _, _, _, _, _, _, _, _, _ => False
 | n + 1, x86, x87, x88, x89, x90, x91, x92, x93, x94, x95, x96, x97, x98, x99, x100, x101, x102, x103, Kc34w0 => Z56.q34.b n  x86 x87 x88 x89 x90 x91 x92 x93 x94 x95 x96 x97 x98 x99 x100 x101 x102 x103  Kc34w0
def Z56.j13 (Kx0w5 : List (tDecl) -> Int -> Int -> List (tTNode) -> List (tTNode) -> List Int -> Int -> Prop) (again5 : List (tDecl) -> Int -> Int -> Int -> Int -> List (tTNode) -> List (tTNode) -> List Int -> Int -> Prop) (r1211 : Int) (x797 : List (tDecl)) (x798 : Int) (x799 : Int) (x801 : Int) (x803 : List (tTNode)) (j1283 : Int) (j1284 : List (tTNode)) (j1285 : List Int) (j1286 : List Int) (j1287 : Int) : Prop :=
 if (decide (j1283 > 200)) = true then (Kx0w5 x797 x798 x799 j1284 x803 j1286 j1287) else (let t1288 : List (tTNode) := ([(r1211, 0, 0, 0, 0, ([] : List (Int)), j1285)] : List (tTNode)); grd (decide (j1284.length + t1288.length <= 790660046940)) (let t1289 : Int := IntKind.wrap .i64 (((j1284 ++ t1288).length : Int) - 1); again5 x797 x798 t1289 j1283 (IntKind.wrap .i64 (x801 - 1)) (j1284 ++ t1288) x803 j1286 j1287))
def Z56.j14 (Kx0w5 : List (tDecl) -> Int -> Int -> List (tTNode) -> List (tTNode) -> List Int -> Int -> Prop) (again5 : List (tDecl) -> Int -> Int -> Int -> Int -> List (tTNode) -> List (tTNode) -> List Int -> Int -> Prop) (j1290 : List (tDecl)) (j1291 : Int) (j1292 : Int) (j1293 : Int) (j1294 : Int) (j1295 : List (tTNode)) (j1296 : List Int) (j1297 : List Int) (j1298 : List (tTNode)) (j1299 : List Int) (j1300 : Int) (j1301 : Int) (j1302 : Int) (j1303 : Int) (j1304 : Int) (j1305 : Int) : Prop :=
 if (decide (j1293 > 200)) = true then (Kx0w5 j1290 j1291 j1292 j1295 j1298 j1299 j1300) else (let t1306 : List (tTNode) := ([(j1301, j1302, j1303, j1304, j1305, j1297, j1296)] : List (tTNode)); grd (decide (j1295.length + t1306.length <= 790660046940)) (let t1307 : Int := IntKind.wrap .i64 (((j1295 ++ t1306).length : Int) - 1); again5 j1290 j1291 t1307 j1293 (IntKind.wrap .i64 (j1294 - 1)) (j1295 ++ t1306) j1298 j1299 j1300))
def Z56.j15 (Kx0w5 : List (tDecl) -> Int -> Int -> List (tTNode) -> List (tTNode) -> List Int -> Int -> Prop) (again5 : List (tDecl) -> Int -> Int -> Int -> Int -> List (tTNode) -> List (tTNode) -> List Int -> Int -> Prop) (r1383 : Int) (x797 : List (tDecl)) (x798 : Int) (x799 : Int) (x801 : Int) (x803 : List (tTNode)) (j1455 : Int) (j1456 : List (tTNode)) (j1457 : List Int) (j1458 : List Int) (j1459 : Int) : Prop :=
 if (decide (j1455 > 200)) = true then (Kx0w5 x797 x798 x799 j1456 x803 j1458 j1459) else (let t1460 : List (tTNode) := ([(r1383, 0, 0, 0, 0, ([] : List (Int)), j1457)] : List (tTNode)); grd (decide (j1456.length + t1460.length <= 790660046940)) (let t1461 : Int := IntKind.wrap .i64 (((j1456 ++ t1460).length : Int) - 1); again5 x797 x798 t1461 j1455 (IntKind.wrap .i64 (x801 - 1)) (j1456 ++ t1460) x803 j1458 j1459))
def Z56.j16 (Kx0w5 : List (tDecl) -> Int -> Int -> List (tTNode) -> List (tTNode) -> List Int -> Int -> Prop) (again5 : List (tDecl) -> Int -> Int -> Int -> Int -> List (tTNode) -> List (tTNode) -> List Int -> Int -> Prop) (j1462 : List (tDecl)) (j1463 : Int) (j1464 : Int) (j1465 : Int) (j1466 : Int) (j1467 : List (tTNode)) (j1468 : List Int) (j1469 : List Int) (j1470 : List (tTNode)) (j1471 : List Int) (j1472 : Int) (j1473 : Int) (j1474 : Int) (j1475 : Int) (j1476 : Int) (j1477 : Int) : Prop :=
 if (decide (j1465 > 200)) = true then (Kx0w5 j1462 j1463 j1464 j1467 j1470 j1471 j1472) else (let t1478 : List (tTNode) := ([(j1473, j1474, j1475, j1476, j1477, j1469, j1468)] : List (tTNode)); grd (decide (j1467.length + t1478.length <= 790660046940)) (let t1479 : Int := IntKind.wrap .i64 (((j1467 ++ t1478).length : Int) - 1); again5 j1462 j1463 t1479 j1465 (IntKind.wrap .i64 (j1466 - 1)) (j1467 ++ t1478) j1470 j1471 j1472))
def Z56.l5.b (n : Nat) (lpq34 : List (tDecl) -> Int -> Int -> Int -> Int -> Int -> Bool -> List (tTNode) -> List Int -> List Int -> List (tTNode) -> List Int -> Int -> Int -> Int -> Int -> Int -> Int -> (List (tDecl) -> Int -> Int -> Int -> Int -> List (tTNode) -> List Int -> List Int -> List (tTNode) -> List Int -> Int -> Int -> Int -> Int -> Int -> Int -> Prop) -> Prop) (again5 : List (tDecl) -> Int -> Int -> Int -> Int -> List (tTNode) -> List (tTNode) -> List Int -> Int -> Prop) (x797 : List (tDecl)) (x798 : Int) (x799 : Int) (x800 : Int) (x801 : Int) (x802 : List (tTNode)) (x803 : List (tTNode)) (x804 : List Int) (x805 : Int) (Kx0w5 : List (tDecl) -> Int -> Int -> List (tTNode) -> List (tTNode) -> List Int -> Int -> Prop) : Prop :=
 if (decide (x801 > 0)) = true then (Z43.c n x804 x805 (x797.length : Int) (fun r1186 r1187 r1188 => grd (decide (0 <= r1186) && decide (r1186 < (x797.length : Int))) (Z50.c n r1187 r1188 5 (fun r1199 r1200 r1201 => if r1199 = true then (Z43.c n r1200 r1201 6 (fun r1202 r1203 r1204 => Z44.c n r1203 r1204 (IntKind.wrap .i64 (1 + r1202)) (fun r1205 r1206 r1207 r1208 => if (decide (x799 < 0)) = true then (let t1210 : List (tTNode) := ([(2, 0, 0, 0, r1205, r1206, ([] : List (Int)))] : List (tTNode)); grd (decide (x802.length + t1210.length <= 790660046940)) (again5 x797 x798 0 (IntKind.wrap .i64 (1 + r1202)) (IntKind.wrap .i64 (x801 - 1)) (x802 ++ t1210) x803 r1207 r1208)) else (Z47.c n r1207 r1208 3 9 (fun r1211 r1212 r1213 => if (decide (r1211 = 3)) = true then (let t1308 : List (tTNode) := ([(2, 0, 0, 0, r1205, r1206, ([] : List (Int)))] : List (tTNode)); grd (decide (x802.length + t1308.length <= 790660046940)) (let t1309 : Int := IntKind.wrap .i64 (((x802 ++ t1308).length : Int) - 1); Z50.c n r1212 r1213 2 (fun r1313 r1314 r1315 => if r1313 = true then (Z50.c n r1314 r1315 6 (fun r1321 r1322 r1323 => if r1321 = true then (grd (decide (([t1309, x799] : List (Int)).length + ([x799] : List (Int)).length <= 7818749353073)) (let t1324 : List Int := ([t1309, x799] : List (Int)) ++ ([x799] : List (Int)); let t1325 : Int := IntKind.wrap .i64 ((IntKind.wrap .i64 (1 + r1202)) + x800); Z56.j13 Kx0w5 again5 r1211 x797 x798 x799 x801 x803 (IntKind.wrap .i64 (x800 + t1325)) (x802 ++ t1308) t1324 r1322 r1323)) else (let t1326 : Int := IntKind.wrap .i64 (x800 + (IntKind.wrap .i64 (1 + r1202))); if (decide (t1326 > 200)) = true then (Kx0w5 x797 x798 x799 (x802 ++ t1308) x803 r1322 r1323) else (let t1327 : List (tTNode) := ([(r1211, 0, 0, 0, 0, ([] : List (Int)), ([t1309, x799] : List (Int)))] : List (tTNode)); grd (decide ((x802 ++ t1308).length + t1327.length <= 790660046940)) (let t1328 : Int := IntKind.wrap .i64 ((((x802 ++ t1308) ++ t1327).length : Int) - 1); again5 x797 x798 t1328 t1326 (IntKind.wrap .i64 (x801 - 1)) ((x802 ++ t1308) ++ t1327) x803 r1322 r1323))))) else (Z50.c n r1314 r1315 6 (fun r1334 r1335 r1336 => if r1334 = true then (grd (decide (([x799, t1309] : List (Int)).length + ([x799] : List (Int)).length <= 7818749353073)) (let t1337 : List Int := ([x799, t1309] : List (Int)) ++ ([x799] : List (Int)); let t1338 : Int := IntKind.wrap .i64 ((IntKind.wrap .i64 (1 + r1202)) + x800); Z56.j13 Kx0w5 again5 r1211 x797 x798 x799 x801 x803 (IntKind.wrap .i64 (x800 + t1338)) (x802 ++ t1308) t1337 r1335 r1336)) else (let t1339 : Int := IntKind.wrap .i64 (x800 + (IntKind.wrap .i64 (1 + r1202))); if (decide (t1339 > 200)) = true then (Kx0w5 x797 x798 x799 (x802 ++ t1308) x803 r1335 r1336) else (let t1340 : List (tTNode) := ([(r1211, 0, 0, 0, 0, ([] : List (Int)), ([x799, t1309] : List (Int)))] : List (tTNode)); grd (decide ((x802 ++ t1308).length + t1340.length <= 790660046940)) (let t1341 : Int := IntKind.wrap .i64 ((((x802 ++ t1308) ++ t1340).length : Int) - 1); again5 x797 x798 t1341 t1339 (IntKind.wrap .i64 (x801 - 1)) ((x802 ++ t1308) ++ t1340) x803 r1335 r1336)))))))) else (if (decide (r1211 = 4)) = true then (Z47.c n r1212 r1213 0 (IntKind.wrap .i64 (x800 - 1)) (fun r1342 r1343 r1344 => Z47.c n r1343 r1344 0 r1342 (fun r1345 r1346 r1347 => let t1348 : Int := IntKind.wrap .i64 ((IntKind.wrap .i64 (r1342 - r1345)) + 1); Z56.j14 Kx0w5 again5 x797 x798 x799 t1348 x801 x802 ([x799] : List (Int)) ([] : List (Int)) x803 r1346 r1347 r1211 0 r1342 r1345 0))) else (if (decide (r1211 = 5)) = true then (lpq34 x797 x798 x799 x800 x801 r1211 true x802 ([x799] : List (Int)) ([] : List (Int)) x803 r1212 r1213 r1211 0 0 0 0 (fun y1349 y1350 y1351 y1352 y1353 y1354 y1355 y1356 y1357 y1358 y1359 y1360 y1361 y1362 y1363 y1364 => Z56.j14 Kx0w5 again5 y1349 y1350 y1351 y1352 y1353 y1354 y1355 y1356 y1357 y1358 y1359 y1360 y1361 y1362 y1363 y1364)) else (lpq34 x797 x798 x799 x800 x801 r1211 (decide (r1211 = 6)) x802 ([x799] : List (Int)) ([] : List (Int)) x803 r1212 r1213 r1211 0 0 0 0 (fun y1365 y1366 y1367 y1368 y1369 y1370 y1371 y1372 y1373 y1374 y1375 y1376 y1377 y1378 y1379 y1380 => Z56.j14 Kx0w5 again5 y1365 y1366 y1367 y1368 y1369 y1370 y1371 y1372 y1373 y1374 y1375 y1376 y1377 y1378 y1379 y1380))))))))) else (if (decide (x799 < 0)) = true then (let t1382 : List (tTNode) := ([(1, r1186, 0, 0, 0, ([] : List (Int)), ([] : List (Int)))] : List (tTNode)); grd (decide (x802.length + t1382.length <= 790660046940)) (again5 x797 x798 0 ((rd x797 (Int.toNat r1186)).2) (IntKind.wrap .i64 (x801 - 1)) (x802 ++ t1382) x803 r1200 r1201)) else (Z47.c n r1200 r1201 3 9 (fun r1383 r1384 r1385 => if (decide (r1383 = 3)) = true then (let t1480 : List (tTNode) := ([(1, r1186, 0, 0, 0, ([] : List (Int)), ([] : List (Int)))] : List (tTNode)); grd (decide (x802.length + t1480.length <= 790660046940)) (let t1481 : Int := IntKind.wrap .i64 (((x802 ++ t1480).length : Int) - 1); Z50.c n r1384 r1385 2 (fun r1485 r1486 r1487 => if r1485 = true then (Z50.c n r1486 r1487 6 (fun r1493 r1494 r1495 => if r1493 = true then (grd (decide (([t1481, x799] : List (Int)).length + ([x799] : List (Int)).length <= 7818749353073)) (let t1496 : List Int := ([t1481, x799] : List (Int)) ++ ([x799] : List (Int)); let t1497 : Int := IntKind.wrap .i64 (((rd x797 (Int.toNat r1186)).2) + x800); Z56.j15 Kx0w5 again5 r1383 x797 x798 x799 x801 x803 (IntKind.wrap .i64 (x800 + t1497)) (x802 ++ t1480) t1496 r1494 r1495)) else (let t1498 : Int := IntKind.wrap .i64 (x800 + ((rd x797 (Int.toNat r1186)).2)); if (decide (t1498 > 200)) = true then (Kx0w5 x797 x798 x799 (x802 ++ t1480) x803 r1494 r1495) else (let t1499 : List (tTNode) := ([(r1383, 0, 0, 0, 0, ([] : List (Int)), ([t1481, x799] : List (Int)))] : List (tTNode)); grd (decide ((x802 ++ t1480).length + t1499.length <= 790660046940)) (let t1500 : Int := IntKind.wrap .i64 ((((x802 ++ t1480) ++ t1499).length : Int) - 1); again5 x797 x798 t1500 t1498 (IntKind.wrap .i64 (x801 - 1)) ((x802 ++ t1480) ++ t1499) x803 r1494 r1495))))) else (Z50.c n r1486 r1487 6 (fun r1506 r1507 r1508 => if r1506 = true then (grd (decide (([x799, t1481] : List (Int)).length + ([x799] : List (Int)).length <= 7818749353073)) (let t1509 : List Int := ([x799, t1481] : List (Int)) ++ ([x799] : List (Int)); let t1510 : Int := IntKind.wrap .i64 (((rd x797 (Int.toNat r1186)).2) + x800); Z56.j15 Kx0w5 again5 r1383 x797 x798 x799 x801 x803 (IntKind.wrap .i64 (x800 + t1510)) (x802 ++ t1480) t1509 r1507 r1508)) else (let t1511 : Int := IntKind.wrap .i64 (x800 + ((rd x797 (Int.toNat r1186)).2)); if (decide (t1511 > 200)) = true then (Kx0w5 x797 x798 x799 (x802 ++ t1480) x803 r1507 r1508) else (let t1512 : List (tTNode) := ([(r1383, 0, 0, 0, 0, ([] : List (Int)), ([x799, t1481] : List (Int)))] : List (tTNode)); grd (decide ((x802 ++ t1480).length + t1512.length <= 790660046940)) (let t1513 : Int := IntKind.wrap .i64 ((((x802 ++ t1480) ++ t1512).length : Int) - 1); again5 x797 x798 t1513 t1511 (IntKind.wrap .i64 (x801 - 1)) ((x802 ++ t1480) ++ t1512) x803 r1507 r1508)))))))) else (if (decide (r1383 = 4)) = true then (Z47.c n r1384 r1385 0 (IntKind.wrap .i64 (x800 - 1)) (fun r1514 r1515 r1516 => Z47.c n r1515 r1516 0 r1514 (fun r1517 r1518 r1519 => let t1520 : Int := IntKind.wrap .i64 ((IntKind.wrap .i64 (r1514 - r1517)) + 1); Z56.j16 Kx0w5 again5 x797 x798 x799 t1520 x801 x802 ([x799] : List (Int)) ([] : List (Int)) x803 r1518 r1519 r1383 0 r1514 r1517 0))) else (if (decide (r1383 = 5)) = true then (lpq34 x797 x798 x799 x800 x801 r1383 true x802 ([x799] : List (Int)) ([] : List (Int)) x803 r1384 r1385 r1383 0 0 0 0 (fun y1521 y1522 y1523 y1524 y1525 y1526 y1527 y1528 y1529 y1530 y1531 y1532 y1533 y1534 y1535 y1536 => Z56.j16 Kx0w5 again5 y1521 y1522 y1523 y1524 y1525 y1526 y1527 y1528 y1529 y1530 y1531 y1532 y1533 y1534 y1535 y1536)) else (lpq34 x797 x798 x799 x800 x801 r1383 (decide (r1383 = 6)) x802 ([x799] : List (Int)) ([] : List (Int)) x803 r1384 r1385 r1383 0 0 0 0 (fun y1537 y1538 y1539 y1540 y1541 y1542 y1543 y1544 y1545 y1546 y1547 y1548 y1549 y1550 y1551 y1552 => Z56.j16 Kx0w5 again5 y1537 y1538 y1539 y1540 y1541 y1542 y1543 y1544 y1545 y1546 y1547 y1548 y1549 y1550 y1551 y1552))))))))))) else (Kx0w5 x797 x798 x799 x802 x803 x804 x805)
def Z56.l5 : Nat -> List (tDecl) -> Int -> Int -> Int -> Int -> List (tTNode) -> List (tTNode) -> List Int -> Int -> (List (tDecl) -> Int -> Int -> List (tTNode) -> List (tTNode) -> List Int -> Int -> Prop) -> Prop
 | 0, _, _, _, _, _, _, _, _, _, _ => False
 | n + 1, x797, x798, x799, x800, x801, x802, x803, x804, x805, Kx0w5 => Z56.l5.b n (Z56.q34 n)  (fun x797q x798q x799q x800q x801q x802q x803q x804q x805q => Z56.l5 n x797q x798q x799q x800q x801q x802q x803q x804q x805q Kx0w5) x797 x798 x799 x800 x801 x802 x803 x804 x805 Kx0w5
def Z56.w (n : Nat) (lp5 : List (tDecl) -> Int -> Int -> Int -> Int -> List (tTNode) -> List (tTNode) -> List Int -> Int -> (List (tDecl) -> Int -> Int -> List (tTNode) -> List (tTNode) -> List Int -> Int -> Prop) -> Prop) (a1 : List Int) (a2 : Int) (a3 : List (tDecl)) (a4 : Int) (K : List (tTNode) -> List Int -> Int -> Prop) : Prop :=
 let t5 : List (tTNode) := ([] : List (tTNode)); let t6 : List (tTNode) := ([] : List (tTNode)); let t1560 : Int := IntKind.wrap .i64 (Int.tdiv (a1.length : Int) 12); let t1561 : Int := (if (IntKind.wrap .i64 (2 + t1560)) < 7 then IntKind.wrap .i64 (2 + t1560) else 7); Z43.c n a1 a2 t1561 (fun r1562 r1563 r1564 => lp5 a3 a4 (-1) 0 (IntKind.wrap .i64 (1 + r1562)) t6 t5 r1563 r1564 (fun y1565 y1566 y1567 y1568 y1569 y1570 y1571 => Z59.c n y1568 y1567 (fun r1572 => let t1573 : List (tTNode) := ([] : List (tTNode)); if (decide (y1566 > 0)) = true then (Z36.c n y1565 r1572 (fun r1576 => Z54.c n r1572 (IntKind.wrap .i64 ((r1572.length : Int) - 1)) r1576 y1566 (fun r1577 => K r1577 y1570 y1571))) else (K r1572 y1570 y1571))))
def Z56.c : Nat -> List Int -> Int -> List (tDecl) -> Int -> (List (tTNode) -> List Int -> Int -> Prop) -> Prop
 | 0, _, _, _, _, _ => False
 | n + 1, a1, a2, a3, a4, K => Z56.w n (Z56.l5 n) a1 a2 a3 a4 K
end Go.Vsi
end

section
set_option linter.unusedVariables false
set_option synthInstance.maxSize 4096
namespace Go.Vsi
def Z64.l5.b (n : Nat) (x20 : List (tDecl)) (x23 : Int) (x24 : Int) (x25 : Int) (x26 : Int) (x27 : Int) (x28 : List Int) (x29 : List Int) (again5 : Int -> List (tl5Bit) -> Prop) (x21 : Int) (x22 : List (tl5Bit)) (Kx1w5 : List (tl5Bit) -> Prop) : Prop :=
 grd (decide (0 <= x24) && decide (x24 < (x20.length : Int))) (if (decide (x21 < (rd x20 (Int.toNat x24)).2)) = true then (grd (decide (x22.length + ([(x24, x21)] : List (tl5Bit)).length <= 4139337892803)) (again5 (IntKind.wrap .i64 (x21 + 1)) (x22 ++ ([(x24, x21)] : List (tl5Bit))))) else (Kx1w5 x22))
def Z64.l5 : Nat -> List (tDecl) -> Int -> Int -> Int -> Int -> Int -> List Int -> List Int -> Int -> List (tl5Bit) -> (List (tl5Bit) -> Prop) -> Prop
 | 0, _, _, _, _, _, _, _, _, _, _, _ => False
 | n + 1, x20, x23, x24, x25, x26, x27, x28, x29, x21, x22, Kx1w5 => Z64.l5.b n  x20 x23 x24 x25 x26 x27 x28 x29 (fun x21q x22q => Z64.l5 n x20 x23 x24 x25 x26 x27 x28 x29 x21q x22q Kx1w5) x21 x22 Kx1w5
def Z64.l10.b (n : Nat) (x46 : Int) (x47 : Int) (x48 : Int) (x49 : Int) (x50 : Int) (x51 : List Int) (x52 : List Int) (again10 : Int -> List (tl5Bit) -> Prop) (x44 : Int) (x45 : List (tl5Bit)) (Kx3w10 : List (tl5Bit) -> Prop) : Prop :=
 if (decide (x44 < x50)) = true then (Z37.c n x50 x51 x44 (fun r55 => let t56 : List (tl5Bit) := ([((-1), IntKind.wrap .i64 r55)] : List (tl5Bit)); grd (decide (x45.length + t56.length <= 4139337892803)) (again10 (IntKind.wrap .i64 (x44 + 1)) (x45 ++ t56)))) else (Kx3w10 x45)
def Z64.l10 : Nat -> Int -> Int -> Int -> Int -> Int -> List Int -> List Int -> Int -> List (tl5Bit) -> (List (tl5Bit) -> Prop) -> Prop
 | 0, _, _, _, _, _, _, _, _, _, _ => False
 | n + 1, x46, x47, x48, x49, x50, x51, x52, x44, x45, Kx3w10 => Z64.l10.b n  x46 x47 x48 x49 x50 x51 x52 (fun x44q x45q => Z64.l10 n x46 x47 x48 x49 x50 x51 x52 x44q x45q Kx3w10) x44 x45 Kx3w10
def Z64.l15.b (n : Nat) (x61 : List (List (tl5Bit))) (again15 : Int -> List (tl5Bit) -> Prop) (x62 : Int) (x63 : List (tl5Bit)) (Kx5w15 : List (tl5Bit) -> Prop) : Prop :=
 if (decide (x62 >= 0)) = true then (grd (decide (0 <= x62) && decide (x62 < (x61.length : Int))) (grd (decide (x63.length + (rd x61 (Int.toNat x62)).length <= 4139337892803)) (again15 (IntKind.wrap .i64 (x62 - 1)) (x63 ++ (rd x61 (Int.toNat x62)))))) else (Kx5w15 x63)
def Z64.l15 : Nat -> List (List (tl5Bit)) -> Int -> List (tl5Bit) -> (List (tl5Bit) -> Prop) -> Prop
 | 0, _, _, _, _ => False
 | n + 1, x61, x62, x63, Kx5w15 => Z64.l15.b n  x61 (fun x62q x63q => Z64.l15 n x61 x62q x63q Kx5w15) x62 x63 Kx5w15
def Z64.l27.b (n : Nat) (x83 : Int) (x84 : Int) (x85 : Int) (x86 : Int) (x87 : Int) (x88 : List Int) (x89 : List Int) (x90 : Int) (x91 : Int) (again27 : Int -> List (tl5Bit) -> Prop) (x81 : Int) (x82 : List (tl5Bit)) (Kx7w27 : List (tl5Bit) -> Prop) : Prop :=
 if (decide (x81 < x85)) = true then (grd (decide (x82.length + ([(x90, x91)] : List (tl5Bit)).length <= 4139337892803)) (again27 (IntKind.wrap .i64 (x81 + 1)) (x82 ++ ([(x90, x91)] : List (tl5Bit))))) else (Kx7w27 x82)
def Z64.l27 : Nat -> Int -> Int -> Int -> Int -> Int -> List Int -> List Int -> Int -> Int -> Int -> List (tl5Bit) -> (List (tl5Bit) -> Prop) -> Prop
 | 0, _, _, _, _, _, _, _, _, _, _, _, _ => False
 | n + 1, x83, x84, x85, x86, x87, x88, x89, x90, x91, x81, x82, Kx7w27 => Z64.l27.b n  x83 x84 x85 x86 x87 x88 x89 x90 x91 (fun x81q x82q => Z64.l27 n x83 x84 x85 x86 x87 x88 x89 x90 x91 x81q x82q Kx7w27) x81 x82 Kx7w27
def Z64.l40.b (n : Nat) (x112 : List (List (tl5Bit))) (x115 : Int) (x116 : Int) (x117 : Int) (x118 : Int) (x119 : Int) (x120 : List Int) (x121 : List Int) (again40 : Int -> List (tl5Bit) -> Prop) (x113 : Int) (x114 : List (tl5Bit)) (Kx9w40 : List (tl5Bit) -> Prop) : Prop :=
 if (decide (x113 < x117)) = true then (grd (decide (0 < (x112.length : Int))) (grd (decide (x114.length + (rd x112 0).length <= 4139337892803)) (again40 (IntKind.wrap .i64 (x113 + 1)) (x114 ++ (rd x112 0))))) else (Kx9w40 x114)
def Z64.l40 : Nat -> List (List (tl5Bit)) -> Int -> Int -> Int -> Int -> Int -> List Int -> List Int -> Int -> List (tl5Bit) -> (List (tl5Bit) -> Prop) -> Prop
 | 0, _, _, _, _, _, _, _, _, _, _, _ => False
 | n + 1, x112, x115, x116, x117, x118, x119, x120, x121, x113, x114, Kx9w40 => Z64.l40.b n  x112 x115 x116 x117 x118 x119 x120 x121 (fun x113q x114q => Z64.l40 n x112 x115 x116 x117 x118 x119 x120 x121 x113q x114q Kx9w40) x113 x114 Kx9w40
def Z64.j4 (K : List (tl5Bit) -> Prop) (a2 : Int) (a3 : Int) (a4 : Int) (a5 : Int) (a6 : Int) (a7 : List Int) (a8 : List Int) (a9 : List (List (tl5Bit))) (lp27 : Int -> Int -> Int -> Int -> Int -> List Int -> List Int -> Int -> Int -> Int -> List (tl5Bit) -> (List (tl5Bit) -> Prop) -> Prop) (j130 : Int) (j131 : Int) : Prop :=
 grd (decide (0 < (a9.length : Int))) (grd (decide (([] : List (tl5Bit)).length + (rd a9 0).length <= 4139337892803)) (lp27 a2 a3 a4 a5 a6 a7 a8 j130 j131 0 (([] : List (tl5Bit)) ++ (rd a9 0)) (fun y132 => K y132)))
def Z64.j5 (K : List (tl5Bit) -> Prop) (a9 : List (List (tl5Bit))) (j136 : Int) : Prop :=
 grd (decide (0 < (a9.length : Int))) (let t137 : Int := IntKind.wrap .i64 (((rd a9 0).length : Int) - j136); grd ((decide (0 <= t137) && true) && decide (t137 <= ((rd a9 0).length : Int))) (let t138 : List (tl5Bit) := List.drop (Int.toNat t137) (List.take (Int.toNat ((rd a9 0).length : Int)) (rd a9 0)); grd (decide (([] : List (tl5Bit)).length + t138.length <= 4139337892803)) (grd (decide (0 < (a9.length : Int))) (let t139 : Int := IntKind.wrap .i64 (((rd a9 0).length : Int) - j136); grd ((decide (0 <= t139) && decide (t139 <= ((rd a9 0).length : Int))) && decide (0 <= t139)) (let t140 : List (tl5Bit) := List.drop 0 (List.take (Int.toNat t139) (rd a9 0)); grd (decide ((([] : List (tl5Bit)) ++ t138).length + t140.length <= 4139337892803)) (K ((([] : List (tl5Bit)) ++ t138) ++ t140)))))))
def Z64.j6 (K : List (tl5Bit) -> Prop) (a2 : Int) (a3 : Int) (a4 : Int) (a5 : Int) (a6 : Int) (a7 : List Int) (a8 : List Int) (a9 : List (List (tl5Bit))) (lp40 : List (List (tl5Bit)) -> Int -> Int -> Int -> Int -> Int -> List Int -> List Int -> Int -> List (tl5Bit) -> (List (tl5Bit) -> Prop) -> Prop) (j134 : Bool) : Prop :=
 if j134 = true then (grd (decide (0 < (a9.length : Int))) (grd (!(decide (((rd a9 0).length : Int) = 0))) (if (decide (a2 = 8)) = true then (let t141 : Int := IntKind.wrap .i64 (((rd a9 0).length : Int) - (Int.tmod a4 ((rd a9 0).length : Int))); grd (!(decide (((rd a9 0).length : Int) = 0))) (Z64.j5 K a9 (Int.tmod t141 ((rd a9 0).length : Int)))) else (Z64.j5 K a9 (Int.tmod a4 ((rd a9 0).length : Int)))))) else (if (decide (a2 = 9)) = true then (lp40 a9 a2 a3 a4 a5 a6 a7 a8 0 ([] : List (tl5Bit)) (fun y142 => K y142)) else (K ([] : List (tl5Bit))))
def Z64.j7 (K : List (tl5Bit) -> Prop) (a2 : Int) (a3 : Int) (a4 : Int) (a5 : Int) (a6 : Int) (a7 : List Int) (a8 : List Int) (a9 : List (List (tl5Bit))) (lp27 : Int -> Int -> Int -> Int -> Int -> List Int -> List Int -> Int -> Int -> Int -> List (tl5Bit) -> (List (tl5Bit) -> Prop) -> Prop) (lp40 : List (List (tl5Bit)) -> Int -> Int -> Int -> Int -> Int -> List Int -> List Int -> Int -> List (tl5Bit) -> (List (tl5Bit) -> Prop) -> Prop) (j128 : Bool) : Prop :=
 if j128 = true then (if (decide (a2 = 6)) = true then (grd (decide (0 < (a9.length : Int))) (grd (decide (0 < (a9.length : Int))) (let t133 : Int := IntKind.wrap .i64 (((rd a9 0).length : Int) - 1); grd (decide (0 <= t133) && decide (t133 < ((rd a9 0).length : Int))) (Z64.j4 K a2 a3 a4 a5 a6 a7 a8 a9 lp27 ((rd (rd a9 0) (Int.toNat t133)).1) ((rd (rd a9 0) (Int.toNat t133)).2))))) else (Z64.j4 K a2 a3 a4 a5 a6 a7 a8 a9 lp27 (-1) 0)) else (if (decide (a2 = 7)) = true then (Z64.j6 K a2 a3 a4 a5 a6 a7 a8 a9 lp40 true) else (Z64.j6 K a2 a3 a4 a5 a6 a7 a8 a9 lp40 (decide (a2 = 8))))
def Z64.w (n : Nat) (lp5 : List (tDecl) -> Int -> Int -> Int -> Int -> Int -> List Int -> List Int -> Int -> List (tl5Bit) -> (List (tl5Bit) -> Prop) -> Prop) (lp10 : Int -> Int -> Int -> Int -> Int -> List Int -> List Int -> Int -> List (tl5Bit) -> (List (tl5Bit) -> Prop) -> Prop) (lp15 : List (List (tl5Bit)) -> Int -> List (tl5Bit) -> (List (tl5Bit) -> Prop) -> Prop) (lp27 : Int -> Int -> Int -> Int -> Int -> List Int -> List Int -> Int -> Int -> Int -> List (tl5Bit) -> (List (tl5Bit) -> Prop) -> Prop) (lp40 : List (List (tl5Bit)) -> Int -> Int -> Int -> Int -> Int -> List Int -> List Int -> Int -> List (tl5Bit) -> (List (tl5Bit) -> Prop) -> Prop) (a1 : List (tDecl)) (a2 : Int) (a3 : Int) (a4 : Int) (a5 : Int) (a6 : Int) (a7 : List Int) (a8 : List Int) (a9 : List (List (tl5Bit))) (K : List (tl5Bit) -> Prop) : Prop :=
 if (decide (a2 = 1)) = true then (lp5 a1 a2 a3 a4 a5 a6 a7 a8 0 ([] : List (tl5Bit)) (fun y124 => K y124)) else (if (decide (a2 = 2)) = true then (lp10 a2 a3 a4 a5 a6 a7 a8 0 ([] : List (tl5Bit)) (fun y125 => K y125)) else (if (decide (a2 = 3)) = true then (lp15 a9 (IntKind.wrap .i64 ((a9.length : Int) - 1)) ([] : List (tl5Bit)) (fun y126 => K y126)) else (if (decide (a2 = 4)) = true then (grd (decide (0 < (a9.length : Int))) (grd ((decide (0 <= a5) && (decide (0 <= IntKind.wrap .i64 (a4 + 1)) && decide (IntKind.wrap .i64 (a4 + 1) <= ((rd a9 0).length : Int)))) && decide (a5 <= IntKind.wrap .i64 (a4 + 1))) (let t127 : List (tl5Bit) := List.drop (Int.toNat a5) (List.take (Int.toNat (IntKind.wrap .i64 (a4 + 1))) (rd a9 0)); grd (decide (([] : List (tl5Bit)).length + t127.length <= 4139337892803)) (K (([] : List (tl5Bit)) ++ t127))))) else (if (decide (a2 = 5)) = true then (Z64.j7 K a2 a3 a4 a5 a6 a7 a8 a9 lp27 lp40 true) else (Z64.j7 K a2 a3 a4 a5 a6 a7 a8 a9 lp27 lp40 (decide (a2 = 6)))))))
def Z64.c : Nat -> List (tDecl) -> Int -> Int -> Int -> Int -> Int -> List Int -> List Int -> List (List (tl5Bit)) -> (List (tl5Bit) -> Prop) -> Prop
 | 0, _, _, _, _, _, _, _, _, _, _ => False
 | n + 1, a1, a2, a3, a4, a5, a6, a7, a8, a9, K => Z64.w n (Z64.l5 n) (Z64.l10 n) (Z64.l15 n) (Z64.l27 n) (Z64.l40 n) a1 a2 a3 a4 a5 a6 a7 a8 a9 K
def Z63.j1 (again7 : Int -> List Int -> Prop) (x15 : List (tl5Bit)) (x16 : Int) (x18 : List Int) : Prop :=
 grd (decide (0 <= x16) && decide (x16 < (x15.length : Int))) (let t20 : Int := IntKind.wrap .u8 ((rd x15 (Int.toNat x16)).2); grd (decide (x18.length + ([t20] : List (Int)).length <= 35184372088832)) (again7 (IntKind.wrap .i64 (x16 + 1)) (x18 ++ ([t20] : List (Int)))))
def Z63.l7.b (n : Nat) (x15 : List (tl5Bit)) (x17 : List (tSeg)) (again7 : Int -> List Int -> Prop) (x16 : Int) (x18 : List Int) (Kx2w7 : List (tl5Bit) -> Int -> List (tSeg) -> List Int -> Prop) : Prop :=
 if (decide (x16 < (x15.length : Int))) = true then (grd (decide (0 <= x16) && decide (x16 < (x15.length : Int))) (if (decide ((rd x15 (Int.toNat x16)).1 < 0)) = true then (Z63.j1 again7 x15 x16 x18) else (Kx2w7 x15 x16 x17 x18))) else (Kx2w7 x15 x16 x17 x18)
def Z63.l7 : Nat -> List (tl5Bit) -> List (tSeg) -> Int -> List Int -> (List (tl5Bit) -> Int -> List (tSeg) -> List Int -> Prop) -> Prop
 | 0, _, _, _, _, _ => False
 | n + 1, x15, x17, x16, x18, Kx2w7 => Z63.l7.b n  x15 x17 (fun x16q x18q => Z63.l7 n x15 x17 x16q x18q Kx2w7) x16 x18 Kx2w7
def Z63.l12.b (n : Nat) (x52 : List (tl5Bit)) (x53 : Int) (x55 : List (tSeg)) (again12 : Int -> Prop) (x54 : Int) (Kx4w12 : List (tl5Bit) -> Int -> Int -> List (tSeg) -> Prop) : Prop :=
 if (decide (x54 < (x52.length : Int))) = true then (grd (decide (0 <= x54) && decide (x54 < (x52.length : Int))) (grd (decide (0 <= x53) && decide (x53 < (x52.length : Int))) (let t67 : Bool := decide ((rd x52 (Int.toNat x54)).1 = (rd x52 (Int.toNat x53)).1); if t67 = true then (grd (decide (0 <= x54) && decide (x54 < (x52.length : Int))) (grd (decide (0 <= IntKind.wrap .i64 (x54 - 1)) && decide (IntKind.wrap .i64 (x54 - 1) < (x52.length : Int))) (let t68 : tl5Bit := rd x52 (Int.toNat (IntKind.wrap .i64 (x54 - 1))); let t69 : Bool := decide ((rd x52 (Int.toNat x54)).2 = IntKind.wrap .i64 (t68.2 + 1)); if t69 = true then (again12 (IntKind.wrap .i64 (x54 + 1))) else (Kx4w12 x52 x53 x54 x55)))) else (Kx4w12 x52 x53 x54 x55)))) else (Kx4w12 x52 x53 x54 x55)
def Z63.l12 : Nat -> List (tl5Bit) -> Int -> List (tSeg) -> Int -> (List (tl5Bit) -> Int -> Int -> List (tSeg) -> Prop) -> Prop
 | 0, _, _, _, _, _ => False
 | n + 1, x52, x53, x55, x54, Kx4w12 => Z63.l12.b n  x52 x53 x55 (fun x54q => Z63.l12 n x52 x53 x55 x54q Kx4w12) x54 Kx4w12
def Z63.l3.b (n : Nat) (lp7 : List (tl5Bit) -> List (tSeg) -> Int -> List Int -> (List (tl5Bit) -> Int -> List (tSeg) -> List Int -> Prop) -> Prop) (lp12 : List (tl5Bit) -> Int -> List (tSeg) -> Int -> (List (tl5Bit) -> Int -> Int -> List (tSeg) -> Prop) -> Prop) (again3 : List (tl5Bit) -> Int -> List (tSeg) -> Prop) (x101 : List (tl5Bit)) (x102 : Int) (x103 : List (tSeg)) (Kx0w3 : List (tSeg) -> Prop) : Prop :=
 if (decide (x102 < (x101.length : Int))) = true then (grd (decide (0 <= x102) && decide (x102 < (x101.length : Int))) (if (decide ((rd x101 (Int.toNat x102)).1 < 0)) = true then (grd (decide (0 <= x102) && decide (x102 < (x101.length : Int))) (let t126 : Int := IntKind.wrap .u8 ((rd x101 (Int.toNat x102)).2); lp7 x101 x103 (IntKind.wrap .i64 (x102 + 1)) ([t126] : List (Int)) (fun y131 y132 y133 y134 => Z39.c n y134 (fun r135 r136 r137 => let t138 : List (tSeg) := ([((-1), 0, r135, r135, r136)] : List (tSeg)); grd (decide (y133.length + t138.length <= 1234539371537)) (again3 y131 y132 (y133 ++ t138)))))) else (lp12 x101 x102 x103 (IntKind.wrap .i64 (x102 + 1)) (fun y143 y144 y145 y146 => grd (decide (0 <= y144) && decide (y144 < (y143.length : Int))) (grd (decide (0 <= y144) && decide (y144 < (y143.length : Int))) (let t147 : List (tSeg) := ([((rd y143 (Int.toNat y144)).1, (rd y143 (Int.toNat y144)).2, IntKind.wrap .i64 (y145 - y144), 0, ([] : List (Int)))] : List (tSeg)); grd (decide (y146.length + t147.length <= 1234539371537)) (again3 y143 y145 (y146 ++ t147)))))))) else (Kx0w3 x103)
def Z63.l3 : Nat -> List (tl5Bit) -> Int -> List (tSeg) -> (List (tSeg) -> Prop) -> Prop
 | 0, _, _, _, _ => False
 | n + 1, x101, x102, x103, Kx0w3 => Z63.l3.b n (Z63.l7 n) (Z63.l12 n)  (fun x101q x102q x103q => Z63.l3 n x101q x102q x103q Kx0w3) x101 x102 x103 Kx0w3
def Z63.w (n : Nat) (lp3 : List (tl5Bit) -> Int -> List (tSeg) -> (List (tSeg) -> Prop) -> Prop) (a1 : List (tl5Bit)) (K : List (tSeg) -> Bool -> Prop) : Prop :=
 let t2 : List (tSeg) := ([] : List (tSeg)); let t3 : List (tSeg) := ([] : List (tSeg)); lp3 a1 0 t3 (fun y149 => K y149 (decide ((y149.length : Int) <= 2000)))
def Z63.c : Nat -> List (tl5Bit) -> (List (tSeg) -> Bool -> Prop) -> Prop
 | 0, _, _ => False
 | n + 1, a1, K => Z63.w n (Z63.l3 n) a1 K
def Z35.l10.b (n : Nat) (x26 : List (tDecl)) (x27 : Int) (x29 : List (List (tl5Bit))) (x31 : List (tTNode)) (again10 : Int -> List (List (tl5Bit)) -> Prop) (x28 : Int) (x30 : List (List (tl5Bit))) (Kx2w10 : List (tDecl) -> Int -> List (List (tl5Bit)) -> List (List (tl5Bit)) -> List (tTNode) -> Prop) : Prop :=
 grd (decide (0 <= x27) && decide (x27 < (x31.length : Int))) (let t33 : List Int := ((((((rd x31 (Int.toNat x27)).2).2).2).2).2).2; if (decide (x28 < (t33.length : Int))) = true then (grd (decide (0 <= x27) && decide (x27 < (x31.length : Int))) (let t36 : List Int := ((((((rd x31 (Int.toNat x27)).2).2).2).2).2).2; grd (decide (0 <= x28) && decide (x28 < (t36.length : Int))) (grd (decide (0 <= rd t36 (Int.toNat x28)) && decide (rd t36 (Int.toNat x28) < (x29.length : Int))) (let t37 : List (List (tl5Bit)) := ([rd x29 (Int.toNat (rd t36 (Int.toNat x28)))] : List (List (tl5Bit))); grd (decide (x30.length + t37.length <= 2814749767106)) (again10 (IntKind.wrap .i64 (x28 + 1)) (x30 ++ t37)))))) else (Kx2w10 x26 x27 x29 x30 x31))
def Z35.l10 : Nat -> List (tDecl) -> Int -> List (List (tl5Bit)) -> List (tTNode) -> Int -> List (List (tl5Bit)) -> (List (tDecl) -> Int -> List (List (tl5Bit)) -> List (List (tl5Bit)) -> List (tTNode) -> Prop) -> Prop
 | 0, _, _, _, _, _, _, _ => False
 | n + 1, x26, x27, x29, x31, x28, x30, Kx2w10 => Z35.l10.b n  x26 x27 x29 x31 (fun x28q x30q => Z35.l10 n x26 x27 x29 x31 x28q x30q Kx2w10) x28 x30 Kx2w10
def Z35.l6.b (n : Nat) (lp10 : List (tDecl) -> Int -> List (List (tl5Bit)) -> List (tTNode) -> Int -> List (List (tl5Bit)) -> (List (tDecl) -> Int -> List (List (tl5Bit)) -> List (List (tl5Bit)) -> List (tTNode) -> Prop) -> Prop) (again6 : List (tDecl) -> Int -> List (List (tl5Bit)) -> List (tSeg) -> List (tTNode) -> Prop) (x72 : List (tDecl)) (x73 : Int) (x74 : List (List (tl5Bit))) (x75 : List (tSeg)) (x76 : List (tTNode)) (Kx0w6 : List (tSeg) -> Prop) (Kr6 : Bool -> List (tSeg) -> Prop) : Prop :=
 if (decide (x73 < (x76.length : Int))) = true then (lp10 x72 x73 x74 x76 0 ([] : List (List (tl5Bit))) (fun y99 y100 y101 y102 y103 => grd (decide (0 <= y100) && decide (y100 < (y103.length : Int))) (let t104 : List Int := ((((((rd y103 (Int.toNat y100)).2).2).2).2).2).1; let t105 : List Int := ((((((rd y103 (Int.toNat y100)).2).2).2).2).2).2; Z64.c n y99 ((rd y103 (Int.toNat y100)).1) (((rd y103 (Int.toNat y100)).2).1) ((((rd y103 (Int.toNat y100)).2).2).1) (((((rd y103 (Int.toNat y100)).2).2).2).1) ((((((rd y103 (Int.toNat y100)).2).2).2).2).1) t104 t105 y102 (fun r106 => Z63.c n r106 (fun r107 r108 => if (!r108) = true then (let t110 : List (tSeg) := ([] : List (tSeg)); Kr6 false t110) else (grd (decide (y101.length + ([r106] : List (List (tl5Bit))).length <= 2814749767106)) (again6 y99 (IntKind.wrap .i64 (y100 + 1)) (y101 ++ ([r106] : List (List (tl5Bit)))) r107 y103))))))) else (Kx0w6 x75)
def Z35.l6 : Nat -> List (tDecl) -> Int -> List (List (tl5Bit)) -> List (tSeg) -> List (tTNode) -> (List (tSeg) -> Prop) -> (Bool -> List (tSeg) -> Prop) -> Prop
 | 0, _, _, _, _, _, _, _ => False
 | n + 1, x72, x73, x74, x75, x76, Kx0w6, Kr6 => Z35.l6.b n (Z35.l10 n)  (fun x72q x73q x74q x75q x76q => Z35.l6 n x72q x73q x74q x75q x76q Kx0w6 Kr6) x72 x73 x74 x75 x76 Kx0w6 Kr6
def Z35.w (n : Nat) (lp6 : List (tDecl) -> Int -> List (List (tl5Bit)) -> List (tSeg) -> List (tTNode) -> (List (tSeg) -> Prop) -> (Bool -> List (tSeg) -> Prop) -> Prop) (a1 : List (tDecl)) (a2 : List (tTNode)) (K : List (tSeg) -> Bool -> Prop) : Prop :=
 let t3 : List (tSeg) := ([] : List (tSeg)); Z36.c n a1 a2 (fun r6 => if (decide (r6 < 0)) = true then (let t7 : List (tSeg) := ([] : List (tSeg)); K t7 false) else (let t8 : List (tSeg) := ([] : List (tSeg)); lp6 a1 0 ([] : List (List (tl5Bit))) t8 a2 (fun y114 => K y114 true) (fun y115 y116 => K y116 y115)))
def Z35.c : Nat -> List (tDecl) -> List (tTNode) -> (List (tSeg) -> Bool -> Prop) -> Prop
 | 0, _, _, _ => False
 | n + 1, a1, a2, K => Z35.w n (Z35.l6 n) a1 a2 K
def Z46.w (n : Nat) (a1 : List Int) (a2 : Int) (a3 : List (tDecl)) (K : List (tSeg) -> List Int -> Int -> Prop) : Prop :=
 let t4 : List (tSeg) := ([] : List (tSeg)); Z56.c n a1 a2 a3 0 (fun r5 r6 r7 => Z35.c n a3 r5 (fun r8 r9 => if (!r9) = true then (let t11 : List (tSeg) := ([(0, 0, 1, 0, ([] : List (Int)))] : List (tSeg)); K t11 r6 r7) else (Z43.c n r6 r7 (r8.length : Int) (fun r12 r13 r14 => Z43.c n r13 r14 40 (fun r34 r35 r36 => if (decide (r34 = 0)) = true then (Z49.c n r35 r36 0 9 (fun r37 r38 r39 => grd (decide (0 <= r12) && decide (r12 < (r8.length : Int))) (let t40 : List (tSeg) := List.set r8 (Int.toNat r12) ((rd r8 (Int.toNat r12)).1, r37, (((rd r8 (Int.toNat r12)).2).2).1, ((((rd r8 (Int.toNat r12)).2).2).2).1, ((((rd r8 (Int.toNat r12)).2).2).2).2); K t40 r38 r39))) else (if (decide (r34 = 1)) = true then (Z49.c n r35 r36 1 9 (fun r41 r42 r43 => grd (decide (0 <= r12) && decide (r12 < (r8.length : Int))) (let t44 : List (tSeg) := List.set r8 (Int.toNat r12) ((rd r8 (Int.toNat r12)).1, ((rd r8 (Int.toNat r12)).2).1, r41, ((((rd r8 (Int.toNat r12)).2).2).2).1, ((((rd r8 (Int.toNat r12)).2).2).2).2); K t44 r42 r43))) else (if (decide (r34 = 2)) = true then (Z49.c n r35 r36 (-1) (a3.length : Int) (fun r45 r46 r47 => grd (decide (0 <= r12) && decide (r12 < (r8.length : Int))) (let t48 : List (tSeg) := List.set r8 (Int.toNat r12) (r45, ((rd r8 (Int.toNat r12)).2).1, (((rd r8 (Int.toNat r12)).2).2).1, ((((rd r8 (Int.toNat r12)).2).2).2).1, ((((rd r8 (Int.toNat r12)).2).2).2).2); K t48 r46 r47))) else (if (decide (r34 = 3)) = true then (grd (decide (0 <= r12) && decide (r12 < (r8.length : Int))) (let t49 : List (tSeg) := ([((rd r8 (Int.toNat r12)).1, ((rd r8 (Int.toNat r12)).2).1, (((rd r8 (Int.toNat r12)).2).2).1, ((((rd r8 (Int.toNat r12)).2).2).2).1, ((((rd r8 (Int.toNat r12)).2).2).2).2)] : List (tSeg)); grd (decide (r8.length + t49.length <= 1234539371537)) (K (r8 ++ t49) r35 r36))) else (if (decide (r34 = 4)) = true then (grd (decide (0 <= (r8.length : Int)) && true) (K (List.take 0 r8) r35 r36)) else (K r8 r35 r36))))))))))
def Z46.c : Nat -> List Int -> Int -> List (tDecl) -> (List (tSeg) -> List Int -> Int -> Prop) -> Prop
 | 0, _, _, _, _ => False
 | n + 1, a1, a2, a3, K => Z46.w n  a1 a2 a3 K
def Z66.l3.b (n : Nat) (x10 : List (tSeg)) (again3 : Int -> Int -> Prop) (x11 : Int) (x12 : Int) (Kx0w3 : Int -> Prop) : Prop :=
 if (decide (x12 < (x10.length : Int))) = true then (grd (decide (0 <= x12) && decide (x12 < (x10.length : Int))) (Z40.c n ((((rd x10 (Int.toNat x12)).2).2).1) 0 5000 (fun r16 => if r16 = true then (grd (decide (0 <= x12) && decide (x12 < (x10.length : Int))) (let t17 : Int := IntKind.wrap .i64 (x11 + ((((rd x10 (Int.toNat x12)).2).2).1)); again3 t17 (IntKind.wrap .i64 (x12 + 1)))) else (again3 x11 (IntKind.wrap .i64 (x12 + 1)))))) else (Kx0w3 x11)
def Z66.l3 : Nat -> List (tSeg) -> Int -> Int -> (Int -> Prop) -> Prop
 | 0, _, _, _, _ => False
 | n + 1, x10, x11, x12, Kx0w3 => Z66.l3.b n  x10 (fun x11q x12q => Z66.l3 n x10 x11q x12q Kx0w3) x11 x12 Kx0w3
def Z66.w (n : Nat) (lp3 : List (tSeg) -> Int -> Int -> (Int -> Prop) -> Prop) (a1 : List (tSeg)) (K : List Int -> Prop) : Prop :=
 lp3 a1 0 0 (fun y19 => grd ((decide (0 <= (if 20000 < y19 then 20000 else y19)) && decide ((if 20000 < y19 then 20000 else y19) <= 35184372088832)) && decide ((if 20000 < y19 then 20000 else y19) = (if 20000 < y19 then 20000 else y19))) (let t20 : List Int := List.replicate (Int.toNat (if 20000 < y19 then 20000 else y19)) 0; K t20))
def Z66.c : Nat -> List (tSeg) -> (List Int -> Prop) -> Prop
 | 0, _, _ => False
 | n + 1, a1, K => Z66.w n (Z66.l3 n) a1 K
def Z32.w (n : Nat) (a1 : List Int) (K : List (tDecl) -> List (tSeg) -> Int -> Int -> Prop) : Prop :=
 let t2 : List (tSeg) := ([] : List (tSeg)); Z42.c n a1 (fun r3 r4 => Z45.c n r3 r4 (fun r5 r6 r7 => Z46.c n r6 r7 r5 (fun r8 r9 r10 => Z66.c n r8 (fun r11 => let t12 : Int := (if (IntKind.wrap .i64 ((r11.length : Int) - 1)) > 0 then IntKind.wrap .i64 ((r11.length : Int) - 1) else 0); Z49.c n r9 r10 0 t12 (fun r13 r14 r15 => Z49.c n r14 r15 0 (if r13 > 0 then r13 else 0) (fun r16 r17 r18 => K r5 r8 r13 r16))))))
def Z32.c : Nat -> List Int -> (List (tDecl) -> List (tSeg) -> Int -> Int -> Prop) -> Prop
 | 0, _, _ => False
 | n + 1, a1, K => Z32.w n  a1 K
def Z65.j0 (K : Bool -> Prop) (a1 : List (tDecl)) (a2 : Int) (a3 : Int) (a4 : Int) (n : Nat) : Prop :=
 grd (decide (0 <= a2) && decide (a2 < (a1.length : Int))) (let t23 : Int := IntKind.wrap .i64 (((rd a1 (Int.toNat a2)).2) - 1); Z40.c n a3 0 t23 (fun r24 => if r24 = true then (let t25 : Int := IntKind.wrap .i64 (((rd a1 (Int.toNat a2)).2) - a3); Z40.c n a4 1 t25 (fun r26 => K r26)) else (K false)))
def Z65.w (n : Nat) (a1 : List (tDecl)) (a2 : Int) (a3 : Int) (a4 : Int) (a5 : Int) (a6 : List Int) (K : Bool -> Prop) : Prop :=
 if (decide (a2 = (-1))) = true then (if (decide (a3 = 0)) = true then (Z30.c n a5 a6 (fun r12 => if r12 = true then (K (decide (a5 = a4))) else (K false))) else (K false)) else (Z40.c n a2 0 (IntKind.wrap .i64 ((a1.length : Int) - 1)) (fun r30 => if (!r30) = false then (Z57.c n a5 a6 (fun r31 => if (!r31) = true then (K false) else (Z65.j0 K a1 a2 a3 a4 n))) else (K false)))
def Z65.c : Nat -> List (tDecl) -> Int -> Int -> Int -> Int -> List Int -> (Bool -> Prop) -> Prop
 | 0, _, _, _, _, _, _, _ => False
 | n + 1, a1, a2, a3, a4, a5, a6, K => Z65.w n  a1 a2 a3 a4 a5 a6 K
def Z33.l5.b (n : Nat) (x35 : List (tDecl)) (x36 : List (tSeg)) (again5 : Int -> Int -> Prop) (x37 : Int) (x38 : Int) (Kx0w5 : Int -> Prop) (Kr5 : Bool -> Prop) : Prop :=
 if (decide (x38 < (x36.length : Int))) = true then (grd (decide (0 <= x38) && decide (x38 < (x36.length : Int))) (Z65.c n x35 ((rd x36 (Int.toNat x38)).1) (((rd x36 (Int.toNat x38)).2).1) ((((rd x36 (Int.toNat x38)).2).2).1) (((((rd x36 (Int.toNat x38)).2).2).2).1) (((((rd x36 (Int.toNat x38)).2).2).2).2) (fun r53 => if (!r53) = true then (Kr5 false) else (grd (decide (0 <= x38) && decide (x38 < (x36.length : Int))) (let t54 : Int := IntKind.wrap .i64 (x37 + ((((rd x36 (Int.toNat x38)).2).2).1)); if (decide (x38 > 0)) = true then (grd (decide (0 <= x38) && decide (x38 < (x36.length : Int))) (grd (decide (0 <= IntKind.wrap .i64 (x38 - 1)) && decide (IntKind.wrap .i64 (x38 - 1) < (x36.length : Int))) (let t60 : tSeg := rd x36 (Int.toNat (IntKind.wrap .i64 (x38 - 1))); if (decide ((rd x36 (Int.toNat x38)).1 = t60.1)) = true then (grd (decide (0 <= x38) && decide (x38 < (x36.length : Int))) (if (decide ((rd x36 (Int.toNat x38)).1 = (-1))) = false then (grd (decide (0 <= x38) && decide (x38 < (x36.length : Int))) (grd (decide (0 <= IntKind.wrap .i64 (x38 - 1)) && decide (IntKind.wrap .i64 (x38 - 1) < (x36.length : Int))) (let t61 : tSeg := rd x36 (Int.toNat (IntKind.wrap .i64 (x38 - 1))); grd (decide (0 <= IntKind.wrap .i64 (x38 - 1)) && decide (IntKind.wrap .i64 (x38 - 1) < (x36.length : Int))) (let t62 : tSeg := rd x36 (Int.toNat (IntKind.wrap .i64 (x38 - 1))); let t63 : Bool := decide (((rd x36 (Int.toNat x38)).2).1 = IntKind.wrap .i64 (t61.2.1 + t62.2.2.1)); if t63 = true then (Kr5 false) else (again5 t54 (IntKind.wrap .i64 (x38 + 1))))))) else (Kr5 false))) else (again5 t54 (IntKind.wrap .i64 (x38 + 1)))))) else (again5 t54 (IntKind.wrap .i64 (x38 + 1)))))))) else (Kx0w5 x37)
def Z33.l5 : Nat -> List (tDecl) -> List (tSeg) -> Int -> Int -> (Int -> Prop) -> (Bool -> Prop) -> Prop
 | 0, _, _, _, _, _, _ => False
 | n + 1, x35, x36, x37, x38, Kx0w5, Kr5 => Z33.l5.b n  x35 x36 (fun x37q x38q => Z33.l5 n x35 x36 x37q x38q Kx0w5 Kr5) x37 x38 Kx0w5 Kr5
def Z33.w (n : Nat) (lp5 : List (tDecl) -> List (tSeg) -> Int -> Int -> (Int -> Prop) -> (Bool -> Prop) -> Prop) (a1 : List (tDecl)) (a2 : List (tSeg)) (K : Bool -> Prop) : Prop :=
 Z31.c n a1 (fun r74 => if (!r74) = false then (if (decide ((a2.length : Int) < 1)) = false then (if (decide ((a2.length : Int) > 2000)) = true then (K false) else (lp5 a1 a2 0 0 (fun y77 => K (decide (y77 <= 4096))) (fun y78 => K y78))) else (K false)) else (K false))
def Z33.c : Nat -> List (tDecl) -> List (tSeg) -> (Bool -> Prop) -> Prop
 | 0, _, _, _ => False
 | n + 1, a1, a2, K => Z33.w n (Z33.l5 n) a1 a2 K
def Z62.l6.b (n : Nat) (x19 : List (tSeg)) (x20 : Int) (again6 : Int -> List (tl5Bit) -> Prop) (x21 : Int) (x22 : List (tl5Bit)) (Kx2w6 : List (tSeg) -> Int -> List (tl5Bit) -> Prop) : Prop :=
 grd (decide (0 <= x20) && decide (x20 < (x19.length : Int))) (let t24 : Bool := decide (x21 < (((rd x19 (Int.toNat x20)).2).2).1); if t24 = true then (grd (decide (0 <= x20) && decide (x20 < (x19.length : Int))) (if (decide ((rd x19 (Int.toNat x20)).1 < 0)) = true then (grd (decide (0 <= x20) && decide (x20 < (x19.length : Int))) (Z37.c n (((((rd x19 (Int.toNat x20)).2).2).2).1) (((((rd x19 (Int.toNat x20)).2).2).2).2) x21 (fun r29 => let t30 : List (tl5Bit) := ([((-1), IntKind.wrap .i64 r29)] : List (tl5Bit)); grd (decide (x22.length + t30.length <= 4139337892803)) (again6 (IntKind.wrap .i64 (x21 + 1)) (x22 ++ t30))))) else (grd (decide (0 <= x20) && decide (x20 < (x19.length : Int))) (grd (decide (0 <= x20) && decide (x20 < (x19.length : Int))) (let t31 : Int := IntKind.wrap .i64 ((((rd x19 (Int.toNat x20)).2).1) + x21); let t32 : List (tl5Bit) := ([((rd x19 (Int.toNat x20)).1, t31)] : List (tl5Bit)); grd (decide (x22.length + t32.length <= 4139337892803)) (again6 (IntKind.wrap .i64 (x21 + 1)) (x22 ++ t32))))))) else (Kx2w6 x19 x20 x22))
def Z62.l6 : Nat -> List (tSeg) -> Int -> Int -> List (tl5Bit) -> (List (tSeg) -> Int -> List (tl5Bit) -> Prop) -> Prop
 | 0, _, _, _, _, _ => False
 | n + 1, x19, x20, x21, x22, Kx2w6 => Z62.l6.b n  x19 x20 (fun x21q x22q => Z62.l6 n x19 x20 x21q x22q Kx2w6) x21 x22 Kx2w6
def Z62.l3.b (n : Nat) (lp6 : List (tSeg) -> Int -> Int -> List (tl5Bit) -> (List (tSeg) -> Int -> List (tl5Bit) -> Prop) -> Prop) (again3 : List (tSeg) -> Int -> List (tl5Bit) -> Prop) (x39 : List (tSeg)) (x40 : Int) (x41 : List (tl5Bit)) (Kx0w3 : List (tl5Bit) -> Prop) : Prop :=
 if (decide (x40 < (x39.length : Int))) = true then (lp6 x39 x40 0 x41 (fun y45 y46 y47 => again3 y45 (IntKind.wrap .i64 (y46 + 1)) y47)) else (Kx0w3 x41)
def Z62.l3 : Nat -> List (tSeg) -> Int -> List (tl5Bit) -> (List (tl5Bit) -> Prop) -> Prop
 | 0, _, _, _, _ => False
 | n + 1, x39, x40, x41, Kx0w3 => Z62.l3.b n (Z62.l6 n)  (fun x39q x40q x41q => Z62.l3 n x39q x40q x41q Kx0w3) x39 x40 x41 Kx0w3
def Z62.w (n : Nat) (lp3 : List (tSeg) -> Int -> List (tl5Bit) -> (List (tl5Bit) -> Prop) -> Prop) (a1 : List (tSeg)) (K : List (tl5Bit) -> Prop) : Prop :=
 lp3 a1 0 ([] : List (tl5Bit)) (fun y49 => K y49)
def Z62.c : Nat -> List (tSeg) -> (List (tl5Bit) -> Prop) -> Prop
 | 0, _, _ => False
 | n + 1, a1, K => Z62.w n (Z62.l3 n) a1 K
def Z34.j0 (K : List (tSeg) -> Bool -> Prop) (a3 : Int) (a4 : Int) (n : Nat) (r10 : List (tl5Bit)) : Prop :=
 grd ((decide (0 <= a4) && (decide (0 <= IntKind.wrap .i64 (a3 + 1)) && decide (IntKind.wrap .i64 (a3 + 1) <= (r10.length : Int)))) && decide (a4 <= IntKind.wrap .i64 (a3 + 1))) (Z63.c n (List.drop (Int.toNat a4) (List.take (Int.toNat (IntKind.wrap .i64 (a3 + 1))) r10)) (fun r16 r17 => K r16 r17))
def Z34.j1 (K : List (tSeg) -> Bool -> Prop) (a3 : Int) (a4 : Int) (n : Nat) (r10 : List (tl5Bit)) (j18 : Bool) : Prop :=
 if j18 = true then (let t19 : List (tSeg) := ([] : List (tSeg)); K t19 false) else (Z34.j0 K a3 a4 n r10)
def Z34.w (n : Nat) (a1 : List (tDecl)) (a2 : List (tSeg)) (a3 : Int) (a4 : Int) (K : List (tSeg) -> Bool -> Prop) : Prop :=
 let t5 : List (tSeg) := ([] : List (tSeg)); Z33.c n a1 a2 (fun r8 => if (!r8) = true then (let t9 : List (tSeg) := ([] : List (tSeg)); K t9 false) else (Z62.c n a2 (fun r10 => if (decide (a4 < 0)) = false then (if (decide (a3 < a4)) = false then (Z34.j1 K a3 a4 n r10 (decide (a3 >= (r10.length : Int)))) else (Z34.j1 K a3 a4 n r10 true)) else (Z34.j1 K a3 a4 n r10 true))))
def Z34.c : Nat -> List (tDecl) -> List (tSeg) -> Int -> Int -> (List (tSeg) -> Bool -> Prop) -> Prop
 | 0, _, _, _, _, _ => False
 | n + 1, a1, a2, a3, a4, K => Z34.w n  a1 a2 a3 a4 K
def Z22.j0 (K : Bool -> Prop) (a1 : List (tDecl)) (a2 : Int) (a3 : Int) (a4 : Int) : Prop :=
 if (decide (a3 >= 0)) = true then (grd (decide (0 <= a2) && decide (a2 < (a1.length : Int))) (let t19 : Int := IntKind.wrap .i64 (((rd a1 (Int.toNat a2)).2) - a4); K (decide (a3 <= t19)))) else (K false)
def Z22.j1 (K : Bool -> Prop) (a1 : List (tDecl)) (a2 : Int) (a3 : Int) (a4 : Int) (a5 : Int) (a6 : List Int) (n : Nat) : Prop :=
 if (decide (a2 = (-1))) = true then (if (decide (a3 = 0)) = true then (Z0.c n a5 a6 (fun r13 => if r13 = true then (K (decide (a5 = a4))) else (K false))) else (K false)) else (Z18.c n a2 0 (IntKind.wrap .i64 ((a1.length : Int) - 1)) (fun r22 => if (!r22) = false then (if (!(decide (a5 = 0))) = false then (if (!(decide ((a6.length : Int) = 0))) = true then (K false) else (Z22.j0 K a1 a2 a3 a4)) else (K false)) else (K false)))
def Z22.w (n : Nat) (a1 : List (tDecl)) (a2 : Int) (a3 : Int) (a4 : Int) (a5 : Int) (a6 : List Int) (K : Bool -> Prop) : Prop :=
 if (decide (a4 < 1)) = false then (if (decide (a4 > 4096)) = true then (K false) else (Z22.j1 K a1 a2 a3 a4 a5 a6 n)) else (K false)
def Z22.c : Nat -> List (tDecl) -> Int -> Int -> Int -> Int -> List Int -> (Bool -> Prop) -> Prop
 | 0, _, _, _, _, _, _, _ => False
 | n + 1, a1, a2, a3, a4, a5, a6, K => Z22.w n  a1 a2 a3 a4 a5 a6 K
def Z8.w (n : Nat) (a1 : Int) (a2 : Int) (a3 : Int) (a4 : Int) (a5 : List Int) (a6 : Int) (a7 : Int) (a8 : Int) (a9 : Int) (a10 : List Int) (K : Bool -> Prop) : Prop :=
 if (decide (a1 = a6)) = true then (if (decide (a1 = (-1))) = false then (K (decide (IntKind.wrap .i64 (a2 + a3) = a7))) else (K true)) else (K false)
def Z8.c : Nat -> Int -> Int -> Int -> Int -> List Int -> Int -> Int -> Int -> Int -> List Int -> (Bool -> Prop) -> Prop
 | 0, _, _, _, _, _, _, _, _, _, _, _ => False
 | n + 1, a1, a2, a3, a4, a5, a6, a7, a8, a9, a10, K => Z8.w n  a1 a2 a3 a4 a5 a6 a7 a8 a9 a10 K
def Z15.l5.b (n : Nat) (x45 : List (tDecl)) (x46 : List (tSeg)) (x48 : List (tSeg)) (x49 : Int) (again5 : Int -> Int -> Prop) (x47 : Int) (x50 : Int) (Kx0w5 : Int -> Prop) (Kr5 : Bool -> Prop) : Prop :=
 if (decide (x50 < x49)) = true then (grd (decide (0 <= x50) && decide (x50 < (x48.length : Int))) (Z22.c n x45 ((rd x48 (Int.toNat x50)).1) (((rd x48 (Int.toNat x50)).2).1) ((((rd x48 (Int.toNat x50)).2).2).1) (((((rd x48 (Int.toNat x50)).2).2).2).1) (((((rd x48 (Int.toNat x50)).2).2).2).2) (fun r83 => if (!r83) = false then (if (decide (x50 > 0)) = true then (grd (decide (0 <= IntKind.wrap .i64 (x50 - 1)) && decide (IntKind.wrap .i64 (x50 - 1) < (x46.length : Int))) (let t84 : tSeg := rd x46 (Int.toNat (IntKind.wrap .i64 (x50 - 1))); Z8.c n t84.1 t84.2.1 t84.2.2.1 t84.2.2.2.1 t84.2.2.2.2 ((rd x48 (Int.toNat x50)).1) (((rd x48 (Int.toNat x50)).2).1) ((((rd x48 (Int.toNat x50)).2).2).1) (((((rd x48 (Int.toNat x50)).2).2).2).1) (((((rd x48 (Int.toNat x50)).2).2).2).2) (fun r85 => if r85 = true then (Kr5 false) else (let t86 : Int := IntKind.wrap .i64 (x47 + ((((rd x48 (Int.toNat x50)).2).2).1)); again5 t86 (IntKind.wrap .i64 (x50 + 1)))))) else (let t87 : Int := IntKind.wrap .i64 (x47 + ((((rd x48 (Int.toNat x50)).2).2).1)); again5 t87 (IntKind.wrap .i64 (x50 + 1)))) else (Kr5 false)))) else (Kx0w5 x47)
def Z15.l5 : Nat -> List (tDecl) -> List (tSeg) -> List (tSeg) -> Int -> Int -> Int -> (Int -> Prop) -> (Bool -> Prop) -> Prop
 | 0, _, _, _, _, _, _, _, _ => False
 | n + 1, x45, x46, x48, x49, x47, x50, Kx0w5, Kr5 => Z15.l5.b n  x45 x46 x48 x49 (fun x47q x50q => Z15.l5 n x45 x46 x48 x49 x47q x50q Kx0w5 Kr5) x47 x50 Kx0w5 Kr5
def Z15.w (n : Nat) (lp5 : List (tDecl) -> List (tSeg) -> List (tSeg) -> Int -> Int -> Int -> (Int -> Prop) -> (Bool -> Prop) -> Prop) (a1 : List (tDecl)) (a2 : List (tSeg)) (K : Bool -> Prop) : Prop :=
 if (decide ((a2.length : Int) < 1)) = false then (if (decide ((a2.length : Int) > 2000)) = true then (K false) else (lp5 a1 a2 a2 (a2.length : Int) 0 0 (fun y99 => K (decide (y99 <= 4096))) (fun y100 => K y100))) else (K false)
def Z15.c : Nat -> List (tDecl) -> List (tSeg) -> (Bool -> Prop) -> Prop
 | 0, _, _, _ => False
 | n + 1, a1, a2, K => Z15.w n (Z15.l5 n) a1 a2 K
def Z6.w (n : Nat) (a1 : List (tDecl)) (a2 : List (tSeg)) (K : Bool -> Prop) : Prop :=
 Z4.c n a1 (fun r6 => if r6 = true then (Z15.c n a1 a2 (fun r7 => K r7)) else (K false))
def Z6.c : Nat -> List (tDecl) -> List (tSeg) -> (Bool -> Prop) -> Prop
 | 0, _, _, _ => False
 | n + 1, a1, a2, K => Z6.w n  a1 a2 K
def Z17.l3.b (n : Nat) (x9 : List (tSeg)) (x10 : Int) (again3 : Int -> Int -> Prop) (x8 : Int) (x11 : Int) (Kx0w3 : Int -> Prop) : Prop :=
 if (decide (x11 < x10)) = true then (grd (decide (0 <= x11) && decide (x11 < (x9.length : Int))) (let t13 : Int := IntKind.wrap .i64 (x8 + ((((rd x9 (Int.toNat x11)).2).2).1)); again3 t13 (IntKind.wrap .i64 (x11 + 1)))) else (Kx0w3 x8)
def Z17.l3 : Nat -> List (tSeg) -> Int -> Int -> Int -> (Int -> Prop) -> Prop
 | 0, _, _, _, _, _ => False
 | n + 1, x9, x10, x8, x11, Kx0w3 => Z17.l3.b n  x9 x10 (fun x8q x11q => Z17.l3 n x9 x10 x8q x11q Kx0w3) x8 x11 Kx0w3
def Z17.w (n : Nat) (lp3 : List (tSeg) -> Int -> Int -> Int -> (Int -> Prop) -> Prop) (a1 : List (tSeg)) (K : Int -> Prop) : Prop :=
 lp3 a1 (a1.length : Int) 0 0 (fun y15 => K y15)
def Z17.c : Nat -> List (tSeg) -> (Int -> Prop) -> Prop
 | 0, _, _ => False
 | n + 1, a1, K => Z17.w n (Z17.l3 n) a1 K
def Z24.w (n : Nat) (a1 : Int) (K : Int -> List Int -> Prop) : Prop :=
 Z23.c n a1 (fun r2 => grd ((decide (0 <= r2) && decide (r2 <= 7818749353073)) && decide (r2 = r2)) (K a1 (List.replicate (Int.toNat r2) 0)))
def Z24.c : Nat -> Int -> (Int -> List Int -> Prop) -> Prop
 | 0, _, _ => False
 | n + 1, a1, K => Z24.w n  a1 K
def Z1.j3 (again3 : Int -> List Int -> Prop) (t65 : Int) (t69 : Int) (x45 : Int) (x46 : List Int) (x49 : List Int) (j71 : Bool) : Prop :=
 if j71 = true then (grd (decide (0 <= x45) && decide (x45 < ((List.set x46 (Int.toNat x45) t69).length : Int))) (let t72 : Int := rd (List.set x46 (Int.toNat x45) t69) (Int.toNat x45); let t73 : Int := IntKind.wrap .i64 ((IntKind.wrap .i64 (Int.tdiv t65 64)) + 1); grd (decide (0 <= t73) && decide (t73 < (x49.length : Int))) (grd (decide (0 <= IntKind.wrap .i64 (64 - (Int.tmod t65 64)))) (let t74 : Int := IntKind.wrap .u64 ((rd x49 (Int.toNat t73)) * 2 ^ (Nat.min (Int.toNat (IntKind.wrap .i64 (64 - (Int.tmod t65 64)))) 64)); grd (decide (0 <= x45) && decide (x45 < ((List.set x46 (Int.toNat x45) t69).length : Int))) (let t75 : List Int := List.set (List.set x46 (Int.toNat x45) t69) (Int.toNat x45) (ibits .or .u64 t72 t74); again3 (IntKind.wrap .i64 (x45 + 1)) t75))))) else (again3 (IntKind.wrap .i64 (x45 + 1)) (List.set x46 (Int.toNat x45) t69))
def Z1.l3.b (n : Nat) (x42 : Int) (x43 : Int) (x44 : Int) (x47 : List Int) (x48 : Int) (x49 : List Int) (x50 : Int) (x51 : Int) (again3 : Int -> List Int -> Prop) (x45 : Int) (x46 : List Int) (Kx0w3 : Int -> List Int -> List Int -> Int -> Int -> Prop) : Prop :=
 if (decide (x45 < x44)) = true then (let t65 : Int := IntKind.wrap .i64 (x42 + (IntKind.wrap .i64 (64 * x45))); grd (decide (0 <= IntKind.wrap .i64 (Int.tdiv t65 64)) && decide (IntKind.wrap .i64 (Int.tdiv t65 64) < (x49.length : Int))) (let t68 : Int := rd x49 (Int.toNat (IntKind.wrap .i64 (Int.tdiv t65 64))); grd (decide (0 <= Int.tmod t65 64)) (let t69 : Int := Int.fdiv t68 (2 ^ (Nat.min (Int.toNat (Int.tmod t65 64)) 64)); grd (decide (0 <= x45) && decide (x45 < (x46.length : Int))) (if (!(decide (Int.tmod t65 64 = 0))) = true then (let t76 : Int := IntKind.wrap .i64 ((IntKind.wrap .i64 (Int.tdiv t65 64)) + 1); Z1.j3 again3 t65 t69 x45 x46 x49 (decide (t76 < (x49.length : Int)))) else (Z1.j3 again3 t65 t69 x45 x46 x49 false))))) else (Kx0w3 x43 x46 x47 x50 x51)
def Z1.l3 : Nat -> Int -> Int -> Int -> List Int -> Int -> List Int -> Int -> Int -> Int -> List Int -> (Int -> List Int -> List Int -> Int -> Int -> Prop) -> Prop
 | 0, _, _, _, _, _, _, _, _, _, _, _ => False
 | n + 1, x42, x43, x44, x47, x48, x49, x50, x51, x45, x46, Kx0w3 => Z1.l3.b n  x42 x43 x44 x47 x48 x49 x50 x51 (fun x45q x46q => Z1.l3 n x42 x43 x44 x47 x48 x49 x50 x51 x45q x46q Kx0w3) x45 x46 Kx0w3
def Z1.w (n : Nat) (lp3 : Int -> Int -> Int -> List Int -> Int -> List Int -> Int -> Int -> Int -> List Int -> (Int -> List Int -> List Int -> Int -> Int -> Prop) -> Prop) (a1 : Int) (a2 : List Int) (a3 : Int) (a4 : Int) (K : Int -> List Int -> Prop) : Prop :=
 Z24.c n a4 (fun r5 r6 => lp3 a3 a4 (r6.length : Int) ([] : List (Int)) a1 a2 0 r5 0 r6 (fun y82 y83 y84 y85 y86 => if (!(decide (Int.tmod y82 64 = 0))) = true then (grd (decide (0 <= IntKind.wrap .i64 ((y83.length : Int) - 1)) && decide (IntKind.wrap .i64 ((y83.length : Int) - 1) < (y83.length : Int))) (let t92 : Nat := Int.toNat (IntKind.wrap .i64 ((y83.length : Int) - 1)); grd (decide (0 <= Int.tmod y82 64)) (let t93 : Int := IntKind.wrap .u64 (1 * 2 ^ (Nat.min (Int.toNat (Int.tmod y82 64)) 64)); let t94 : Int := ibits .and .u64 (rd y83 t92) (IntKind.wrap .u64 (t93 - 1)); grd (decide (0 <= IntKind.wrap .i64 ((y83.length : Int) - 1)) && decide (IntKind.wrap .i64 ((y83.length : Int) - 1) < (y83.length : Int))) (let t95 : Nat := Int.toNat (IntKind.wrap .i64 ((y83.length : Int) - 1)); K y86 (List.set y83 t95 t94))))) else (K y86 y83)))
def Z1.c : Nat -> Int -> List Int -> Int -> Int -> (Int -> List Int -> Prop) -> Prop
 | 0, _, _, _, _, _ => False
 | n + 1, a1, a2, a3, a4, K => Z1.w n (Z1.l3 n) a1 a2 a3 a4 K
def Z12.w (n : Nat) (a1 : Int) (a2 : List Int) (K : Int -> Int -> Int -> Int -> List Int -> Prop) : Prop :=
 K (-1) 0 a1 a1 a2
def Z12.c : Nat -> Int -> List Int -> (Int -> Int -> Int -> Int -> List Int -> Prop) -> Prop
 | 0, _, _, _ => False
 | n + 1, a1, a2, K => Z12.w n  a1 a2 K
def Z9.w (n : Nat) (a1 : Int) (a2 : Int) (a3 : Int) (a4 : Int) (a5 : List Int) (a6 : Int) (a7 : Int) (K : Int -> Int -> Int -> Int -> List Int -> Prop) : Prop :=
 if (decide (a1 = (-1))) = true then (Z1.c n a4 a5 a6 a7 (fun r15 r16 => Z12.c n r15 r16 (fun r17 r18 r19 r20 r21 => K r17 r18 r19 r20 r21))) else (K a1 (IntKind.wrap .i64 (a2 + a6)) a7 0 ([] : List (Int)))
def Z9.c : Nat -> Int -> Int -> Int -> Int -> List Int -> Int -> Int -> (Int -> Int -> Int -> Int -> List Int -> Prop) -> Prop
 | 0, _, _, _, _, _, _, _, _ => False
 | n + 1, a1, a2, a3, a4, a5, a6, a7, K => Z9.w n  a1 a2 a3 a4 a5 a6 a7 K
def Z3.j3 (again2 : Int -> List Int -> Prop) (t65 : Int) (t73 : List Int) (x44 : List Int) (x46 : Int) (j75 : Bool) : Prop :=
 if j75 = true then (let t76 : Int := IntKind.wrap .i64 ((IntKind.wrap .i64 (Int.tdiv t65 64)) + 1); grd (decide (0 <= t76) && decide (t76 < (t73.length : Int))) (grd (decide (0 <= IntKind.wrap .i64 (64 - (Int.tmod t65 64)))) (let t77 : Int := Int.fdiv (rd x44 (Int.toNat x46)) (2 ^ (Nat.min (Int.toNat (IntKind.wrap .i64 (64 - (Int.tmod t65 64)))) 64)); grd (decide (0 <= t76) && decide (t76 < (t73.length : Int))) (let t78 : List Int := List.set t73 (Int.toNat t76) (ibits .or .u64 (rd t73 (Int.toNat t76)) t77); again2 (IntKind.wrap .i64 (x46 + 1)) t78)))) else (again2 (IntKind.wrap .i64 (x46 + 1)) t73)
def Z3.l2.b (n : Nat) (x43 : Int) (x44 : List Int) (x45 : Int) (x48 : Int) (again2 : Int -> List Int -> Prop) (x46 : Int) (x47 : List Int) (Kx0w2 : List Int -> Prop) : Prop :=
 if (decide (x46 < x45)) = true then (grd (decide (0 <= x46) && decide (x46 < (x44.length : Int))) (let t65 : Int := IntKind.wrap .i64 (x43 + (IntKind.wrap .i64 (64 * x46))); grd (decide (0 <= IntKind.wrap .i64 (Int.tdiv t65 64)) && decide (IntKind.wrap .i64 (Int.tdiv t65 64) < (x47.length : Int))) (let t70 : Nat := Int.toNat (IntKind.wrap .i64 (Int.tdiv t65 64)); grd (decide (0 <= Int.tmod t65 64)) (let t71 : Int := IntKind.wrap .u64 ((rd x44 (Int.toNat x46)) * 2 ^ (Nat.min (Int.toNat (Int.tmod t65 64)) 64)); grd (decide (0 <= IntKind.wrap .i64 (Int.tdiv t65 64)) && decide (IntKind.wrap .i64 (Int.tdiv t65 64) < (x47.length : Int))) (let t72 : Nat := Int.toNat (IntKind.wrap .i64 (Int.tdiv t65 64)); let t73 : List Int := List.set x47 t72 (ibits .or .u64 (rd x47 t70) t71); if (!(decide (Int.tmod t65 64 = 0))) = true then (let t79 : Int := IntKind.wrap .i64 ((IntKind.wrap .i64 (Int.tdiv t65 64)) + 1); Z3.j3 again2 t65 t73 x44 x46 (decide (t79 < (t73.length : Int)))) else (Z3.j3 again2 t65 t73 x44 x46 false)))))) else (Kx0w2 x47)
def Z3.l2 : Nat -> Int -> List Int -> Int -> Int -> Int -> List Int -> (List Int -> Prop) -> Prop
 | 0, _, _, _, _, _, _, _ => False
 | n + 1, x43, x44, x45, x48, x46, x47, Kx0w2 => Z3.l2.b n  x43 x44 x45 x48 (fun x46q x47q => Z3.l2 n x43 x44 x45 x48 x46q x47q Kx0w2) x46 x47 Kx0w2
def Z3.w (n : Nat) (lp2 : Int -> List Int -> Int -> Int -> Int -> List Int -> (List Int -> Prop) -> Prop) (a1 : Int) (a2 : List Int) (a3 : Int) (a4 : Int) (a5 : List Int) (K : Int -> List Int -> Prop) : Prop :=
 lp2 a3 a5 (a5.length : Int) a1 0 a2 (fun y80 => K a1 y80)
def Z3.c : Nat -> Int -> List Int -> Int -> Int -> List Int -> (Int -> List Int -> Prop) -> Prop
 | 0, _, _, _, _, _, _ => False
 | n + 1, a1, a2, a3, a4, a5, K => Z3.w n (Z3.l2 n) a1 a2 a3 a4 a5 K
def Z2.w (n : Nat) (a1 : Int) (a2 : List Int) (a3 : Int) (a4 : List Int) (K : Int -> List Int -> Prop) : Prop :=
 Z24.c n (IntKind.wrap .i64 (a1 + a3)) (fun r5 r6 => Z3.c n r5 r6 0 a3 a4 (fun r7 r8 => Z3.c n r5 r8 a3 a1 a2 (fun r9 r10 => K r5 r10)))
def Z2.c : Nat -> Int -> List Int -> Int -> List Int -> (Int -> List Int -> Prop) -> Prop
 | 0, _, _, _, _, _ => False
 | n + 1, a1, a2, a3, a4, K => Z2.w n  a1 a2 a3 a4 K
def Z20.j10 (again2 : Int -> List (tSeg) -> Prop) (x70 : List (tSeg)) (x72 : Int) (x73 : List (tSeg)) (j123 : List (tSeg)) : Prop :=
 grd (decide (0 <= IntKind.wrap .i64 ((x73.length : Int) - 1)) && decide (IntKind.wrap .i64 ((x73.length : Int) - 1) < (j123.length : Int))) (let t124 : Nat := Int.toNat (IntKind.wrap .i64 ((x73.length : Int) - 1)); let t125 : Int := IntKind.wrap .i64 (((((rd j123 t124).2).2).1) + ((((rd x70 (Int.toNat x72)).2).2).1)); grd (decide (0 <= IntKind.wrap .i64 ((x73.length : Int) - 1)) && decide (IntKind.wrap .i64 ((x73.length : Int) - 1) < (j123.length : Int))) (let t126 : Nat := Int.toNat (IntKind.wrap .i64 ((x73.length : Int) - 1)); let t127 : List (tSeg) := List.set j123 t126 ((rd j123 t126).1, ((rd j123 t126).2).1, t125, ((((rd j123 t126).2).2).2).1, ((((rd j123 t126).2).2).2).2); again2 (IntKind.wrap .i64 (x72 + 1)) t127))
def Z20.j11 (again2 : Int -> List (tSeg) -> Prop) (n : Nat) (x70 : List (tSeg)) (x72 : Int) (x73 : List (tSeg)) (j116 : Bool) : Prop :=
 if j116 = true then (let t117 : List (tSeg) := ([((rd x70 (Int.toNat x72)).1, ((rd x70 (Int.toNat x72)).2).1, (((rd x70 (Int.toNat x72)).2).2).1, ((((rd x70 (Int.toNat x72)).2).2).2).1, ((((rd x70 (Int.toNat x72)).2).2).2).2)] : List (tSeg)); grd (decide (x73.length + t117.length <= 1234539371537)) (again2 (IntKind.wrap .i64 (x72 + 1)) (x73 ++ t117))) else (if (decide ((rd x70 (Int.toNat x72)).1 = (-1))) = true then (grd (decide (0 <= IntKind.wrap .i64 ((x73.length : Int) - 1)) && decide (IntKind.wrap .i64 ((x73.length : Int) - 1) < (x73.length : Int))) (let t128 : Nat := Int.toNat (IntKind.wrap .i64 ((x73.length : Int) - 1)); Z2.c n (((((rd x70 (Int.toNat x72)).2).2).2).1) (((((rd x70 (Int.toNat x72)).2).2).2).2) (((((rd x73 t128).2).2).2).1) (((((rd x73 t128).2).2).2).2) (fun r129 r130 => grd (decide (0 <= IntKind.wrap .i64 ((x73.length : Int) - 1)) && decide (IntKind.wrap .i64 ((x73.length : Int) - 1) < (x73.length : Int))) (let t131 : Nat := Int.toNat (IntKind.wrap .i64 ((x73.length : Int) - 1)); let t132 : List (tSeg) := List.set x73 t131 ((rd x73 t131).1, ((rd x73 t131).2).1, (((rd x73 t131).2).2).1, r129, r130); Z20.j10 again2 x70 x72 x73 t132)))) else (Z20.j10 again2 x70 x72 x73 x73))
def Z20.l2.b (n : Nat) (x70 : List (tSeg)) (x71 : Int) (again2 : Int -> List (tSeg) -> Prop) (x72 : Int) (x73 : List (tSeg)) (Kx0w2 : List (tSeg) -> Prop) : Prop :=
 if (decide (x72 < x71)) = true then (grd (decide (0 <= x72) && decide (x72 < (x70.length : Int))) (let t133 : Bool := decide (IntKind.wrap .i64 ((x73.length : Int) - 1) < 0); if t133 = false then (grd (decide (0 <= IntKind.wrap .i64 ((x73.length : Int) - 1)) && decide (IntKind.wrap .i64 ((x73.length : Int) - 1) < (x73.length : Int))) (let t134 : Nat := Int.toNat (IntKind.wrap .i64 ((x73.length : Int) - 1)); Z8.c n ((rd x73 t134).1) (((rd x73 t134).2).1) ((((rd x73 t134).2).2).1) (((((rd x73 t134).2).2).2).1) (((((rd x73 t134).2).2).2).2) ((rd x70 (Int.toNat x72)).1) (((rd x70 (Int.toNat x72)).2).1) ((((rd x70 (Int.toNat x72)).2).2).1) (((((rd x70 (Int.toNat x72)).2).2).2).1) (((((rd x70 (Int.toNat x72)).2).2).2).2) (fun r135 => Z20.j11 again2 n x70 x72 x73 (!r135)))) else (Z20.j11 again2 n x70 x72 x73 true))) else (Kx0w2 x73)
def Z20.l2 : Nat -> List (tSeg) -> Int -> Int -> List (tSeg) -> (List (tSeg) -> Prop) -> Prop
 | 0, _, _, _, _, _ => False
 | n + 1, x70, x71, x72, x73, Kx0w2 => Z20.l2.b n  x70 x71 (fun x72q x73q => Z20.l2 n x70 x71 x72q x73q Kx0w2) x72 x73 Kx0w2
def Z20.w (n : Nat) (lp2 : List (tSeg) -> Int -> Int -> List (tSeg) -> (List (tSeg) -> Prop) -> Prop) (a1 : List (tSeg)) (a2 : List (tSeg)) (K : List (tSeg) -> Prop) : Prop :=
 let t3 : List (tSeg) := ([] : List (tSeg)); lp2 a2 (a2.length : Int) 0 a1 (fun y137 => K y137)
def Z20.c : Nat -> List (tSeg) -> List (tSeg) -> (List (tSeg) -> Prop) -> Prop
 | 0, _, _, _ => False
 | n + 1, a1, a2, K => Z20.w n (Z20.l2 n) a1 a2 K
def Z21.j10 (again2 : Int -> List (tSeg) -> Prop) (x70 : List (tSeg)) (x72 : Int) (x73 : List (tSeg)) (j123 : List (tSeg)) : Prop :=
 grd (decide (0 <= IntKind.wrap .i64 ((x73.length : Int) - 1)) && decide (IntKind.wrap .i64 ((x73.length : Int) - 1) < (j123.length : Int))) (let t124 : Nat := Int.toNat (IntKind.wrap .i64 ((x73.length : Int) - 1)); let t125 : Int := IntKind.wrap .i64 (((((rd j123 t124).2).2).1) + ((((rd x70 (Int.toNat x72)).2).2).1)); grd (decide (0 <= IntKind.wrap .i64 ((x73.length : Int) - 1)) && decide (IntKind.wrap .i64 ((x73.length : Int) - 1) < (j123.length : Int))) (let t126 : Nat := Int.toNat (IntKind.wrap .i64 ((x73.length : Int) - 1)); let t127 : List (tSeg) := List.set j123 t126 ((rd j123 t126).1, ((rd j123 t126).2).1, t125, ((((rd j123 t126).2).2).2).1, ((((rd j123 t126).2).2).2).2); again2 (IntKind.wrap .i64 (x72 + 1)) t127))
def Z21.j11 (again2 : Int -> List (tSeg) -> Prop) (n : Nat) (x70 : List (tSeg)) (x72 : Int) (x73 : List (tSeg)) (j116 : Bool) : Prop :=
 if j116 = true then (let t117 : List (tSeg) := ([((rd x70 (Int.toNat x72)).1, ((rd x70 (Int.toNat x72)).2).1, (((rd x70 (Int.toNat x72)).2).2).1, ((((rd x70 (Int.toNat x72)).2).2).2).1, ((((rd x70 (Int.toNat x72)).2).2).2).2)] : List (tSeg)); grd (decide (x73.length + t117.length <= 1234539371537)) (again2 (IntKind.wrap .i64 (x72 + 1)) (x73 ++ t117))) else (if (decide ((rd x70 (Int.toNat x72)).1 = (-1))) = true then (grd (decide (0 <= IntKind.wrap .i64 ((x73.length : Int) - 1)) && decide (IntKind.wrap .i64 ((x73.length : Int) - 1) < (x73.length : Int))) (let t128 : Nat := Int.toNat (IntKind.wrap .i64 ((x73.length : Int) - 1)); Z2.c n (((((rd x70 (Int.toNat x72)).2).2).2).1) (((((rd x70 (Int.toNat x72)).2).2).2).2) (((((rd x73 t128).2).2).2).1) (((((rd x73 t128).2).2).2).2) (fun r129 r130 => grd (decide (0 <= IntKind.wrap .i64 ((x73.length : Int) - 1)) && decide (IntKind.wrap .i64 ((x73.length : Int) - 1) < (x73.length : Int))) (let t131 : Nat := Int.toNat (IntKind.wrap .i64 ((x73.length : Int) - 1)); let t132 : List (tSeg) := List.set x73 t131 ((rd x73 t131).1, ((rd x73 t131).2).1, (((rd x73 t131).2).2).1, r129, r130); Z21.j10 again2 x70 x72 x73 t132)))) else (Z21.j10 again2 x70 x72 x73 x73))
def Z21.l2.b (n : Nat) (x70 : List (tSeg)) (x71 : Int) (again2 : Int -> List (tSeg) -> Prop) (x72 : Int) (x73 : List (tSeg)) (Kx0w2 : List (tSeg) -> Prop) : Prop :=
 if (decide (x72 < x71)) = true then (grd (decide (0 <= x72) && decide (x72 < (x70.length : Int))) (let t133 : Bool := decide (IntKind.wrap .i64 ((x73.length : Int) - 1) < 0); if t133 = false then (grd (decide (0 <= IntKind.wrap .i64 ((x73.length : Int) - 1)) && decide (IntKind.wrap .i64 ((x73.length : Int) - 1) < (x73.length : Int))) (let t134 : Nat := Int.toNat (IntKind.wrap .i64 ((x73.length : Int) - 1)); Z8.c n ((rd x73 t134).1) (((rd x73 t134).2).1) ((((rd x73 t134).2).2).1) (((((rd x73 t134).2).2).2).1) (((((rd x73 t134).2).2).2).2) ((rd x70 (Int.toNat x72)).1) (((rd x70 (Int.toNat x72)).2).1) ((((rd x70 (Int.toNat x72)).2).2).1) (((((rd x70 (Int.toNat x72)).2).2).2).1) (((((rd x70 (Int.toNat x72)).2).2).2).2) (fun r135 => Z21.j11 again2 n x70 x72 x73 (!r135)))) else (Z21.j11 again2 n x70 x72 x73 true))) else (Kx0w2 x73)
def Z21.l2 : Nat -> List (tSeg) -> Int -> Int -> List (tSeg) -> (List (tSeg) -> Prop) -> Prop
 | 0, _, _, _, _, _ => False
 | n + 1, x70, x71, x72, x73, Kx0w2 => Z21.l2.b n  x70 x71 (fun x72q x73q => Z21.l2 n x70 x71 x72q x73q Kx0w2) x72 x73 Kx0w2
def Z21.w (n : Nat) (lp2 : List (tSeg) -> Int -> Int -> List (tSeg) -> (List (tSeg) -> Prop) -> Prop) (a1 : List (tSeg)) (a2 : List (tSeg)) (K : List (tSeg) -> Prop) : Prop :=
 let t3 : List (tSeg) := ([] : List (tSeg)); lp2 a2 (a2.length : Int) 0 a1 (fun y137 => K y137)
def Z21.c : Nat -> List (tSeg) -> List (tSeg) -> (List (tSeg) -> Prop) -> Prop
 | 0, _, _, _ => False
 | n + 1, a1, a2, K => Z21.w n (Z21.l2 n) a1 a2 K
def Z16.l4.b (n : Nat) (x61 : Int) (x62 : Int) (x64 : List (tSeg)) (x65 : Int) (again4 : Int -> Int -> List (tSeg) -> Prop) (x63 : Int) (x66 : Int) (x67 : List (tSeg)) (Kx0w4 : List (tSeg) -> Prop) : Prop :=
 if (decide (x66 < x65)) = true then (grd (decide (0 <= x66) && decide (x66 < (x64.length : Int))) (let t96 : Int := IntKind.wrap .i64 (x63 + ((((rd x64 (Int.toNat x66)).2).2).1)); let t97 : Int := (if t96 < (IntKind.wrap .i64 (x61 + x62)) then t96 else IntKind.wrap .i64 (x61 + x62)); let t108 : Bool := decide ((if x63 > x61 then x63 else x61) < t97); if t108 = true then (let t109 : Int := IntKind.wrap .i64 ((if x63 > x61 then x63 else x61) - x63); let t110 : Int := IntKind.wrap .i64 (t97 - (if x63 > x61 then x63 else x61)); Z9.c n ((rd x64 (Int.toNat x66)).1) (((rd x64 (Int.toNat x66)).2).1) ((((rd x64 (Int.toNat x66)).2).2).1) (((((rd x64 (Int.toNat x66)).2).2).2).1) (((((rd x64 (Int.toNat x66)).2).2).2).2) t109 t110 (fun r111 r112 r113 r114 r115 => let t116 : List (tSeg) := ([(r111, r112, r113, r114, r115)] : List (tSeg)); Z21.c n x67 t116 (fun r117 => let t118 : Int := IntKind.wrap .i64 (x63 + ((((rd x64 (Int.toNat x66)).2).2).1)); again4 t118 (IntKind.wrap .i64 (x66 + 1)) r117))) else (let t119 : Int := IntKind.wrap .i64 (x63 + ((((rd x64 (Int.toNat x66)).2).2).1)); again4 t119 (IntKind.wrap .i64 (x66 + 1)) x67))) else (Kx0w4 x67)
def Z16.l4 : Nat -> Int -> Int -> List (tSeg) -> Int -> Int -> Int -> List (tSeg) -> (List (tSeg) -> Prop) -> Prop
 | 0, _, _, _, _, _, _, _, _ => False
 | n + 1, x61, x62, x64, x65, x63, x66, x67, Kx0w4 => Z16.l4.b n  x61 x62 x64 x65 (fun x63q x66q x67q => Z16.l4 n x61 x62 x64 x65 x63q x66q x67q Kx0w4) x63 x66 x67 Kx0w4
def Z16.w (n : Nat) (lp4 : Int -> Int -> List (tSeg) -> Int -> Int -> Int -> List (tSeg) -> (List (tSeg) -> Prop) -> Prop) (a1 : List (tSeg)) (a2 : Int) (a3 : Int) (K : List (tSeg) -> Prop) : Prop :=
 let t4 : List (tSeg) := ([] : List (tSeg)); let t5 : List (tSeg) := ([] : List (tSeg)); lp4 a2 a3 a1 (a1.length : Int) 0 0 t5 (fun y121 => K y121)
def Z16.c : Nat -> List (tSeg) -> Int -> Int -> (List (tSeg) -> Prop) -> Prop
 | 0, _, _, _, _ => False
 | n + 1, a1, a2, a3, K => Z16.w n (Z16.l4 n) a1 a2 a3 K
def Z11.l3.b (n : Nat) (x14 : List (tSeg)) (x15 : Int) (again3 : Int -> List (tSeg) -> Prop) (x16 : Int) (x17 : List (tSeg)) (Kx0w3 : List (tSeg) -> Prop) : Prop :=
 if (decide (x16 < x15)) = true then (grd (decide (0 <= x16) && decide (x16 < (x14.length : Int))) (Z10.c n (((((rd x14 (Int.toNat x16)).2).2).2).1) (((((rd x14 (Int.toNat x16)).2).2).2).2) (fun r21 r22 => grd (decide (0 <= x16) && decide (x16 < (x17.length : Int))) (let t23 : List (tSeg) := List.set x17 (Int.toNat x16) ((rd x14 (Int.toNat x16)).1, ((rd x14 (Int.toNat x16)).2).1, (((rd x14 (Int.toNat x16)).2).2).1, r21, r22); again3 (IntKind.wrap .i64 (x16 + 1)) t23)))) else (Kx0w3 x17)
def Z11.l3 : Nat -> List (tSeg) -> Int -> Int -> List (tSeg) -> (List (tSeg) -> Prop) -> Prop
 | 0, _, _, _, _, _ => False
 | n + 1, x14, x15, x16, x17, Kx0w3 => Z11.l3.b n  x14 x15 (fun x16q x17q => Z11.l3 n x14 x15 x16q x17q Kx0w3) x16 x17 Kx0w3
def Z11.w (n : Nat) (lp3 : List (tSeg) -> Int -> Int -> List (tSeg) -> (List (tSeg) -> Prop) -> Prop) (a1 : List (tSeg)) (K : List (tSeg) -> Prop) : Prop :=
 let t2 : List (tSeg) := ([] : List (tSeg)); grd ((decide (0 <= (a1.length : Int)) && decide ((a1.length : Int) <= 1234539371537)) && decide ((a1.length : Int) = (a1.length : Int))) (let t3 : List (tSeg) := List.replicate (Int.toNat (a1.length : Int)) (0, 0, 0, 0, ([] : List (Int))); lp3 a1 (a1.length : Int) 0 t3 (fun y25 => K y25))
def Z11.c : Nat -> List (tSeg) -> (List (tSeg) -> Prop) -> Prop
 | 0, _, _ => False
 | n + 1, a1, K => Z11.w n (Z11.l3 n) a1 K
def Z7.j0 (K : List (tSeg) -> Bool -> Prop) (a2 : List (tSeg)) (a3 : Int) (a4 : Int) (n : Nat) (j21 : Bool) : Prop :=
 if j21 = true then (let t22 : List (tSeg) := ([] : List (tSeg)); K t22 false) else (let t23 : Int := IntKind.wrap .i64 ((IntKind.wrap .i64 (a3 - a4)) + 1); Z16.c n a2 a4 t23 (fun r24 => Z11.c n r24 (fun r25 => K r25 true)))
def Z7.w (n : Nat) (a1 : List (tDecl)) (a2 : List (tSeg)) (a3 : Int) (a4 : Int) (K : List (tSeg) -> Bool -> Prop) : Prop :=
 let t5 : List (tSeg) := ([] : List (tSeg)); Z6.c n a1 a2 (fun r26 => if (!r26) = false then (if (decide (a4 < 0)) = false then (if (decide (a4 > a3)) = false then (Z17.c n a2 (fun r27 => Z7.j0 K a2 a3 a4 n (decide (a3 >= r27)))) else (Z7.j0 K a2 a3 a4 n true)) else (Z7.j0 K a2 a3 a4 n true)) else (Z7.j0 K a2 a3 a4 n true))
def Z7.c : Nat -> List (tDecl) -> List (tSeg) -> Int -> Int -> (List (tSeg) -> Bool -> Prop) -> Prop
 | 0, _, _, _, _, _ => False
 | n + 1, a1, a2, a3, a4, K => Z7.w n  a1 a2 a3 a4 K
def Z27.l4.b (n : Nat) (x26 : List (tSeg)) (x27 : List (tSeg)) (again4 : Int -> Prop) (x28 : Int) (Kx0w4 : Prop) (Kr4 : Bool -> Prop) : Prop :=
 if (decide (x28 < (x26.length : Int))) = true then (grd (decide (0 <= x28) && decide (x28 < (x26.length : Int))) (grd (decide (0 <= x28) && decide (x28 < (x27.length : Int))) (let t43 : Bool := !(decide ((rd x26 (Int.toNat x28)).1 = (rd x27 (Int.toNat x28)).1)); if t43 = false then (grd (decide (0 <= x28) && decide (x28 < (x26.length : Int))) (grd (decide (0 <= x28) && decide (x28 < (x27.length : Int))) (let t44 : Bool := !(decide (((rd x26 (Int.toNat x28)).2).1 = ((rd x27 (Int.toNat x28)).2).1)); if t44 = false then (grd (decide (0 <= x28) && decide (x28 < (x26.length : Int))) (grd (decide (0 <= x28) && decide (x28 < (x27.length : Int))) (let t45 : Bool := !(decide ((((rd x26 (Int.toNat x28)).2).2).1 = (((rd x27 (Int.toNat x28)).2).2).1)); if t45 = false then (grd (decide (0 <= x28) && decide (x28 < (x26.length : Int))) (grd (decide (0 <= x28) && decide (x28 < (x27.length : Int))) (Z26.c n (((((rd x26 (Int.toNat x28)).2).2).2).1) (((((rd x26 (Int.toNat x28)).2).2).2).2) (((((rd x27 (Int.toNat x28)).2).2).2).1) (((((rd x27 (Int.toNat x28)).2).2).2).2) (fun r46 => if (!r46) = true then (Kr4 false) else (again4 (IntKind.wrap .i64 (x28 + 1))))))) else (Kr4 false)))) else (Kr4 false)))) else (Kr4 false)))) else (Kx0w4)
def Z27.l4 : Nat -> List (tSeg) -> List (tSeg) -> Int -> Prop -> (Bool -> Prop) -> Prop
 | 0, _, _, _, _, _ => False
 | n + 1, x26, x27, x28, Kx0w4, Kr4 => Z27.l4.b n  x26 x27 (fun x28q => Z27.l4 n x26 x27 x28q Kx0w4 Kr4) x28 Kx0w4 Kr4
def Z27.w (n : Nat) (lp4 : List (tSeg) -> List (tSeg) -> Int -> Prop -> (Bool -> Prop) -> Prop) (a1 : List (tSeg)) (a2 : List (tSeg)) (K : Bool -> Prop) : Prop :=
 let t4 : Bool := !(decide ((a1.length : Int) = (a2.length : Int))); if t4 = true then (K false) else (lp4 a1 a2 0 (K true) (fun y48 => K y48))
def Z27.c : Nat -> List (tSeg) -> List (tSeg) -> (Bool -> Prop) -> Prop
 | 0, _, _, _ => False
 | n + 1, a1, a2, K => Z27.w n (Z27.l4 n) a1 a2 K
end Go.Vsi
end

section
set_option linter.unusedVariables false
set_option synthInstance.maxSize 4096
namespace Go.Vsi
def Z5.j0 (K : List (tSeg) -> Bool -> Prop) (a2 : List (tSeg)) (a3 : List (tSeg)) (n : Nat) : Prop :=
 Z11.c n a3 (fun r19 => Z11.c n a2 (fun r20 => Z20.c n r19 r20 (fun r21 => if (decide ((r21.length : Int) > 2000)) = true then (let t23 : List (tSeg) := ([] : List (tSeg)); K t23 false) else (K r21 true))))
def Z5.j1 (K : List (tSeg) -> Bool -> Prop) (a2 : List (tSeg)) (a3 : List (tSeg)) (n : Nat) (j29 : Bool) : Prop :=
 if j29 = true then (let t30 : List (tSeg) := ([] : List (tSeg)); K t30 false) else (Z5.j0 K a2 a3 n)
def Z5.w (n : Nat) (a1 : List (tDecl)) (a2 : List (tSeg)) (a3 : List (tSeg)) (K : List (tSeg) -> Bool -> Prop) : Prop :=
 let t4 : List (tSeg) := ([] : List (tSeg)); Z6.c n a1 a2 (fun r31 => if (!r31) = false then (Z15.c n a1 a3 (fun r32 => if (!r32) = false then (Z17.c n a2 (fun r33 => Z17.c n a3 (fun r34 => let t35 : Bool := decide (IntKind.wrap .i64 (r33 + r34) > 4096); Z5.j1 K a2 a3 n t35))) else (Z5.j1 K a2 a3 n true))) else (Z5.j1 K a2 a3 n true))
def Z5.c : Nat -> List (tDecl) -> List (tSeg) -> List (tSeg) -> (List (tSeg) -> Bool -> Prop) -> Prop
 | 0, _, _, _, _ => False
 | n + 1, a1, a2, a3, K => Z5.w n  a1 a2 a3 K
def laws_FnFlatParts.l12.b (n : Nat) (x20 : Int) (x23 : List (tDecl)) (x24 : List (tSeg)) (x25 : List (tSeg)) (again12 : Int -> Int -> Prop) (x21 : Int) (x22 : Int) (Kx0w12 : Int -> Int -> List (tDecl) -> List (tSeg) -> List (tSeg) -> Prop) : Prop :=
 if (decide (x22 < (x24.length : Int))) = true then (grd (decide (0 <= x22) && decide (x22 < (x24.length : Int))) (let t27 : Int := IntKind.wrap .i64 (x21 + ((((rd x24 (Int.toNat x22)).2).2).1)); again12 t27 (IntKind.wrap .i64 (x22 + 1)))) else (Kx0w12 x20 x21 x23 x24 x25)
def laws_FnFlatParts.l12 : Nat -> Int -> List (tDecl) -> List (tSeg) -> List (tSeg) -> Int -> Int -> (Int -> Int -> List (tDecl) -> List (tSeg) -> List (tSeg) -> Prop) -> Prop
 | 0, _, _, _, _, _, _, _ => False
 | n + 1, x20, x23, x24, x25, x21, x22, Kx0w12 => laws_FnFlatParts.l12.b n  x20 x23 x24 x25 (fun x21q x22q => laws_FnFlatParts.l12 n x20 x23 x24 x25 x21q x22q Kx0w12) x21 x22 Kx0w12
def laws_FnFlatParts.w (n : Nat) (lp12 : Int -> List (tDecl) -> List (tSeg) -> List (tSeg) -> Int -> Int -> (Int -> Int -> List (tDecl) -> List (tSeg) -> List (tSeg) -> Prop) -> Prop) (a1 : List Int) (K : Bool -> Prop) : Prop :=
 Z25.c n a1 (fun r3 => if r3 = true then (K true) else (Z32.c n a1 (fun r4 r5 r6 r7 => Z34.c n r4 r5 r6 0 (fun r8 r9 => Z7.c n r4 r5 r6 0 (fun r10 r11 => if (!(r11 == r9)) = true then (K false) else (if (!r11) = true then (K true) else (lp12 r6 r4 r5 r10 0 0 (fun y33 y34 y35 y36 y37 => if (decide (y33 = IntKind.wrap .i64 (y34 - 1))) = true then (Z27.c n y37 y36 (fun r39 => K r39)) else (Z7.c n y35 y36 (IntKind.wrap .i64 (y34 - 1)) (IntKind.wrap .i64 (y33 + 1)) (fun r40 r41 => Z5.c n y35 r40 y37 (fun r42 r43 => if r41 = true then (if r43 = true then (Z27.c n r42 y36 (fun r46 => K r46)) else (K false)) else (K false))))))))))))
def laws_FnFlatParts.c : Nat -> List Int -> (Bool -> Prop) -> Prop
 | 0, _, _ => False
 | n + 1, a1, K => laws_FnFlatParts.w n (laws_FnFlatParts.l12 n) a1 K
end Go.Vsi
end
