/- Go functions, told on plain data. No statement is proved here. -/
import Derived.Test.YtaeadfaldglniaaGreatDoorM1
set_option linter.unusedVariables false
set_option linter.unusedSimpArgs false
set_option synthInstance.maxSize 4096

section
namespace Go.Vsi
abbrev qQ : Type := List UInt8 × Int
instance : DecidableEq qQ := inferInstance
abbrev qA : Type := Int × Int × Int × Int × Int × List (Int) × List (Int)
instance : DecidableEq qA := inferInstance
abbrev L1 := List qQ
abbrev L2 := List qA
abbrev L3 := List Int
abbrev L4 := List UInt8
abbrev L5 := Bool -> Prop
abbrev L6 := Int -> Prop
abbrev L7 := Int -> Int -> Int -> L2 -> Int -> Int -> L3 -> L3 -> L2 -> L1 -> Int -> Int -> Int -> Int -> Int -> L3 -> L3 -> Prop
abbrev L8 := L3 -> Prop
abbrev L9 := Int -> Int -> Int -> L2 -> L3 -> L3 -> L3 -> L2 -> L2 -> Int -> Int -> Int -> Int -> Int -> Prop
abbrev L10 := Int -> L3 -> Prop
abbrev L11 := L1 -> Int -> Int -> Int -> Int -> Int -> L3 -> L3 -> Prop
abbrev L12 := Bool -> L3 -> Prop
abbrev L13 := L2 -> Prop
abbrev L14 := Int -> L3 -> List Bool -> Prop
abbrev L15 := Int -> Int -> Int -> Int -> Int -> L3 -> L3 -> Prop
abbrev L16 := L4 -> Prop
def Z42.w (n : Nat) (a : L4) (d b : Int) (K : L6) : Prop :=
 let c := decide (IntKind.wrap .i64 (b - (a.length : Int)) < 0); if c = true then K (- 1) else K (IntKind.wrap .i64 (b - (a.length : Int)))
def Z42.c : Nat -> L4 -> Int -> Int -> L6 -> Prop
 | 0, _, _, _, _ => False
 | n + 1, a, b, c, K => Z42.w n a b c K
def Z43.l5.b (n : Nat) (b : L1) (e : Int -> Int -> Prop) (c a : Int) (f g : L6) : Prop :=
 if decide (a < b.length) then grd (decide (0 <= a) && decide (a < b.length)) (Z42.c n ((rd b (Int.toNat a)).1) ((rd b (Int.toNat a)).2) c fun d => if decide (d < 0) then g (- 1) else e d (IntKind.wrap .i64 (a + 1))) else f c
def Z43.l5 : Nat -> L1 -> Int -> Int -> L6 -> L6 -> Prop
 | 0, _, _, _, _, _ => False
 | n + 1, a, d, e, b, c => Z43.l5.b n a (fun f g => Z43.l5 n a f g b c) d e b c
def Z43.w (n : Nat) (c : L1 -> Int -> Int -> L6 -> L6 -> Prop) (a : L1) (b : Int) (K : L6) : Prop :=
 let d := decide (IntKind.wrap .i64 (b - (a.length : Int)) < 0); if d = true then K (- 1) else c a (IntKind.wrap .i64 (b - (a.length : Int))) 0 K K
def Z43.c : Nat -> L1 -> Int -> L6 -> Prop
 | 0, _, _, _ => False
 | n + 1, a, b, K => Z43.w n (Z43.l5 n) a b K
def Z48.w (n : Nat) (a : L3) (b : Int) (K : L6) : Prop :=
 let c := decide (IntKind.wrap .i64 (b - (a.length : Int)) < 0); if c = true then K (- 1) else K (IntKind.wrap .i64 (b - (a.length : Int)))
def Z48.c : Nat -> L3 -> Int -> L6 -> Prop
 | 0, _, _, _ => False
 | n + 1, a, b, K => Z48.w n a b K
def Z41.w (n : Nat) (d : Int) (b : L3) (c : Int) (K : L6) : Prop :=
 Z48.c n b c fun a => if decide (a < 0) then K (- 1) else K a
def Z41.c : Nat -> Int -> L3 -> Int -> L6 -> Prop
 | 0, _, _, _, _ => False
 | n + 1, a, b, c, K => Z41.w n a b c K
def Z44.w (n : Nat) (a : L3) (b : Int) (K : L6) : Prop :=
 let c := decide (IntKind.wrap .i64 (b - (a.length : Int)) < 0); if c = true then K (- 1) else K (IntKind.wrap .i64 (b - (a.length : Int)))
def Z44.c : Nat -> L3 -> Int -> L6 -> Prop
 | 0, _, _, _ => False
 | n + 1, a, b, K => Z44.w n a b K
def Z45.w (n : Nat) (g h i j c : Int) (d e : L3) (f : Int) (K : L6) : Prop :=
 Z41.c n c d f fun a => if decide (a < 0) then K (- 1) else (Z44.c n e a fun b => if decide (b < 0) then K (- 1) else K b)
def Z45.c : Nat -> Int -> Int -> Int -> Int -> Int -> L3 -> L3 -> Int -> L6 -> Prop
 | 0, _, _, _, _, _, _, _, _, _ => False
 | n + 1, a, b, c, d, e, f, g, h, K => Z45.w n a b c d e f g h K
def Z46.l5.b (n : Nat) (b : L2) (e : Int -> Int -> Prop) (c a : Int) (f g : L6) : Prop :=
 if decide (a < b.length) then grd (decide (0 <= a) && decide (a < b.length)) (let h : L3 := ((((((rd b (Int.toNat a)).2).2).2).2).2).1; let i : L3 := ((((((rd b (Int.toNat a)).2).2).2).2).2).2; Z45.c n ((rd b (Int.toNat a)).1) (((rd b (Int.toNat a)).2).1) ((((rd b (Int.toNat a)).2).2).1) (((((rd b (Int.toNat a)).2).2).2).1) ((((((rd b (Int.toNat a)).2).2).2).2).1) h i c fun d => if decide (d < 0) then g (- 1) else e d (IntKind.wrap .i64 (a + 1))) else f c
def Z46.l5 : Nat -> L2 -> Int -> Int -> L6 -> L6 -> Prop
 | 0, _, _, _, _, _ => False
 | n + 1, a, d, e, b, c => Z46.l5.b n a (fun f g => Z46.l5 n a f g b c) d e b c
def Z46.w (n : Nat) (c : L2 -> Int -> Int -> L6 -> L6 -> Prop) (a : L2) (b : Int) (K : L6) : Prop :=
 let d := decide (IntKind.wrap .i64 (b - (a.length : Int)) < 0); if d = true then K (- 1) else c a (IntKind.wrap .i64 (b - (a.length : Int))) 0 K K
def Z46.c : Nat -> L2 -> Int -> L6 -> Prop
 | 0, _, _, _ => False
 | n + 1, a, b, K => Z46.w n (Z46.l5 n) a b K
def Z47.w (n : Nat) (b : L2) (c : Int) (K : L6) : Prop :=
 Z46.c n b c fun a => if decide (a < 0) then K (- 1) else K a
def Z47.c : Nat -> L2 -> Int -> L6 -> Prop
 | 0, _, _, _ => False
 | n + 1, a, b, K => Z47.w n a b K
def Z50.w (n : Nat) (a : L4) (b : Int) (K : L4 -> Int -> Prop) : Prop :=
 K a b
def Z50.c : Nat -> L4 -> Int -> (L4 -> Int -> Prop) -> Prop
 | 0, _, _, _ => False
 | n + 1, a, b, K => Z50.w n a b K
def Z51.l3.b (n : Nat) (b : L1) (d : Int -> L1 -> Prop) (a : Int) (c : L1) (e : L1 -> Prop) : Prop :=
 if decide (a < b.length) then grd (decide (0 <= a) && decide (a < b.length)) (Z50.c n ((rd b (Int.toNat a)).1) ((rd b (Int.toNat a)).2) fun f g => grd (decide (0 <= a) && decide (a < c.length)) (d (IntKind.wrap .i64 (a + 1)) (List.set c (Int.toNat a) (f, g)))) else e c
def Z51.l3 : Nat -> L1 -> Int -> L1 -> (L1 -> Prop) -> Prop
 | 0, _, _, _, _ => False
 | n + 1, a, c, d, b => Z51.l3.b n a (fun e f => Z51.l3 n a e f b) c d b
def Z51.w (n : Nat) (b : L1 -> Int -> L1 -> (L1 -> Prop) -> Prop) (a : L1) (K : L1 -> Prop) : Prop :=
 grd ((decide (0 <= (a.length : Int)) && decide ((a.length : Int) <= 2814749767106)) && decide ((a.length : Int) = (a.length : Int))) (let c := List.replicate (Int.toNat (a.length : Int)) (([] : L4), 0); b a 0 c K)
def Z51.c : Nat -> L1 -> (L1 -> Prop) -> Prop
 | 0, _, _ => False
 | n + 1, a, K => Z51.w n (Z51.l3 n) a K
def Z56.l3.b (n : Nat) (b : L3) (d : L10) (a : Int) (c : L3) (e : L8) : Prop :=
 if decide (a < b.length) then grd (decide (0 <= a) && decide (a < b.length)) (grd (decide (0 <= a) && decide (a < c.length)) (let f := List.set c (Int.toNat a) (rd b (Int.toNat a)); d (IntKind.wrap .i64 (a + 1)) f)) else e c
def Z56.l3 : Nat -> L3 -> Int -> L3 -> L8 -> Prop
 | 0, _, _, _, _ => False
 | n + 1, a, c, d, b => Z56.l3.b n a (fun e f => Z56.l3 n a e f b) c d b
def Z56.w (n : Nat) (b : L3 -> Int -> L3 -> L8 -> Prop) (a : L3) (K : L8) : Prop :=
 grd ((decide (0 <= (a.length : Int)) && decide ((a.length : Int) <= 7818749353073)) && decide ((a.length : Int) = (a.length : Int))) (let c := List.replicate (Int.toNat (a.length : Int)) 0; b a 0 c K)
def Z56.c : Nat -> L3 -> L8 -> Prop
 | 0, _, _ => False
 | n + 1, a, K => Z56.w n (Z56.l3 n) a K
def Z49.w (n : Nat) (a : Int) (b : L3) (K : L10) : Prop :=
 Z56.c n b (K a)
def Z49.c : Nat -> Int -> L3 -> L10 -> Prop
 | 0, _, _, _ => False
 | n + 1, a, b, K => Z49.w n a b K
def Z52.l3.b (n : Nat) (b : L3) (d : L10) (a : Int) (c : L3) (e : L8) : Prop :=
 if decide (a < b.length) then grd (decide (0 <= a) && decide (a < b.length)) (grd (decide (0 <= a) && decide (a < c.length)) (let f := List.set c (Int.toNat a) (rd b (Int.toNat a)); d (IntKind.wrap .i64 (a + 1)) f)) else e c
def Z52.l3 : Nat -> L3 -> Int -> L3 -> L8 -> Prop
 | 0, _, _, _, _ => False
 | n + 1, a, c, d, b => Z52.l3.b n a (fun e f => Z52.l3 n a e f b) c d b
def Z52.w (n : Nat) (b : L3 -> Int -> L3 -> L8 -> Prop) (a : L3) (K : L8) : Prop :=
 grd ((decide (0 <= (a.length : Int)) && decide ((a.length : Int) <= 7818749353073)) && decide ((a.length : Int) = (a.length : Int))) (let c := List.replicate (Int.toNat (a.length : Int)) 0; b a 0 c K)
def Z52.c : Nat -> L3 -> L8 -> Prop
 | 0, _, _ => False
 | n + 1, a, K => Z52.w n (Z52.l3 n) a K
def Z53.w (n : Nat) (a b c d e : Int) (f g : L3) (K : L15) : Prop :=
 Z49.c n e f fun h i => Z52.c n g (K a b c d h i)
def Z53.c : Nat -> Int -> Int -> Int -> Int -> Int -> L3 -> L3 -> L15 -> Prop
 | 0, _, _, _, _, _, _, _, _ => False
 | n + 1, a, b, c, d, e, f, g, K => Z53.w n a b c d e f g K
def Z54.l3.b (n : Nat) (b : L2) (d : Int -> L2 -> Prop) (a : Int) (c : L2) (e : L13) : Prop :=
 if decide (a < b.length) then grd (decide (0 <= a) && decide (a < b.length)) (let f : L3 := ((((((rd b (Int.toNat a)).2).2).2).2).2).1; let g : L3 := ((((((rd b (Int.toNat a)).2).2).2).2).2).2; Z53.c n ((rd b (Int.toNat a)).1) (((rd b (Int.toNat a)).2).1) ((((rd b (Int.toNat a)).2).2).1) (((((rd b (Int.toNat a)).2).2).2).1) ((((((rd b (Int.toNat a)).2).2).2).2).1) f g fun h i j k l m o => grd (decide (0 <= a) && decide (a < c.length)) (let p := List.set c (Int.toNat a) (h, i, j, k, l, m, o); d (IntKind.wrap .i64 (a + 1)) p)) else e c
def Z54.l3 : Nat -> L2 -> Int -> L2 -> L13 -> Prop
 | 0, _, _, _, _ => False
 | n + 1, a, c, d, b => Z54.l3.b n a (fun e f => Z54.l3 n a e f b) c d b
def Z54.w (n : Nat) (b : L2 -> Int -> L2 -> L13 -> Prop) (a : L2) (K : L13) : Prop :=
 grd ((decide (0 <= (a.length : Int)) && decide ((a.length : Int) <= 790660046940)) && decide ((a.length : Int) = (a.length : Int))) (let c := List.replicate (Int.toNat (a.length : Int)) (0, 0, 0, 0, 0, ([] : L3), ([] : L3)); b a 0 c K)
def Z54.c : Nat -> L2 -> L13 -> Prop
 | 0, _, _ => False
 | n + 1, a, K => Z54.w n (Z54.l3 n) a K
def Z55.w (n : Nat) (a : L2) (K : L13) : Prop :=
 Z54.c n a K
def Z55.c : Nat -> L2 -> L13 -> Prop
 | 0, _, _ => False
 | n + 1, a, K => Z55.w n a K
def Z71.w (n : Nat) (a : Int) (K : L5) : Prop :=
 if decide (a >= 48) then K (decide (a <= 57)) else K false
def Z71.c : Nat -> Int -> L5 -> Prop
 | 0, _, _ => False
 | n + 1, a, K => Z71.w n a K
def Z73.l4.b (n : Nat) (b : L4) (e : L6) (a : Int) (f : Prop) (c : L5) : Prop :=
 let d := e (IntKind.wrap .i64 (a + 1)); if decide (a < b.length) then grd (decide (0 <= a) && decide (a < b.length)) (let g := ((List.getD b (Int.toNat a) 0).toNat : Int); Z71.c n g fun h => if (!h) = true then grd (decide (0 <= a) && decide (a < b.length)) (let i := ((List.getD b (Int.toNat a) 0).toNat : Int); if (decide (i < 97)) = false then grd (decide (0 <= a) && decide (a < b.length)) (let j := ((List.getD b (Int.toNat a) 0).toNat : Int); if decide (j > 122) then c false else d) else c false) else d) else f
def Z73.l4 : Nat -> L4 -> Int -> Prop -> L5 -> Prop
 | 0, _, _, _, _ => False
 | n + 1, a, d, b, c => Z73.l4.b n a (fun e => Z73.l4 n a e b c) d b c
def Z73.w (n : Nat) (b : L4 -> Int -> Prop -> L5 -> Prop) (a : L4) (K : L5) : Prop :=
 if (decide ((a.length : Int) < 1)) = false then (if (decide ((a.length : Int) > 12)) = false then grd (decide (0 < (a.length : Int))) (Z71.c n ((List.getD a 0 0).toNat : Int) fun c => if c = true then K false else b a 0 (K true) K) else K false) else K false
def Z73.c : Nat -> L4 -> L5 -> Prop
 | 0, _, _ => False
 | n + 1, a, K => Z73.w n (Z73.l4 n) a K
def Z72.w (n : Nat) (a b c : Int) (K : L5) : Prop :=
 if decide (a >= b) then K (decide (a <= c)) else K false
def Z72.c : Nat -> Int -> Int -> Int -> L5 -> Prop
 | 0, _, _, _, _ => False
 | n + 1, a, b, c, K => Z72.w n a b c K
def Z67.l10.b (n : Nat) (a : L1) (d b : Int) (e : L6) (c : Int) (f : L1 -> Int -> Int -> Prop) (g : L5) : Prop :=
 if decide (c < b) then grd (decide (0 <= c) && decide (c < a.length)) (grd (decide (0 <= b) && decide (b < a.length)) (let h : Bool := ((rd a (Int.toNat c)).1) == ((rd a (Int.toNat b)).1); if h = true then g false else e (IntKind.wrap .i64 (c + 1)))) else f a d b
def Z67.l10 : Nat -> L1 -> Int -> Int -> Int -> (L1 -> Int -> Int -> Prop) -> L5 -> Prop
 | 0, _, _, _, _, _, _ => False
 | n + 1, a, b, c, f, d, e => Z67.l10.b n a b c (fun g => Z67.l10 n a b c g d e) f d e
def Z67.j3 (c : L5) (d : L1 -> Int -> Int -> Prop) (e : L1 -> Int -> Int -> Int -> (L1 -> Int -> Int -> Prop) -> L5 -> Prop) (f : L1) (g h : Int) : Prop :=
 e f g h 0 (fun b i a => grd (decide (0 <= a) && decide (a < b.length)) (let j := IntKind.wrap .i64 (i + ((rd b (Int.toNat a)).2)); d b j (IntKind.wrap .i64 (a + 1)))) c
def Z67.l5.b (n : Nat) (e : L1 -> Int -> Int -> Int -> (L1 -> Int -> Int -> Prop) -> L5 -> Prop) (f : L1 -> Int -> Int -> Prop) (b : L1) (d a : Int) (g : L6) (c : L5) : Prop :=
 if decide (a < b.length) then grd (decide (0 <= a) && decide (a < b.length)) (Z73.c n ((rd b (Int.toNat a)).1) fun h => if (!h) = false then grd (decide (0 <= a) && decide (a < b.length)) (Z72.c n ((rd b (Int.toNat a)).2) 1 4096 fun i => if (!i) = true then c false else Z67.j3 c f e b d a) else c false) else g d
def Z67.l5 : Nat -> L1 -> Int -> Int -> L6 -> L5 -> Prop
 | 0, _, _, _, _, _ => False
 | n + 1, c, d, e, a, b => Z67.l5.b n (Z67.l10 n) (fun f g h => Z67.l5 n f g h a b) c d e a b
def Z67.w (n : Nat) (b : L1 -> Int -> Int -> L6 -> L5 -> Prop) (a : L1) (K : L5) : Prop :=
 if decide ((a.length : Int) > 60) then K false else b a 0 0 (fun c => K (decide (c <= 20000))) K
def Z67.c : Nat -> L1 -> L5 -> Prop
 | 0, _, _ => False
 | n + 1, a, K => Z67.w n (Z67.l5 n) a K
def Z76.w (n : Nat) (a : Int) (b : L3) (K : L5) : Prop :=
 if decide (a = 0) then K (decide ((b.length : Int) = 0)) else K false
def Z76.c : Nat -> Int -> L3 -> L5 -> Prop
 | 0, _, _, _ => False
 | n + 1, a, b, K => Z76.w n a b K
def Z77.w (n : Nat) (a : Int) (K : L5) : Prop :=
 Z72.c n a 4 9 K
def Z77.c : Nat -> Int -> L5 -> Prop
 | 0, _, _ => False
 | n + 1, a, K => Z77.w n a K
def Z70.w (n : Nat) (e : Int) (b : L3) (a : Int) (K : L6) : Prop :=
 grd (decide (0 <= IntKind.wrap .i64 (Int.tdiv a 64)) && decide (IntKind.wrap .i64 (Int.tdiv a 64) < (b.length : Int))) (let c : Int := rd b (Int.toNat (IntKind.wrap .i64 (Int.tdiv a 64))); grd (decide (0 <= IntKind.wrap .u64 (Int.tmod a 64))) (let d := Int.fdiv c (2 ^ (Nat.min (Int.toNat (IntKind.wrap .u64 (Int.tmod a 64))) 64)); K (IntKind.wrap .u8 (qGr .and .u64 d 1))))
def Z70.c : Nat -> Int -> L3 -> Int -> L6 -> Prop
 | 0, _, _, _, _ => False
 | n + 1, a, b, c, K => Z70.w n a b c K
def Z66.l4.b (n : Nat) (c : Int) (b : L3) (d : L6) (a : Int) (e : Prop) (f : L5) : Prop :=
 let g := decide (a < IntKind.wrap .i64 (64 * (b.length : Int))); if g = true then (Z70.c n c b a fun h => if (!(decide (h = 0))) = true then f false else d (IntKind.wrap .i64 (a + 1))) else e
def Z66.l4 : Nat -> Int -> L3 -> Int -> Prop -> L5 -> Prop
 | 0, _, _, _, _, _ => False
 | n + 1, a, b, e, c, d => Z66.l4.b n a b (fun f => Z66.l4 n a b f c d) e c d
def Z66.w (n : Nat) (c : Int -> L3 -> Int -> Prop -> L5 -> Prop) (a : Int) (b : L3) (K : L5) : Prop :=
 Z72.c n a 1 4096 fun d => if (!d) = false then (let e := IntKind.wrap .i64 (Int.tdiv (IntKind.wrap .i64 (a + 63)) 64); if (!(decide (b.length = e))) = true then K false else c a b a (K true) K) else K false
def Z66.c : Nat -> Int -> L3 -> L5 -> Prop
 | 0, _, _, _ => False
 | n + 1, a, b, K => Z66.w n (Z66.l4 n) a b K
def Z75.l2.b (n : Nat) (c : L1) (d e f g h i : Int) (j b : L3) (k : L6) (a : Int) (l : L11) (m : L5) : Prop :=
 if decide (a < b.length) then grd (decide (0 <= a) && decide (a < b.length)) (Z72.c n (rd b (Int.toNat a)) 0 (IntKind.wrap .i64 (d - 1)) fun o => if (!o) = true then m false else k (IntKind.wrap .i64 (a + 1))) else l c e f g h i j b
def Z75.l2 : Nat -> L1 -> Int -> Int -> Int -> Int -> Int -> Int -> L3 -> L3 -> Int -> L11 -> L5 -> Prop
 | 0, _, _, _, _, _, _, _, _, _, _, _, _ => False
 | n + 1, a, b, c, d, e, f, g, h, i, l, j, k => Z75.l2.b n a b c d e f g h i (fun m => Z75.l2 n a b c d e f g h i m j k) l j k
def Z75.q7.b (n : Nat) (a : L1) (b : Bool) (c d e f g : Int) (h i : L3) (j : L5) (k : L11) : Prop :=
 if b = true then j false else k a c d e f g h i
def Z75.q7 : Nat -> L1 -> Bool -> Int -> Int -> Int -> Int -> Int -> L3 -> L3 -> L5 -> L11 -> Prop
 | 0, _, _, _, _, _, _, _, _, _, _, _ => False
 | n + 1, a, b, c, d, e, f, g, h, i, j, k => Z75.q7.b n a b c d e f g h i j k
def Z75.q8.b (n : Nat) (d : L1) (b e i j f : Int) (g c : L3) (a : L5) : Prop :=
 if decide (b = 1) then (if decide ((c.length : Int) = 0) then Z72.c n e 0 (IntKind.wrap .i64 ((d.length : Int) - 1)) a else a false) else (if decide (b = 2) then (if decide ((c.length : Int) = 0) then Z66.c n f g a else a false) else (if decide (b = 3) then a (decide ((c.length : Int) >= 2)) else (Z77.c n b fun h => if h = true then a (decide ((c.length : Int) = 1)) else a false)))
def Z75.q8 : Nat -> L1 -> Int -> Int -> Int -> Int -> Int -> L3 -> L3 -> L5 -> Prop
 | 0, _, _, _, _, _, _, _, _, _ => False
 | n + 1, a, b, c, d, e, f, g, h, i => Z75.q8.b n a b c d e f g h i
def Z75.w (n : Nat) (p : L1 -> Int -> Int -> Int -> Int -> Int -> Int -> L3 -> L3 -> Int -> L11 -> L5 -> Prop) (g : L1 -> Bool -> Int -> Int -> Int -> Int -> Int -> L3 -> L3 -> L5 -> L11 -> Prop) (h : L1 -> Int -> Int -> Int -> Int -> Int -> L3 -> L3 -> L5 -> Prop) (q : L1) (r s t u v : Int) (w x : L3) (y : Int) (K : L5) : Prop :=
 p q y r s t u v w x 0 (fun i a b c d e f j => let l := Z77.c n a fun z => if (!z) = true then (g i (!(decide (c = 0))) a b c d e f j K fun A B D E F G H I => h A B D E F G H I K) else (g i false a b c d e f j K fun J L M N O R S T => h J L M N O R S T K); let k := g i true a b c d e f j K fun U V Y Z a0 a1 a2 a3 => h U V Y Z a0 a1 a2 a3 K; let m := if (!(decide (a = 4))) = true then (if (!(decide (d = 0))) = false then l else k) else l; let o := if (!(decide (a = 2))) = true then (Z76.c n e f fun a4 => if (!a4) = false then m else k) else m; if (!(decide (a = 1))) = true then (if (!(decide (b = 0))) = false then o else k) else o) K
def Z75.c : Nat -> L1 -> Int -> Int -> Int -> Int -> Int -> L3 -> L3 -> Int -> L5 -> Prop
 | 0, _, _, _, _, _, _, _, _, _, _ => False
 | n + 1, a, b, c, d, e, f, g, h, i, K => Z75.w n (Z75.l2 n) (Z75.q7 n) (Z75.q8 n) a b c d e f g h i K
def Z82.l3.b (n : Nat) (f : L1) (c : L3) (g h i j k : Int) (l b : L3) (m : Int -> Int -> Prop) (d a : Int) (o : L1 -> Int -> Int -> Int -> Int -> Int -> Int -> L3 -> L3 -> Prop) : Prop :=
 if decide (a < b.length) then grd (decide (0 <= a) && decide (a < b.length)) (grd (decide (0 <= rd b (Int.toNat a)) && decide (rd b (Int.toNat a) < (c.length : Int))) (let e := IntKind.wrap .i64 (d + (rd c (Int.toNat (rd b (Int.toNat a))))); m (if e < 8192 then e else 8192) (IntKind.wrap .i64 (a + 1)))) else o f d g h i j k l b
def Z82.l3 : Nat -> L1 -> L3 -> Int -> Int -> Int -> Int -> Int -> L3 -> L3 -> Int -> Int -> (L1 -> Int -> Int -> Int -> Int -> Int -> Int -> L3 -> L3 -> Prop) -> Prop
 | 0, _, _, _, _, _, _, _, _, _, _, _, _ => False
 | n + 1, a, b, c, d, e, f, g, h, i, k, l, j => Z82.l3.b n a b c d e f g h i (fun m o => Z82.l3 n a b c d e f g h i m o j) k l j
def Z82.j2 (K : L6) (n : Nat) (a c b : Int) (d : Bool) : Prop :=
 if d = true then (Z72.c n b 0 4096 fun e => if (!e) = true then K (- 1) else K a) else (if decide (c = 9) then (Z72.c n b 1 4096 fun f => if (!f) = true then K (- 1) else K (IntKind.wrap .i64 (a * b))) else K a)
def Z82.j3 (K : L6) (n : Nat) (c a b : Int) (d : Bool) : Prop :=
 if d = true then (Z72.c n b 0 4096 fun e => if (!e) = true then K (- 1) else K (IntKind.wrap .i64 (c + b))) else (if decide (a = 7) then Z82.j2 K n c a b true else Z82.j2 K n c a b (decide (a = 8)))
def Z82.w (n : Nat) (g : L1 -> L3 -> Int -> Int -> Int -> Int -> Int -> L3 -> L3 -> Int -> Int -> (L1 -> Int -> Int -> Int -> Int -> Int -> Int -> L3 -> L3 -> Prop) -> Prop) (h : L1) (i j k l m : Int) (o p q : L3) (K : L6) : Prop :=
 g h q i j k l m o p 0 0 fun f c a d b e r t u => if decide (a = 1) then grd (decide (0 <= d) && decide (d < f.length)) (K ((rd f (Int.toNat d)).2)) else (if decide (a = 2) then K r else (if decide (a = 4) then (if (decide (e < 0)) = false then (if (decide (b < e)) = false then (if decide (b >= c) then K (- 1) else (let s := IntKind.wrap .i64 ((IntKind.wrap .i64 (b - e)) + 1); K s)) else K (- 1)) else K (- 1)) else (if decide (a = 5) then Z82.j3 K n c a b true else Z82.j3 K n c a b (decide (a = 6)))))
def Z82.c : Nat -> L1 -> Int -> Int -> Int -> Int -> Int -> L3 -> L3 -> L3 -> L6 -> Prop
 | 0, _, _, _, _, _, _, _, _, _, _ => False
 | n + 1, a, b, c, d, e, f, g, h, i, K => Z82.w n (Z82.l3 n) a b c d e f g h i K
def Z83.l16.b (n : Nat) (f : L1) (a : Int) (g h : L3) (c : L2) (i : Int -> List Bool -> Prop) (b : Int) (e : List Bool) (j : L1 -> Int -> L3 -> List Bool -> L3 -> L2 -> Prop) : Prop :=
 grd (decide (0 <= a) && decide (a < c.length)) (let k : L3 := ((((((rd c (Int.toNat a)).2).2).2).2).2).2; if decide (b < k.length) then grd (decide (0 <= a) && decide (a < c.length)) (let d : L3 := ((((((rd c (Int.toNat a)).2).2).2).2).2).2; grd (decide (0 <= b) && decide (b < d.length)) (grd (decide (0 <= rd d (Int.toNat b)) && decide (rd d (Int.toNat b) < (e.length : Int))) (let l := List.set e (Int.toNat (rd d (Int.toNat b))) true; i (IntKind.wrap .i64 (b + 1)) l))) else j f a g e h c)
def Z83.l16 : Nat -> L1 -> Int -> L3 -> L3 -> L2 -> Int -> List Bool -> (L1 -> Int -> L3 -> List Bool -> L3 -> L2 -> Prop) -> Prop
 | 0, _, _, _, _, _, _, _, _ => False
 | n + 1, a, b, c, d, e, g, h, f => Z83.l16.b n a b c d e (fun i j => Z83.l16 n a b c d e i j f) g h f
def Z83.l7.b (n : Nat) (i : L1 -> Int -> L3 -> L3 -> L2 -> Int -> List Bool -> (L1 -> Int -> L3 -> List Bool -> L3 -> L2 -> Prop) -> Prop) (j : L1 -> Int -> L3 -> L3 -> List Bool -> L2 -> Prop) (e : L1) (a : Int) (c d : L3) (g : List Bool) (b : L2) (k : L3 -> L3 -> List Bool -> Prop) (h : L8) : Prop :=
 if decide (a < b.length) then grd (decide (0 <= a) && decide (a < b.length)) (let l : L3 := ((((((rd b (Int.toNat a)).2).2).2).2).2).1; let m : L3 := ((((((rd b (Int.toNat a)).2).2).2).2).2).2; Z75.c n e ((rd b (Int.toNat a)).1) (((rd b (Int.toNat a)).2).1) ((((rd b (Int.toNat a)).2).2).1) (((((rd b (Int.toNat a)).2).2).2).1) ((((((rd b (Int.toNat a)).2).2).2).2).1) l m a fun o => if (!o) = true then h d else grd (decide (0 <= a) && decide (a < b.length)) (let p : L3 := ((((((rd b (Int.toNat a)).2).2).2).2).2).1; let q : L3 := ((((((rd b (Int.toNat a)).2).2).2).2).2).2; Z82.c n e ((rd b (Int.toNat a)).1) (((rd b (Int.toNat a)).2).1) ((((rd b (Int.toNat a)).2).2).1) (((((rd b (Int.toNat a)).2).2).2).1) ((((((rd b (Int.toNat a)).2).2).2).2).1) p q c fun f => Z72.c n f 1 4096 fun r => if (!r) = true then h d else grd (decide (c.length + ([f] : L3).length <= 7818749353073)) (i e a d (c ++ ([f] : L3)) b 0 g fun s t u v w => j s (IntKind.wrap .i64 (t + 1)) w u v))) else k c d g
def Z83.l7 : Nat -> L1 -> Int -> L3 -> L3 -> List Bool -> L2 -> (L3 -> L3 -> List Bool -> Prop) -> L8 -> Prop
 | 0, _, _, _, _, _, _, _, _ => False
 | n + 1, c, d, e, f, g, h, a, b => Z83.l7.b n (Z83.l16 n) (fun i j k l m o => Z83.l7 n i j k l m o a b) c d e f g h a b
def Z83.l20.b (n : Nat) (c d : L3) (b : List Bool) (e : L6) (a : Int) (f g : L8) : Prop :=
 let h := decide (IntKind.wrap .i64 (a + 1) < (b.length : Int)); if h = true then grd (decide (0 <= a) && decide (a < b.length)) (if (!(rd b (Int.toNat a))) = true then g d else e (IntKind.wrap .i64 (a + 1))) else f c
def Z83.l20 : Nat -> L3 -> L3 -> List Bool -> Int -> L8 -> L8 -> Prop
 | 0, _, _, _, _, _, _ => False
 | n + 1, a, b, c, f, d, e => Z83.l20.b n a b c (fun g => Z83.l20 n a b c g d e) f d e
def Z83.j0 (K : L8) (b : L1) (a : L2) (c : L1 -> Int -> L3 -> L3 -> List Bool -> L2 -> (L3 -> L3 -> List Bool -> Prop) -> L8 -> Prop) (d : L3 -> L3 -> List Bool -> Int -> L8 -> L8 -> Prop) : Prop :=
 grd ((decide (0 <= (a.length : Int)) && decide ((a.length : Int) <= 35184372088832)) && decide ((a.length : Int) = (a.length : Int))) (let e := List.replicate (Int.toNat (a.length : Int)) false; c b 0 ([] : L3) ([] : L3) e a (fun f g h => d f g h 0 K K) K)
def Z83.w (n : Nat) (d : L1 -> Int -> L3 -> L3 -> List Bool -> L2 -> (L3 -> L3 -> List Bool -> Prop) -> L8 -> Prop) (e : L3 -> L3 -> List Bool -> Int -> L8 -> L8 -> Prop) (c : L1) (a : L2) (K : L8) : Prop :=
 let b := K ([] : L3); Z67.c n c fun f => if (!f) = false then (if (decide ((a.length : Int) < 1)) = false then (if decide ((a.length : Int) > 400) then b else Z83.j0 K c a d e) else b) else b
def Z83.c : Nat -> L1 -> L2 -> L8 -> Prop
 | 0, _, _, _ => False
 | n + 1, a, b, K => Z83.w n (Z83.l7 n) (Z83.l20 n) a b K
def Z69.w (n : Nat) (b : L1) (c : L2) (K : L6) : Prop :=
 Z83.c n b c fun a => if decide ((a.length : Int) = 0) then K (- 1) else grd (decide (0 <= IntKind.wrap .i64 ((a.length : Int) - 1)) && decide (IntKind.wrap .i64 ((a.length : Int) - 1) < (a.length : Int))) (let d := Int.toNat (IntKind.wrap .i64 ((a.length : Int) - 1)); K (rd a d))
def Z69.c : Nat -> L1 -> L2 -> L6 -> Prop
 | 0, _, _, _ => False
 | n + 1, a, b, K => Z69.w n a b K
def Z74.w (n : Nat) (e f g h i : Int) (c d : L3) (K : L15) : Prop :=
 let a := grd (decide (([] : L3).length + c.length <= 7818749353073)) (K e f g h i (([] : L3) ++ c) (([] : L3) ++ d)); let b := a /\ a; grd (decide (([] : L3).length + d.length <= 7818749353073)) (b /\ b /\ a /\ b)
def Z74.c : Nat -> Int -> Int -> Int -> Int -> Int -> L3 -> L3 -> L15 -> Prop
 | 0, _, _, _, _, _, _, _, _ => False
 | n + 1, a, b, c, d, e, f, g, K => Z74.w n a b c d e f g K
def Z78.j1 (f : Int -> List Bool -> Prop) (d : L2) (c a : Int) (e : List Bool) : Prop :=
 grd (decide (0 <= c) && decide (c < d.length)) (let b : L3 := ((((((rd d (Int.toNat c)).2).2).2).2).2).2; grd (decide (0 <= a) && decide (a < b.length)) (grd (decide (0 <= rd b (Int.toNat a)) && decide (rd b (Int.toNat a) < (e.length : Int))) (let g := List.set e (Int.toNat (rd b (Int.toNat a))) true; f (IntKind.wrap .i64 (a + 1)) g)))
def Z78.l8.b (n : Nat) (b : L2) (a : Int) (f : L3) (g : Int -> List Bool -> Prop) (d : Int) (c : List Bool) (h : L2 -> Int -> List Bool -> L3 -> Prop) : Prop :=
 let e := h b a c f; grd (decide (0 <= a) && decide (a < c.length)) (if (rd c (Int.toNat a)) = true then grd (decide (0 <= a) && decide (a < b.length)) (let i : L3 := ((((((rd b (Int.toNat a)).2).2).2).2).2).2; if decide (d < i.length) then Z78.j1 g b a d c else e) else e)
def Z78.l8 : Nat -> L2 -> Int -> L3 -> Int -> List Bool -> (L2 -> Int -> List Bool -> L3 -> Prop) -> Prop
 | 0, _, _, _, _, _, _ => False
 | n + 1, a, b, c, e, f, d => Z78.l8.b n a b c (fun g h => Z78.l8 n a b c g h d) e f d
def Z78.l5.b (n : Nat) (e : L2 -> Int -> L3 -> Int -> List Bool -> (L2 -> Int -> List Bool -> L3 -> Prop) -> Prop) (f : L2 -> Int -> List Bool -> L3 -> Prop) (a : L2) (b : Int) (c : List Bool) (d : L3) (g : L2 -> List Bool -> L3 -> Prop) : Prop :=
 if decide (b >= 0) then (e a b d 0 c fun h i => f h (IntKind.wrap .i64 (i - 1))) else g a c d
def Z78.l5 : Nat -> L2 -> Int -> List Bool -> L3 -> (L2 -> List Bool -> L3 -> Prop) -> Prop
 | 0, _, _, _, _, _ => False
 | n + 1, b, c, d, e, a => Z78.l5.b n (Z78.l8 n) (fun f g h i => Z78.l5 n f g h i a) b c d e a
def Z78.l18.b (n : Nat) (d : L2) (e : Int) (f : L2) (g : List Bool) (c h : L3) (i j k l m : Int) (o : L10) (a : Int) (b : L3) (p : L2 -> Int -> L2 -> List Bool -> L3 -> L3 -> L3 -> Int -> Int -> Int -> Int -> Int -> Prop) : Prop :=
 if decide (a < b.length) then grd (decide (0 <= a) && decide (a < b.length)) (grd (decide (0 <= rd b (Int.toNat a)) && decide (rd b (Int.toNat a) < (c.length : Int))) (let q : Int := rd c (Int.toNat (rd b (Int.toNat a))); grd (decide (0 <= a) && decide (a < b.length)) (o (IntKind.wrap .i64 (a + 1)) (List.set b (Int.toNat a) q)))) else p d e f g c h b i j k l m
def Z78.l18 : Nat -> L2 -> Int -> L2 -> List Bool -> L3 -> L3 -> Int -> Int -> Int -> Int -> Int -> Int -> L3 -> (L2 -> Int -> L2 -> List Bool -> L3 -> L3 -> L3 -> Int -> Int -> Int -> Int -> Int -> Prop) -> Prop
 | 0, _, _, _, _, _, _, _, _, _, _, _, _, _, _ => False
 | n + 1, a, b, c, d, e, f, g, h, i, j, k, m, o, l => Z78.l18.b n a b c d e f g h i j k (fun p q => Z78.l18 n a b c d e f g h i j k p q l) m o l
def Z78.l13.b (n : Nat) (k : L2 -> Int -> L2 -> List Bool -> L3 -> L3 -> Int -> Int -> Int -> Int -> Int -> Int -> L3 -> (L2 -> Int -> L2 -> List Bool -> L3 -> L3 -> L3 -> Int -> Int -> Int -> Int -> Int -> Prop) -> Prop) (g : L2 -> Int -> L2 -> List Bool -> L3 -> Prop) (b : L2) (a : Int) (e : L2) (c : List Bool) (h : L3) (l : L13) : Prop :=
 if decide (a < b.length) then grd (decide (0 <= a) && decide (a < c.length)) (if (!(rd c (Int.toNat a))) = true then g b (IntKind.wrap .i64 (a + 1)) e c h else grd (decide (0 <= a) && decide (a < b.length)) (let m : L3 := ((((((rd b (Int.toNat a)).2).2).2).2).2).1; let o : L3 := ((((((rd b (Int.toNat a)).2).2).2).2).2).2; Z74.c n ((rd b (Int.toNat a)).1) (((rd b (Int.toNat a)).2).1) ((((rd b (Int.toNat a)).2).2).1) (((((rd b (Int.toNat a)).2).2).2).1) ((((((rd b (Int.toNat a)).2).2).2).2).1) m o fun p q r s t u v => k b a e c h u p q r s t 0 v fun w d f x i y z A B D E F => grd (decide (0 <= d) && decide (d < i.length)) (let G := List.set i (Int.toNat d) (f.length : Int); let j := ([(A, B, D, E, F, y, z)] : List qA); grd (decide (f.length + j.length <= 790660046940)) (g w (IntKind.wrap .i64 (d + 1)) (f ++ j) x G)))) else l e
def Z78.l13 : Nat -> L2 -> Int -> L2 -> List Bool -> L3 -> L13 -> Prop
 | 0, _, _, _, _, _, _ => False
 | n + 1, b, c, d, e, f, a => Z78.l13.b n (Z78.l18 n) (fun g h i j k => Z78.l13 n g h i j k a) b c d e f a
def Z78.w (n : Nat) (d : L2 -> Int -> List Bool -> L3 -> (L2 -> List Bool -> L3 -> Prop) -> Prop) (e : L2 -> Int -> L2 -> List Bool -> L3 -> L13 -> Prop) (a : L2) (b : Int) (K : L13) : Prop :=
 grd ((decide (0 <= (a.length : Int)) && decide ((a.length : Int) <= 35184372088832)) && decide ((a.length : Int) = (a.length : Int))) (let c := List.replicate (Int.toNat (a.length : Int)) false; grd (decide (0 <= b) && decide (b < c.length)) (grd ((decide (0 <= (a.length : Int)) && decide ((a.length : Int) <= 7818749353073)) && decide ((a.length : Int) = (a.length : Int))) (let f := List.replicate (Int.toNat (a.length : Int)) 0; d a (IntKind.wrap .i64 ((a.length : Int) - 1)) (List.set c (Int.toNat b) true) f fun g h i => let j := ([] : List qA); e g 0 j h i K)))
def Z78.c : Nat -> L2 -> Int -> L13 -> Prop
 | 0, _, _, _ => False
 | n + 1, a, b, K => Z78.w n (Z78.l5 n) (Z78.l13 n) a b K
def Z79.l4.b (n : Nat) (h : Int) (b : L3) (i : Int) (c : L3) (d : L6) (a : Int) (e : Prop) (f : L5) : Prop :=
 if decide (a < b.length) then grd (decide (0 <= a) && decide (a < b.length)) (grd (decide (0 <= a) && decide (a < c.length)) (let g := !(decide (rd b (Int.toNat a) = rd c (Int.toNat a))); if g = true then f false else d (IntKind.wrap .i64 (a + 1)))) else e
def Z79.l4 : Nat -> Int -> L3 -> Int -> L3 -> Int -> Prop -> L5 -> Prop
 | 0, _, _, _, _, _, _, _ => False
 | n + 1, a, b, c, d, g, e, f => Z79.l4.b n a b c d (fun h => Z79.l4 n a b c d h e f) g e f
def Z79.w (n : Nat) (e : Int -> L3 -> Int -> L3 -> Int -> Prop -> L5 -> Prop) (a : Int) (b : L3) (c : Int) (d : L3) (K : L5) : Prop :=
 if (!(decide (a = c))) = false then (let f := !(decide ((b.length : Int) = (d.length : Int))); if f = true then K false else e a b c d 0 (K true) K) else K false
def Z79.c : Nat -> Int -> L3 -> Int -> L3 -> L5 -> Prop
 | 0, _, _, _, _, _ => False
 | n + 1, a, b, c, d, K => Z79.w n (Z79.l4 n) a b c d K
def Z80.l4.b (n : Nat) (h i j k l : Int) (m b : L3) (o p q r s : Int) (t c : L3) (d : L6) (a : Int) (e : Prop) (f : L5) : Prop :=
 if decide (a < b.length) then grd (decide (0 <= a) && decide (a < b.length)) (grd (decide (0 <= a) && decide (a < c.length)) (let g := !(decide (rd b (Int.toNat a) = rd c (Int.toNat a))); if g = true then f false else d (IntKind.wrap .i64 (a + 1)))) else e
def Z80.l4 : Nat -> Int -> Int -> Int -> Int -> Int -> L3 -> L3 -> Int -> Int -> Int -> Int -> Int -> L3 -> L3 -> Int -> Prop -> L5 -> Prop
 | 0, _, _, _, _, _, _, _, _, _, _, _, _, _, _, _, _, _ => False
 | n + 1, a, b, c, d, e, f, g, h, i, j, k, l, m, o, r, p, q => Z80.l4.b n a b c d e f g h i j k l m o (fun s => Z80.l4 n a b c d e f g h i j k l m o s p q) r p q
def Z80.w (n : Nat) (q : Int -> Int -> Int -> Int -> Int -> L3 -> L3 -> Int -> Int -> Int -> Int -> Int -> L3 -> L3 -> Int -> Prop -> L5 -> Prop) (b c d e f : Int) (g h : L3) (i j k l m : Int) (o p : L3) (K : L5) : Prop :=
 let a := K false; if (!(decide (b = i))) = false then (if (!(decide (c = j))) = false then (if (!(decide (d = k))) = false then (if (!(decide (e = l))) = false then (Z79.c n f g m o fun r => if (!r) = false then (let s := !(decide ((h.length : Int) = (p.length : Int))); if s = true then a else q b c d e f g h i j k l m o p 0 (K true) K) else a) else a) else a) else a) else a
def Z80.c : Nat -> Int -> Int -> Int -> Int -> Int -> L3 -> L3 -> Int -> Int -> Int -> Int -> Int -> L3 -> L3 -> L5 -> Prop
 | 0, _, _, _, _, _, _, _, _, _, _, _, _, _, _, _ => False
 | n + 1, a, b, c, d, e, f, g, h, i, j, k, l, m, o, K => Z80.w n (Z80.l4 n) a b c d e f g h i j k l m o K
def Z81.l8.b (n : Nat) (d : L2) (e : Int) (c f : L3) (g h : L2) (i j k l m : Int) (o : L10) (a : Int) (b : L3) (p : L2 -> Int -> L3 -> L3 -> L3 -> L2 -> L2 -> Int -> Int -> Int -> Int -> Int -> Prop) : Prop :=
 if decide (a < b.length) then grd (decide (0 <= a) && decide (a < b.length)) (grd (decide (0 <= rd b (Int.toNat a)) && decide (rd b (Int.toNat a) < (c.length : Int))) (grd (decide (0 <= a) && decide (a < b.length)) (let q := List.set b (Int.toNat a) (rd c (Int.toNat (rd b (Int.toNat a)))); o (IntKind.wrap .i64 (a + 1)) q))) else p d e c f b g h i j k l m
def Z81.l8 : Nat -> L2 -> Int -> L3 -> L3 -> L2 -> L2 -> Int -> Int -> Int -> Int -> Int -> Int -> L3 -> (L2 -> Int -> L3 -> L3 -> L3 -> L2 -> L2 -> Int -> Int -> Int -> Int -> Int -> Prop) -> Prop
 | 0, _, _, _, _, _, _, _, _, _, _, _, _, _, _ => False
 | n + 1, a, b, c, d, e, f, g, h, i, j, k, m, o, l => Z81.l8.b n a b c d e f g h i j k (fun p q => Z81.l8 n a b c d e f g h i j k p q l) m o l
def Z81.j2 (c : Int -> Int -> Prop) (n : Nat) (d a : Int) (e f : L3) (b : L2) (g h i j k : Int) : Prop :=
 grd (decide (0 <= a) && decide (a < b.length)) (Z80.c n ((rd b (Int.toNat a)).1) (((rd b (Int.toNat a)).2).1) ((((rd b (Int.toNat a)).2).2).1) (((((rd b (Int.toNat a)).2).2).2).1) ((((((rd b (Int.toNat a)).2).2).2).2).1) (((((((rd b (Int.toNat a)).2).2).2).2).2).1) (((((((rd b (Int.toNat a)).2).2).2).2).2).2) g h i j k e f fun l => if l = true then c a (IntKind.wrap .i64 (a + 1)) else c d (IntKind.wrap .i64 (a + 1)))
def Z81.j3 (j : L2 -> Int -> Int -> L3 -> L3 -> L3 -> L2 -> L2 -> Int -> Int -> Int -> Int -> Int -> Prop) (k : Int -> Int -> Prop) (n : Nat) (l : L2) (m a o : Int) (p b c : L3) (q d : L2) (e f g h i : Int) (r : Bool) : Prop :=
 if r = true then Z81.j2 k n a o b c d e f g h i else j l m a p b c q d e f g h i
def Z81.l13.b (n : Nat) (d : L2) (e : Int) (f g h : L3) (i a : L2) (j k l m o : Int) (p : Int -> Int -> Prop) (b c : Int) (q : L2 -> Int -> Int -> L3 -> L3 -> L3 -> L2 -> L2 -> Int -> Int -> Int -> Int -> Int -> Prop) : Prop :=
 if decide (c < a.length) then Z81.j3 q p n d e b c f g h i a j k l m o (decide (b < 0)) else Z81.j3 q p n d e b c f g h i a j k l m o false
def Z81.l13 : Nat -> L2 -> Int -> L3 -> L3 -> L3 -> L2 -> L2 -> Int -> Int -> Int -> Int -> Int -> Int -> Int -> (L2 -> Int -> Int -> L3 -> L3 -> L3 -> L2 -> L2 -> Int -> Int -> Int -> Int -> Int -> Prop) -> Prop
 | 0, _, _, _, _, _, _, _, _, _, _, _, _, _, _, _ => False
 | n + 1, a, b, c, d, e, f, g, h, i, j, k, l, o, p, m => Z81.l13.b n a b c d e f g h i j k l (fun q r => Z81.l13 n a b c d e f g h i j k l q r m) o p m
def Z81.l4.b (n : Nat) (o : L2 -> Int -> L3 -> L3 -> L2 -> L2 -> Int -> Int -> Int -> Int -> Int -> Int -> L3 -> (L2 -> Int -> L3 -> L3 -> L3 -> L2 -> L2 -> Int -> Int -> Int -> Int -> Int -> Prop) -> Prop) (p : L2 -> Int -> L3 -> L3 -> L3 -> L2 -> L2 -> Int -> Int -> Int -> Int -> Int -> Int -> Int -> (L2 -> Int -> Int -> L3 -> L3 -> L3 -> L2 -> L2 -> Int -> Int -> Int -> Int -> Int -> Prop) -> Prop) (f : L2 -> Int -> L3 -> L2 -> L2 -> Prop) (b : L2) (a : Int) (g : L3) (h i : L2) (q : L3 -> L2 -> L2 -> Prop) : Prop :=
 if decide (a < b.length) then grd (decide (0 <= a) && decide (a < b.length)) (let r : L3 := ((((((rd b (Int.toNat a)).2).2).2).2).2).1; let s : L3 := ((((((rd b (Int.toNat a)).2).2).2).2).2).2; Z74.c n ((rd b (Int.toNat a)).1) (((rd b (Int.toNat a)).2).1) ((((rd b (Int.toNat a)).2).2).1) (((((rd b (Int.toNat a)).2).2).2).1) ((((((rd b (Int.toNat a)).2).2).2).2).1) r s fun t u v w x y z => o b a g y h i t u v w x 0 z fun A B D E F G H I J L M N => p A B D E F G H I J L M N (- 1) 0 fun j k e d O R l c S T U V Y => if decide (e < 0) then (let m := ([(S, T, U, V, Y, O, R)] : List qA); grd (decide (c.length + m.length <= 790660046940)) (grd (decide (d.length + ([(c.length : Int)] : L3).length <= 7818749353073)) (f j (IntKind.wrap .i64 (k + 1)) (d ++ ([(c.length : Int)] : L3)) l (c ++ m)))) else grd (decide (d.length + ([e] : L3).length <= 7818749353073)) (f j (IntKind.wrap .i64 (k + 1)) (d ++ ([e] : L3)) l c)) else q g h i
def Z81.l4 : Nat -> L2 -> Int -> L3 -> L2 -> L2 -> (L3 -> L2 -> L2 -> Prop) -> Prop
 | 0, _, _, _, _, _, _ => False
 | n + 1, b, c, d, e, f, a => Z81.l4.b n (Z81.l8 n) (Z81.l13 n) (fun g h i j k => Z81.l4 n g h i j k a) b c d e f a
def Z81.w (n : Nat) (a : L2 -> Int -> L3 -> L2 -> L2 -> (L3 -> L2 -> L2 -> Prop) -> Prop) (b : L2) (K : L2 -> L3 -> Prop) : Prop :=
 let c := ([] : List qA); let d := ([] : List qA); a b 0 ([] : L3) c d fun e g f => K f e
def Z81.c : Nat -> L2 -> (L2 -> L3 -> Prop) -> Prop
 | 0, _, _ => False
 | n + 1, a, K => Z81.w n (Z81.l4 n) a K
def Z68.l14.b (n : Nat) (d e f : Int) (g : L2) (c h : L3) (i j : L2) (k l m o p : Int) (q : L10) (a : Int) (b : L3) (r : L9) : Prop :=
 if decide (a < b.length) then grd (decide (0 <= a) && decide (a < b.length)) (grd (decide (0 <= rd b (Int.toNat a)) && decide (rd b (Int.toNat a) < (c.length : Int))) (grd (decide (0 <= a) && decide (a < b.length)) (let s := List.set b (Int.toNat a) (rd c (Int.toNat (rd b (Int.toNat a)))); q (IntKind.wrap .i64 (a + 1)) s))) else r d e f g c h b i j k l m o p
def Z68.l14 : Nat -> Int -> Int -> Int -> L2 -> L3 -> L3 -> L2 -> L2 -> Int -> Int -> Int -> Int -> Int -> Int -> L3 -> L9 -> Prop
 | 0, _, _, _, _, _, _, _, _, _, _, _, _, _, _, _, _ => False
 | n + 1, a, b, c, d, e, f, g, h, i, j, k, l, m, p, q, o => Z68.l14.b n a b c d e f g h i j k l m (fun r s => Z68.l14 n a b c d e f g h i j k l m r s o) p q o
def Z68.j7 (d : Int -> Int -> Int -> L2 -> L3 -> L2 -> L2 -> Prop) (e : Int -> Int -> Int -> L2 -> L3 -> L3 -> L2 -> L2 -> Int -> Int -> Int -> Int -> Int -> Int -> L3 -> L9 -> Prop) (f g h i j : Int) (k l : L3) (m o p : Int) (q : L2) (r : L3) (s t : L2) : Prop :=
 e m o p q r k s t f g h i j 0 l fun u v w a b x y z A B D E F G => grd (decide (b.length + ([(a.length : Int)] : L3).length <= 7818749353073)) (let c := ([(B, D, E, F, G, x, y)] : List qA); grd (decide (a.length + c.length <= 790660046940)) (d u v (IntKind.wrap .i64 (w + 1)) (a ++ c) (b ++ ([(a.length : Int)] : L3)) z A))
def Z68.j8 (c : Int -> Int -> Int -> L2 -> L3 -> L2 -> L2 -> Prop) (i : Int -> Int -> Int -> L2 -> L3 -> L3 -> L2 -> L2 -> Int -> Int -> Int -> Int -> Int -> Int -> L3 -> L9 -> Prop) (j k l m o : Int) (p q : L3) (d a e : Int) (f : L2) (b : L3) (g h : L2) (r : Bool) : Prop :=
 if r = true then grd (decide (b.length + ([a] : L3).length <= 7818749353073)) (c d a (IntKind.wrap .i64 (e + 1)) f (b ++ ([a] : L3)) g h) else Z68.j7 c i j k l m o p q d a e f b g h
def Z68.l8.b (n : Nat) (i : Int -> Int -> Int -> L2 -> L3 -> L3 -> L2 -> L2 -> Int -> Int -> Int -> Int -> Int -> Int -> L3 -> L9 -> Prop) (j : Int -> Int -> Int -> L2 -> L3 -> L2 -> L2 -> Prop) (c k a : Int) (d : L2) (e : L3) (f b : L2) (r : L2 -> L3 -> L2 -> Prop) : Prop :=
 if decide (a < b.length) then grd (decide (0 <= a) && decide (a < b.length)) (let s : L3 := ((((((rd b (Int.toNat a)).2).2).2).2).2).1; let t : L3 := ((((((rd b (Int.toNat a)).2).2).2).2).2).2; Z74.c n ((rd b (Int.toNat a)).1) (((rd b (Int.toNat a)).2).1) ((((rd b (Int.toNat a)).2).2).1) (((((rd b (Int.toNat a)).2).2).2).1) ((((((rd b (Int.toNat a)).2).2).2).2).1) s t fun g h l m o p q => if decide (g = 1) then Z68.j8 j i g h l m o p q c k a d e f b (decide (h = c)) else Z68.j8 j i g h l m o p q c k a d e f b false) else r d e f
def Z68.l8 : Nat -> Int -> Int -> Int -> L2 -> L3 -> L2 -> L2 -> (L2 -> L3 -> L2 -> Prop) -> Prop
 | 0, _, _, _, _, _, _, _, _ => False
 | n + 1, b, c, d, e, f, g, h, a => Z68.l8.b n (Z68.l14 n) (fun i j k l m o p => Z68.l8 n i j k l m o p a) b c d e f g h a
def Z68.j9 (K : L2 -> Bool -> Prop) (f : L2) (g : Int) (c : L2) (h : Int -> Int -> Int -> L2 -> L3 -> L2 -> L2 -> (L2 -> L3 -> L2 -> Prop) -> Prop) (n : Nat) (i : L2) (j : Bool) : Prop :=
 if j = true then (let k := ([] : List qA); K k false) else (let d := ([] : List qA); grd (decide (d.length + c.length <= 790660046940)) (let l := IntKind.wrap .i64 (((d ++ c).length : Int) - 1); h g l 0 (d ++ c) ([] : L3) i f fun m a u => grd (decide (0 <= IntKind.wrap .i64 ((a.length : Int) - 1)) && decide (IntKind.wrap .i64 ((a.length : Int) - 1) < (a.length : Int))) (let o := Int.toNat (IntKind.wrap .i64 ((a.length : Int) - 1)); Z78.c n m (rd a o) fun p => Z81.c n p fun e b => if decide ((e.length : Int) > 400) then (let q := ([] : List qA); K q false) else grd (decide (0 <= IntKind.wrap .i64 ((b.length : Int) - 1)) && decide (IntKind.wrap .i64 ((b.length : Int) - 1) < (b.length : Int))) (let r := Int.toNat (IntKind.wrap .i64 ((b.length : Int) - 1)); let s := !(decide (rd b r = IntKind.wrap .i64 ((e.length : Int) - 1))); if s = true then (let t := ([] : List qA); K t false) else K e true))))
def Z68.w (n : Nat) (f : Int -> Int -> Int -> L2 -> L3 -> L2 -> L2 -> (L2 -> L3 -> L2 -> Prop) -> Prop) (b : L1) (c : L2) (a : Int) (d : L2) (K : L2 -> Bool -> Prop) : Prop :=
 let g := ([] : List qA); let e := Z68.j9 K c a d f n g true; Z69.c n b d fun h => Z69.c n b c fun i => if (decide (i < 0)) = false then (if (decide (h < 0)) = false then (Z72.c n a 0 (IntKind.wrap .i64 ((b.length : Int) - 1)) fun j => if (!j) = false then grd (decide (0 <= a) && decide (a < b.length)) (Z68.j9 K c a d f n g (!(decide ((rd b (Int.toNat a)).2 = h)))) else e) else e) else e
def Z68.c : Nat -> L1 -> L2 -> Int -> L2 -> (L2 -> Bool -> Prop) -> Prop
 | 0, _, _, _, _, _ => False
 | n + 1, a, b, c, d, K => Z68.w n (Z68.l8 n) a b c d K
end Go.Vsi
end

section
namespace Go.Vsi
def Z16.l4.b (n : Nat) (b : L4) (f : L6) (a : Int) (g : Prop) (c : L5) : Prop :=
 let d := f (IntKind.wrap .i64 (a + 1)); let e := grd (decide (0 <= a) && decide (a < b.length)) (let h := ((List.getD b (Int.toNat a) 0).toNat : Int); if (decide (h < 48)) = false then grd (decide (0 <= a) && decide (a < b.length)) (let i := ((List.getD b (Int.toNat a) 0).toNat : Int); if decide (i > 57) then c false else d) else c false); if decide (a < b.length) then grd (decide (0 <= a) && decide (a < b.length)) (let j := ((List.getD b (Int.toNat a) 0).toNat : Int); if (decide (j < 97)) = false then grd (decide (0 <= a) && decide (a < b.length)) (let k := ((List.getD b (Int.toNat a) 0).toNat : Int); if decide (k > 122) then e else d) else e) else g
def Z16.l4 : Nat -> L4 -> Int -> Prop -> L5 -> Prop
 | 0, _, _, _, _ => False
 | n + 1, a, d, b, c => Z16.l4.b n a (fun e => Z16.l4 n a e b c) d b c
def Z16.w (n : Nat) (b : L4 -> Int -> Prop -> L5 -> Prop) (a : L4) (K : L5) : Prop :=
 if (decide ((a.length : Int) < 1)) = false then (if (decide ((a.length : Int) > 12)) = false then grd (decide (0 < (a.length : Int))) (let c := decide (((List.getD a 0 0).toNat : Int) < 97); if c = false then grd (decide (0 < (a.length : Int))) (let d := decide (((List.getD a 0 0).toNat : Int) > 122); if d = true then K false else b a 0 (K true) K) else K false) else K false) else K false
def Z16.c : Nat -> L4 -> L5 -> Prop
 | 0, _, _ => False
 | n + 1, a, K => Z16.w n (Z16.l4 n) a K
def Z15.w (n : Nat) (a b c : Int) (K : L5) : Prop :=
 if decide (a >= b) then K (decide (a <= c)) else K false
def Z15.c : Nat -> Int -> Int -> Int -> L5 -> Prop
 | 0, _, _, _, _ => False
 | n + 1, a, b, c, K => Z15.w n a b c K
def Z14.w (n : Nat) (a : L4) (c : Int) (b : L4) (K : L5) : Prop :=
 K (a == b)
def Z14.c : Nat -> L4 -> Int -> L4 -> L5 -> Prop
 | 0, _, _, _, _ => False
 | n + 1, a, b, c, K => Z14.w n a b c K
def Z62.l2.b (n : Nat) (b : L1) (c : L4) (d : Int) (e : L6) (a : Int) (f : Prop) (g : L6) : Prop :=
 if decide (a < d) then grd (decide (0 <= a) && decide (a < b.length)) (Z14.c n ((rd b (Int.toNat a)).1) ((rd b (Int.toNat a)).2) c fun h => if h = true then g a else e (IntKind.wrap .i64 (a + 1))) else f
def Z62.l2 : Nat -> L1 -> L4 -> Int -> Int -> Prop -> L6 -> Prop
 | 0, _, _, _, _, _, _ => False
 | n + 1, a, b, c, f, d, e => Z62.l2.b n a b c (fun g => Z62.l2 n a b c g d e) f d e
def Z62.w (n : Nat) (b : L1 -> L4 -> Int -> Int -> Prop -> L6 -> Prop) (a : L1) (c : L4) (K : L6) : Prop :=
 b a c (a.length : Int) 0 (K (- 1)) K
def Z62.c : Nat -> L1 -> L4 -> L6 -> Prop
 | 0, _, _, _ => False
 | n + 1, a, b, K => Z62.w n (Z62.l2 n) a b K
def Z13.w (n : Nat) (a : L1) (b : L4) (K : L6) : Prop :=
 Z62.c n a b K
def Z13.c : Nat -> L1 -> L4 -> L6 -> Prop
 | 0, _, _, _ => False
 | n + 1, a, b, K => Z13.w n a b K
def Z1.l5.b (n : Nat) (d b : L1) (f : Int) (g : Int -> Int -> Prop) (e a : Int) (h : L6) (c : L5) : Prop :=
 if decide (a < f) then grd (decide (0 <= a) && decide (a < b.length)) (Z16.c n ((rd b (Int.toNat a)).1) fun i => if (!i) = false then (Z15.c n ((rd b (Int.toNat a)).2) 1 4096 fun j => if (!j) = false then grd ((decide (0 <= a) && decide (a <= d.length)) && decide (0 <= a)) (Z13.c n (List.drop 0 (List.take (Int.toNat a) d)) ((rd b (Int.toNat a)).1) fun k => if decide (k >= 0) then c false else (let l := IntKind.wrap .i64 (e + ((rd b (Int.toNat a)).2)); g l (IntKind.wrap .i64 (a + 1)))) else c false) else c false) else h e
def Z1.l5 : Nat -> L1 -> L1 -> Int -> Int -> Int -> L6 -> L5 -> Prop
 | 0, _, _, _, _, _, _, _ => False
 | n + 1, a, b, c, f, g, d, e => Z1.l5.b n a b c (fun h i => Z1.l5 n a b c h i d e) f g d e
def Z1.w (n : Nat) (b : L1 -> L1 -> Int -> Int -> Int -> L6 -> L5 -> Prop) (a : L1) (K : L5) : Prop :=
 if decide ((a.length : Int) > 60) then K false else b a a (a.length : Int) 0 0 (fun c => K (decide (c <= 20000))) K
def Z1.c : Nat -> L1 -> L5 -> Prop
 | 0, _, _ => False
 | n + 1, a, K => Z1.w n (Z1.l5 n) a K
def Z22.w (n : Nat) (a : Int) (K : L6) : Prop :=
 let b := IntKind.wrap .i64 (Int.tdiv (IntKind.wrap .i64 (a + 63)) 64); K b
def Z22.c : Nat -> Int -> L6 -> Prop
 | 0, _, _ => False
 | n + 1, a, K => Z22.w n a K
def Z0.j0 (K : L5) (b : Int) (a : L3) : Prop :=
 if (decide (Int.tmod b 64 = 0)) = false then grd (decide (0 <= IntKind.wrap .i64 ((a.length : Int) - 1)) && decide (IntKind.wrap .i64 ((a.length : Int) - 1) < (a.length : Int))) (let c : Int := rd a (Int.toNat (IntKind.wrap .i64 ((a.length : Int) - 1))); grd (decide (0 <= Int.tmod b 64)) (let d := Int.fdiv c (2 ^ (Nat.min (Int.toNat (Int.tmod b 64)) 64)); K (decide (d = 0)))) else K true
def Z0.w (n : Nat) (a : Int) (b : L3) (K : L5) : Prop :=
 Z15.c n a 1 4096 fun c => if (!c) = false then (Z22.c n a fun d => if (!(decide (b.length = d))) = true then K false else Z0.j0 K a b) else K false
def Z0.c : Nat -> Int -> L3 -> L5 -> Prop
 | 0, _, _, _ => False
 | n + 1, a, b, K => Z0.w n a b K
def Z5.l11.b (n : Nat) (b : L3) (d : Int) (e : Int -> Int -> Prop) (c a : Int) (f : L6) : Prop :=
 if decide (a < d) then grd (decide (0 <= a) && decide (a < b.length)) (let g := IntKind.wrap .i64 (c + (rd b (Int.toNat a))); e g (IntKind.wrap .i64 (a + 1))) else f c
def Z5.l11 : Nat -> L3 -> Int -> Int -> Int -> L6 -> Prop
 | 0, _, _, _, _, _ => False
 | n + 1, a, b, d, e, c => Z5.l11.b n a b (fun f g => Z5.l11 n a b f g c) d e c
def Z5.j0 (b : L6) (c : Prop) (n : Nat) (a : qA) (d : Int) (e : Bool) : Prop :=
 if e = true then b d else (if decide (a.1 = 9) then (Z15.c n a.2.2.1 1 4096 fun f => if f = true then b (IntKind.wrap .i64 (d * a.2.2.1)) else c) else c)
def Z5.q21.b (n : Nat) (a : qA) (b : Int) (f : Bool) (c : L6) (d : Prop) : Prop :=
 let e := Z15.c n a.2.2.1 0 4096 fun g => Z5.j0 c d n a b g; if f = true then c (IntKind.wrap .i64 (b + a.2.2.1)) else (if (decide (a.1 = 7)) = false then (if decide (a.1 = 8) then e else Z5.j0 c d n a b false) else e)
def Z5.q21 : Nat -> qA -> Int -> Bool -> L6 -> Prop -> Prop
 | 0, _, _, _, _, _ => False
 | n + 1, a, b, c, d, e => Z5.q21.b n a b c d e
def Z5.j1 (b : L6) (c : Prop) (d : qA -> Int -> Bool -> L6 -> Prop -> Prop) (n : Nat) (a : qA) (e : Int) (g : Bool) : Prop :=
 let f := Z15.c n a.2.2.1 0 4096 fun h => d a e h b c; if g = true then (let i := IntKind.wrap .i64 ((IntKind.wrap .i64 (a.2.2.1 - a.2.2.2.1)) + 1); b i) else (if (decide (a.1 = 5)) = false then (if decide (a.1 = 6) then f else d a e false b c) else f)
def Z5.q9.b (n : Nat) (h : L3 -> Int -> Int -> Int -> L6 -> Prop) (f : qA -> Int -> Bool -> L6 -> Prop -> Prop) (a : qA) (c : L3) (d : Int) (i : Bool) (b : L6) (g : Prop) : Prop :=
 let e := Z5.j1 b g f n a d false; if i = true then h c (c.length : Int) 0 0 b else (if (!(decide ((c.length : Int) = 1))) = true then b (- 1) else (if decide (a.1 = 4) then (if decide (a.2.2.2.1 >= 0) then (if decide (a.2.2.2.1 <= a.2.2.1) then Z5.j1 b g f n a d (decide (a.2.2.1 < d)) else e) else e) else e))
def Z5.q9 : Nat -> qA -> L3 -> Int -> Bool -> L6 -> Prop -> Prop
 | 0, _, _, _, _, _, _ => False
 | n + 1, a, b, c, d, e, f => Z5.q9.b n (Z5.l11 n) (Z5.q21 n) a b c d e f
def Z5.j2 (b : L6) (d : Prop) (e : qA -> L3 -> Int -> Bool -> L6 -> Prop -> Prop) (a : qA) (c : L3) (f : Int) (g : Bool) : Prop :=
 if g = true then b a.2.2.2.2.1 else (if decide (a.1 = 3) then e a c f (decide ((c.length : Int) > 1)) b d else e a c f false b d)
def Z5.q5.b (n : Nat) (d : qA -> L3 -> Int -> Bool -> L6 -> Prop -> Prop) (a : qA) (e : L1) (b : L3) (f : Int) (i : Bool) (c : L6) (g : Prop) : Prop :=
 let h := Z5.j2 c g d a b f false; if i = true then grd (decide (0 <= a.2.1) && decide (a.2.1 < (e.length : Int))) (c ((rd e (Int.toNat a.2.1)).2)) else (if decide (a.1 = 2) then (if decide ((b.length : Int) = 0) then (Z0.c n a.2.2.2.2.1 a.2.2.2.2.2.1 fun j => Z5.j2 c g d a b f j) else h) else h)
def Z5.q5 : Nat -> qA -> L1 -> L3 -> Int -> Bool -> L6 -> Prop -> Prop
 | 0, _, _, _, _, _, _, _ => False
 | n + 1, a, b, c, d, e, f, g => Z5.q5.b n (Z5.q9 n) a b c d e f g
def Z5.j3 (K : L6) (a : qA) (b : L1) (c : L3) (d : qA -> L1 -> L3 -> Int -> Bool -> L6 -> Prop -> Prop) (n : Nat) (e : Int) : Prop :=
 let f := d a b c e false K (K (- 1)); if decide (a.1 = 1) then (if decide ((c.length : Int) = 0) then (Z15.c n a.2.1 0 (IntKind.wrap .i64 ((b.length : Int) - 1)) fun g => d a b c e g K (K (- 1))) else f) else f
def Z5.w (n : Nat) (b : qA -> L1 -> L3 -> Int -> Bool -> L6 -> Prop -> Prop) (c : qA) (d : L1) (a : L3) (K : L6) : Prop :=
 if decide ((a.length : Int) > 0) then grd (decide (0 < (a.length : Int))) (Z5.j3 K c d a b n (rd a 0)) else Z5.j3 K c d a b n 0
def Z5.c : Nat -> qA -> L1 -> L3 -> L6 -> Prop
 | 0, _, _, _, _ => False
 | n + 1, a, b, c, K => Z5.w n (Z5.q5 n) a b c K
def Z4.q3.b (n : Nat) (a : qA) (b : Bool) (c : L5) (d : qA -> Prop) : Prop :=
 if b = true then c false else d a
def Z4.q3 : Nat -> qA -> Bool -> L5 -> (qA -> Prop) -> Prop
 | 0, _, _, _, _ => False
 | n + 1, a, b, c, d => Z4.q3.b n a b c d
def Z4.j0 (a : L5) (b : qA) : Prop :=
 if (decide (b.1 = 2)) = false then (if decide (b.2.2.2.2.1 = 0) then a (decide ((b.2.2.2.2.2.1.length : Int) = 0)) else a false) else a true
def Z4.q2.b (n : Nat) (c : qA -> Bool -> L5 -> (qA -> Prop) -> Prop) (a : qA) (g : Bool) (b : L5) : Prop :=
 let d := c a true b fun h => Z4.j0 b h; let e := if (!(decide (a.1 = 1))) = true then (c a (!(decide (a.2.1 = 0))) b fun i => Z4.j0 b i) else (c a false b fun j => Z4.j0 b j); let f := if (!(decide (a.1 = 4))) = true then (if (!(decide (a.2.2.2.1 = 0))) = false then e else d) else e; if (!g) = true then (if (!(decide (a.2.2.1 = 0))) = false then f else d) else f
def Z4.q2 : Nat -> qA -> Bool -> L5 -> Prop
 | 0, _, _, _ => False
 | n + 1, a, b, c => Z4.q2.b n (Z4.q3 n) a b c
def Z4.w (n : Nat) (b : qA -> Bool -> L5 -> Prop) (a : qA) (K : L5) : Prop :=
 if decide (a.1 >= 4) then b a (decide (a.1 <= 9)) K else b a false K
def Z4.c : Nat -> qA -> L5 -> Prop
 | 0, _, _ => False
 | n + 1, a, K => Z4.w n (Z4.q2 n) a K
def Z63.l2.b (n : Nat) (b : List Bool) (c : Bool) (d : Int) (e : L6) (a : Int) (f : Prop) (g : L6) : Prop :=
 if decide (a < d) then grd (decide (0 <= a) && decide (a < b.length)) (if (c == (rd b (Int.toNat a))) = true then g a else e (IntKind.wrap .i64 (a + 1))) else f
def Z63.l2 : Nat -> List Bool -> Bool -> Int -> Int -> Prop -> L6 -> Prop
 | 0, _, _, _, _, _, _ => False
 | n + 1, a, b, c, f, d, e => Z63.l2.b n a b c (fun g => Z63.l2 n a b c g d e) f d e
def Z63.w (n : Nat) (b : List Bool -> Bool -> Int -> Int -> Prop -> L6 -> Prop) (a : List Bool) (c : Bool) (K : L6) : Prop :=
 b a c (a.length : Int) 0 (K (- 1)) K
def Z63.c : Nat -> List Bool -> Bool -> L6 -> Prop
 | 0, _, _, _ => False
 | n + 1, a, b, K => Z63.w n (Z63.l2 n) a b K
def Z60.w (n : Nat) (a : List Bool) (b : Bool) (K : L5) : Prop :=
 Z63.c n a b fun c => K (decide (c >= 0))
def Z60.c : Nat -> List Bool -> Bool -> L5 -> Prop
 | 0, _, _, _ => False
 | n + 1, a, b, K => Z60.w n a b K
def Z21.l13.b (n : Nat) (g : L1) (h f : Int) (i : qA) (j k : Int) (b : L3) (l : Int) (c : L3) (m : L2) (o : Int -> List Bool -> L3 -> Prop) (a : Int) (d : List Bool) (e : L3) (p : L1 -> Int -> Int -> qA -> Int -> Int -> L3 -> List Bool -> L3 -> L2 -> Prop) (q : L12) : Prop :=
 if decide (a < l) then grd (decide (0 <= a) && decide (a < b.length)) (Z15.c n (rd b (Int.toNat a)) 0 (IntKind.wrap .i64 (f - 1)) fun r => if (!r) = true then q false ([] : L3) else grd (decide (0 <= rd b (Int.toNat a)) && decide (rd b (Int.toNat a) < (c.length : Int))) (grd (decide (0 <= rd b (Int.toNat a)) && decide (rd b (Int.toNat a) < (d.length : Int))) (let s := List.set d (Int.toNat (rd b (Int.toNat a))) true; grd (decide (0 <= a) && decide (a < e.length)) (let t := List.set e (Int.toNat a) (rd c (Int.toNat (rd b (Int.toNat a)))); o (IntKind.wrap .i64 (a + 1)) s t)))) else p g h f i j k c d e m
def Z21.l13 : Nat -> L1 -> Int -> Int -> qA -> Int -> Int -> L3 -> Int -> L3 -> L2 -> Int -> List Bool -> L3 -> (L1 -> Int -> Int -> qA -> Int -> Int -> L3 -> List Bool -> L3 -> L2 -> Prop) -> L12 -> Prop
 | 0, _, _, _, _, _, _, _, _, _, _, _, _, _, _, _ => False
 | n + 1, a, b, c, d, e, f, g, h, i, j, m, o, p, k, l => Z21.l13.b n a b c d e f g h i j (fun q r s => Z21.l13 n a b c d e f g h i j q r s k l) m o p k l
def Z21.l6.b (n : Nat) (q : L1 -> Int -> Int -> qA -> Int -> Int -> L3 -> Int -> L3 -> L2 -> Int -> List Bool -> L3 -> (L1 -> Int -> Int -> qA -> Int -> Int -> L3 -> List Bool -> L3 -> L2 -> Prop) -> L12 -> Prop) (r : L1 -> Int -> Int -> Int -> L3 -> List Bool -> L2 -> Prop) (s : L1) (h i a : Int) (j : L3) (k : List Bool) (c : L2) (t : L14) (l : L12) : Prop :=
 let f := l false ([] : L3); if decide (a < i) then grd (decide (0 <= a) && decide (a < c.length)) (let u : L3 := ((((((rd c (Int.toNat a)).2).2).2).2).2).2; if decide ((u.length : Int) > 4096) then f else (let d : L3 := ((((((rd c (Int.toNat a)).2).2).2).2).2).2; grd ((decide (0 <= (d.length : Int)) && decide ((d.length : Int) <= 7818749353073)) && decide ((d.length : Int) = (d.length : Int))) (let v := List.replicate (Int.toNat (d.length : Int)) 0; let m : L3 := ((((((rd c (Int.toNat a)).2).2).2).2).2).2; q s h a (rd c (Int.toNat a)) i a m (m.length : Int) j c 0 k v (fun o w b p x y e z A B => Z5.c n p o A fun g => grd (decide (0 <= b) && decide (b < e.length)) (Z4.c n p fun D => if (!D) = false then grd (decide (0 <= b) && decide (b < (List.set e (Int.toNat b) g).length)) (let E : Int := rd (List.set e (Int.toNat b) g) (Int.toNat b); Z15.c n E 1 4096 fun F => if (!F) = true then f else r o w x (IntKind.wrap .i64 (y + 1)) (List.set e (Int.toNat b) g) z B) else f)) l))) else t h j k
def Z21.l6 : Nat -> L1 -> Int -> Int -> Int -> L3 -> List Bool -> L2 -> L14 -> L12 -> Prop
 | 0, _, _, _, _, _, _, _, _, _ => False
 | n + 1, c, d, e, f, g, h, i, a, b => Z21.l6.b n (Z21.l13 n) (fun j k l m o p q => Z21.l6 n j k l m o p q a b) c d e f g h i a b
def Z21.j0 (K : L3 -> Bool -> Prop) (d : L1) (b : L2) (e : L1 -> Int -> Int -> Int -> L3 -> List Bool -> L2 -> L14 -> L12 -> Prop) (n : Nat) (f : L3) (g : List Bool) : Prop :=
 e d (b.length : Int) (b.length : Int) 0 f g b (fun a h c => grd ((decide (0 <= IntKind.wrap .i64 (a - 1)) && decide (IntKind.wrap .i64 (a - 1) <= (c.length : Int))) && decide (0 <= IntKind.wrap .i64 (a - 1))) (Z60.c n (List.drop 0 (List.take (Int.toNat (IntKind.wrap .i64 (a - 1))) c)) false fun i => K h (!i))) fun j k => K k j
def Z21.j1 (K : L3 -> Bool -> Prop) (b : L1) (a : L2) (c : L1 -> Int -> Int -> Int -> L3 -> List Bool -> L2 -> L14 -> L12 -> Prop) (n : Nat) : Prop :=
 grd ((decide (0 <= (a.length : Int)) && decide ((a.length : Int) <= 7818749353073)) && decide ((a.length : Int) = (a.length : Int))) (let d := List.replicate (Int.toNat (a.length : Int)) 0; grd ((decide (0 <= (a.length : Int)) && decide ((a.length : Int) <= 35184372088832)) && decide ((a.length : Int) = (a.length : Int))) (let e := List.replicate (Int.toNat (a.length : Int)) false; Z21.j0 K b a c n d e)) /\ grd ((decide (0 <= (a.length : Int)) && decide ((a.length : Int) <= 35184372088832)) && decide ((a.length : Int) = (a.length : Int))) (let f := List.replicate (Int.toNat (a.length : Int)) false; grd ((decide (0 <= (a.length : Int)) && decide ((a.length : Int) <= 7818749353073)) && decide ((a.length : Int) = (a.length : Int))) (let g := List.replicate (Int.toNat (a.length : Int)) 0; Z21.j0 K b a c n g f))
def Z21.w (n : Nat) (c : L1 -> Int -> Int -> Int -> L3 -> List Bool -> L2 -> L14 -> L12 -> Prop) (d : L1) (a : L2) (K : L3 -> Bool -> Prop) : Prop :=
 let b := K ([] : L3) false; if (decide ((a.length : Int) < 1)) = false then (if decide ((a.length : Int) > 400) then b else Z21.j1 K d a c n) else b
def Z21.c : Nat -> L1 -> L2 -> (L3 -> Bool -> Prop) -> Prop
 | 0, _, _, _ => False
 | n + 1, a, b, K => Z21.w n (Z21.l6 n) a b K
def Z20.w (n : Nat) (b : L1) (c : L2) (K : L6) : Prop :=
 Z21.c n b c fun a d => if (!d) = true then K (- 1) else grd (decide (0 <= IntKind.wrap .i64 ((a.length : Int) - 1)) && decide (IntKind.wrap .i64 ((a.length : Int) - 1) < (a.length : Int))) (let e := Int.toNat (IntKind.wrap .i64 ((a.length : Int) - 1)); K (rd a e))
def Z20.c : Nat -> L1 -> L2 -> L6 -> Prop
 | 0, _, _, _ => False
 | n + 1, a, b, K => Z20.w n a b K
def Z6.w (n : Nat) (a : L1) (b : L2) (K : L6) : Prop :=
 Z1.c n a fun c => if (!c) = true then K (- 1) else Z20.c n a b K
def Z6.c : Nat -> L1 -> L2 -> L6 -> Prop
 | 0, _, _, _ => False
 | n + 1, a, b, K => Z6.w n a b K
def Z65.w (n : Nat) (a : L3) (K : L8) : Prop :=
 grd (decide (a.length <= 1099511627776)) (K (srt a))
def Z65.c : Nat -> L3 -> L8 -> Prop
 | 0, _, _ => False
 | n + 1, a, K => Z65.w n a K
def Z59.l9.b (n c d : Nat) (f : Int -> Int -> L3 -> Prop) (e a : Int) (b : L3) (g : L10) : Prop :=
 if decide (a < ((d - c : Nat) : Int)) then grd ((decide (0 <= a) && decide (a < ((d - c : Nat) : Int))) && decide (d <= b.length)) (grd ((decide (0 <= IntKind.wrap .i64 (a - 1)) && decide (IntKind.wrap .i64 (a - 1) < ((d - c : Nat) : Int))) && decide (d <= b.length)) (let h : Nat := c + (Int.toNat (IntKind.wrap .i64 (a - 1))); let i := !(decide (rd b (c + (Int.toNat a)) = rd b h)); if i = true then grd ((decide (0 <= a) && decide (a < ((d - c : Nat) : Int))) && decide (d <= b.length)) (grd (decide (0 <= e) && decide (e < b.length)) (let j := List.set b (Int.toNat e) (rd b (c + (Int.toNat a))); f (IntKind.wrap .i64 (e + 1)) (IntKind.wrap .i64 (a + 1)) j)) else f e (IntKind.wrap .i64 (a + 1)) b)) else g e b
def Z59.l9 : Nat -> Nat -> Nat -> Int -> Int -> L3 -> L10 -> Prop
 | 0, _, _, _, _, _, _ => False
 | n + 1, a, b, d, e, f, c => Z59.l9.b n a b (fun g h i => Z59.l9 n a b g h i c) d e f c
def Z59.l4.b (n : Nat) (f : Nat -> Nat -> Int -> Int -> L3 -> L10 -> Prop) (b : L3) (g : L6) (a : Int) (h : L8) (i : Nat -> Nat -> L3 -> Prop) : Prop :=
 if decide (a < b.length) then grd (decide (0 <= a) && decide (a < b.length)) (grd (decide (0 <= IntKind.wrap .i64 (a - 1)) && decide (IntKind.wrap .i64 (a - 1) < (b.length : Int))) (let j : Int := rd b (Int.toNat (IntKind.wrap .i64 (a - 1))); if decide (rd b (Int.toNat a) = j) then grd ((decide (0 <= a) && true) && decide (a <= b.length)) (f (Int.toNat a) (Int.toNat (b.length : Int)) a 1 b fun c d => grd ((decide (0 <= c) && true) && decide (c <= d.length)) (let e := List.take (Int.toNat c) d ++ List.replicate ((Int.toNat (d.length : Int)) - (Int.toNat c)) 0 ++ List.drop (Int.toNat (d.length : Int)) d; grd ((decide (0 <= c) && decide (c <= e.length)) && decide (0 <= c)) (i 0 (Int.toNat c) e))) else g (IntKind.wrap .i64 (a + 1)))) else h b
def Z59.l4 : Nat -> L3 -> Int -> L8 -> (Nat -> Nat -> L3 -> Prop) -> Prop
 | 0, _, _, _, _ => False
 | n + 1, a, d, b, c => Z59.l4.b n (Z59.l9 n) a (fun e => Z59.l4 n a e b c) d b c
def Z59.w (n : Nat) (b : L3 -> Int -> L8 -> (Nat -> Nat -> L3 -> Prop) -> Prop) (a : L3) (K : L8) : Prop :=
 if decide ((a.length : Int) < 2) then K a else (b a 1 K fun e c d => K (List.take c d))
def Z59.c : Nat -> L3 -> L8 -> Prop
 | 0, _, _ => False
 | n + 1, a, K => Z59.w n (Z59.l4 n) a K
def Z19.l3.b (n : Nat) (c : L2) (f : Int) (d : L10) (a : Int) (b : L3) (g : L8) : Prop :=
 if decide (a < f) then grd (decide (0 <= a) && decide (a < c.length)) (if decide ((rd c (Int.toNat a)).1 = 1) then (let e := ([((rd c (Int.toNat a)).2).1] : L3); grd (decide (b.length + e.length <= 7818749353073)) (d (IntKind.wrap .i64 (a + 1)) (b ++ e))) else d (IntKind.wrap .i64 (a + 1)) b) else g b
def Z19.l3 : Nat -> L2 -> Int -> Int -> L3 -> L8 -> Prop
 | 0, _, _, _, _, _ => False
 | n + 1, a, b, d, e, c => Z19.l3.b n a b (fun f g => Z19.l3 n a b f g c) d e c
def Z19.w (n : Nat) (b : L2 -> Int -> Int -> L3 -> L8 -> Prop) (a : L2) (K : L8) : Prop :=
 b a (a.length : Int) 0 ([] : L3) fun c => Z65.c n c fun d => Z59.c n d K
def Z19.c : Nat -> L2 -> L8 -> Prop
 | 0, _, _ => False
 | n + 1, a, K => Z19.w n (Z19.l3 n) a K
def Z64.l2.b (n : Nat) (b : L3) (c d : Int) (e : L6) (a : Int) (f : Prop) (g : L6) : Prop :=
 if decide (a < d) then grd (decide (0 <= a) && decide (a < b.length)) (if decide (c = rd b (Int.toNat a)) then g a else e (IntKind.wrap .i64 (a + 1))) else f
def Z64.l2 : Nat -> L3 -> Int -> Int -> Int -> Prop -> L6 -> Prop
 | 0, _, _, _, _, _, _ => False
 | n + 1, a, b, c, f, d, e => Z64.l2.b n a b c (fun g => Z64.l2 n a b c g d e) f d e
def Z64.w (n : Nat) (b : L3 -> Int -> Int -> Int -> Prop -> L6 -> Prop) (a : L3) (c : Int) (K : L6) : Prop :=
 b a c (a.length : Int) 0 (K (- 1)) K
def Z64.c : Nat -> L3 -> Int -> L6 -> Prop
 | 0, _, _, _ => False
 | n + 1, a, b, K => Z64.w n (Z64.l2 n) a b K
def Z61.w (n : Nat) (a : L3) (b : Int) (K : L5) : Prop :=
 Z64.c n a b fun c => K (decide (c >= 0))
def Z61.c : Nat -> L3 -> Int -> L5 -> Prop
 | 0, _, _, _ => False
 | n + 1, a, b, K => Z61.w n a b K
def Z17.w (n : Nat) (K : L2 -> L1 -> Prop) : Prop :=
 let a := ([] : List qA); K a ([] : List qQ)
def Z17.c : Nat -> (L2 -> L1 -> Prop) -> Prop
 | 0, _ => False
 | n + 1, K => Z17.w n K
def Z84.w (n : Nat) (a b : Int) (K : L16) : Prop :=
 grd (decide (b = 10) && (decide (- 9223372036854775808 <= a) && decide (a <= 9223372036854775807))) (K (Go.Lib.itoa a))
def Z84.c : Nat -> Int -> Int -> L16 -> Prop
 | 0, _, _, _ => False
 | n + 1, a, b, K => Z84.w n a b K
def Z7.l8.b (n : Nat) (b l : Int) (e : L3) (g : L10) (a : Int) (c : L3) (h : L8) : Prop :=
 if decide (a >= 0) then grd (decide (0 <= IntKind.wrap .i64 (Int.tdiv a 64)) && decide (IntKind.wrap .i64 (Int.tdiv a 64) < (e.length : Int))) (let i : Int := rd e (Int.toNat (IntKind.wrap .i64 (Int.tdiv a 64))); grd (decide (0 <= Int.tmod a 64)) (let j := Int.fdiv i (2 ^ (Nat.min (Int.toNat (Int.tmod a 64)) 64)); grd (decide (0 <= b)) (let k := IntKind.wrap .u64 (1 * 2 ^ (Nat.min (Int.toNat b) 64)); let d : Int := qGr .and .u64 j (IntKind.wrap .u64 (k - 1)); grd (decide (0 <= d) && decide (d < ([48, 49, 50, 51, 52, 53, 54, 55, 56, 57, 97, 98, 99, 100, 101, 102] : L4).length)) (let f := ((List.getD ([48, 49, 50, 51, 52, 53, 54, 55, 56, 57, 97, 98, 99, 100, 101, 102] : L4) (Int.toNat d) 0).toNat : Int); grd (decide (c.length + ([f] : L3).length <= 35184372088832)) (g (IntKind.wrap .i64 (a - b)) (c ++ ([f] : L3))))))) else h c
def Z7.l8 : Nat -> Int -> Int -> L3 -> Int -> L3 -> L8 -> Prop
 | 0, _, _, _, _, _, _ => False
 | n + 1, a, b, c, e, f, d => Z7.l8.b n a b c (fun g h => Z7.l8 n a b c g h d) e f d
def Z7.w (n : Nat) (c : Int -> Int -> L3 -> Int -> L3 -> L8 -> Prop) (a : Int) (b : L3) (K : L16) : Prop :=
 Z0.c n a b fun d => if (!d) = true then K ([] : L4) else (if decide (Int.tmod a 4 = 0) then (c 4 a b (IntKind.wrap .i64 (a - 4)) ([35, 120] : L3) fun e => K (qX e)) else (c 1 a b (IntKind.wrap .i64 (a - 1)) ([35, 98] : L3) fun f => K (qX f)))
def Z7.c : Nat -> Int -> L3 -> L16 -> Prop
 | 0, _, _, _ => False
 | n + 1, a, b, K => Z7.w n (Z7.l8 n) a b K
def Z3.l3.b (n : Nat) (d : L3) (e : Int) (f : L4 -> Int -> Prop) (b : L4) (a : Int) (g : L16) : Prop :=
 if decide (a < e) then grd (decide (0 <= a) && decide (a < d.length)) (Z84.c n (rd d (Int.toNat a)) 10 fun c => grd (decide (([44] : L4).length + c.length <= 9223372036854775807)) (grd (decide (b.length + (([44] : L4) ++ c).length <= 9223372036854775807)) (f (b ++ (([44] : L4) ++ c)) (IntKind.wrap .i64 (a + 1))))) else g b
def Z3.l3 : Nat -> L3 -> Int -> L4 -> Int -> L16 -> Prop
 | 0, _, _, _, _, _ => False
 | n + 1, a, b, d, e, c => Z3.l3.b n a b (fun f g => Z3.l3 n a b f g c) d e c
def Z3.w (n : Nat) (i : L3 -> Int -> L4 -> Int -> L16 -> Prop) (a : qA) (K : L16) : Prop :=
 Z84.c n a.1 10 fun d => grd (decide (d.length + ([47] : L4).length <= 9223372036854775807)) (Z84.c n a.2.1 10 fun e => grd (decide ((d ++ ([47] : L4)).length + e.length <= 9223372036854775807)) (grd (decide (((d ++ ([47] : L4)) ++ e).length + ([47] : L4).length <= 9223372036854775807)) (let b : L4 := ((d ++ ([47] : L4)) ++ e) ++ ([47] : L4); Z84.c n a.2.2.1 10 fun c => grd (decide (b.length + c.length <= 9223372036854775807)) (grd (decide ((b ++ c).length + ([47] : L4).length <= 9223372036854775807)) (Z84.c n a.2.2.2.1 10 fun f => grd (decide (((b ++ c) ++ ([47] : L4)).length + f.length <= 9223372036854775807)) (grd (decide ((((b ++ c) ++ ([47] : L4)) ++ f).length + ([47] : L4).length <= 9223372036854775807)) (let g : L4 := (((b ++ c) ++ ([47] : L4)) ++ f) ++ ([47] : L4); Z7.c n a.2.2.2.2.1 a.2.2.2.2.2.1 fun h => grd (decide (g.length + h.length <= 9223372036854775807)) (i a.2.2.2.2.2.2 (a.2.2.2.2.2.2.length : Int) (g ++ h) 0 K))))))))
def Z3.c : Nat -> qA -> L16 -> Prop
 | 0, _, _ => False
 | n + 1, a, K => Z3.w n (Z3.l3 n) a K
def Z58.w (n : Nat) (a : L3) (K : L8) : Prop :=
 (a.length = 0 -> (K ([] : L3))) /\ grd (decide (([] : L3).length + a.length <= 7818749353073)) (K (([] : L3) ++ a))
def Z58.c : Nat -> L3 -> L8 -> Prop
 | 0, _, _ => False
 | n + 1, a, K => Z58.w n a K
def Z11.w (n : Nat) (a : Int) (b : L3) (K : L10) : Prop :=
 Z58.c n b (K a)
def Z11.c : Nat -> Int -> L3 -> L10 -> Prop
 | 0, _, _, _ => False
 | n + 1, a, b, K => Z11.w n a b K
def Z57.w (n : Nat) (a : L3) (K : L8) : Prop :=
 (a.length = 0 -> (K ([] : L3))) /\ grd (decide (([] : L3).length + a.length <= 7818749353073)) (K (([] : L3) ++ a))
def Z57.c : Nat -> L3 -> L8 -> Prop
 | 0, _, _ => False
 | n + 1, a, K => Z57.w n a K
def Z12.w (n : Nat) (a b c d e : Int) (f g : L3) (K : L15) : Prop :=
 Z11.c n e f fun h i => Z57.c n g (K a b c d h i)
def Z12.c : Nat -> Int -> Int -> Int -> Int -> Int -> L3 -> L3 -> L15 -> Prop
 | 0, _, _, _, _, _, _, _, _ => False
 | n + 1, a, b, c, d, e, f, g, K => Z12.w n a b c d e f g K
def Z8.w (n : Nat) (a : L2) (b : L1) (d e f g h : Int) (i j : L3) (K : Int -> L2 -> L1 -> Prop) : Prop :=
 Z3.c n (d, e, f, g, h, i, j) fun c => if (!((qFi b c).isSome)) = true then ((Z12.c n d e f g h i j fun v w x y z A B => let k := ([(v, w, x, y, z, A, B)] : List qA); grd (decide (a.length + k.length <= 790660046940)) (K (a.length : Int) (a ++ k) (qIi b c (a.length : Int)))) /\ (Z12.c n d e f g h i j fun l m o p q r s => (let t := ([(l, m, o, p, q, r, s)] : List qA); grd (decide (a.length + t.length <= 790660046940)) (K (a.length : Int) (a ++ t) (qIi b c (a.length : Int)))) /\ (let u := ([(l, m, o, p, q, r, s)] : List qA); grd (decide (a.length + u.length <= 790660046940)) (K (a.length : Int) (a ++ u) (qIi b c (a.length : Int)))))) else K ((qFi b c).getD 0) a b
def Z8.c : Nat -> L2 -> L1 -> Int -> Int -> Int -> Int -> Int -> L3 -> L3 -> (Int -> L2 -> L1 -> Prop) -> Prop
 | 0, _, _, _, _, _, _, _, _, _, _ => False
 | n + 1, a, b, c, d, e, f, g, h, i, K => Z8.w n a b c d e f g h i K
def Z9.l9.b (n : Nat) (e f g : Int) (h : L2) (i j : Int) (b : L3) (k : Int) (c : L3) (l : L2) (m : L1) (o p q r s : Int) (t u : L3) (v : L10) (a : Int) (d : L3) (w : L7) : Prop :=
 if decide (a < k) then grd (decide (0 <= a) && decide (a < b.length)) (grd (decide (0 <= rd b (Int.toNat a)) && decide (rd b (Int.toNat a) < (c.length : Int))) (grd (decide (0 <= a) && decide (a < d.length)) (let x := List.set d (Int.toNat a) (rd c (Int.toNat (rd b (Int.toNat a)))); v (IntKind.wrap .i64 (a + 1)) x))) else w e f g h i j c d l m o p q r s t u
def Z9.l9 : Nat -> Int -> Int -> Int -> L2 -> Int -> Int -> L3 -> Int -> L3 -> L2 -> L1 -> Int -> Int -> Int -> Int -> Int -> L3 -> L3 -> Int -> L3 -> L7 -> Prop
 | 0, _, _, _, _, _, _, _, _, _, _, _, _, _, _, _, _, _, _, _, _, _ => False
 | n + 1, a, b, c, d, e, f, g, h, i, j, k, l, m, o, p, q, r, s, u, v, t => Z9.l9.b n a b c d e f g h i j k l m o p q r s (fun w x => Z9.l9 n a b c d e f g h i j k l m o p q r s w x t) u v t
def Z9.j5 (f : Int -> Int -> L2 -> Int -> Int -> L3 -> L2 -> L1 -> Prop) (g : Int -> Int -> Int -> L2 -> Int -> Int -> L3 -> Int -> L3 -> L2 -> L1 -> Int -> Int -> Int -> Int -> Int -> L3 -> L3 -> Int -> L3 -> L7 -> Prop) (n : Nat) (h a : L3) (i j : Int) (c : L2) (k b : Int) (l : L3) (m : L2) (o : L1) : Prop :=
 grd ((decide (0 <= (a.length : Int)) && decide ((a.length : Int) <= 7818749353073)) && decide ((a.length : Int) = (a.length : Int))) (let p := List.replicate (Int.toNat (a.length : Int)) 0; g i j b c k b a (a.length : Int) l m o ((rd c (Int.toNat b)).1) (((rd c (Int.toNat b)).2).1) ((((rd c (Int.toNat b)).2).2).1) (((((rd c (Int.toNat b)).2).2).2).1) ((((((rd c (Int.toNat b)).2).2).2).2).1) h a 0 p fun q r d s t u e v w x y z A B D E I => Z8.c n w x y z A B D E v fun F G H => grd (decide (0 <= d) && decide (d < e.length)) (f q r s t (IntKind.wrap .i64 (u + 1)) (List.set e (Int.toNat d) F) G H))
def Z9.j6 (d : Int -> Int -> L2 -> Int -> Int -> L3 -> L2 -> L1 -> Prop) (j : Int -> Int -> Int -> L2 -> Int -> Int -> L3 -> Int -> L3 -> L2 -> L1 -> Int -> Int -> Int -> Int -> Int -> L3 -> L3 -> Int -> L3 -> L7 -> Prop) (n : Nat) (k l : L3) (e b : Int) (f : L2) (g a : Int) (c : L3) (h : L2) (i : L1) (m : Bool) : Prop :=
 if m = true then grd (decide (0 <= a) && decide (a < c.length)) (d e b f g (IntKind.wrap .i64 (a + 1)) (List.set c (Int.toNat a) b) h i) else Z9.j5 d j n k l e b f g a c h i
def Z9.l3.b (n : Nat) (h : Int -> Int -> Int -> L2 -> Int -> Int -> L3 -> Int -> L3 -> L2 -> L1 -> Int -> Int -> Int -> Int -> Int -> L3 -> L3 -> Int -> L3 -> L7 -> Prop) (i : Int -> Int -> L2 -> Int -> Int -> L3 -> L2 -> L1 -> Prop) (c j : Int) (b : L2) (d a : Int) (e : L3) (f : L2) (g : L1) (m : L3 -> L2 -> L1 -> Prop) : Prop :=
 if decide (a < d) then grd (decide (0 <= a) && decide (a < b.length)) (let k : L3 := ((((((rd b (Int.toNat a)).2).2).2).2).2).1; let l : L3 := ((((((rd b (Int.toNat a)).2).2).2).2).2).2; if decide ((rd b (Int.toNat a)).1 = 1) then (let o := decide (((rd b (Int.toNat a)).2).1 = c); Z9.j6 i h n k l c j b d a e f g o) else Z9.j6 i h n k l c j b d a e f g false) else m e f g
def Z9.l3 : Nat -> Int -> Int -> L2 -> Int -> Int -> L3 -> L2 -> L1 -> (L3 -> L2 -> L1 -> Prop) -> Prop
 | 0, _, _, _, _, _, _, _, _, _ => False
 | n + 1, b, c, d, e, f, g, h, i, a => Z9.l3.b n (Z9.l9 n) (fun j k l m o p q r => Z9.l3 n j k l m o p q r a) b c d e f g h i a
def Z9.w (n : Nat) (b : Int -> Int -> L2 -> Int -> Int -> L3 -> L2 -> L1 -> (L3 -> L2 -> L1 -> Prop) -> Prop) (c : L2) (d : L1) (a : L2) (e f : Int) (K : L3 -> L2 -> L1 -> Prop) : Prop :=
 grd ((decide (0 <= (a.length : Int)) && decide ((a.length : Int) <= 7818749353073)) && decide ((a.length : Int) = (a.length : Int))) (let g := List.replicate (Int.toNat (a.length : Int)) 0; b e f a (a.length : Int) 0 g c d K)
def Z9.c : Nat -> L2 -> L1 -> L2 -> Int -> Int -> (L3 -> L2 -> L1 -> Prop) -> Prop
 | 0, _, _, _, _, _, _ => False
 | n + 1, a, b, c, d, e, K => Z9.w n (Z9.l3 n) a b c d e K
def Z10.l8.b (n : Nat) (f : Int) (e : Nat) (g : Int) (b : L2) (h : L1) (i : L2) (j : Int -> List Bool -> Prop) (a : Int) (c : List Bool) (k : Int -> List Bool -> L2 -> L1 -> L2 -> Prop) : Prop :=
 if decide (a < g) then grd (decide (0 <= a) && decide (a < (((((((rd b e).2).2).2).2).2).2).length)) (let d : Int := rd (((((((rd b e).2).2).2).2).2).2) (Int.toNat a); grd (decide (0 <= d) && decide (d < c.length)) (j (IntKind.wrap .i64 (a + 1)) (List.set c (Int.toNat d) true))) else k f c b h i
def Z10.l8 : Nat -> Int -> Nat -> Int -> L2 -> L1 -> L2 -> Int -> List Bool -> (Int -> List Bool -> L2 -> L1 -> L2 -> Prop) -> Prop
 | 0, _, _, _, _, _, _, _, _, _ => False
 | n + 1, a, b, c, d, e, f, h, i, g => Z10.l8.b n a b c d e f (fun j k => Z10.l8 n a b c d e f j k g) h i g
def Z10.l4.b (n : Nat) (g : Int -> Nat -> Int -> L2 -> L1 -> L2 -> Int -> List Bool -> (Int -> List Bool -> L2 -> L1 -> L2 -> Prop) -> Prop) (f : Int -> List Bool -> L2 -> L1 -> L2 -> Prop) (a : Int) (b : List Bool) (c : L2) (d : L1) (e : L2) (h : List Bool -> L2 -> L1 -> L2 -> Prop) : Prop :=
 if decide (a >= 0) then grd (decide (0 <= a) && decide (a < b.length)) (if (rd b (Int.toNat a)) = true then grd (decide (0 <= a) && decide (a < c.length)) (let i := ((((((((rd c (Int.toNat a)).2).2).2).2).2).2).length : Int); g a (Int.toNat a) i c d e 0 b fun j => f (IntKind.wrap .i64 (j - 1))) else f (IntKind.wrap .i64 (a - 1)) b c d e) else h b c d e
def Z10.l4 : Nat -> Int -> List Bool -> L2 -> L1 -> L2 -> (List Bool -> L2 -> L1 -> L2 -> Prop) -> Prop
 | 0, _, _, _, _, _, _ => False
 | n + 1, b, c, d, e, f, a => Z10.l4.b n (Z10.l8 n) (fun g h i j k => Z10.l4 n g h i j k a) b c d e f a
def Z10.l20.b (n : Nat) (d e f : Int) (g : List Bool) (c h : L3) (i : L2) (j : Nat) (k l : L2) (m o p q r : Int) (s : L10) (a : Int) (b : L3) (t : Int -> Int -> List Bool -> L3 -> L3 -> L3 -> L2 -> Nat -> L2 -> L2 -> Int -> Int -> Int -> Int -> Int -> Prop) : Prop :=
 if decide (a < f) then grd (decide (0 <= a) && decide (a < b.length)) (grd (decide (0 <= rd b (Int.toNat a)) && decide (rd b (Int.toNat a) < (c.length : Int))) (let u : Int := rd c (Int.toNat (rd b (Int.toNat a))); grd (decide (0 <= a) && decide (a < b.length)) (s (IntKind.wrap .i64 (a + 1)) (List.set b (Int.toNat a) u)))) else t d e g c h b i j k l m o p q r
def Z10.l20 : Nat -> Int -> Int -> Int -> List Bool -> L3 -> L3 -> L2 -> Nat -> L2 -> L2 -> Int -> Int -> Int -> Int -> Int -> Int -> L3 -> (Int -> Int -> List Bool -> L3 -> L3 -> L3 -> L2 -> Nat -> L2 -> L2 -> Int -> Int -> Int -> Int -> Int -> Prop) -> Prop
 | 0, _, _, _, _, _, _, _, _, _, _, _, _, _, _, _, _, _, _ => False
 | n + 1, a, b, c, d, e, f, g, h, i, j, k, l, m, o, p, r, s, q => Z10.l20.b n a b c d e f g h i j k l m o p (fun t u => Z10.l20 n a b c d e f g h i j k l m o p t u q) r s q
def Z10.l15.b (n : Nat) (l : Int -> Int -> Int -> List Bool -> L3 -> L3 -> L2 -> Nat -> L2 -> L2 -> Int -> Int -> Int -> Int -> Int -> Int -> L3 -> (Int -> Int -> List Bool -> L3 -> L3 -> L3 -> L2 -> Nat -> L2 -> L2 -> Int -> Int -> Int -> Int -> Int -> Prop) -> Prop) (h : Int -> Int -> List Bool -> L3 -> L2 -> Nat -> L2 -> L2 -> Prop) (e a : Int) (c : List Bool) (f : L3) (b : L2) (m : Nat) (g d : L2) (o : L2 -> L2 -> Prop) : Prop :=
 if decide (a < e) then grd (decide (0 <= a) && decide (a < b.length)) (grd (decide (m <= Int.toNat a)) (let p : L3 := ((((((rd b (Int.toNat a)).2).2).2).2).2).1; let i : L3 := ((((((rd b (Int.toNat a)).2).2).2).2).2).2; grd (decide (0 <= a) && decide (a < c.length)) (if (!(rd c (Int.toNat a))) = true then h e (IntKind.wrap .i64 (a + 1)) c f b ((Int.toNat a) + 1) g d else grd (decide (0 <= a) && decide (a < f.length)) (let q := List.set f (Int.toNat a) (d.length : Int); l e a (i.length : Int) c q p b ((Int.toNat a) + 1) g d ((rd b (Int.toNat a)).1) (((rd b (Int.toNat a)).2).1) ((((rd b (Int.toNat a)).2).2).1) (((((rd b (Int.toNat a)).2).2).2).1) ((((((rd b (Int.toNat a)).2).2).2).2).1) 0 i fun r s t u v w x y z j A B D E F => let k := ([(A, B, D, E, F, v, w)] : List qA); grd (decide (j.length + k.length <= 790660046940)) (h r (IntKind.wrap .i64 (s + 1)) t u x y z (j ++ k)))))) else o g d
def Z10.l15 : Nat -> Int -> Int -> List Bool -> L3 -> L2 -> Nat -> L2 -> L2 -> (L2 -> L2 -> Prop) -> Prop
 | 0, _, _, _, _, _, _, _, _, _ => False
 | n + 1, b, c, d, e, f, g, h, i, a => Z10.l15.b n (Z10.l20 n) (fun j k l m o p q r => Z10.l15 n j k l m o p q r a) b c d e f g h i a
def Z10.w (n : Nat) (e : Int -> List Bool -> L2 -> L1 -> L2 -> (List Bool -> L2 -> L1 -> L2 -> Prop) -> Prop) (f : Int -> Int -> List Bool -> L3 -> L2 -> Nat -> L2 -> L2 -> (L2 -> L2 -> Prop) -> Prop) (b : L2) (g : L1) (c : Int) (K : L13) : Prop :=
 let h := ([] : List qA); grd ((decide (0 <= (b.length : Int)) && decide ((b.length : Int) <= 35184372088832)) && decide ((b.length : Int) = (b.length : Int))) (let d := List.replicate (Int.toNat (b.length : Int)) false; grd (decide (0 <= c) && decide (c < d.length)) (e c (List.set d (Int.toNat c) true) b g h fun i a m j => grd ((decide (0 <= (a.length : Int)) && decide ((a.length : Int) <= 7818749353073)) && decide ((a.length : Int) = (a.length : Int))) (let k := List.replicate (Int.toNat (a.length : Int)) 0; let l := ([] : List qA); f (a.length : Int) 0 i k a 0 j l fun o => K)))
def Z10.c : Nat -> L2 -> L1 -> Int -> L13 -> Prop
 | 0, _, _, _, _ => False
 | n + 1, a, b, c, K => Z10.w n (Z10.l4 n) (Z10.l15 n) a b c K
def Z18.w (n : Nat) (b : L2) (K : L13) : Prop :=
 Z17.c n fun c d => Z9.c n c d b (- 1) 0 fun a e f => grd (decide (0 <= IntKind.wrap .i64 ((a.length : Int) - 1)) && decide (IntKind.wrap .i64 ((a.length : Int) - 1) < (a.length : Int))) (let g := Int.toNat (IntKind.wrap .i64 ((a.length : Int) - 1)); Z10.c n e f (rd a g) K)
def Z18.c : Nat -> L2 -> L13 -> Prop
 | 0, _, _ => False
 | n + 1, a, K => Z18.w n a K
def Z2.j1 (K : L2 -> Bool -> Prop) (c : L2) (d : Int) (f : L2) (n : Nat) (g : Bool) : Prop :=
 if g = true then (let h := ([] : List qA); K h false) else (Z19.c n c fun i => Z61.c n i d fun j => if (!j) = true then (Z18.c n c fun k => K k true) else (Z17.c n fun l m => Z9.c n l m f (- 1) 0 fun a o p => grd (decide (0 <= IntKind.wrap .i64 ((a.length : Int) - 1)) && decide (IntKind.wrap .i64 ((a.length : Int) - 1) < (a.length : Int))) (let q := Int.toNat (IntKind.wrap .i64 ((a.length : Int) - 1)); Z9.c n o p c d (rd a q) fun b r s => grd (decide (0 <= IntKind.wrap .i64 ((b.length : Int) - 1)) && decide (IntKind.wrap .i64 ((b.length : Int) - 1) < (b.length : Int))) (let t := Int.toNat (IntKind.wrap .i64 ((b.length : Int) - 1)); Z10.c n r s (rd b t) fun e => if decide ((e.length : Int) > 400) then (let u := ([] : List qA); K u false) else K e true))))
def Z2.w (n : Nat) (b : L1) (c : L2) (a : Int) (d : L2) (K : L2 -> Bool -> Prop) : Prop :=
 let e := Z2.j1 K c a d n true; Z6.c n b c fun f => if (decide (f < 0)) = false then (Z15.c n a 0 (IntKind.wrap .i64 ((b.length : Int) - 1)) fun g => if (!g) = false then grd (decide (0 <= a) && decide (a < b.length)) (Z6.c n b d fun h => Z2.j1 K c a d n (!(decide (h = (rd b (Int.toNat a)).2)))) else e) else e
def Z2.c : Nat -> L1 -> L2 -> Int -> L2 -> (L2 -> Bool -> Prop) -> Prop
 | 0, _, _, _, _, _ => False
 | n + 1, a, b, c, d, K => Z2.w n a b c d K
def Z30.l4.b (n : Nat) (b c : L3) (d : L6) (a : Int) (e : Prop) (f : L5) : Prop :=
 if decide (a < b.length) then grd (decide (0 <= a) && decide (a < b.length)) (grd (decide (0 <= a) && decide (a < c.length)) (let g := !(decide (rd b (Int.toNat a) = rd c (Int.toNat a))); if g = true then f false else d (IntKind.wrap .i64 (a + 1)))) else e
def Z30.l4 : Nat -> L3 -> L3 -> Int -> Prop -> L5 -> Prop
 | 0, _, _, _, _, _ => False
 | n + 1, a, b, e, c, d => Z30.l4.b n a b (fun f => Z30.l4 n a b f c d) e c d
def Z30.w (n : Nat) (c : L3 -> L3 -> Int -> Prop -> L5 -> Prop) (a b : L3) (K : L5) : Prop :=
 let d := !(decide ((a.length : Int) = (b.length : Int))); if d = true then K false else c a b 0 (K true) K
def Z30.c : Nat -> L3 -> L3 -> L5 -> Prop
 | 0, _, _, _ => False
 | n + 1, a, b, K => Z30.w n (Z30.l4 n) a b K
def Z23.w (n : Nat) (a : Int) (b : L3) (c : Int) (d : L3) (K : L5) : Prop :=
 if (!(decide (a = c))) = true then K false else (Z30.c n b d fun e => if (!e) = true then K false else K true)
def Z23.c : Nat -> Int -> L3 -> Int -> L3 -> L5 -> Prop
 | 0, _, _, _, _, _ => False
 | n + 1, a, b, c, d, K => Z23.w n a b c d K
def Z26.l4.b (n : Nat) (b c : L3) (d : L6) (a : Int) (e : Prop) (f : L5) : Prop :=
 if decide (a < b.length) then grd (decide (0 <= a) && decide (a < b.length)) (grd (decide (0 <= a) && decide (a < c.length)) (let g := !(decide (rd b (Int.toNat a) = rd c (Int.toNat a))); if g = true then f false else d (IntKind.wrap .i64 (a + 1)))) else e
def Z26.l4 : Nat -> L3 -> L3 -> Int -> Prop -> L5 -> Prop
 | 0, _, _, _, _, _ => False
 | n + 1, a, b, e, c, d => Z26.l4.b n a b (fun f => Z26.l4 n a b f c d) e c d
def Z26.w (n : Nat) (c : L3 -> L3 -> Int -> Prop -> L5 -> Prop) (a b : L3) (K : L5) : Prop :=
 let d := !(decide ((a.length : Int) = (b.length : Int))); if d = true then K false else c a b 0 (K true) K
def Z26.c : Nat -> L3 -> L3 -> L5 -> Prop
 | 0, _, _, _ => False
 | n + 1, a, b, K => Z26.w n (Z26.l4 n) a b K
end Go.Vsi
end

section
namespace Go.Vsi
def Z27.w (n : Nat) (b c d e f : Int) (g h : L3) (i j k l m : Int) (o p : L3) (K : L5) : Prop :=
 let a := K false; if (!(decide (b = i))) = true then a else (if (!(decide (c = j))) = true then a else (if (!(decide (d = k))) = true then a else (if (!(decide (e = l))) = true then a else (Z23.c n f g m o fun q => if (!q) = true then a else (Z26.c n h p fun r => if (!r) = true then a else K true)))))
def Z27.c : Nat -> Int -> Int -> Int -> Int -> Int -> L3 -> L3 -> Int -> Int -> Int -> Int -> Int -> L3 -> L3 -> L5 -> Prop
 | 0, _, _, _, _, _, _, _, _, _, _, _, _, _, _, _ => False
 | n + 1, a, b, c, d, e, f, g, h, i, j, k, l, m, o, K => Z27.w n a b c d e f g h i j k l m o K
def Z28.l4.b (n : Nat) (b c : L2) (d : L6) (a : Int) (e : Prop) (f : L5) : Prop :=
 if decide (a < b.length) then grd (decide (0 <= a) && decide (a < b.length)) (let g : L3 := ((((((rd b (Int.toNat a)).2).2).2).2).2).1; let h : L3 := ((((((rd b (Int.toNat a)).2).2).2).2).2).2; grd (decide (0 <= a) && decide (a < c.length)) (let i : L3 := ((((((rd c (Int.toNat a)).2).2).2).2).2).1; let j : L3 := ((((((rd c (Int.toNat a)).2).2).2).2).2).2; Z27.c n ((rd b (Int.toNat a)).1) (((rd b (Int.toNat a)).2).1) ((((rd b (Int.toNat a)).2).2).1) (((((rd b (Int.toNat a)).2).2).2).1) ((((((rd b (Int.toNat a)).2).2).2).2).1) g h ((rd c (Int.toNat a)).1) (((rd c (Int.toNat a)).2).1) ((((rd c (Int.toNat a)).2).2).1) (((((rd c (Int.toNat a)).2).2).2).1) ((((((rd c (Int.toNat a)).2).2).2).2).1) i j fun k => if (!k) = true then f false else d (IntKind.wrap .i64 (a + 1)))) else e
def Z28.l4 : Nat -> L2 -> L2 -> Int -> Prop -> L5 -> Prop
 | 0, _, _, _, _, _ => False
 | n + 1, a, b, e, c, d => Z28.l4.b n a b (fun f => Z28.l4 n a b f c d) e c d
def Z28.w (n : Nat) (c : L2 -> L2 -> Int -> Prop -> L5 -> Prop) (a b : L2) (K : L5) : Prop :=
 let d := !(decide ((a.length : Int) = (b.length : Int))); if d = true then K false else c a b 0 (K true) K
def Z28.c : Nat -> L2 -> L2 -> L5 -> Prop
 | 0, _, _, _ => False
 | n + 1, a, b, K => Z28.w n (Z28.l4 n) a b K
def Z29.w (n : Nat) (a b : L2) (K : L5) : Prop :=
 Z28.c n a b fun c => if (!c) = true then K false else K true
def Z29.c : Nat -> L2 -> L2 -> L5 -> Prop
 | 0, _, _, _ => False
 | n + 1, a, b, K => Z29.w n a b K
def Z24.w (n : Nat) (a : L4) (b : Int) (c : L4) (d : Int) (K : L5) : Prop :=
 if (!(a == c)) = true then K false else (if (!(decide (b = d))) = true then K false else K true)
def Z24.c : Nat -> L4 -> Int -> L4 -> Int -> L5 -> Prop
 | 0, _, _, _, _, _ => False
 | n + 1, a, b, c, d, K => Z24.w n a b c d K
def Z25.l4.b (n : Nat) (b c : L1) (d : L6) (a : Int) (e : Prop) (f : L5) : Prop :=
 if decide (a < b.length) then grd (decide (0 <= a) && decide (a < b.length)) (grd (decide (0 <= a) && decide (a < c.length)) (Z24.c n ((rd b (Int.toNat a)).1) ((rd b (Int.toNat a)).2) ((rd c (Int.toNat a)).1) ((rd c (Int.toNat a)).2) fun g => if (!g) = true then f false else d (IntKind.wrap .i64 (a + 1)))) else e
def Z25.l4 : Nat -> L1 -> L1 -> Int -> Prop -> L5 -> Prop
 | 0, _, _, _, _, _ => False
 | n + 1, a, b, e, c, d => Z25.l4.b n a b (fun f => Z25.l4 n a b f c d) e c d
def Z25.w (n : Nat) (c : L1 -> L1 -> Int -> Prop -> L5 -> Prop) (a b : L1) (K : L5) : Prop :=
 let d := !(decide ((a.length : Int) = (b.length : Int))); if d = true then K false else c a b 0 (K true) K
def Z25.c : Nat -> L1 -> L1 -> L5 -> Prop
 | 0, _, _, _ => False
 | n + 1, a, b, K => Z25.w n (Z25.l4 n) a b K
def Z39.l4.b (n : Nat) (d : Int -> L4 -> Prop) (a : Int) (b : L4) (e : L16) : Prop :=
 if decide (a > 0) then (let c := IntKind.wrap .u8 (IntKind.wrap .i64 (48 + (Int.tmod a 10))); grd (decide ((qX ([c] : L3)).length + b.length <= 9223372036854775807)) (d (IntKind.wrap .i64 (Int.tdiv a 10)) ((qX ([c] : L3)) ++ b))) else e b
def Z39.l4 : Nat -> Int -> L4 -> L16 -> Prop
 | 0, _, _, _ => False
 | n + 1, b, c, a => Z39.l4.b n (fun d e => Z39.l4 n d e a) b c a
def Z39.w (n : Nat) (c : Int -> L4 -> L16 -> Prop) (a : Int) (K : L16) : Prop :=
 if decide (a <= 0) then K ([109, 48] : L4) else (c a ([] : L4) fun b => grd (decide (([109] : L4).length + b.length <= 9223372036854775807)) (K (([109] : L4) ++ b)))
def Z39.c : Nat -> Int -> L16 -> Prop
 | 0, _, _ => False
 | n + 1, a, K => Z39.w n (Z39.l4 n) a K
def Z35.l2.b (n : Nat) (e : Int -> Int -> L1 -> Prop) (c a : Int) (b : L1) (f : Int -> L1 -> Prop) : Prop :=
 if decide (a < b.length) then (Z39.c n c fun g => grd (decide (0 <= a) && decide (a < b.length)) (let d := List.set b (Int.toNat a) (g, (rd b (Int.toNat a)).2); grd (decide (0 <= a) && decide (a < d.length)) (let h := List.set d (Int.toNat a) ((rd d (Int.toNat a)).1, IntKind.wrap .i64 (c + 1)); let i := IntKind.wrap .i64 ((IntKind.wrap .i64 (c + 1)) + 1); e i (IntKind.wrap .i64 (a + 1)) h))) else f c b
def Z35.l2 : Nat -> Int -> Int -> L1 -> (Int -> L1 -> Prop) -> Prop
 | 0, _, _, _, _ => False
 | n + 1, b, c, d, a => Z35.l2.b n (fun e f g => Z35.l2 n e f g a) b c d a
def Z35.w (n : Nat) (a : Int -> Int -> L1 -> (Int -> L1 -> Prop) -> Prop) (b : L1) (c : Int) (K : Int -> L1 -> Prop) : Prop :=
 a c 0 b K
def Z35.c : Nat -> L1 -> Int -> (Int -> L1 -> Prop) -> Prop
 | 0, _, _, _ => False
 | n + 1, a, b, K => Z35.w n (Z35.l2 n) a b K
def Z40.l2.b (n : Nat) (d : Int -> Int -> L3 -> Prop) (c a : Int) (b : L3) (e : L10) : Prop :=
 if decide (a < b.length) then grd (decide (0 <= a) && decide (a < b.length)) (let f := List.set b (Int.toNat a) (IntKind.wrap .u64 c); d (IntKind.wrap .i64 (c + 1)) (IntKind.wrap .i64 (a + 1)) f) else e c b
def Z40.l2 : Nat -> Int -> Int -> L3 -> L10 -> Prop
 | 0, _, _, _, _ => False
 | n + 1, b, c, d, a => Z40.l2.b n (fun e f g => Z40.l2 n e f g a) b c d a
def Z40.w (n : Nat) (a : Int -> Int -> L3 -> L10 -> Prop) (b : L3) (c : Int) (K : L10) : Prop :=
 a c 0 b K
def Z40.c : Nat -> L3 -> Int -> L10 -> Prop
 | 0, _, _, _ => False
 | n + 1, a, b, K => Z40.w n (Z40.l2 n) a b K
def Z36.l2.b (n : Nat) (d : Int -> Int -> L3 -> Prop) (c a : Int) (b : L3) (e : L10) : Prop :=
 if decide (a < b.length) then grd (decide (0 <= a) && decide (a < b.length)) (d (IntKind.wrap .i64 (c + 1)) (IntKind.wrap .i64 (a + 1)) (List.set b (Int.toNat a) c)) else e c b
def Z36.l2 : Nat -> Int -> Int -> L3 -> L10 -> Prop
 | 0, _, _, _, _ => False
 | n + 1, b, c, d, a => Z36.l2.b n (fun e f g => Z36.l2 n e f g a) b c d a
def Z36.w (n : Nat) (a : Int -> Int -> L3 -> L10 -> Prop) (b : L3) (c : Int) (K : L10) : Prop :=
 a c 0 b K
def Z36.c : Nat -> L3 -> Int -> L10 -> Prop
 | 0, _, _, _ => False
 | n + 1, a, b, K => Z36.w n (Z36.l2 n) a b K
def Z37.l2.b (n : Nat) (l : Int -> Int -> L2 -> Prop) (i a : Int) (b : L2) (m : Int -> L2 -> Prop) : Prop :=
 if decide (a < b.length) then grd (decide (0 <= a) && decide (a < b.length)) (let e := List.set b (Int.toNat a) (i, ((rd b (Int.toNat a)).2).1, (((rd b (Int.toNat a)).2).2).1, ((((rd b (Int.toNat a)).2).2).2).1, (((((rd b (Int.toNat a)).2).2).2).2).1, ((((((rd b (Int.toNat a)).2).2).2).2).2).1, ((((((rd b (Int.toNat a)).2).2).2).2).2).2); grd (decide (0 <= a) && decide (a < e.length)) (let f := List.set e (Int.toNat a) ((rd e (Int.toNat a)).1, IntKind.wrap .i64 (i + 1), (((rd e (Int.toNat a)).2).2).1, ((((rd e (Int.toNat a)).2).2).2).1, (((((rd e (Int.toNat a)).2).2).2).2).1, ((((((rd e (Int.toNat a)).2).2).2).2).2).1, ((((((rd e (Int.toNat a)).2).2).2).2).2).2); let j := IntKind.wrap .i64 ((IntKind.wrap .i64 (i + 1)) + 1); grd (decide (0 <= a) && decide (a < f.length)) (let g := List.set f (Int.toNat a) ((rd f (Int.toNat a)).1, ((rd f (Int.toNat a)).2).1, j, ((((rd f (Int.toNat a)).2).2).2).1, (((((rd f (Int.toNat a)).2).2).2).2).1, ((((((rd f (Int.toNat a)).2).2).2).2).2).1, ((((((rd f (Int.toNat a)).2).2).2).2).2).2); grd (decide (0 <= a) && decide (a < g.length)) (let h := List.set g (Int.toNat a) ((rd g (Int.toNat a)).1, ((rd g (Int.toNat a)).2).1, (((rd g (Int.toNat a)).2).2).1, IntKind.wrap .i64 (j + 1), (((((rd g (Int.toNat a)).2).2).2).2).1, ((((((rd g (Int.toNat a)).2).2).2).2).2).1, ((((((rd g (Int.toNat a)).2).2).2).2).2).2); let k := IntKind.wrap .i64 ((IntKind.wrap .i64 (j + 1)) + 1); grd (decide (0 <= a) && decide (a < h.length)) (let c := List.set h (Int.toNat a) ((rd h (Int.toNat a)).1, ((rd h (Int.toNat a)).2).1, (((rd h (Int.toNat a)).2).2).1, ((((rd h (Int.toNat a)).2).2).2).1, k, ((((((rd h (Int.toNat a)).2).2).2).2).2).1, ((((((rd h (Int.toNat a)).2).2).2).2).2).2); grd (decide (0 <= a) && decide (a < c.length)) (Z40.c n (((((((rd c (Int.toNat a)).2).2).2).2).2).1) (IntKind.wrap .i64 (k + 1)) fun o p => let d := List.set c (Int.toNat a) ((rd c (Int.toNat a)).1, ((rd c (Int.toNat a)).2).1, (((rd c (Int.toNat a)).2).2).1, ((((rd c (Int.toNat a)).2).2).2).1, (((((rd c (Int.toNat a)).2).2).2).2).1, p, ((((((rd c (Int.toNat a)).2).2).2).2).2).2); grd (decide (0 <= a) && decide (a < d.length)) (Z36.c n (((((((rd d (Int.toNat a)).2).2).2).2).2).2) o fun q r => let s := List.set d (Int.toNat a) ((rd d (Int.toNat a)).1, ((rd d (Int.toNat a)).2).1, (((rd d (Int.toNat a)).2).2).1, ((((rd d (Int.toNat a)).2).2).2).1, (((((rd d (Int.toNat a)).2).2).2).2).1, ((((((rd d (Int.toNat a)).2).2).2).2).2).1, r); l q (IntKind.wrap .i64 (a + 1)) s))))))) else m i b
def Z37.l2 : Nat -> Int -> Int -> L2 -> (Int -> L2 -> Prop) -> Prop
 | 0, _, _, _, _ => False
 | n + 1, b, c, d, a => Z37.l2.b n (fun e f g => Z37.l2 n e f g a) b c d a
def Z37.w (n : Nat) (a : Int -> Int -> L2 -> (Int -> L2 -> Prop) -> Prop) (b : L2) (c : Int) (K : Int -> L2 -> Prop) : Prop :=
 a c 0 b K
def Z37.c : Nat -> L2 -> Int -> (Int -> L2 -> Prop) -> Prop
 | 0, _, _, _ => False
 | n + 1, a, b, K => Z37.w n (Z37.l2 n) a b K
def Z38.w (n : Nat) (a : L2) (b : Int) (K : Int -> L2 -> Prop) : Prop :=
 Z37.c n a b K
def Z38.c : Nat -> L2 -> Int -> (Int -> L2 -> Prop) -> Prop
 | 0, _, _, _ => False
 | n + 1, a, b, K => Z38.w n a b K
def Z34.l2.b (n : Nat) (b : L3) (d : Int -> Int -> Prop) (c a : Int) (e f : L6) : Prop :=
 if decide (a < b.length) then grd (decide (0 <= a) && decide (a < b.length)) (let g := !(decide (rd b (Int.toNat a) = IntKind.wrap .u64 c)); if g = true then f (- 1) else d (IntKind.wrap .i64 (c + 1)) (IntKind.wrap .i64 (a + 1))) else e c
def Z34.l2 : Nat -> L3 -> Int -> Int -> L6 -> L6 -> Prop
 | 0, _, _, _, _, _ => False
 | n + 1, a, d, e, b, c => Z34.l2.b n a (fun f g => Z34.l2 n a f g b c) d e b c
def Z34.w (n : Nat) (a : L3 -> Int -> Int -> L6 -> L6 -> Prop) (b : L3) (c : Int) (K : L6) : Prop :=
 a b c 0 K K
def Z34.c : Nat -> L3 -> Int -> L6 -> Prop
 | 0, _, _, _ => False
 | n + 1, a, b, K => Z34.w n (Z34.l2 n) a b K
def Z31.l2.b (n : Nat) (b : L3) (d : Int -> Int -> Prop) (c a : Int) (e f : L6) : Prop :=
 if decide (a < b.length) then grd (decide (0 <= a) && decide (a < b.length)) (if (!(decide (rd b (Int.toNat a) = c))) = true then f (- 1) else d (IntKind.wrap .i64 (c + 1)) (IntKind.wrap .i64 (a + 1))) else e c
def Z31.l2 : Nat -> L3 -> Int -> Int -> L6 -> L6 -> Prop
 | 0, _, _, _, _, _ => False
 | n + 1, a, d, e, b, c => Z31.l2.b n a (fun f g => Z31.l2 n a f g b c) d e b c
def Z31.w (n : Nat) (a : L3 -> Int -> Int -> L6 -> L6 -> Prop) (b : L3) (c : Int) (K : L6) : Prop :=
 a b c 0 K K
def Z31.c : Nat -> L3 -> Int -> L6 -> Prop
 | 0, _, _, _ => False
 | n + 1, a, b, K => Z31.w n (Z31.l2 n) a b K
def Z32.l2.b (n : Nat) (b : L2) (i : Int -> Int -> Prop) (d a : Int) (j k : L6) : Prop :=
 let c := k (- 1); if decide (a < b.length) then grd (decide (0 <= a) && decide (a < b.length)) (if (!(decide ((rd b (Int.toNat a)).1 = d))) = true then c else grd (decide (0 <= a) && decide (a < b.length)) (let l := !(decide (((rd b (Int.toNat a)).2).1 = IntKind.wrap .i64 (d + 1))); if l = true then c else (let e := IntKind.wrap .i64 ((IntKind.wrap .i64 (d + 1)) + 1); grd (decide (0 <= a) && decide (a < b.length)) (let m := !(decide ((((rd b (Int.toNat a)).2).2).1 = e)); if m = true then c else grd (decide (0 <= a) && decide (a < b.length)) (let o := !(decide (((((rd b (Int.toNat a)).2).2).2).1 = IntKind.wrap .i64 (e + 1))); if o = true then c else (let f := IntKind.wrap .i64 ((IntKind.wrap .i64 (e + 1)) + 1); grd (decide (0 <= a) && decide (a < b.length)) (let p := !(decide ((((((rd b (Int.toNat a)).2).2).2).2).1 = f)); if p = true then c else grd (decide (0 <= a) && decide (a < b.length)) (let q : L3 := ((((((rd b (Int.toNat a)).2).2).2).2).2).1; Z34.c n q (IntKind.wrap .i64 (f + 1)) fun g => if decide (g < 0) then c else grd (decide (0 <= a) && decide (a < b.length)) (let r : L3 := ((((((rd b (Int.toNat a)).2).2).2).2).2).2; Z31.c n r g fun h => if decide (h < 0) then c else i h (IntKind.wrap .i64 (a + 1))))))))))) else j d
def Z32.l2 : Nat -> L2 -> Int -> Int -> L6 -> L6 -> Prop
 | 0, _, _, _, _, _ => False
 | n + 1, a, d, e, b, c => Z32.l2.b n a (fun f g => Z32.l2 n a f g b c) d e b c
def Z32.w (n : Nat) (a : L2 -> Int -> Int -> L6 -> L6 -> Prop) (b : L2) (c : Int) (K : L6) : Prop :=
 a b c 0 K K
def Z32.c : Nat -> L2 -> Int -> L6 -> Prop
 | 0, _, _, _ => False
 | n + 1, a, b, K => Z32.w n (Z32.l2 n) a b K
def Z33.w (n : Nat) (b : L2) (c : Int) (K : L6) : Prop :=
 Z32.c n b c fun a => if decide (a < 0) then K (- 1) else K a
def Z33.c : Nat -> L2 -> Int -> L6 -> Prop
 | 0, _, _, _ => False
 | n + 1, a, b, K => Z33.w n a b K
def laws_FnExactReplace.j0 (a : L5) (n : Nat) (c : Int) (d : L2) : Prop :=
 Z33.c n d 1 fun b => if decide (b < 0) then a false else (if (!(decide (b = c))) = true then a false else a true)
def laws_FnExactReplace.q39.b (n : Nat) (b : Bool) (c : Int) (d : Bool) (e f g : L2) (a : L5) : Prop :=
 Z29.c n g e fun h => if (!h) = false then (if (!(d == b)) = true then a false else laws_FnExactReplace.j0 a n c f) else a false
def laws_FnExactReplace.q39 : Nat -> Bool -> Int -> Bool -> L2 -> L2 -> L2 -> L5 -> Prop
 | 0, _, _, _, _, _, _, _ => False
 | n + 1, a, b, c, d, e, f, g => laws_FnExactReplace.q39.b n a b c d e f g
def laws_FnExactReplace.j1 (a : L5) (d : Bool -> Int -> Bool -> L2 -> L2 -> L2 -> L5 -> Prop) (n : Nat) (p : L2) (k : L1) (e : Int) (f : Bool) (g i h : L2) : Prop :=
 Z38.c n p 1 fun b c => Z33.c n c 1 fun l => if decide (l < 0) then a false else (if (!(decide (l = b))) = true then a false else ((Z51.c n k fun j => (Z55.c n i fun m => (Z55.c n h fun q => let o := Z2.c n j m e q fun r s => d f b s g c r a; o /\ o) /\ (Z55.c n h fun t => Z2.c n j m e t fun u v => d f b v g c u a)) /\ (Z55.c n i fun w => Z55.c n h fun x => Z2.c n j w e x fun y z => d f b z g c y a)) /\ (Z51.c n k fun A => Z55.c n i fun B => Z55.c n h fun D => Z2.c n A B e D fun E F => d f b F g c E a)))
def laws_FnExactReplace.j2 (b : L5) (l : Bool -> Int -> Bool -> L2 -> L2 -> L2 -> L5 -> Prop) (n : Nat) (c : L1) (d e f : L2) (m : Bool) (g : L1) (o : Int) (h : Bool) (i j k : L2) : Prop :=
 let a := b false; Z51.c n g fun p => Z25.c n c p fun q => if (!q) = true then a else (Z55.c n j fun r => Z29.c n d r fun s => if (!s) = true then a else (Z55.c n k fun t => Z29.c n e t fun u => if (!u) = true then a else (Z35.c n c 1 fun v z => Z38.c n d v fun w A => Z38.c n e w fun x B => if (decide (x < 0)) = false then (Z29.c n f i fun y => if (!y) = false then (if (!(m == h)) = true then a else laws_FnExactReplace.j1 b l n f g o h i j k) else a) else a)))
def laws_FnExactReplace.q12.b (n : Nat) (m : Bool -> Int -> Bool -> L2 -> L2 -> L2 -> L5 -> Prop) (b : L1) (c : Int) (d : Bool) (e f g : L2) (a : L5) : Prop :=
 Z51.c n b fun h => Z55.c n f fun i => Z55.c n g fun j => Z2.c n h i c j fun k l => Z29.c n k e fun o => if (!o) = false then (if (!(l == d)) = true then a false else laws_FnExactReplace.j2 a m n h i j k l b c d e f g) else a false
def laws_FnExactReplace.q12 : Nat -> L1 -> Int -> Bool -> L2 -> L2 -> L2 -> L5 -> Prop
 | 0, _, _, _, _, _, _, _ => False
 | n + 1, a, b, c, d, e, f, g => laws_FnExactReplace.q12.b n (laws_FnExactReplace.q39 n) a b c d e f g
def laws_FnExactReplace.w (n : Nat) (e : L1 -> Int -> Bool -> L2 -> L2 -> L2 -> L5 -> Prop) (d : L1) (b : L2) (c : Int) (a : L2) (K : L5) : Prop :=
 Z43.c n d 1048576 fun g => if decide (g < 0) then K true else (Z47.c n b g fun h => if decide (h < 0) then K true else (Z47.c n a h fun k => if decide (k < 0) then K true else ((Z51.c n d fun f => (Z55.c n b fun i => (Z55.c n a fun l => let j := Z68.c n f i c l fun m o => e d c o m b a K; j /\ j) /\ (Z55.c n a fun p => Z68.c n f i c p fun q r => e d c r q b a K)) /\ (Z55.c n b fun s => Z55.c n a fun t => Z68.c n f s c t fun u v => e d c v u b a K)) /\ (Z51.c n d fun w => Z55.c n b fun x => Z55.c n a fun y => Z68.c n w x c y fun z A => e d c A z b a K))))
def laws_FnExactReplace.c : Nat -> L1 -> L2 -> Int -> L2 -> L5 -> Prop
 | 0, _, _, _, _, _ => False
 | n + 1, a, b, c, d, K => laws_FnExactReplace.w n (laws_FnExactReplace.q12 n) a b c d K
end Go.Vsi
end
