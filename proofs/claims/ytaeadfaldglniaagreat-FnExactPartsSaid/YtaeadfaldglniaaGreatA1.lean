/- Go functions, told on plain data. No statement is proved here. -/
import Derived.Test.YtaeadfaldglniaaGreatM1
set_option linter.unusedVariables false
set_option linter.unusedSimpArgs false
set_option synthInstance.maxSize 4096

section
namespace Go.Vsi
abbrev qP : Type := List UInt8 × Int
instance : DecidableEq qP := inferInstance
abbrev qB : Type := Int × Int × Int × Int × Int × List (Int) × List (Int)
instance : DecidableEq qB := inferInstance
abbrev qA : Type := Int × Bool × List (qB) × List (qB)
instance : DecidableEq qA := inferInstance
abbrev L1 := List qP
abbrev L2 := List qA
abbrev L3 := List qB
abbrev L4 := List Int
abbrev L5 := List UInt8
abbrev L6 := Bool -> Prop
abbrev L7 := Int -> Prop
abbrev L8 := L4 -> Prop
abbrev L9 := Int -> L4 -> Prop
abbrev L10 := L2 -> Int -> L2 -> Int -> Int -> Int -> Int -> L4 -> L4 -> L4 -> Prop
abbrev L11 := L1 -> Int -> Int -> Int -> Int -> Int -> L4 -> L4 -> Prop
abbrev L12 := Bool -> L4 -> Prop
abbrev L13 := Int -> L4 -> List Bool -> Prop
def Z40.w (n : Nat) (a : L5) (d b : Int) (K : L7) : Prop :=
 let c := decide (IntKind.wrap .i64 (b - (a.length : Int)) < 0); if c = true then K (- 1) else K (IntKind.wrap .i64 (b - (a.length : Int)))
def Z40.c : Nat -> L5 -> Int -> Int -> L7 -> Prop
 | 0, _, _, _, _ => False
 | n + 1, a, b, c, K => Z40.w n a b c K
def Z41.l5.b (n : Nat) (b : L1) (e : Int -> Int -> Prop) (c a : Int) (f g : L7) : Prop :=
 if decide (a < b.length) then grd (decide (0 <= a) && decide (a < b.length)) (Z40.c n ((rd b (Int.toNat a)).1) ((rd b (Int.toNat a)).2) c fun d => if decide (d < 0) then g (- 1) else e d (IntKind.wrap .i64 (a + 1))) else f c
def Z41.l5 : Nat -> L1 -> Int -> Int -> L7 -> L7 -> Prop
 | 0, _, _, _, _, _ => False
 | n + 1, a, d, e, b, c => Z41.l5.b n a (fun f g => Z41.l5 n a f g b c) d e b c
def Z41.w (n : Nat) (c : L1 -> Int -> Int -> L7 -> L7 -> Prop) (a : L1) (b : Int) (K : L7) : Prop :=
 let d := decide (IntKind.wrap .i64 (b - (a.length : Int)) < 0); if d = true then K (- 1) else c a (IntKind.wrap .i64 (b - (a.length : Int))) 0 K K
def Z41.c : Nat -> L1 -> Int -> L7 -> Prop
 | 0, _, _, _ => False
 | n + 1, a, b, K => Z41.w n (Z41.l5 n) a b K
def Z48.w (n : Nat) (a : L4) (b : Int) (K : L7) : Prop :=
 let c := decide (IntKind.wrap .i64 (b - (a.length : Int)) < 0); if c = true then K (- 1) else K (IntKind.wrap .i64 (b - (a.length : Int)))
def Z48.c : Nat -> L4 -> Int -> L7 -> Prop
 | 0, _, _, _ => False
 | n + 1, a, b, K => Z48.w n a b K
def Z39.w (n : Nat) (d : Int) (b : L4) (c : Int) (K : L7) : Prop :=
 Z48.c n b c fun a => if decide (a < 0) then K (- 1) else K a
def Z39.c : Nat -> Int -> L4 -> Int -> L7 -> Prop
 | 0, _, _, _, _ => False
 | n + 1, a, b, c, K => Z39.w n a b c K
def Z42.w (n : Nat) (a : L4) (b : Int) (K : L7) : Prop :=
 let c := decide (IntKind.wrap .i64 (b - (a.length : Int)) < 0); if c = true then K (- 1) else K (IntKind.wrap .i64 (b - (a.length : Int)))
def Z42.c : Nat -> L4 -> Int -> L7 -> Prop
 | 0, _, _, _ => False
 | n + 1, a, b, K => Z42.w n a b K
def Z45.w (n : Nat) (g h i j c : Int) (d e : L4) (f : Int) (K : L7) : Prop :=
 Z39.c n c d f fun a => if decide (a < 0) then K (- 1) else (Z42.c n e a fun b => if decide (b < 0) then K (- 1) else K b)
def Z45.c : Nat -> Int -> Int -> Int -> Int -> Int -> L4 -> L4 -> Int -> L7 -> Prop
 | 0, _, _, _, _, _, _, _, _, _ => False
 | n + 1, a, b, c, d, e, f, g, h, K => Z45.w n a b c d e f g h K
def Z46.l5.b (n : Nat) (b : L3) (e : Int -> Int -> Prop) (c a : Int) (f g : L7) : Prop :=
 if decide (a < b.length) then grd (decide (0 <= a) && decide (a < b.length)) (let h : L4 := ((((((rd b (Int.toNat a)).2).2).2).2).2).1; let i : L4 := ((((((rd b (Int.toNat a)).2).2).2).2).2).2; Z45.c n ((rd b (Int.toNat a)).1) (((rd b (Int.toNat a)).2).1) ((((rd b (Int.toNat a)).2).2).1) (((((rd b (Int.toNat a)).2).2).2).1) ((((((rd b (Int.toNat a)).2).2).2).2).1) h i c fun d => if decide (d < 0) then g (- 1) else e d (IntKind.wrap .i64 (a + 1))) else f c
def Z46.l5 : Nat -> L3 -> Int -> Int -> L7 -> L7 -> Prop
 | 0, _, _, _, _, _ => False
 | n + 1, a, d, e, b, c => Z46.l5.b n a (fun f g => Z46.l5 n a f g b c) d e b c
def Z46.w (n : Nat) (c : L3 -> Int -> Int -> L7 -> L7 -> Prop) (a : L3) (b : Int) (K : L7) : Prop :=
 let d := decide (IntKind.wrap .i64 (b - (a.length : Int)) < 0); if d = true then K (- 1) else c a (IntKind.wrap .i64 (b - (a.length : Int))) 0 K K
def Z46.c : Nat -> L3 -> Int -> L7 -> Prop
 | 0, _, _, _ => False
 | n + 1, a, b, K => Z46.w n (Z46.l5 n) a b K
def Z47.w (n : Nat) (b : L3) (c : Int) (K : L7) : Prop :=
 Z46.c n b c fun a => if decide (a < 0) then K (- 1) else K a
def Z47.c : Nat -> L3 -> Int -> L7 -> Prop
 | 0, _, _, _ => False
 | n + 1, a, b, K => Z47.w n a b K
def Z43.w (n : Nat) (f : Int) (g : Bool) (c d : L3) (e : Int) (K : L7) : Prop :=
 Z47.c n c e fun a => if decide (a < 0) then K (- 1) else (Z47.c n d a fun b => if decide (b < 0) then K (- 1) else K b)
def Z43.c : Nat -> Int -> Bool -> L3 -> L3 -> Int -> L7 -> Prop
 | 0, _, _, _, _, _, _ => False
 | n + 1, a, b, c, d, e, K => Z43.w n a b c d e K
def Z44.l5.b (n : Nat) (b : L2) (e : Int -> Int -> Prop) (c a : Int) (f g : L7) : Prop :=
 if decide (a < b.length) then grd (decide (0 <= a) && decide (a < b.length)) (Z43.c n ((rd b (Int.toNat a)).1) (((rd b (Int.toNat a)).2).1) ((((rd b (Int.toNat a)).2).2).1) ((((rd b (Int.toNat a)).2).2).2) c fun d => if decide (d < 0) then g (- 1) else e d (IntKind.wrap .i64 (a + 1))) else f c
def Z44.l5 : Nat -> L2 -> Int -> Int -> L7 -> L7 -> Prop
 | 0, _, _, _, _, _ => False
 | n + 1, a, d, e, b, c => Z44.l5.b n a (fun f g => Z44.l5 n a f g b c) d e b c
def Z44.w (n : Nat) (c : L2 -> Int -> Int -> L7 -> L7 -> Prop) (a : L2) (b : Int) (K : L7) : Prop :=
 let d := decide (IntKind.wrap .i64 (b - (a.length : Int)) < 0); if d = true then K (- 1) else c a (IntKind.wrap .i64 (b - (a.length : Int))) 0 K K
def Z44.c : Nat -> L2 -> Int -> L7 -> Prop
 | 0, _, _, _ => False
 | n + 1, a, b, K => Z44.w n (Z44.l5 n) a b K
def Z50.w (n : Nat) (a : L5) (b : Int) (K : L5 -> Int -> Prop) : Prop :=
 K a b
def Z50.c : Nat -> L5 -> Int -> (L5 -> Int -> Prop) -> Prop
 | 0, _, _, _ => False
 | n + 1, a, b, K => Z50.w n a b K
def Z51.l3.b (n : Nat) (b : L1) (d : Int -> L1 -> Prop) (a : Int) (c : L1) (e : L1 -> Prop) : Prop :=
 if decide (a < b.length) then grd (decide (0 <= a) && decide (a < b.length)) (Z50.c n ((rd b (Int.toNat a)).1) ((rd b (Int.toNat a)).2) fun f g => grd (decide (0 <= a) && decide (a < c.length)) (d (IntKind.wrap .i64 (a + 1)) (List.set c (Int.toNat a) (f, g)))) else e c
def Z51.l3 : Nat -> L1 -> Int -> L1 -> (L1 -> Prop) -> Prop
 | 0, _, _, _, _ => False
 | n + 1, a, c, d, b => Z51.l3.b n a (fun e f => Z51.l3 n a e f b) c d b
def Z51.w (n : Nat) (b : L1 -> Int -> L1 -> (L1 -> Prop) -> Prop) (a : L1) (K : L1 -> Prop) : Prop :=
 grd ((decide (0 <= (a.length : Int)) && decide ((a.length : Int) <= 2814749767106)) && decide ((a.length : Int) = (a.length : Int))) (let c := List.replicate (Int.toNat (a.length : Int)) (([] : L5), 0); b a 0 c K)
def Z51.c : Nat -> L1 -> (L1 -> Prop) -> Prop
 | 0, _, _ => False
 | n + 1, a, K => Z51.w n (Z51.l3 n) a K
def Z58.l3.b (n : Nat) (b : L4) (d : L9) (a : Int) (c : L4) (e : L8) : Prop :=
 if decide (a < b.length) then grd (decide (0 <= a) && decide (a < b.length)) (grd (decide (0 <= a) && decide (a < c.length)) (let f := List.set c (Int.toNat a) (rd b (Int.toNat a)); d (IntKind.wrap .i64 (a + 1)) f)) else e c
def Z58.l3 : Nat -> L4 -> Int -> L4 -> L8 -> Prop
 | 0, _, _, _, _ => False
 | n + 1, a, c, d, b => Z58.l3.b n a (fun e f => Z58.l3 n a e f b) c d b
def Z58.w (n : Nat) (b : L4 -> Int -> L4 -> L8 -> Prop) (a : L4) (K : L8) : Prop :=
 grd ((decide (0 <= (a.length : Int)) && decide ((a.length : Int) <= 7818749353073)) && decide ((a.length : Int) = (a.length : Int))) (let c := List.replicate (Int.toNat (a.length : Int)) 0; b a 0 c K)
def Z58.c : Nat -> L4 -> L8 -> Prop
 | 0, _, _ => False
 | n + 1, a, K => Z58.w n (Z58.l3 n) a K
def Z49.w (n : Nat) (a : Int) (b : L4) (K : L9) : Prop :=
 Z58.c n b (K a)
def Z49.c : Nat -> Int -> L4 -> L9 -> Prop
 | 0, _, _, _ => False
 | n + 1, a, b, K => Z49.w n a b K
def Z52.l3.b (n : Nat) (b : L4) (d : L9) (a : Int) (c : L4) (e : L8) : Prop :=
 if decide (a < b.length) then grd (decide (0 <= a) && decide (a < b.length)) (grd (decide (0 <= a) && decide (a < c.length)) (let f := List.set c (Int.toNat a) (rd b (Int.toNat a)); d (IntKind.wrap .i64 (a + 1)) f)) else e c
def Z52.l3 : Nat -> L4 -> Int -> L4 -> L8 -> Prop
 | 0, _, _, _, _ => False
 | n + 1, a, c, d, b => Z52.l3.b n a (fun e f => Z52.l3 n a e f b) c d b
def Z52.w (n : Nat) (b : L4 -> Int -> L4 -> L8 -> Prop) (a : L4) (K : L8) : Prop :=
 grd ((decide (0 <= (a.length : Int)) && decide ((a.length : Int) <= 7818749353073)) && decide ((a.length : Int) = (a.length : Int))) (let c := List.replicate (Int.toNat (a.length : Int)) 0; b a 0 c K)
def Z52.c : Nat -> L4 -> L8 -> Prop
 | 0, _, _ => False
 | n + 1, a, K => Z52.w n (Z52.l3 n) a K
def Z55.w (n : Nat) (a b c d e : Int) (f g : L4) (K : Int -> Int -> Int -> Int -> Int -> L4 -> L4 -> Prop) : Prop :=
 Z49.c n e f fun h i => Z52.c n g (K a b c d h i)
def Z55.c : Nat -> Int -> Int -> Int -> Int -> Int -> L4 -> L4 -> (Int -> Int -> Int -> Int -> Int -> L4 -> L4 -> Prop) -> Prop
 | 0, _, _, _, _, _, _, _, _ => False
 | n + 1, a, b, c, d, e, f, g, K => Z55.w n a b c d e f g K
def Z56.l3.b (n : Nat) (b : L3) (d : Int -> L3 -> Prop) (a : Int) (c : L3) (e : L3 -> Prop) : Prop :=
 if decide (a < b.length) then grd (decide (0 <= a) && decide (a < b.length)) (let f : L4 := ((((((rd b (Int.toNat a)).2).2).2).2).2).1; let g : L4 := ((((((rd b (Int.toNat a)).2).2).2).2).2).2; Z55.c n ((rd b (Int.toNat a)).1) (((rd b (Int.toNat a)).2).1) ((((rd b (Int.toNat a)).2).2).1) (((((rd b (Int.toNat a)).2).2).2).1) ((((((rd b (Int.toNat a)).2).2).2).2).1) f g fun h i j k l m o => grd (decide (0 <= a) && decide (a < c.length)) (let p := List.set c (Int.toNat a) (h, i, j, k, l, m, o); d (IntKind.wrap .i64 (a + 1)) p)) else e c
def Z56.l3 : Nat -> L3 -> Int -> L3 -> (L3 -> Prop) -> Prop
 | 0, _, _, _, _ => False
 | n + 1, a, c, d, b => Z56.l3.b n a (fun e f => Z56.l3 n a e f b) c d b
def Z56.w (n : Nat) (b : L3 -> Int -> L3 -> (L3 -> Prop) -> Prop) (a : L3) (K : L3 -> Prop) : Prop :=
 grd ((decide (0 <= (a.length : Int)) && decide ((a.length : Int) <= 790660046940)) && decide ((a.length : Int) = (a.length : Int))) (let c := List.replicate (Int.toNat (a.length : Int)) (0, 0, 0, 0, 0, ([] : L4), ([] : L4)); b a 0 c K)
def Z56.c : Nat -> L3 -> (L3 -> Prop) -> Prop
 | 0, _, _ => False
 | n + 1, a, K => Z56.w n (Z56.l3 n) a K
def Z57.w (n : Nat) (a : L3) (K : L3 -> Prop) : Prop :=
 Z56.c n a K
def Z57.c : Nat -> L3 -> (L3 -> Prop) -> Prop
 | 0, _, _ => False
 | n + 1, a, K => Z57.w n a K
def Z53.w (n : Nat) (a : Int) (b : Bool) (c d : L3) (K : Int -> Bool -> L3 -> L3 -> Prop) : Prop :=
 Z57.c n c fun e => Z57.c n d (K a b e)
def Z53.c : Nat -> Int -> Bool -> L3 -> L3 -> (Int -> Bool -> L3 -> L3 -> Prop) -> Prop
 | 0, _, _, _, _, _ => False
 | n + 1, a, b, c, d, K => Z53.w n a b c d K
def Z54.l3.b (n : Nat) (b : L2) (d : Int -> L2 -> Prop) (a : Int) (c : L2) (e : L2 -> Prop) : Prop :=
 if decide (a < b.length) then grd (decide (0 <= a) && decide (a < b.length)) (Z53.c n ((rd b (Int.toNat a)).1) (((rd b (Int.toNat a)).2).1) ((((rd b (Int.toNat a)).2).2).1) ((((rd b (Int.toNat a)).2).2).2) fun f g h i => grd (decide (0 <= a) && decide (a < c.length)) (let j := List.set c (Int.toNat a) (f, g, h, i); d (IntKind.wrap .i64 (a + 1)) j)) else e c
def Z54.l3 : Nat -> L2 -> Int -> L2 -> (L2 -> Prop) -> Prop
 | 0, _, _, _, _ => False
 | n + 1, a, c, d, b => Z54.l3.b n a (fun e f => Z54.l3 n a e f b) c d b
def Z54.w (n : Nat) (b : L2 -> Int -> L2 -> (L2 -> Prop) -> Prop) (a : L2) (K : L2 -> Prop) : Prop :=
 grd ((decide (0 <= (a.length : Int)) && decide ((a.length : Int) <= 1082596064271)) && decide ((a.length : Int) = (a.length : Int))) (let c := List.replicate (Int.toNat (a.length : Int)) (0, false, ([] : List qB), ([] : List qB)); b a 0 c K)
def Z54.c : Nat -> L2 -> (L2 -> Prop) -> Prop
 | 0, _, _ => False
 | n + 1, a, K => Z54.w n (Z54.l3 n) a K
def Z75.w (n : Nat) (a : Int) (K : L6) : Prop :=
 if decide (a >= 48) then K (decide (a <= 57)) else K false
def Z75.c : Nat -> Int -> L6 -> Prop
 | 0, _, _ => False
 | n + 1, a, K => Z75.w n a K
def Z78.l4.b (n : Nat) (b : L5) (e : L7) (a : Int) (f : Prop) (c : L6) : Prop :=
 let d := e (IntKind.wrap .i64 (a + 1)); if decide (a < b.length) then grd (decide (0 <= a) && decide (a < b.length)) (let g := ((List.getD b (Int.toNat a) 0).toNat : Int); Z75.c n g fun h => if (!h) = true then grd (decide (0 <= a) && decide (a < b.length)) (let i := ((List.getD b (Int.toNat a) 0).toNat : Int); if (decide (i < 97)) = false then grd (decide (0 <= a) && decide (a < b.length)) (let j := ((List.getD b (Int.toNat a) 0).toNat : Int); if decide (j > 122) then c false else d) else c false) else d) else f
def Z78.l4 : Nat -> L5 -> Int -> Prop -> L6 -> Prop
 | 0, _, _, _, _ => False
 | n + 1, a, d, b, c => Z78.l4.b n a (fun e => Z78.l4 n a e b c) d b c
def Z78.w (n : Nat) (b : L5 -> Int -> Prop -> L6 -> Prop) (a : L5) (K : L6) : Prop :=
 if (decide ((a.length : Int) < 1)) = false then (if (decide ((a.length : Int) > 12)) = false then grd (decide (0 < (a.length : Int))) (Z75.c n ((List.getD a 0 0).toNat : Int) fun c => if c = true then K false else b a 0 (K true) K) else K false) else K false
def Z78.c : Nat -> L5 -> L6 -> Prop
 | 0, _, _ => False
 | n + 1, a, K => Z78.w n (Z78.l4 n) a K
def Z77.w (n : Nat) (a b c : Int) (K : L6) : Prop :=
 if decide (a >= b) then K (decide (a <= c)) else K false
def Z77.c : Nat -> Int -> Int -> Int -> L6 -> Prop
 | 0, _, _, _, _ => False
 | n + 1, a, b, c, K => Z77.w n a b c K
def Z67.l10.b (n : Nat) (a : L1) (d b : Int) (e : L7) (c : Int) (f : L1 -> Int -> Int -> Prop) (g : L6) : Prop :=
 if decide (c < b) then grd (decide (0 <= c) && decide (c < a.length)) (grd (decide (0 <= b) && decide (b < a.length)) (let h : Bool := ((rd a (Int.toNat c)).1) == ((rd a (Int.toNat b)).1); if h = true then g false else e (IntKind.wrap .i64 (c + 1)))) else f a d b
def Z67.l10 : Nat -> L1 -> Int -> Int -> Int -> (L1 -> Int -> Int -> Prop) -> L6 -> Prop
 | 0, _, _, _, _, _, _ => False
 | n + 1, a, b, c, f, d, e => Z67.l10.b n a b c (fun g => Z67.l10 n a b c g d e) f d e
def Z67.j3 (c : L6) (d : L1 -> Int -> Int -> Prop) (e : L1 -> Int -> Int -> Int -> (L1 -> Int -> Int -> Prop) -> L6 -> Prop) (f : L1) (g h : Int) : Prop :=
 e f g h 0 (fun b i a => grd (decide (0 <= a) && decide (a < b.length)) (let j := IntKind.wrap .i64 (i + ((rd b (Int.toNat a)).2)); d b j (IntKind.wrap .i64 (a + 1)))) c
def Z67.l5.b (n : Nat) (e : L1 -> Int -> Int -> Int -> (L1 -> Int -> Int -> Prop) -> L6 -> Prop) (f : L1 -> Int -> Int -> Prop) (b : L1) (d a : Int) (g : L7) (c : L6) : Prop :=
 if decide (a < b.length) then grd (decide (0 <= a) && decide (a < b.length)) (Z78.c n ((rd b (Int.toNat a)).1) fun h => if (!h) = false then grd (decide (0 <= a) && decide (a < b.length)) (Z77.c n ((rd b (Int.toNat a)).2) 1 4096 fun i => if (!i) = true then c false else Z67.j3 c f e b d a) else c false) else g d
def Z67.l5 : Nat -> L1 -> Int -> Int -> L7 -> L6 -> Prop
 | 0, _, _, _, _, _ => False
 | n + 1, c, d, e, a, b => Z67.l5.b n (Z67.l10 n) (fun f g h => Z67.l5 n f g h a b) c d e a b
def Z67.w (n : Nat) (b : L1 -> Int -> Int -> L7 -> L6 -> Prop) (a : L1) (K : L6) : Prop :=
 if decide ((a.length : Int) > 60) then K false else b a 0 0 (fun c => K (decide (c <= 20000))) K
def Z67.c : Nat -> L1 -> L6 -> Prop
 | 0, _, _ => False
 | n + 1, a, K => Z67.w n (Z67.l5 n) a K
def Z80.w (n : Nat) (a : Int) (b : L4) (K : L6) : Prop :=
 if decide (a = 0) then K (decide ((b.length : Int) = 0)) else K false
def Z80.c : Nat -> Int -> L4 -> L6 -> Prop
 | 0, _, _, _ => False
 | n + 1, a, b, K => Z80.w n a b K
def Z81.w (n : Nat) (a : Int) (K : L6) : Prop :=
 Z77.c n a 4 9 K
def Z81.c : Nat -> Int -> L6 -> Prop
 | 0, _, _ => False
 | n + 1, a, K => Z81.w n a K
def Z74.w (n : Nat) (e : Int) (b : L4) (a : Int) (K : L7) : Prop :=
 grd (decide (0 <= IntKind.wrap .i64 (Int.tdiv a 64)) && decide (IntKind.wrap .i64 (Int.tdiv a 64) < (b.length : Int))) (let c : Int := rd b (Int.toNat (IntKind.wrap .i64 (Int.tdiv a 64))); grd (decide (0 <= IntKind.wrap .u64 (Int.tmod a 64))) (let d := Int.fdiv c (2 ^ (Nat.min (Int.toNat (IntKind.wrap .u64 (Int.tmod a 64))) 64)); K (IntKind.wrap .u8 (qJz .and .u64 d 1))))
def Z74.c : Nat -> Int -> L4 -> Int -> L7 -> Prop
 | 0, _, _, _, _ => False
 | n + 1, a, b, c, K => Z74.w n a b c K
def Z66.l4.b (n : Nat) (c : Int) (b : L4) (d : L7) (a : Int) (e : Prop) (f : L6) : Prop :=
 let g := decide (a < IntKind.wrap .i64 (64 * (b.length : Int))); if g = true then (Z74.c n c b a fun h => if (!(decide (h = 0))) = true then f false else d (IntKind.wrap .i64 (a + 1))) else e
def Z66.l4 : Nat -> Int -> L4 -> Int -> Prop -> L6 -> Prop
 | 0, _, _, _, _, _ => False
 | n + 1, a, b, e, c, d => Z66.l4.b n a b (fun f => Z66.l4 n a b f c d) e c d
def Z66.w (n : Nat) (c : Int -> L4 -> Int -> Prop -> L6 -> Prop) (a : Int) (b : L4) (K : L6) : Prop :=
 Z77.c n a 1 4096 fun d => if (!d) = false then (let e := IntKind.wrap .i64 (Int.tdiv (IntKind.wrap .i64 (a + 63)) 64); if (!(decide (b.length = e))) = true then K false else c a b a (K true) K) else K false
def Z66.c : Nat -> Int -> L4 -> L6 -> Prop
 | 0, _, _, _ => False
 | n + 1, a, b, K => Z66.w n (Z66.l4 n) a b K
def Z79.l2.b (n : Nat) (c : L1) (d e f g h i : Int) (j b : L4) (k : L7) (a : Int) (l : L11) (m : L6) : Prop :=
 if decide (a < b.length) then grd (decide (0 <= a) && decide (a < b.length)) (Z77.c n (rd b (Int.toNat a)) 0 (IntKind.wrap .i64 (d - 1)) fun o => if (!o) = true then m false else k (IntKind.wrap .i64 (a + 1))) else l c e f g h i j b
def Z79.l2 : Nat -> L1 -> Int -> Int -> Int -> Int -> Int -> Int -> L4 -> L4 -> Int -> L11 -> L6 -> Prop
 | 0, _, _, _, _, _, _, _, _, _, _, _, _ => False
 | n + 1, a, b, c, d, e, f, g, h, i, l, j, k => Z79.l2.b n a b c d e f g h i (fun m => Z79.l2 n a b c d e f g h i m j k) l j k
def Z79.q7.b (n : Nat) (a : L1) (b : Bool) (c d e f g : Int) (h i : L4) (j : L6) (k : L11) : Prop :=
 if b = true then j false else k a c d e f g h i
def Z79.q7 : Nat -> L1 -> Bool -> Int -> Int -> Int -> Int -> Int -> L4 -> L4 -> L6 -> L11 -> Prop
 | 0, _, _, _, _, _, _, _, _, _, _, _ => False
 | n + 1, a, b, c, d, e, f, g, h, i, j, k => Z79.q7.b n a b c d e f g h i j k
def Z79.q8.b (n : Nat) (d : L1) (b e i j f : Int) (g c : L4) (a : L6) : Prop :=
 if decide (b = 1) then (if decide ((c.length : Int) = 0) then Z77.c n e 0 (IntKind.wrap .i64 ((d.length : Int) - 1)) a else a false) else (if decide (b = 2) then (if decide ((c.length : Int) = 0) then Z66.c n f g a else a false) else (if decide (b = 3) then a (decide ((c.length : Int) >= 2)) else (Z81.c n b fun h => if h = true then a (decide ((c.length : Int) = 1)) else a false)))
def Z79.q8 : Nat -> L1 -> Int -> Int -> Int -> Int -> Int -> L4 -> L4 -> L6 -> Prop
 | 0, _, _, _, _, _, _, _, _, _ => False
 | n + 1, a, b, c, d, e, f, g, h, i => Z79.q8.b n a b c d e f g h i
def Z79.w (n : Nat) (p : L1 -> Int -> Int -> Int -> Int -> Int -> Int -> L4 -> L4 -> Int -> L11 -> L6 -> Prop) (g : L1 -> Bool -> Int -> Int -> Int -> Int -> Int -> L4 -> L4 -> L6 -> L11 -> Prop) (h : L1 -> Int -> Int -> Int -> Int -> Int -> L4 -> L4 -> L6 -> Prop) (q : L1) (r s t u v : Int) (w x : L4) (y : Int) (K : L6) : Prop :=
 p q y r s t u v w x 0 (fun i a b c d e f j => let l := Z81.c n a fun z => if (!z) = true then (g i (!(decide (c = 0))) a b c d e f j K fun A B D E F G H I => h A B D E F G H I K) else (g i false a b c d e f j K fun J L M N O R S T => h J L M N O R S T K); let k := g i true a b c d e f j K fun U V Y Z a0 a1 a2 a3 => h U V Y Z a0 a1 a2 a3 K; let m := if (!(decide (a = 4))) = true then (if (!(decide (d = 0))) = false then l else k) else l; let o := if (!(decide (a = 2))) = true then (Z80.c n e f fun a4 => if (!a4) = false then m else k) else m; if (!(decide (a = 1))) = true then (if (!(decide (b = 0))) = false then o else k) else o) K
def Z79.c : Nat -> L1 -> Int -> Int -> Int -> Int -> Int -> L4 -> L4 -> Int -> L6 -> Prop
 | 0, _, _, _, _, _, _, _, _, _, _ => False
 | n + 1, a, b, c, d, e, f, g, h, i, K => Z79.w n (Z79.l2 n) (Z79.q7 n) (Z79.q8 n) a b c d e f g h i K
def Z82.l3.b (n : Nat) (f : L1) (c : L4) (g h i j k : Int) (l b : L4) (m : Int -> Int -> Prop) (d a : Int) (o : L1 -> Int -> Int -> Int -> Int -> Int -> Int -> L4 -> L4 -> Prop) : Prop :=
 if decide (a < b.length) then grd (decide (0 <= a) && decide (a < b.length)) (grd (decide (0 <= rd b (Int.toNat a)) && decide (rd b (Int.toNat a) < (c.length : Int))) (let e := IntKind.wrap .i64 (d + (rd c (Int.toNat (rd b (Int.toNat a))))); m (if e < 8192 then e else 8192) (IntKind.wrap .i64 (a + 1)))) else o f d g h i j k l b
def Z82.l3 : Nat -> L1 -> L4 -> Int -> Int -> Int -> Int -> Int -> L4 -> L4 -> Int -> Int -> (L1 -> Int -> Int -> Int -> Int -> Int -> Int -> L4 -> L4 -> Prop) -> Prop
 | 0, _, _, _, _, _, _, _, _, _, _, _, _ => False
 | n + 1, a, b, c, d, e, f, g, h, i, k, l, j => Z82.l3.b n a b c d e f g h i (fun m o => Z82.l3 n a b c d e f g h i m o j) k l j
def Z82.j2 (K : L7) (n : Nat) (a c b : Int) (d : Bool) : Prop :=
 if d = true then (Z77.c n b 0 4096 fun e => if (!e) = true then K (- 1) else K a) else (if decide (c = 9) then (Z77.c n b 1 4096 fun f => if (!f) = true then K (- 1) else K (IntKind.wrap .i64 (a * b))) else K a)
def Z82.j3 (K : L7) (n : Nat) (c a b : Int) (d : Bool) : Prop :=
 if d = true then (Z77.c n b 0 4096 fun e => if (!e) = true then K (- 1) else K (IntKind.wrap .i64 (c + b))) else (if decide (a = 7) then Z82.j2 K n c a b true else Z82.j2 K n c a b (decide (a = 8)))
def Z82.w (n : Nat) (g : L1 -> L4 -> Int -> Int -> Int -> Int -> Int -> L4 -> L4 -> Int -> Int -> (L1 -> Int -> Int -> Int -> Int -> Int -> Int -> L4 -> L4 -> Prop) -> Prop) (h : L1) (i j k l m : Int) (o p q : L4) (K : L7) : Prop :=
 g h q i j k l m o p 0 0 fun f c a d b e r t u => if decide (a = 1) then grd (decide (0 <= d) && decide (d < f.length)) (K ((rd f (Int.toNat d)).2)) else (if decide (a = 2) then K r else (if decide (a = 4) then (if (decide (e < 0)) = false then (if (decide (b < e)) = false then (if decide (b >= c) then K (- 1) else (let s := IntKind.wrap .i64 ((IntKind.wrap .i64 (b - e)) + 1); K s)) else K (- 1)) else K (- 1)) else (if decide (a = 5) then Z82.j3 K n c a b true else Z82.j3 K n c a b (decide (a = 6)))))
def Z82.c : Nat -> L1 -> Int -> Int -> Int -> Int -> Int -> L4 -> L4 -> L4 -> L7 -> Prop
 | 0, _, _, _, _, _, _, _, _, _, _ => False
 | n + 1, a, b, c, d, e, f, g, h, i, K => Z82.w n (Z82.l3 n) a b c d e f g h i K
def Z83.l16.b (n : Nat) (f : L1) (a : Int) (g h : L4) (c : L3) (i : Int -> List Bool -> Prop) (b : Int) (e : List Bool) (j : L1 -> Int -> L4 -> List Bool -> L4 -> L3 -> Prop) : Prop :=
 grd (decide (0 <= a) && decide (a < c.length)) (let k : L4 := ((((((rd c (Int.toNat a)).2).2).2).2).2).2; if decide (b < k.length) then grd (decide (0 <= a) && decide (a < c.length)) (let d : L4 := ((((((rd c (Int.toNat a)).2).2).2).2).2).2; grd (decide (0 <= b) && decide (b < d.length)) (grd (decide (0 <= rd d (Int.toNat b)) && decide (rd d (Int.toNat b) < (e.length : Int))) (let l := List.set e (Int.toNat (rd d (Int.toNat b))) true; i (IntKind.wrap .i64 (b + 1)) l))) else j f a g e h c)
def Z83.l16 : Nat -> L1 -> Int -> L4 -> L4 -> L3 -> Int -> List Bool -> (L1 -> Int -> L4 -> List Bool -> L4 -> L3 -> Prop) -> Prop
 | 0, _, _, _, _, _, _, _, _ => False
 | n + 1, a, b, c, d, e, g, h, f => Z83.l16.b n a b c d e (fun i j => Z83.l16 n a b c d e i j f) g h f
def Z83.l7.b (n : Nat) (i : L1 -> Int -> L4 -> L4 -> L3 -> Int -> List Bool -> (L1 -> Int -> L4 -> List Bool -> L4 -> L3 -> Prop) -> Prop) (j : L1 -> Int -> L4 -> L4 -> List Bool -> L3 -> Prop) (e : L1) (a : Int) (c d : L4) (g : List Bool) (b : L3) (k : L4 -> L4 -> List Bool -> Prop) (h : L8) : Prop :=
 if decide (a < b.length) then grd (decide (0 <= a) && decide (a < b.length)) (let l : L4 := ((((((rd b (Int.toNat a)).2).2).2).2).2).1; let m : L4 := ((((((rd b (Int.toNat a)).2).2).2).2).2).2; Z79.c n e ((rd b (Int.toNat a)).1) (((rd b (Int.toNat a)).2).1) ((((rd b (Int.toNat a)).2).2).1) (((((rd b (Int.toNat a)).2).2).2).1) ((((((rd b (Int.toNat a)).2).2).2).2).1) l m a fun o => if (!o) = true then h d else grd (decide (0 <= a) && decide (a < b.length)) (let p : L4 := ((((((rd b (Int.toNat a)).2).2).2).2).2).1; let q : L4 := ((((((rd b (Int.toNat a)).2).2).2).2).2).2; Z82.c n e ((rd b (Int.toNat a)).1) (((rd b (Int.toNat a)).2).1) ((((rd b (Int.toNat a)).2).2).1) (((((rd b (Int.toNat a)).2).2).2).1) ((((((rd b (Int.toNat a)).2).2).2).2).1) p q c fun f => Z77.c n f 1 4096 fun r => if (!r) = true then h d else grd (decide (c.length + ([f] : L4).length <= 7818749353073)) (i e a d (c ++ ([f] : L4)) b 0 g fun s t u v w => j s (IntKind.wrap .i64 (t + 1)) w u v))) else k c d g
def Z83.l7 : Nat -> L1 -> Int -> L4 -> L4 -> List Bool -> L3 -> (L4 -> L4 -> List Bool -> Prop) -> L8 -> Prop
 | 0, _, _, _, _, _, _, _, _ => False
 | n + 1, c, d, e, f, g, h, a, b => Z83.l7.b n (Z83.l16 n) (fun i j k l m o => Z83.l7 n i j k l m o a b) c d e f g h a b
def Z83.l20.b (n : Nat) (c d : L4) (b : List Bool) (e : L7) (a : Int) (f g : L8) : Prop :=
 let h := decide (IntKind.wrap .i64 (a + 1) < (b.length : Int)); if h = true then grd (decide (0 <= a) && decide (a < b.length)) (if (!(rd b (Int.toNat a))) = true then g d else e (IntKind.wrap .i64 (a + 1))) else f c
def Z83.l20 : Nat -> L4 -> L4 -> List Bool -> Int -> L8 -> L8 -> Prop
 | 0, _, _, _, _, _, _ => False
 | n + 1, a, b, c, f, d, e => Z83.l20.b n a b c (fun g => Z83.l20 n a b c g d e) f d e
def Z83.j0 (K : L8) (b : L1) (a : L3) (c : L1 -> Int -> L4 -> L4 -> List Bool -> L3 -> (L4 -> L4 -> List Bool -> Prop) -> L8 -> Prop) (d : L4 -> L4 -> List Bool -> Int -> L8 -> L8 -> Prop) : Prop :=
 grd ((decide (0 <= (a.length : Int)) && decide ((a.length : Int) <= 35184372088832)) && decide ((a.length : Int) = (a.length : Int))) (let e := List.replicate (Int.toNat (a.length : Int)) false; c b 0 ([] : L4) ([] : L4) e a (fun f g h => d f g h 0 K K) K)
def Z83.w (n : Nat) (d : L1 -> Int -> L4 -> L4 -> List Bool -> L3 -> (L4 -> L4 -> List Bool -> Prop) -> L8 -> Prop) (e : L4 -> L4 -> List Bool -> Int -> L8 -> L8 -> Prop) (c : L1) (a : L3) (K : L8) : Prop :=
 let b := K ([] : L4); Z67.c n c fun f => if (!f) = false then (if (decide ((a.length : Int) < 1)) = false then (if decide ((a.length : Int) > 400) then b else Z83.j0 K c a d e) else b) else b
def Z83.c : Nat -> L1 -> L3 -> L8 -> Prop
 | 0, _, _, _ => False
 | n + 1, a, b, K => Z83.w n (Z83.l7 n) (Z83.l20 n) a b K
def Z71.w (n : Nat) (b : L1) (c : L3) (K : L7) : Prop :=
 Z83.c n b c fun a => if decide ((a.length : Int) = 0) then K (- 1) else grd (decide (0 <= IntKind.wrap .i64 ((a.length : Int) - 1)) && decide (IntKind.wrap .i64 ((a.length : Int) - 1) < (a.length : Int))) (let d := Int.toNat (IntKind.wrap .i64 ((a.length : Int) - 1)); K (rd a d))
def Z71.c : Nat -> L1 -> L3 -> L7 -> Prop
 | 0, _, _, _ => False
 | n + 1, a, b, K => Z71.w n a b K
def Z68.l4.b (n : Nat) (d : L1) (b : L2) (g : L7) (a : Int) (h : Prop) (i : L6) : Prop :=
 let c := i false; if decide (a < b.length) then grd (decide (0 <= a) && decide (a < b.length)) (Z71.c n d ((((rd b (Int.toNat a)).2).2).1) fun e => let f := if (decide (e < 0)) = false then grd (decide (0 <= a) && decide (a < b.length)) (Z71.c n d ((((rd b (Int.toNat a)).2).2).2) fun j => if (!(decide (j = e))) = true then c else g (IntKind.wrap .i64 (a + 1))) else c; grd (decide (0 <= a) && decide (a < b.length)) (Z77.c n ((rd b (Int.toNat a)).1) 1 1000000 fun k => if (!k) = false then (if decide (a > 0) then grd (decide (0 <= a) && decide (a < b.length)) (grd (decide (0 <= IntKind.wrap .i64 (a - 1)) && decide (IntKind.wrap .i64 (a - 1) < (b.length : Int))) (let l : qA := rd b (Int.toNat (IntKind.wrap .i64 (a - 1))); if (decide ((rd b (Int.toNat a)).1 <= l.1)) = false then f else c)) else f) else c)) else h
def Z68.l4 : Nat -> L1 -> L2 -> Int -> Prop -> L6 -> Prop
 | 0, _, _, _, _, _ => False
 | n + 1, a, b, e, c, d => Z68.l4.b n a b (fun f => Z68.l4 n a b f c d) e c d
def Z68.w (n : Nat) (c : L1 -> L2 -> Int -> Prop -> L6 -> Prop) (a : L1) (b : L2) (K : L6) : Prop :=
 Z67.c n a fun d => if (!d) = false then (if decide ((b.length : Int) > 60) then K false else c a b 0 (K true) K) else K false
def Z68.c : Nat -> L1 -> L2 -> L6 -> Prop
 | 0, _, _, _ => False
 | n + 1, a, b, K => Z68.w n (Z68.l4 n) a b K
def Z70.j1 (c : L1 -> Int -> L4 -> L3 -> Prop) (d : L7) (e : L1) (a f : Int) (b : L4) (g : L3) (h : Bool) : Prop :=
 if h = true then grd (decide (b.length + ([a] : L4).length <= 7818749353073)) (c e a (b ++ ([a] : L4)) g) else d (IntKind.wrap .i64 (f + 1))
def Z70.l8.b (n : Nat) (d : L1) (c : Int) (e : L4) (b : L3) (g : L7) (a : Int) (f : L1 -> Int -> L4 -> L3 -> Prop) : Prop :=
 if decide (a < b.length) then grd (decide (0 <= a) && decide (a < b.length)) (if decide ((rd b (Int.toNat a)).1 = 1) then grd (decide (0 <= a) && decide (a < b.length)) (let h := decide (((rd b (Int.toNat a)).2).1 = c); Z70.j1 f g d c a e b h) else Z70.j1 f g d c a e b false) else f d c e b
def Z70.l8 : Nat -> L1 -> Int -> L4 -> L3 -> Int -> (L1 -> Int -> L4 -> L3 -> Prop) -> Prop
 | 0, _, _, _, _, _, _ => False
 | n + 1, a, b, c, d, f, e => Z70.l8.b n a b c d (fun g => Z70.l8 n a b c d g e) f e
def Z70.l5.b (n : Nat) (d : L1 -> Int -> L4 -> L3 -> Int -> (L1 -> Int -> L4 -> L3 -> Prop) -> Prop) (e : L1 -> Int -> L4 -> L3 -> Prop) (a : L1) (b : Int) (c : L4) (f : L3) (g : L8) : Prop :=
 if decide (b < a.length) then (d a b c f 0 fun h i => e h (IntKind.wrap .i64 (i + 1))) else g c
def Z70.l5 : Nat -> L1 -> Int -> L4 -> L3 -> L8 -> Prop
 | 0, _, _, _, _, _ => False
 | n + 1, b, c, d, e, a => Z70.l5.b n (Z70.l8 n) (fun f g h i => Z70.l5 n f g h i a) b c d e a
def Z70.w (n : Nat) (c : L1 -> Int -> L4 -> L3 -> L8 -> Prop) (a : L1) (b : L3) (K : L8) : Prop :=
 Z71.c n a b fun d => if decide (d < 0) then K ([] : L4) else c a 0 ([] : L4) b K
def Z70.c : Nat -> L1 -> L3 -> L8 -> Prop
 | 0, _, _, _ => False
 | n + 1, a, b, K => Z70.w n (Z70.l5 n) a b K
def Z76.l2.b (n : Nat) (b : L4) (c : Int) (d : L7) (a : Int) (e : Prop) (f : L6) : Prop :=
 if decide (a < b.length) then grd (decide (0 <= a) && decide (a < b.length)) (if decide (rd b (Int.toNat a) = c) then f true else d (IntKind.wrap .i64 (a + 1))) else e
def Z76.l2 : Nat -> L4 -> Int -> Int -> Prop -> L6 -> Prop
 | 0, _, _, _, _, _ => False
 | n + 1, a, b, e, c, d => Z76.l2.b n a b (fun f => Z76.l2 n a b f c d) e c d
def Z76.w (n : Nat) (a : L4 -> Int -> Int -> Prop -> L6 -> Prop) (b : L4) (c : Int) (K : L6) : Prop :=
 a b c 0 (K false) K
def Z76.c : Nat -> L4 -> Int -> L6 -> Prop
 | 0, _, _, _ => False
 | n + 1, a, b, K => Z76.w n (Z76.l2 n) a b K
def Z85.j1 (c : L9) (a : Int) (b : L4) : Prop :=
 grd (decide (0 <= IntKind.wrap .i64 (a - 1)) && decide (IntKind.wrap .i64 (a - 1) < (b.length : Int))) (let d : Int := rd b (Int.toNat (IntKind.wrap .i64 (a - 1))); grd (decide (0 <= a) && decide (a < b.length)) (c (IntKind.wrap .i64 (a - 1)) (List.set b (Int.toNat a) d)))
def Z85.l8.b (n : Nat) (d : L4) (b : Int) (f : L9) (a : Int) (c : L4) (g : L4 -> Int -> Int -> L4 -> Prop) : Prop :=
 let e := g d b a c; if decide (a > 0) then grd (decide (0 <= IntKind.wrap .i64 (a - 1)) && decide (IntKind.wrap .i64 (a - 1) < (c.length : Int))) (let h : Int := rd c (Int.toNat (IntKind.wrap .i64 (a - 1))); grd (decide (0 <= b) && decide (b < d.length)) (if decide (h > rd d (Int.toNat b)) then Z85.j1 f a c else e)) else e
def Z85.l8 : Nat -> L4 -> Int -> Int -> L4 -> (L4 -> Int -> Int -> L4 -> Prop) -> Prop
 | 0, _, _, _, _, _ => False
 | n + 1, a, b, d, e, c => Z85.l8.b n a b (fun f g => Z85.l8 n a b f g c) d e c
def Z85.l3.b (n : Nat) (i : L4 -> Int -> Int -> L4 -> (L4 -> Int -> Int -> L4 -> Prop) -> Prop) (g : L4 -> Int -> L4 -> Prop) (b : L4) (a : Int) (c : L4) (j : L8) : Prop :=
 if decide (a < b.length) then grd (decide (0 <= a) && decide (a < b.length)) (Z76.c n c (rd b (Int.toNat a)) fun k => if k = true then g b (IntKind.wrap .i64 (a + 1)) c else grd (decide (0 <= a) && decide (a < b.length)) (grd (decide (c.length + ([rd b (Int.toNat a)] : L4).length <= 7818749353073)) (let l : L4 := c ++ ([rd b (Int.toNat a)] : L4); i b a (c.length : Int) l fun e d f h => grd (decide (0 <= d) && decide (d < e.length)) (grd (decide (0 <= f) && decide (f < h.length)) (let m := List.set h (Int.toNat f) (rd e (Int.toNat d)); g e (IntKind.wrap .i64 (d + 1)) m))))) else j c
def Z85.l3 : Nat -> L4 -> Int -> L4 -> L8 -> Prop
 | 0, _, _, _, _ => False
 | n + 1, b, c, d, a => Z85.l3.b n (Z85.l8 n) (fun e f g => Z85.l3 n e f g a) b c d a
def Z85.w (n : Nat) (a : L4 -> Int -> L4 -> L8 -> Prop) (b : L4) (K : L8) : Prop :=
 a b 0 ([] : L4) K
def Z85.c : Nat -> L4 -> L8 -> Prop
 | 0, _, _ => False
 | n + 1, a, K => Z85.w n (Z85.l3 n) a K
def Z73.w (n : Nat) (a : L1) (g : Int) (h : Bool) (e f : L3) (K : L8) : Prop :=
 let b := Z70.c n a e fun c => Z70.c n a f fun d => grd (decide (c.length + d.length <= 7818749353073)) (Z85.c n (c ++ d) K); b /\ b
def Z73.c : Nat -> L1 -> Int -> Bool -> L3 -> L3 -> L8 -> Prop
 | 0, _, _, _, _, _, _ => False
 | n + 1, a, b, c, d, e, K => Z73.w n a b c d e K
def Z72.l2.b (n : Nat) (b c : L4) (d : L7) (a : Int) (e : Prop) (f : L6) : Prop :=
 if decide (a < b.length) then grd (decide (0 <= a) && decide (a < b.length)) (Z76.c n c (rd b (Int.toNat a)) fun g => if g = true then f true else d (IntKind.wrap .i64 (a + 1))) else e
def Z72.l2 : Nat -> L4 -> L4 -> Int -> Prop -> L6 -> Prop
 | 0, _, _, _, _, _ => False
 | n + 1, a, b, e, c, d => Z72.l2.b n a b (fun f => Z72.l2 n a b f c d) e c d
def Z72.w (n : Nat) (a : L4 -> L4 -> Int -> Prop -> L6 -> Prop) (b c : L4) (K : L6) : Prop :=
 a b c 0 (K false) K
def Z72.c : Nat -> L4 -> L4 -> L6 -> Prop
 | 0, _, _, _ => False
 | n + 1, a, b, K => Z72.w n (Z72.l2 n) a b K
def Z84.l3.b (n : Nat) (d e : Int) (c : L9) (a : Int) (b : L4) (f : L8) : Prop :=
 if decide (a < b.length) then grd (decide (0 <= a) && decide (a < b.length)) (if decide (rd b (Int.toNat a) = e) then grd (decide (0 <= a) && decide (a < b.length)) (c (IntKind.wrap .i64 (a + 1)) (List.set b (Int.toNat a) d)) else c (IntKind.wrap .i64 (a + 1)) b) else f b
def Z84.l3 : Nat -> Int -> Int -> Int -> L4 -> L8 -> Prop
 | 0, _, _, _, _, _ => False
 | n + 1, a, b, d, e, c => Z84.l3.b n a b (fun f g => Z84.l3 n a b f g c) d e c
def Z84.w (n : Nat) (d : Int -> Int -> Int -> L4 -> L8 -> Prop) (a : L4) (b c : Int) (K : L8) : Prop :=
 grd (decide (0 <= b) && decide (b < a.length)) (grd (decide (0 <= c) && decide (c < a.length)) (let e : Int := if (rd a (Int.toNat c)) < (rd a (Int.toNat b)) then rd a (Int.toNat c) else rd a (Int.toNat b); grd (decide (0 <= b) && decide (b < a.length)) (grd (decide (0 <= c) && decide (c < a.length)) (let f : Int := if (rd a (Int.toNat c)) > (rd a (Int.toNat b)) then rd a (Int.toNat c) else rd a (Int.toNat b); d e f 0 a K))))
def Z84.c : Nat -> L4 -> Int -> Int -> L8 -> Prop
 | 0, _, _, _, _ => False
 | n + 1, a, b, c, K => Z84.w n (Z84.l3 n) a b c K
def Z69.l7.b (n : Nat) (f : L1) (b : L2) (g : List (L4)) (h : Int -> L4 -> List (L4) -> Prop) (a : Int) (c : L4) (d : List (L4)) (i : L2 -> L4 -> List (L4) -> List (L4) -> Prop) : Prop :=
 if decide (a < b.length) then grd (decide (c.length + ([a] : L4).length <= 7818749353073)) (grd (decide (0 <= a) && decide (a < b.length)) (Z73.c n f ((rd b (Int.toNat a)).1) (((rd b (Int.toNat a)).2).1) ((((rd b (Int.toNat a)).2).2).1) ((((rd b (Int.toNat a)).2).2).2) fun e => grd (decide (d.length + ([e] : List (L4)).length <= 2814749767106)) (h (IntKind.wrap .i64 (a + 1)) (c ++ ([a] : L4)) (d ++ ([e] : List (L4)))))) else i b c d g
def Z69.l7 : Nat -> L1 -> L2 -> List (L4) -> Int -> L4 -> List (L4) -> (L2 -> L4 -> List (L4) -> List (L4) -> Prop) -> Prop
 | 0, _, _, _, _, _, _, _ => False
 | n + 1, a, b, c, e, f, g, d => Z69.l7.b n a b c (fun h i j => Z69.l7 n a b c h i j d) e f g d
def Z69.l15.b (n : Nat) (f : L2) (b : Int) (c g : List (L4)) (e : L9) (a : Int) (d : L4) (h : L2 -> Int -> L4 -> List (L4) -> List (L4) -> Prop) : Prop :=
 if decide (a < b) then grd (decide (0 <= b) && decide (b < c.length)) (grd (decide (0 <= a) && decide (a < c.length)) (Z72.c n (rd c (Int.toNat b)) (rd c (Int.toNat a)) fun i => if i = true then Z84.c n d b a (e (IntKind.wrap .i64 (a + 1))) else e (IntKind.wrap .i64 (a + 1)) d)) else h f b d c g
def Z69.l15 : Nat -> L2 -> Int -> List (L4) -> List (L4) -> Int -> L4 -> (L2 -> Int -> L4 -> List (L4) -> List (L4) -> Prop) -> Prop
 | 0, _, _, _, _, _, _, _ => False
 | n + 1, a, b, c, d, f, g, e => Z69.l15.b n a b c d (fun h i => Z69.l15 n a b c d h i e) f g e
def Z69.l12.b (n : Nat) (e : L2 -> Int -> List (L4) -> List (L4) -> Int -> L4 -> (L2 -> Int -> L4 -> List (L4) -> List (L4) -> Prop) -> Prop) (f : L2 -> Int -> L4 -> List (L4) -> List (L4) -> Prop) (a : L2) (b : Int) (c : L4) (g d : List (L4)) (h : L2 -> L4 -> List (L4) -> Prop) : Prop :=
 if decide (b < a.length) then (e a b g d 0 c fun i j => f i (IntKind.wrap .i64 (j + 1))) else h a c d
def Z69.l12 : Nat -> L2 -> Int -> L4 -> List (L4) -> List (L4) -> (L2 -> L4 -> List (L4) -> Prop) -> Prop
 | 0, _, _, _, _, _, _ => False
 | n + 1, b, c, d, e, f, a => Z69.l12.b n (Z69.l15 n) (fun g h i j k => Z69.l12 n g h i j k a) b c d e f a
def Z69.j1 (c : L9) (d : L2) (g a : Int) (e b : L4) : Prop :=
 grd (decide (0 <= a) && decide (a < e.length)) (if decide (rd e (Int.toNat a) = g) then grd (decide (0 <= a) && decide (a < d.length)) (let f := ([(rd d (Int.toNat a)).1] : L4); grd (decide (b.length + f.length <= 7818749353073)) (c (IntKind.wrap .i64 (a + 1)) (b ++ f))) else c (IntKind.wrap .i64 (a + 1)) b)
def Z69.l24.b (n : Nat) (c : L2) (a : Int) (g : List (L4)) (b : L4) (h : L9) (d : Int) (e : L4) (i : L2 -> Int -> List (L4) -> L4 -> L4 -> Prop) : Prop :=
 let f := i c a g b e; if decide (d < c.length) then grd (decide (0 <= a) && decide (a < b.length)) (if decide (rd b (Int.toNat a) = a) then Z69.j1 h c a d b e else f) else f
def Z69.l24 : Nat -> L2 -> Int -> List (L4) -> L4 -> Int -> L4 -> (L2 -> Int -> List (L4) -> L4 -> L4 -> Prop) -> Prop
 | 0, _, _, _, _, _, _, _ => False
 | n + 1, a, b, c, d, f, g, e => Z69.l24.b n a b c d (fun h i => Z69.l24 n a b c d h i e) f g e
def Z69.l20.b (n : Nat) (j : L2 -> Int -> List (L4) -> L4 -> Int -> L4 -> (L2 -> Int -> List (L4) -> L4 -> L4 -> Prop) -> Prop) (d : L2 -> Int -> List (L4) -> L4 -> Prop) (e : L2) (a : Int) (f : List (L4)) (k : L4) (l : List (L4) -> Prop) : Prop :=
 if decide (a < e.length) then (j e a f k a ([] : L4) fun g h b i c => if decide ((c.length : Int) > 0) then grd (decide (b.length + ([c] : List (L4)).length <= 2814749767106)) (d g (IntKind.wrap .i64 (h + 1)) (b ++ ([c] : List (L4))) i) else d g (IntKind.wrap .i64 (h + 1)) b i) else l f
def Z69.l20 : Nat -> L2 -> Int -> List (L4) -> L4 -> (List (L4) -> Prop) -> Prop
 | 0, _, _, _, _, _ => False
 | n + 1, b, c, d, e, a => Z69.l20.b n (Z69.l24 n) (fun f g h i => Z69.l20 n f g h i a) b c d e a
def Z69.w (n : Nat) (c : L1 -> L2 -> List (L4) -> Int -> L4 -> List (L4) -> (L2 -> L4 -> List (L4) -> List (L4) -> Prop) -> Prop) (d : L2 -> Int -> L4 -> List (L4) -> List (L4) -> (L2 -> L4 -> List (L4) -> Prop) -> Prop) (e : L2 -> Int -> List (L4) -> L4 -> (List (L4) -> Prop) -> Prop) (a : L1) (b : L2) (K : List (L4) -> Bool -> Prop) : Prop :=
 Z68.c n a b fun f => if (!f) = true then K ([] : List (L4)) false else (c a b ([] : List (L4)) 0 ([] : L4) ([] : List (L4)) fun g h i j => d g 0 h i j fun k l m => e k 0 m l fun o => K o true)
def Z69.c : Nat -> L1 -> L2 -> (List (L4) -> Bool -> Prop) -> Prop
 | 0, _, _, _ => False
 | n + 1, a, b, K => Z69.w n (Z69.l7 n) (Z69.l12 n) (Z69.l20 n) a b K
end Go.Vsi
end

section
namespace Go.Vsi
def Z11.l4.b (n : Nat) (b : L5) (f : L7) (a : Int) (g : Prop) (c : L6) : Prop :=
 let d := f (IntKind.wrap .i64 (a + 1)); let e := grd (decide (0 <= a) && decide (a < b.length)) (let h := ((List.getD b (Int.toNat a) 0).toNat : Int); if (decide (h < 48)) = false then grd (decide (0 <= a) && decide (a < b.length)) (let i := ((List.getD b (Int.toNat a) 0).toNat : Int); if decide (i > 57) then c false else d) else c false); if decide (a < b.length) then grd (decide (0 <= a) && decide (a < b.length)) (let j := ((List.getD b (Int.toNat a) 0).toNat : Int); if (decide (j < 97)) = false then grd (decide (0 <= a) && decide (a < b.length)) (let k := ((List.getD b (Int.toNat a) 0).toNat : Int); if decide (k > 122) then e else d) else e) else g
def Z11.l4 : Nat -> L5 -> Int -> Prop -> L6 -> Prop
 | 0, _, _, _, _ => False
 | n + 1, a, d, b, c => Z11.l4.b n a (fun e => Z11.l4 n a e b c) d b c
def Z11.w (n : Nat) (b : L5 -> Int -> Prop -> L6 -> Prop) (a : L5) (K : L6) : Prop :=
 if (decide ((a.length : Int) < 1)) = false then (if (decide ((a.length : Int) > 12)) = false then grd (decide (0 < (a.length : Int))) (let c := decide (((List.getD a 0 0).toNat : Int) < 97); if c = false then grd (decide (0 < (a.length : Int))) (let d := decide (((List.getD a 0 0).toNat : Int) > 122); if d = true then K false else b a 0 (K true) K) else K false) else K false) else K false
def Z11.c : Nat -> L5 -> L6 -> Prop
 | 0, _, _ => False
 | n + 1, a, K => Z11.w n (Z11.l4 n) a K
def Z9.w (n : Nat) (a b c : Int) (K : L6) : Prop :=
 if decide (a >= b) then K (decide (a <= c)) else K false
def Z9.c : Nat -> Int -> Int -> Int -> L6 -> Prop
 | 0, _, _, _, _ => False
 | n + 1, a, b, c, K => Z9.w n a b c K
def Z7.w (n : Nat) (a : L5) (c : Int) (b : L5) (K : L6) : Prop :=
 K (a == b)
def Z7.c : Nat -> L5 -> Int -> L5 -> L6 -> Prop
 | 0, _, _, _, _ => False
 | n + 1, a, b, c, K => Z7.w n a b c K
def Z63.l2.b (n : Nat) (b : L1) (c : L5) (d : Int) (e : L7) (a : Int) (f : Prop) (g : L7) : Prop :=
 if decide (a < d) then grd (decide (0 <= a) && decide (a < b.length)) (Z7.c n ((rd b (Int.toNat a)).1) ((rd b (Int.toNat a)).2) c fun h => if h = true then g a else e (IntKind.wrap .i64 (a + 1))) else f
def Z63.l2 : Nat -> L1 -> L5 -> Int -> Int -> Prop -> L7 -> Prop
 | 0, _, _, _, _, _, _ => False
 | n + 1, a, b, c, f, d, e => Z63.l2.b n a b c (fun g => Z63.l2 n a b c g d e) f d e
def Z63.w (n : Nat) (b : L1 -> L5 -> Int -> Int -> Prop -> L7 -> Prop) (a : L1) (c : L5) (K : L7) : Prop :=
 b a c (a.length : Int) 0 (K (- 1)) K
def Z63.c : Nat -> L1 -> L5 -> L7 -> Prop
 | 0, _, _, _ => False
 | n + 1, a, b, K => Z63.w n (Z63.l2 n) a b K
def Z6.w (n : Nat) (a : L1) (b : L5) (K : L7) : Prop :=
 Z63.c n a b K
def Z6.c : Nat -> L1 -> L5 -> L7 -> Prop
 | 0, _, _, _ => False
 | n + 1, a, b, K => Z6.w n a b K
def Z1.l5.b (n : Nat) (d b : L1) (f : Int) (g : Int -> Int -> Prop) (e a : Int) (h : L7) (c : L6) : Prop :=
 if decide (a < f) then grd (decide (0 <= a) && decide (a < b.length)) (Z11.c n ((rd b (Int.toNat a)).1) fun i => if (!i) = false then (Z9.c n ((rd b (Int.toNat a)).2) 1 4096 fun j => if (!j) = false then grd ((decide (0 <= a) && decide (a <= d.length)) && decide (0 <= a)) (Z6.c n (List.drop 0 (List.take (Int.toNat a) d)) ((rd b (Int.toNat a)).1) fun k => if decide (k >= 0) then c false else (let l := IntKind.wrap .i64 (e + ((rd b (Int.toNat a)).2)); g l (IntKind.wrap .i64 (a + 1)))) else c false) else c false) else h e
def Z1.l5 : Nat -> L1 -> L1 -> Int -> Int -> Int -> L7 -> L6 -> Prop
 | 0, _, _, _, _, _, _, _ => False
 | n + 1, a, b, c, f, g, d, e => Z1.l5.b n a b c (fun h i => Z1.l5 n a b c h i d e) f g d e
def Z1.w (n : Nat) (b : L1 -> L1 -> Int -> Int -> Int -> L7 -> L6 -> Prop) (a : L1) (K : L6) : Prop :=
 if decide ((a.length : Int) > 60) then K false else b a a (a.length : Int) 0 0 (fun c => K (decide (c <= 20000))) K
def Z1.c : Nat -> L1 -> L6 -> Prop
 | 0, _, _ => False
 | n + 1, a, K => Z1.w n (Z1.l5 n) a K
def Z17.w (n : Nat) (a : Int) (K : L7) : Prop :=
 let b := IntKind.wrap .i64 (Int.tdiv (IntKind.wrap .i64 (a + 63)) 64); K b
def Z17.c : Nat -> Int -> L7 -> Prop
 | 0, _, _ => False
 | n + 1, a, K => Z17.w n a K
def Z0.j0 (K : L6) (b : Int) (a : L4) : Prop :=
 if (decide (Int.tmod b 64 = 0)) = false then grd (decide (0 <= IntKind.wrap .i64 ((a.length : Int) - 1)) && decide (IntKind.wrap .i64 ((a.length : Int) - 1) < (a.length : Int))) (let c : Int := rd a (Int.toNat (IntKind.wrap .i64 ((a.length : Int) - 1))); grd (decide (0 <= Int.tmod b 64)) (let d := Int.fdiv c (2 ^ (Nat.min (Int.toNat (Int.tmod b 64)) 64)); K (decide (d = 0)))) else K true
def Z0.w (n : Nat) (a : Int) (b : L4) (K : L6) : Prop :=
 let c := Z17.c n a fun d => if (!(decide (b.length = d))) = true then K false else Z0.j0 K a b; Z9.c n a 1 4096 fun e => if (!e) = false then (c /\ c) else (K false /\ K false)
def Z0.c : Nat -> Int -> L4 -> L6 -> Prop
 | 0, _, _, _ => False
 | n + 1, a, b, K => Z0.w n a b K
def Z5.l11.b (n : Nat) (b : L4) (d : Int) (e : Int -> Int -> Prop) (c a : Int) (f : L7) : Prop :=
 if decide (a < d) then grd (decide (0 <= a) && decide (a < b.length)) (let g := IntKind.wrap .i64 (c + (rd b (Int.toNat a))); e g (IntKind.wrap .i64 (a + 1))) else f c
def Z5.l11 : Nat -> L4 -> Int -> Int -> Int -> L7 -> Prop
 | 0, _, _, _, _, _ => False
 | n + 1, a, b, d, e, c => Z5.l11.b n a b (fun f g => Z5.l11 n a b f g c) d e c
def Z5.j0 (b : L7) (c : Prop) (n : Nat) (a : qB) (d : Int) (e : Bool) : Prop :=
 if e = true then b d else (if decide (a.1 = 9) then (Z9.c n a.2.2.1 1 4096 fun f => if f = true then b (IntKind.wrap .i64 (d * a.2.2.1)) else c) else c)
def Z5.q21.b (n : Nat) (a : qB) (b : Int) (f : Bool) (c : L7) (d : Prop) : Prop :=
 let e := Z9.c n a.2.2.1 0 4096 fun g => Z5.j0 c d n a b g; if f = true then c (IntKind.wrap .i64 (b + a.2.2.1)) else (if (decide (a.1 = 7)) = false then (if decide (a.1 = 8) then e else Z5.j0 c d n a b false) else e)
def Z5.q21 : Nat -> qB -> Int -> Bool -> L7 -> Prop -> Prop
 | 0, _, _, _, _, _ => False
 | n + 1, a, b, c, d, e => Z5.q21.b n a b c d e
def Z5.j1 (b : L7) (c : Prop) (d : qB -> Int -> Bool -> L7 -> Prop -> Prop) (n : Nat) (a : qB) (e : Int) (g : Bool) : Prop :=
 let f := Z9.c n a.2.2.1 0 4096 fun h => d a e h b c; if g = true then (let i := IntKind.wrap .i64 ((IntKind.wrap .i64 (a.2.2.1 - a.2.2.2.1)) + 1); b i) else (if (decide (a.1 = 5)) = false then (if decide (a.1 = 6) then f else d a e false b c) else f)
def Z5.q9.b (n : Nat) (h : L4 -> Int -> Int -> Int -> L7 -> Prop) (f : qB -> Int -> Bool -> L7 -> Prop -> Prop) (a : qB) (c : L4) (d : Int) (i : Bool) (b : L7) (g : Prop) : Prop :=
 let e := Z5.j1 b g f n a d false; if i = true then h c (c.length : Int) 0 0 b else (if (!(decide ((c.length : Int) = 1))) = true then b (- 1) else (if decide (a.1 = 4) then (if decide (a.2.2.2.1 >= 0) then (if decide (a.2.2.2.1 <= a.2.2.1) then Z5.j1 b g f n a d (decide (a.2.2.1 < d)) else e) else e) else e))
def Z5.q9 : Nat -> qB -> L4 -> Int -> Bool -> L7 -> Prop -> Prop
 | 0, _, _, _, _, _, _ => False
 | n + 1, a, b, c, d, e, f => Z5.q9.b n (Z5.l11 n) (Z5.q21 n) a b c d e f
def Z5.j2 (b : L7) (d : Prop) (e : qB -> L4 -> Int -> Bool -> L7 -> Prop -> Prop) (a : qB) (c : L4) (f : Int) (g : Bool) : Prop :=
 if g = true then b a.2.2.2.2.1 else (if decide (a.1 = 3) then e a c f (decide ((c.length : Int) > 1)) b d else e a c f false b d)
def Z5.q5.b (n : Nat) (d : qB -> L4 -> Int -> Bool -> L7 -> Prop -> Prop) (a : qB) (e : L1) (b : L4) (f : Int) (i : Bool) (c : L7) (g : Prop) : Prop :=
 let h := Z5.j2 c g d a b f false; if i = true then grd (decide (0 <= a.2.1) && decide (a.2.1 < (e.length : Int))) (c ((rd e (Int.toNat a.2.1)).2)) else (if decide (a.1 = 2) then (if decide ((b.length : Int) = 0) then (Z0.c n a.2.2.2.2.1 a.2.2.2.2.2.1 fun j => Z5.j2 c g d a b f j) else h) else h)
def Z5.q5 : Nat -> qB -> L1 -> L4 -> Int -> Bool -> L7 -> Prop -> Prop
 | 0, _, _, _, _, _, _, _ => False
 | n + 1, a, b, c, d, e, f, g => Z5.q5.b n (Z5.q9 n) a b c d e f g
def Z5.j3 (K : L7) (a : qB) (b : L1) (c : L4) (d : qB -> L1 -> L4 -> Int -> Bool -> L7 -> Prop -> Prop) (n : Nat) (e : Int) : Prop :=
 let f := d a b c e false K (K (- 1)); if decide (a.1 = 1) then (if decide ((c.length : Int) = 0) then (Z9.c n a.2.1 0 (IntKind.wrap .i64 ((b.length : Int) - 1)) fun g => d a b c e g K (K (- 1))) else f) else f
def Z5.w (n : Nat) (b : qB -> L1 -> L4 -> Int -> Bool -> L7 -> Prop -> Prop) (c : qB) (d : L1) (a : L4) (K : L7) : Prop :=
 if decide ((a.length : Int) > 0) then grd (decide (0 < (a.length : Int))) (Z5.j3 K c d a b n (rd a 0)) else Z5.j3 K c d a b n 0
def Z5.c : Nat -> qB -> L1 -> L4 -> L7 -> Prop
 | 0, _, _, _, _ => False
 | n + 1, a, b, c, K => Z5.w n (Z5.q5 n) a b c K
def Z4.q3.b (n : Nat) (a : qB) (b : Bool) (c : L6) (d : qB -> Prop) : Prop :=
 if b = true then c false else d a
def Z4.q3 : Nat -> qB -> Bool -> L6 -> (qB -> Prop) -> Prop
 | 0, _, _, _, _ => False
 | n + 1, a, b, c, d => Z4.q3.b n a b c d
def Z4.j0 (a : L6) (b : qB) : Prop :=
 if (decide (b.1 = 2)) = false then (if decide (b.2.2.2.2.1 = 0) then a (decide ((b.2.2.2.2.2.1.length : Int) = 0)) else a false) else a true
def Z4.q2.b (n : Nat) (c : qB -> Bool -> L6 -> (qB -> Prop) -> Prop) (a : qB) (g : Bool) (b : L6) : Prop :=
 let d := c a true b fun h => Z4.j0 b h; let e := if (!(decide (a.1 = 1))) = true then (c a (!(decide (a.2.1 = 0))) b fun i => Z4.j0 b i) else (c a false b fun j => Z4.j0 b j); let f := if (!(decide (a.1 = 4))) = true then (if (!(decide (a.2.2.2.1 = 0))) = false then e else d) else e; if (!g) = true then (if (!(decide (a.2.2.1 = 0))) = false then f else d) else f
def Z4.q2 : Nat -> qB -> Bool -> L6 -> Prop
 | 0, _, _, _ => False
 | n + 1, a, b, c => Z4.q2.b n (Z4.q3 n) a b c
def Z4.w (n : Nat) (b : qB -> Bool -> L6 -> Prop) (a : qB) (K : L6) : Prop :=
 if decide (a.1 >= 4) then b a (decide (a.1 <= 9)) K else b a false K
def Z4.c : Nat -> qB -> L6 -> Prop
 | 0, _, _ => False
 | n + 1, a, K => Z4.w n (Z4.q2 n) a K
def Z64.l2.b (n : Nat) (b : List Bool) (c : Bool) (d : Int) (e : L7) (a : Int) (f : Prop) (g : L7) : Prop :=
 if decide (a < d) then grd (decide (0 <= a) && decide (a < b.length)) (if (c == (rd b (Int.toNat a))) = true then g a else e (IntKind.wrap .i64 (a + 1))) else f
def Z64.l2 : Nat -> List Bool -> Bool -> Int -> Int -> Prop -> L7 -> Prop
 | 0, _, _, _, _, _, _ => False
 | n + 1, a, b, c, f, d, e => Z64.l2.b n a b c (fun g => Z64.l2 n a b c g d e) f d e
def Z64.w (n : Nat) (b : List Bool -> Bool -> Int -> Int -> Prop -> L7 -> Prop) (a : List Bool) (c : Bool) (K : L7) : Prop :=
 b a c (a.length : Int) 0 (K (- 1)) K
def Z64.c : Nat -> List Bool -> Bool -> L7 -> Prop
 | 0, _, _, _ => False
 | n + 1, a, b, K => Z64.w n (Z64.l2 n) a b K
def Z61.w (n : Nat) (a : List Bool) (b : Bool) (K : L6) : Prop :=
 Z64.c n a b fun c => K (decide (c >= 0))
def Z61.c : Nat -> List Bool -> Bool -> L6 -> Prop
 | 0, _, _, _ => False
 | n + 1, a, b, K => Z61.w n a b K
def Z16.l13.b (n : Nat) (g : L1) (h f : Int) (i : qB) (j k : Int) (b : L4) (l : Int) (c : L4) (m : L3) (o : Int -> List Bool -> L4 -> Prop) (a : Int) (d : List Bool) (e : L4) (p : L1 -> Int -> Int -> qB -> Int -> Int -> L4 -> List Bool -> L4 -> L3 -> Prop) (q : L12) : Prop :=
 if decide (a < l) then grd (decide (0 <= a) && decide (a < b.length)) (Z9.c n (rd b (Int.toNat a)) 0 (IntKind.wrap .i64 (f - 1)) fun r => if (!r) = true then q false ([] : L4) else grd (decide (0 <= rd b (Int.toNat a)) && decide (rd b (Int.toNat a) < (c.length : Int))) (grd (decide (0 <= rd b (Int.toNat a)) && decide (rd b (Int.toNat a) < (d.length : Int))) (let s := List.set d (Int.toNat (rd b (Int.toNat a))) true; grd (decide (0 <= a) && decide (a < e.length)) (let t := List.set e (Int.toNat a) (rd c (Int.toNat (rd b (Int.toNat a)))); o (IntKind.wrap .i64 (a + 1)) s t)))) else p g h f i j k c d e m
def Z16.l13 : Nat -> L1 -> Int -> Int -> qB -> Int -> Int -> L4 -> Int -> L4 -> L3 -> Int -> List Bool -> L4 -> (L1 -> Int -> Int -> qB -> Int -> Int -> L4 -> List Bool -> L4 -> L3 -> Prop) -> L12 -> Prop
 | 0, _, _, _, _, _, _, _, _, _, _, _, _, _, _, _ => False
 | n + 1, a, b, c, d, e, f, g, h, i, j, m, o, p, k, l => Z16.l13.b n a b c d e f g h i j (fun q r s => Z16.l13 n a b c d e f g h i j q r s k l) m o p k l
def Z16.l6.b (n : Nat) (q : L1 -> Int -> Int -> qB -> Int -> Int -> L4 -> Int -> L4 -> L3 -> Int -> List Bool -> L4 -> (L1 -> Int -> Int -> qB -> Int -> Int -> L4 -> List Bool -> L4 -> L3 -> Prop) -> L12 -> Prop) (r : L1 -> Int -> Int -> Int -> L4 -> List Bool -> L3 -> Prop) (s : L1) (h i a : Int) (j : L4) (k : List Bool) (c : L3) (t : L13) (l : L12) : Prop :=
 let f := l false ([] : L4); if decide (a < i) then grd (decide (0 <= a) && decide (a < c.length)) (let u : L4 := ((((((rd c (Int.toNat a)).2).2).2).2).2).2; if decide ((u.length : Int) > 4096) then f else (let d : L4 := ((((((rd c (Int.toNat a)).2).2).2).2).2).2; grd ((decide (0 <= (d.length : Int)) && decide ((d.length : Int) <= 7818749353073)) && decide ((d.length : Int) = (d.length : Int))) (let v := List.replicate (Int.toNat (d.length : Int)) 0; let m : L4 := ((((((rd c (Int.toNat a)).2).2).2).2).2).2; q s h a (rd c (Int.toNat a)) i a m (m.length : Int) j c 0 k v (fun o w b p x y e z A B => Z5.c n p o A fun g => grd (decide (0 <= b) && decide (b < e.length)) (Z4.c n p fun D => if (!D) = false then grd (decide (0 <= b) && decide (b < (List.set e (Int.toNat b) g).length)) (let E : Int := rd (List.set e (Int.toNat b) g) (Int.toNat b); Z9.c n E 1 4096 fun F => if (!F) = true then f else r o w x (IntKind.wrap .i64 (y + 1)) (List.set e (Int.toNat b) g) z B) else f)) l))) else t h j k
def Z16.l6 : Nat -> L1 -> Int -> Int -> Int -> L4 -> List Bool -> L3 -> L13 -> L12 -> Prop
 | 0, _, _, _, _, _, _, _, _, _ => False
 | n + 1, c, d, e, f, g, h, i, a, b => Z16.l6.b n (Z16.l13 n) (fun j k l m o p q => Z16.l6 n j k l m o p q a b) c d e f g h i a b
def Z16.j0 (K : L4 -> Bool -> Prop) (d : L1) (b : L3) (e : L1 -> Int -> Int -> Int -> L4 -> List Bool -> L3 -> L13 -> L12 -> Prop) (n : Nat) (f : L4) (g : List Bool) : Prop :=
 e d (b.length : Int) (b.length : Int) 0 f g b (fun a h c => grd ((decide (0 <= IntKind.wrap .i64 (a - 1)) && decide (IntKind.wrap .i64 (a - 1) <= (c.length : Int))) && decide (0 <= IntKind.wrap .i64 (a - 1))) (Z61.c n (List.drop 0 (List.take (Int.toNat (IntKind.wrap .i64 (a - 1))) c)) false fun i => K h (!i))) fun j k => K k j
def Z16.j1 (K : L4 -> Bool -> Prop) (b : L1) (a : L3) (c : L1 -> Int -> Int -> Int -> L4 -> List Bool -> L3 -> L13 -> L12 -> Prop) (n : Nat) : Prop :=
 grd ((decide (0 <= (a.length : Int)) && decide ((a.length : Int) <= 7818749353073)) && decide ((a.length : Int) = (a.length : Int))) (let d := List.replicate (Int.toNat (a.length : Int)) 0; grd ((decide (0 <= (a.length : Int)) && decide ((a.length : Int) <= 35184372088832)) && decide ((a.length : Int) = (a.length : Int))) (let e := List.replicate (Int.toNat (a.length : Int)) false; Z16.j0 K b a c n d e)) /\ grd ((decide (0 <= (a.length : Int)) && decide ((a.length : Int) <= 35184372088832)) && decide ((a.length : Int) = (a.length : Int))) (let f := List.replicate (Int.toNat (a.length : Int)) false; grd ((decide (0 <= (a.length : Int)) && decide ((a.length : Int) <= 7818749353073)) && decide ((a.length : Int) = (a.length : Int))) (let g := List.replicate (Int.toNat (a.length : Int)) 0; Z16.j0 K b a c n g f))
def Z16.w (n : Nat) (c : L1 -> Int -> Int -> Int -> L4 -> List Bool -> L3 -> L13 -> L12 -> Prop) (d : L1) (a : L3) (K : L4 -> Bool -> Prop) : Prop :=
 let b := K ([] : L4) false; if (decide ((a.length : Int) < 1)) = false then (if decide ((a.length : Int) > 400) then b else Z16.j1 K d a c n) else b
def Z16.c : Nat -> L1 -> L3 -> (L4 -> Bool -> Prop) -> Prop
 | 0, _, _, _ => False
 | n + 1, a, b, K => Z16.w n (Z16.l6 n) a b K
def Z15.w (n : Nat) (b : L1) (c : L3) (K : L7) : Prop :=
 Z16.c n b c fun a d => if (!d) = true then K (- 1) else grd (decide (0 <= IntKind.wrap .i64 ((a.length : Int) - 1)) && decide (IntKind.wrap .i64 ((a.length : Int) - 1) < (a.length : Int))) (let e := Int.toNat (IntKind.wrap .i64 ((a.length : Int) - 1)); K (rd a e))
def Z15.c : Nat -> L1 -> L3 -> L7 -> Prop
 | 0, _, _, _ => False
 | n + 1, a, b, K => Z15.w n a b K
def Z10.l5.b (n : Nat) (d : L1) (b : L2) (f : Int) (g : Int -> Int -> Prop) (h a : Int) (i : Prop) (c : L6) : Prop :=
 if decide (a < f) then grd (decide (0 <= a) && decide (a < b.length)) (Z15.c n d ((((rd b (Int.toNat a)).2).2).1) fun e => Z9.c n ((rd b (Int.toNat a)).1) (IntKind.wrap .i64 (h + 1)) 1000000 fun j => if (!j) = false then (if (decide (e < 0)) = false then (Z15.c n d ((((rd b (Int.toNat a)).2).2).2) fun k => if (!(decide (e = k))) = true then c false else g ((rd b (Int.toNat a)).1) (IntKind.wrap .i64 (a + 1))) else c false) else c false) else i
def Z10.l5 : Nat -> L1 -> L2 -> Int -> Int -> Int -> Prop -> L6 -> Prop
 | 0, _, _, _, _, _, _, _ => False
 | n + 1, a, b, c, f, g, d, e => Z10.l5.b n a b c (fun h i => Z10.l5 n a b c h i d e) f g d e
def Z10.w (n : Nat) (b : L1 -> L2 -> Int -> Int -> Int -> Prop -> L6 -> Prop) (c : L1) (a : L2) (K : L6) : Prop :=
 if decide ((a.length : Int) > 60) then K false else b c a (a.length : Int) 0 0 (K true) K
def Z10.c : Nat -> L1 -> L2 -> L6 -> Prop
 | 0, _, _, _ => False
 | n + 1, a, b, K => Z10.w n (Z10.l5 n) a b K
def Z2.w (n : Nat) (a : L1) (b : L2) (K : L6) : Prop :=
 Z1.c n a fun c => if c = true then Z10.c n a b K else K false
def Z2.c : Nat -> L1 -> L2 -> L6 -> Prop
 | 0, _, _, _ => False
 | n + 1, a, b, K => Z2.w n a b K
def Z65.w (n : Nat) (a : L4) (K : L8) : Prop :=
 grd (decide (a.length <= 1099511627776)) (K (srt a))
def Z65.c : Nat -> L4 -> L8 -> Prop
 | 0, _, _ => False
 | n + 1, a, K => Z65.w n a K
def Z59.l9.b (n c d : Nat) (f : Int -> Int -> L4 -> Prop) (e a : Int) (b : L4) (g : L9) : Prop :=
 if decide (a < ((d - c : Nat) : Int)) then grd ((decide (0 <= a) && decide (a < ((d - c : Nat) : Int))) && decide (d <= b.length)) (grd ((decide (0 <= IntKind.wrap .i64 (a - 1)) && decide (IntKind.wrap .i64 (a - 1) < ((d - c : Nat) : Int))) && decide (d <= b.length)) (let h : Nat := c + (Int.toNat (IntKind.wrap .i64 (a - 1))); let i := !(decide (rd b (c + (Int.toNat a)) = rd b h)); if i = true then grd ((decide (0 <= a) && decide (a < ((d - c : Nat) : Int))) && decide (d <= b.length)) (grd (decide (0 <= e) && decide (e < b.length)) (let j := List.set b (Int.toNat e) (rd b (c + (Int.toNat a))); f (IntKind.wrap .i64 (e + 1)) (IntKind.wrap .i64 (a + 1)) j)) else f e (IntKind.wrap .i64 (a + 1)) b)) else g e b
def Z59.l9 : Nat -> Nat -> Nat -> Int -> Int -> L4 -> L9 -> Prop
 | 0, _, _, _, _, _, _ => False
 | n + 1, a, b, d, e, f, c => Z59.l9.b n a b (fun g h i => Z59.l9 n a b g h i c) d e f c
def Z59.l4.b (n : Nat) (f : Nat -> Nat -> Int -> Int -> L4 -> L9 -> Prop) (b : L4) (g : L7) (a : Int) (h : L8) (i : Nat -> Nat -> L4 -> Prop) : Prop :=
 if decide (a < b.length) then grd (decide (0 <= a) && decide (a < b.length)) (grd (decide (0 <= IntKind.wrap .i64 (a - 1)) && decide (IntKind.wrap .i64 (a - 1) < (b.length : Int))) (let j : Int := rd b (Int.toNat (IntKind.wrap .i64 (a - 1))); if decide (rd b (Int.toNat a) = j) then grd ((decide (0 <= a) && true) && decide (a <= b.length)) (f (Int.toNat a) (Int.toNat (b.length : Int)) a 1 b fun c d => grd ((decide (0 <= c) && true) && decide (c <= d.length)) (let e := List.take (Int.toNat c) d ++ List.replicate ((Int.toNat (d.length : Int)) - (Int.toNat c)) 0 ++ List.drop (Int.toNat (d.length : Int)) d; grd ((decide (0 <= c) && decide (c <= e.length)) && decide (0 <= c)) (i 0 (Int.toNat c) e))) else g (IntKind.wrap .i64 (a + 1)))) else h b
def Z59.l4 : Nat -> L4 -> Int -> L8 -> (Nat -> Nat -> L4 -> Prop) -> Prop
 | 0, _, _, _, _ => False
 | n + 1, a, d, b, c => Z59.l4.b n (Z59.l9 n) a (fun e => Z59.l4 n a e b c) d b c
def Z59.w (n : Nat) (b : L4 -> Int -> L8 -> (Nat -> Nat -> L4 -> Prop) -> Prop) (a : L4) (K : L8) : Prop :=
 if decide ((a.length : Int) < 2) then K a else (b a 1 K fun e c d => K (List.take c d))
def Z59.c : Nat -> L4 -> L8 -> Prop
 | 0, _, _ => False
 | n + 1, a, K => Z59.w n (Z59.l4 n) a K
def Z14.l3.b (n : Nat) (c : L3) (f : Int) (d : L9) (a : Int) (b : L4) (g : L8) : Prop :=
 if decide (a < f) then grd (decide (0 <= a) && decide (a < c.length)) (if decide ((rd c (Int.toNat a)).1 = 1) then (let e := ([((rd c (Int.toNat a)).2).1] : L4); grd (decide (b.length + e.length <= 7818749353073)) (d (IntKind.wrap .i64 (a + 1)) (b ++ e))) else d (IntKind.wrap .i64 (a + 1)) b) else g b
def Z14.l3 : Nat -> L3 -> Int -> Int -> L4 -> L8 -> Prop
 | 0, _, _, _, _, _ => False
 | n + 1, a, b, d, e, c => Z14.l3.b n a b (fun f g => Z14.l3 n a b f g c) d e c
def Z14.w (n : Nat) (b : L3 -> Int -> Int -> L4 -> L8 -> Prop) (a : L3) (K : L8) : Prop :=
 b a (a.length : Int) 0 ([] : L4) fun c => Z65.c n c fun d => Z59.c n d K
def Z14.c : Nat -> L3 -> L8 -> Prop
 | 0, _, _ => False
 | n + 1, a, K => Z14.w n (Z14.l3 n) a K
def Z62.w (n : Nat) (a : Int) (K : L8) : Prop :=
 grd (decide (0 <= a) && decide (a <= 1099511627776)) (K ([] : L4))
def Z62.c : Nat -> Int -> L8 -> Prop
 | 0, _, _ => False
 | n + 1, a, K => Z62.w n a K
def Z60.l3.b (n : Nat) (e b : List (L4)) (f : Int) (g : Int -> Int -> Prop) (c a : Int) (h : List (L4) -> Int -> Prop) : Prop :=
 if decide (a < f) then grd (decide (0 <= a) && decide (a < b.length)) (let d := IntKind.wrap .i64 (c + ((rd b (Int.toNat a)).length : Int)); if decide (d < 0) then False else g d (IntKind.wrap .i64 (a + 1))) else h e c
def Z60.l3 : Nat -> List (L4) -> List (L4) -> Int -> Int -> Int -> (List (L4) -> Int -> Prop) -> Prop
 | 0, _, _, _, _, _, _ => False
 | n + 1, a, b, c, e, f, d => Z60.l3.b n a b c (fun g h => Z60.l3 n a b c g h d) e f d
def Z60.l11.b (n : Nat) (b : List (L4)) (d : Int) (e : L9) (a : Int) (c : L4) (f : L8) : Prop :=
 if decide (a < d) then grd (decide (0 <= a) && decide (a < b.length)) (grd (decide (c.length + (rd b (Int.toNat a)).length <= 7818749353073)) (e (IntKind.wrap .i64 (a + 1)) (c ++ (rd b (Int.toNat a))))) else f c
def Z60.l11 : Nat -> List (L4) -> Int -> Int -> L4 -> L8 -> Prop
 | 0, _, _, _, _, _ => False
 | n + 1, a, b, d, e, c => Z60.l11.b n a b (fun f g => Z60.l11 n a b f g c) d e c
def Z60.w (n : Nat) (c : List (L4) -> List (L4) -> Int -> Int -> Int -> (List (L4) -> Int -> Prop) -> Prop) (d : List (L4) -> Int -> Int -> L4 -> L8 -> Prop) (a : List (L4)) (K : L8) : Prop :=
 c a a (a.length : Int) 0 0 fun b e => Z62.c n e fun f => d b (b.length : Int) 0 f K
def Z60.c : Nat -> List (L4) -> L8 -> Prop
 | 0, _, _ => False
 | n + 1, a, K => Z60.w n (Z60.l3 n) (Z60.l11 n) a K
def Z13.w (n : Nat) (h : Int) (i : Bool) (b c : L3) (K : L8) : Prop :=
 let a := Z14.c n b fun d => Z14.c n c fun e => Z60.c n ([d, e] : List (L4)) fun f => Z65.c n f fun g => Z59.c n g K; a /\ a
def Z13.c : Nat -> Int -> Bool -> L3 -> L3 -> L8 -> Prop
 | 0, _, _, _, _, _ => False
 | n + 1, a, b, c, d, K => Z13.w n a b c d K
def Z12.l3.b (n : Nat) (c : L2) (d : Int) (e : L4) (f : L9) (a : Int) (b : L4) (g : L2 -> L4 -> L4 -> Prop) : Prop :=
 if decide (a < d) then grd (decide (0 <= a) && decide (a < b.length)) (f (IntKind.wrap .i64 (a + 1)) (List.set b (Int.toNat a) (- 1))) else g c b e
def Z12.l3 : Nat -> L2 -> Int -> L4 -> Int -> L4 -> (L2 -> L4 -> L4 -> Prop) -> Prop
 | 0, _, _, _, _, _, _ => False
 | n + 1, a, b, c, e, f, d => Z12.l3.b n a b c (fun g h => Z12.l3 n a b c g h d) e f d
def Z12.l19.b (n : Nat) (d : L2) (e f g : Int) (h : L2) (i j k l m : Int) (o p : L4) (c : L9) (a : Int) (b : L4) (q : L10) : Prop :=
 if decide (a < m) then grd (decide (0 <= a) && decide (a < b.length)) (if decide (rd b (Int.toNat a) = f) then grd (decide (0 <= a) && decide (a < b.length)) (c (IntKind.wrap .i64 (a + 1)) (List.set b (Int.toNat a) g)) else c (IntKind.wrap .i64 (a + 1)) b) else q d e h i j k l o b p
def Z12.l19 : Nat -> L2 -> Int -> Int -> Int -> L2 -> Int -> Int -> Int -> Int -> Int -> L4 -> L4 -> Int -> L4 -> L10 -> Prop
 | 0, _, _, _, _, _, _, _, _, _, _, _, _, _, _, _ => False
 | n + 1, a, b, c, d, e, f, g, h, i, j, k, l, o, p, m => Z12.l19.b n a b c d e f g h i j k l (fun q r => Z12.l19 n a b c d e f g h i j k l q r m) o p m
def Z12.j4 (d : L10) (e : L2 -> Int -> Int -> Int -> L2 -> Int -> Int -> Int -> Int -> Int -> L4 -> L4 -> Int -> L4 -> L10 -> Prop) (c : Int) (f : L4) (g : L2) (a : Int) (h : L2) (i j k l : Int) (b m : L4) : Prop :=
 grd (decide (0 <= a) && decide (a < b.length)) (grd (decide (0 <= c) && decide (c < b.length)) (grd ((decide (0 <= IntKind.wrap .i64 (a + 1)) && decide (IntKind.wrap .i64 (a + 1) <= (b.length : Int))) && decide (0 <= IntKind.wrap .i64 (a + 1))) (let o := (((Int.toNat (IntKind.wrap .i64 (a + 1))) - 0 : Nat) : Int); e g a (rd b (Int.toNat a)) (rd b (Int.toNat c)) h i j k l o f m 0 b fun p q r s t u v => d p q r s t u (IntKind.wrap .i64 (v + 1)))))
def Z12.j5 (a : L10) (l : L2 -> Int -> Int -> Int -> L2 -> Int -> Int -> Int -> Int -> Int -> L4 -> L4 -> Int -> L4 -> L10 -> Prop) (m : Int) (b : L4) (c : L2) (d : Int) (e : L2) (f g h i : Int) (j k : L4) (o : Bool) : Prop :=
 if o = true then a c d e f g h (IntKind.wrap .i64 (i + 1)) b j k else Z12.j4 a l m b c d e f g h i j k
def Z12.l12.b (n : Nat) (l : L2 -> Int -> Int -> Int -> L2 -> Int -> Int -> Int -> Int -> Int -> L4 -> L4 -> Int -> L4 -> L10 -> Prop) (m : L10) (g : L2) (d : Int) (h : L2) (i j k a : Int) (f c b : L4) (p : L2 -> L2 -> Int -> Int -> L4 -> L4 -> Prop) : Prop :=
 if decide (a < k) then grd (decide (0 <= a) && decide (a < b.length)) (grd (decide (0 <= rd b (Int.toNat a)) && decide (rd b (Int.toNat a) < (f.length : Int))) (let e : Int := rd f (Int.toNat (rd b (Int.toNat a))); grd (decide (0 <= rd b (Int.toNat a)) && decide (rd b (Int.toNat a) < (f.length : Int))) (let o := List.set f (Int.toNat (rd b (Int.toNat a))) d; if (decide (e < 0)) = false then grd (decide (0 <= e) && decide (e < c.length)) (grd (decide (0 <= d) && decide (d < c.length)) (let q := decide (rd c (Int.toNat e) = rd c (Int.toNat d)); Z12.j5 m l e o g d h i j k a c b q)) else Z12.j5 m l e o g d h i j k a c b true))) else p g h i j f c
def Z12.l12 : Nat -> L2 -> Int -> L2 -> Int -> Int -> Int -> Int -> L4 -> L4 -> L4 -> (L2 -> L2 -> Int -> Int -> L4 -> L4 -> Prop) -> Prop
 | 0, _, _, _, _, _, _, _, _, _, _, _ => False
 | n + 1, b, c, d, e, f, g, h, i, j, k, a => Z12.l12.b n (Z12.l19 n) (fun l m o p q r s t u v => Z12.l12 n l m o p q r s t u v a) b c d e f g h i j k a
def Z12.l8.b (n : Nat) (g : L2 -> Int -> L2 -> Int -> Int -> Int -> Int -> L4 -> L4 -> L4 -> (L2 -> L2 -> Int -> Int -> L4 -> L4 -> Prop) -> Prop) (h : L2 -> L2 -> Int -> Int -> L4 -> L4 -> Prop) (d b : L2) (e a : Int) (i c : L4) (j : L2 -> L4 -> Prop) : Prop :=
 if decide (a < e) then grd (decide (0 <= a) && decide (a < b.length)) (grd (decide (0 <= a) && decide (a < c.length)) (Z13.c n ((rd b (Int.toNat a)).1) (((rd b (Int.toNat a)).2).1) ((((rd b (Int.toNat a)).2).2).1) ((((rd b (Int.toNat a)).2).2).2) fun f => g d a b e a (f.length : Int) 0 i (List.set c (Int.toNat a) a) f fun k l m o => h k l m (IntKind.wrap .i64 (o + 1)))) else j d c
def Z12.l8 : Nat -> L2 -> L2 -> Int -> Int -> L4 -> L4 -> (L2 -> L4 -> Prop) -> Prop
 | 0, _, _, _, _, _, _, _ => False
 | n + 1, b, c, d, e, f, g, a => Z12.l8.b n (Z12.l12 n) (fun h i j k l m => Z12.l8 n h i j k l m a) b c d e f g a
def Z12.l28.b (n : Nat) (c : L2) (o : Int) (f : L4) (h : Int -> List (L2) -> List (Int × Int) -> Prop) (b : Int) (a : List (L2)) (g : List (Int × Int)) (p : List (L2) -> Prop) : Prop :=
 if decide (b < o) then grd (decide (0 <= b) && decide (b < c.length)) (grd (decide (0 <= b) && decide (b < f.length)) (let d : Int := (qCX g (rd f (Int.toNat b))).getD 0; let q : Bool := (qCX g (rd f (Int.toNat b))).isSome; if (!q) = true then grd (decide (0 <= b) && decide (b < f.length)) (let i : List (Int × Int) := qIn g (rd f (Int.toNat b)) (a.length : Int); let e := ([([] : List qA)] : List (List qA)); grd (decide (a.length + e.length <= 2814749767106)) (grd (decide (0 <= (a.length : Int)) && decide ((a.length : Int) < ((a ++ e).length : Int))) ((let j := ([((rd c (Int.toNat b)).1, ((rd c (Int.toNat b)).2).1, (((rd c (Int.toNat b)).2).2).1, (((rd c (Int.toNat b)).2).2).2)] : List qA); grd (decide ((rd (a ++ e) (Int.toNat (a.length : Int))).length + j.length <= 1082596064271)) (let r : List qA := (rd (a ++ e) (Int.toNat (a.length : Int))) ++ j; grd (decide (0 <= (a.length : Int)) && decide ((a.length : Int) < ((a ++ e).length : Int))) (grd (decide (Int.toNat (a.length : Int) = Int.toNat (a.length : Int))) (let s := List.set (a ++ e) (Int.toNat (a.length : Int)) r; h (IntKind.wrap .i64 (b + 1)) s i)))) /\ (let k := ([((rd c (Int.toNat b)).1, ((rd c (Int.toNat b)).2).1, (((rd c (Int.toNat b)).2).2).1, (((rd c (Int.toNat b)).2).2).2)] : List qA); grd (decide ((rd (a ++ e) (Int.toNat (a.length : Int))).length + k.length <= 1082596064271)) (let t : List qA := (rd (a ++ e) (Int.toNat (a.length : Int))) ++ k; grd (decide (0 <= (a.length : Int)) && decide ((a.length : Int) < ((a ++ e).length : Int))) (grd (decide (Int.toNat (a.length : Int) = Int.toNat (a.length : Int))) (let u := List.set (a ++ e) (Int.toNat (a.length : Int)) t; h (IntKind.wrap .i64 (b + 1)) u i))))))) else grd (decide (0 <= d) && decide (d < a.length)) ((let l := ([((rd c (Int.toNat b)).1, ((rd c (Int.toNat b)).2).1, (((rd c (Int.toNat b)).2).2).1, (((rd c (Int.toNat b)).2).2).2)] : List qA); grd (decide ((rd a (Int.toNat d)).length + l.length <= 1082596064271)) (grd (decide (0 <= d) && decide (d < a.length)) (grd (decide (Int.toNat d = Int.toNat d)) (let v := List.set a (Int.toNat d) ((rd a (Int.toNat d)) ++ l); h (IntKind.wrap .i64 (b + 1)) v g)))) /\ (let m := ([((rd c (Int.toNat b)).1, ((rd c (Int.toNat b)).2).1, (((rd c (Int.toNat b)).2).2).1, (((rd c (Int.toNat b)).2).2).2)] : List qA); grd (decide ((rd a (Int.toNat d)).length + m.length <= 1082596064271)) (grd (decide (0 <= d) && decide (d < a.length)) (grd (decide (Int.toNat d = Int.toNat d)) (let w := List.set a (Int.toNat d) ((rd a (Int.toNat d)) ++ m); h (IntKind.wrap .i64 (b + 1)) w g))))))) else p a
def Z12.l28 : Nat -> L2 -> Int -> L4 -> Int -> List (L2) -> List (Int × Int) -> (List (L2) -> Prop) -> Prop
 | 0, _, _, _, _, _, _, _ => False
 | n + 1, a, b, c, e, f, g, d => Z12.l28.b n a b c (fun h i j => Z12.l28 n a b c h i j d) e f g d
def Z12.j6 (K : List (L2) -> Prop) (d : L2) (e : L2 -> Int -> L4 -> Int -> L4 -> (L2 -> L4 -> L4 -> Prop) -> Prop) (f : L2 -> L2 -> Int -> Int -> L4 -> L4 -> (L2 -> L4 -> Prop) -> Prop) (g : L2 -> Int -> L4 -> Int -> List (L2) -> List (Int × Int) -> (List (L2) -> Prop) -> Prop) (b h : L4) : Prop :=
 e d (b.length : Int) h 0 b fun a i j => f a a (a.length : Int) 0 i j fun c k => let l := ([] : List (List qA)); g c (c.length : Int) k 0 l ([] : List (Int × Int)) K
def Z12.w (n : Nat) (c : L2 -> Int -> L4 -> Int -> L4 -> (L2 -> L4 -> L4 -> Prop) -> Prop) (d : L2 -> L2 -> Int -> Int -> L4 -> L4 -> (L2 -> L4 -> Prop) -> Prop) (e : L2 -> Int -> L4 -> Int -> List (L2) -> List (Int × Int) -> (List (L2) -> Prop) -> Prop) (b : L1) (a : L2) (K : List (L2) -> Prop) : Prop :=
 grd ((decide (0 <= (b.length : Int)) && decide ((b.length : Int) <= 7818749353073)) && decide ((b.length : Int) = (b.length : Int))) (let f := List.replicate (Int.toNat (b.length : Int)) 0; grd ((decide (0 <= (a.length : Int)) && decide ((a.length : Int) <= 7818749353073)) && decide ((a.length : Int) = (a.length : Int))) (let g := List.replicate (Int.toNat (a.length : Int)) 0; Z12.j6 K a c d e f g)) /\ grd ((decide (0 <= (a.length : Int)) && decide ((a.length : Int) <= 7818749353073)) && decide ((a.length : Int) = (a.length : Int))) (let h := List.replicate (Int.toNat (a.length : Int)) 0; grd ((decide (0 <= (b.length : Int)) && decide ((b.length : Int) <= 7818749353073)) && decide ((b.length : Int) = (b.length : Int))) (let i := List.replicate (Int.toNat (b.length : Int)) 0; Z12.j6 K a c d e i h))
def Z12.c : Nat -> L1 -> L2 -> (List (L2) -> Prop) -> Prop
 | 0, _, _, _ => False
 | n + 1, a, b, K => Z12.w n (Z12.l3 n) (Z12.l8 n) (Z12.l28 n) a b K
def Z8.l3.b (n : Nat) (b : L2) (d : Int) (e : L9) (a : Int) (c : L4) (f : L8) : Prop :=
 if decide (a < d) then grd (decide (0 <= a) && decide (a < b.length)) (grd (decide (c.length + ([(rd b (Int.toNat a)).1] : L4).length <= 7818749353073)) (let g : L4 := c ++ ([(rd b (Int.toNat a)).1] : L4); e (IntKind.wrap .i64 (a + 1)) g)) else f c
def Z8.l3 : Nat -> L2 -> Int -> Int -> L4 -> L8 -> Prop
 | 0, _, _, _, _, _ => False
 | n + 1, a, b, d, e, c => Z8.l3.b n a b (fun f g => Z8.l3 n a b f g c) d e c
def Z8.w (n : Nat) (b : L2 -> Int -> Int -> L4 -> L8 -> Prop) (a : L2) (K : L8) : Prop :=
 b a (a.length : Int) 0 ([] : L4) K
def Z8.c : Nat -> L2 -> L8 -> Prop
 | 0, _, _ => False
 | n + 1, a, K => Z8.w n (Z8.l3 n) a K
def Z3.l5.b (n : Nat) (e : Int) (c : List (L2)) (f : Int -> List (L4) -> Prop) (a : Int) (b : List (L4)) (g : List (L4) -> Prop) : Prop :=
 if decide (a < e) then grd (decide (0 <= a) && decide (a < c.length)) (Z8.c n (rd c (Int.toNat a)) fun d => grd (decide (b.length + ([d] : List (L4)).length <= 2814749767106)) (f (IntKind.wrap .i64 (a + 1)) (b ++ ([d] : List (L4))))) else g b
def Z3.l5 : Nat -> Int -> List (L2) -> Int -> List (L4) -> (List (L4) -> Prop) -> Prop
 | 0, _, _, _, _, _ => False
 | n + 1, a, b, d, e, c => Z3.l5.b n a b (fun f g => Z3.l5 n a b f g c) d e c
def Z3.w (n : Nat) (d : Int -> List (L2) -> Int -> List (L4) -> (List (L4) -> Prop) -> Prop) (a : L1) (b : L2) (K : List (L4) -> Bool -> Prop) : Prop :=
 Z2.c n a b fun e => if (!e) = true then K ([] : List (L4)) false else (Z12.c n a b fun c => d (c.length : Int) c 0 ([] : List (L4)) fun f => K f true)
def Z3.c : Nat -> L1 -> L2 -> (List (L4) -> Bool -> Prop) -> Prop
 | 0, _, _, _ => False
 | n + 1, a, b, K => Z3.w n (Z3.l5 n) a b K
def Z21.l4.b (n : Nat) (b c : L4) (d : L7) (a : Int) (e : Prop) (f : L6) : Prop :=
 if decide (a < b.length) then grd (decide (0 <= a) && decide (a < b.length)) (grd (decide (0 <= a) && decide (a < c.length)) (let g := !(decide (rd b (Int.toNat a) = rd c (Int.toNat a))); if g = true then f false else d (IntKind.wrap .i64 (a + 1)))) else e
def Z21.l4 : Nat -> L4 -> L4 -> Int -> Prop -> L6 -> Prop
 | 0, _, _, _, _, _ => False
 | n + 1, a, b, e, c, d => Z21.l4.b n a b (fun f => Z21.l4 n a b f c d) e c d
def Z21.w (n : Nat) (c : L4 -> L4 -> Int -> Prop -> L6 -> Prop) (a b : L4) (K : L6) : Prop :=
 let d := !(decide ((a.length : Int) = (b.length : Int))); if d = true then K false else c a b 0 (K true) K
def Z21.c : Nat -> L4 -> L4 -> L6 -> Prop
 | 0, _, _, _ => False
 | n + 1, a, b, K => Z21.w n (Z21.l4 n) a b K
def Z22.l4.b (n : Nat) (b c : List (L4)) (d : L7) (a : Int) (e : Prop) (f : L6) : Prop :=
 if decide (a < b.length) then grd (decide (0 <= a) && decide (a < b.length)) (grd (decide (0 <= a) && decide (a < c.length)) (Z21.c n (rd b (Int.toNat a)) (rd c (Int.toNat a)) fun g => if (!g) = true then f false else d (IntKind.wrap .i64 (a + 1)))) else e
def Z22.l4 : Nat -> List (L4) -> List (L4) -> Int -> Prop -> L6 -> Prop
 | 0, _, _, _, _, _ => False
 | n + 1, a, b, e, c, d => Z22.l4.b n a b (fun f => Z22.l4 n a b f c d) e c d
def Z22.w (n : Nat) (c : List (L4) -> List (L4) -> Int -> Prop -> L6 -> Prop) (a b : List (L4)) (K : L6) : Prop :=
 let d := !(decide ((a.length : Int) = (b.length : Int))); if d = true then K false else c a b 0 (K true) K
def Z22.c : Nat -> List (L4) -> List (L4) -> L6 -> Prop
 | 0, _, _, _ => False
 | n + 1, a, b, K => Z22.w n (Z22.l4 n) a b K
def Z19.w (n : Nat) (a : L5) (b : Int) (c : L5) (d : Int) (K : L6) : Prop :=
 if (!(a == c)) = true then K false else (if (!(decide (b = d))) = true then K false else K true)
def Z19.c : Nat -> L5 -> Int -> L5 -> Int -> L6 -> Prop
 | 0, _, _, _, _, _ => False
 | n + 1, a, b, c, d, K => Z19.w n a b c d K
def Z20.l4.b (n : Nat) (b c : L1) (d : L7) (a : Int) (e : Prop) (f : L6) : Prop :=
 if decide (a < b.length) then grd (decide (0 <= a) && decide (a < b.length)) (grd (decide (0 <= a) && decide (a < c.length)) (Z19.c n ((rd b (Int.toNat a)).1) ((rd b (Int.toNat a)).2) ((rd c (Int.toNat a)).1) ((rd c (Int.toNat a)).2) fun g => if (!g) = true then f false else d (IntKind.wrap .i64 (a + 1)))) else e
def Z20.l4 : Nat -> L1 -> L1 -> Int -> Prop -> L6 -> Prop
 | 0, _, _, _, _, _ => False
 | n + 1, a, b, e, c, d => Z20.l4.b n a b (fun f => Z20.l4 n a b f c d) e c d
def Z20.w (n : Nat) (c : L1 -> L1 -> Int -> Prop -> L6 -> Prop) (a b : L1) (K : L6) : Prop :=
 let d := !(decide ((a.length : Int) = (b.length : Int))); if d = true then K false else c a b 0 (K true) K
def Z20.c : Nat -> L1 -> L1 -> L6 -> Prop
 | 0, _, _, _ => False
 | n + 1, a, b, K => Z20.w n (Z20.l4 n) a b K
def Z28.l4.b (n : Nat) (b c : L4) (d : L7) (a : Int) (e : Prop) (f : L6) : Prop :=
 if decide (a < b.length) then grd (decide (0 <= a) && decide (a < b.length)) (grd (decide (0 <= a) && decide (a < c.length)) (let g := !(decide (rd b (Int.toNat a) = rd c (Int.toNat a))); if g = true then f false else d (IntKind.wrap .i64 (a + 1)))) else e
def Z28.l4 : Nat -> L4 -> L4 -> Int -> Prop -> L6 -> Prop
 | 0, _, _, _, _, _ => False
 | n + 1, a, b, e, c, d => Z28.l4.b n a b (fun f => Z28.l4 n a b f c d) e c d
def Z28.w (n : Nat) (c : L4 -> L4 -> Int -> Prop -> L6 -> Prop) (a b : L4) (K : L6) : Prop :=
 let d := !(decide ((a.length : Int) = (b.length : Int))); if d = true then K false else c a b 0 (K true) K
def Z28.c : Nat -> L4 -> L4 -> L6 -> Prop
 | 0, _, _, _ => False
 | n + 1, a, b, K => Z28.w n (Z28.l4 n) a b K
def Z18.w (n : Nat) (a : Int) (b : L4) (c : Int) (d : L4) (K : L6) : Prop :=
 if (!(decide (a = c))) = true then K false else (Z28.c n b d fun e => if (!e) = true then K false else K true)
def Z18.c : Nat -> Int -> L4 -> Int -> L4 -> L6 -> Prop
 | 0, _, _, _, _, _ => False
 | n + 1, a, b, c, d, K => Z18.w n a b c d K
def Z25.w (n : Nat) (b c d e f : Int) (g h : L4) (i j k l m : Int) (o p : L4) (K : L6) : Prop :=
 let a := K false; if (!(decide (b = i))) = true then a else (if (!(decide (c = j))) = true then a else (if (!(decide (d = k))) = true then a else (if (!(decide (e = l))) = true then a else (Z18.c n f g m o fun q => if (!q) = true then a else (Z21.c n h p fun r => if (!r) = true then a else K true)))))
def Z25.c : Nat -> Int -> Int -> Int -> Int -> Int -> L4 -> L4 -> Int -> Int -> Int -> Int -> Int -> L4 -> L4 -> L6 -> Prop
 | 0, _, _, _, _, _, _, _, _, _, _, _, _, _, _, _ => False
 | n + 1, a, b, c, d, e, f, g, h, i, j, k, l, m, o, K => Z25.w n a b c d e f g h i j k l m o K
def Z26.l4.b (n : Nat) (b c : L3) (d : L7) (a : Int) (e : Prop) (f : L6) : Prop :=
 if decide (a < b.length) then grd (decide (0 <= a) && decide (a < b.length)) (let g : L4 := ((((((rd b (Int.toNat a)).2).2).2).2).2).1; let h : L4 := ((((((rd b (Int.toNat a)).2).2).2).2).2).2; grd (decide (0 <= a) && decide (a < c.length)) (let i : L4 := ((((((rd c (Int.toNat a)).2).2).2).2).2).1; let j : L4 := ((((((rd c (Int.toNat a)).2).2).2).2).2).2; Z25.c n ((rd b (Int.toNat a)).1) (((rd b (Int.toNat a)).2).1) ((((rd b (Int.toNat a)).2).2).1) (((((rd b (Int.toNat a)).2).2).2).1) ((((((rd b (Int.toNat a)).2).2).2).2).1) g h ((rd c (Int.toNat a)).1) (((rd c (Int.toNat a)).2).1) ((((rd c (Int.toNat a)).2).2).1) (((((rd c (Int.toNat a)).2).2).2).1) ((((((rd c (Int.toNat a)).2).2).2).2).1) i j fun k => if (!k) = true then f false else d (IntKind.wrap .i64 (a + 1)))) else e
def Z26.l4 : Nat -> L3 -> L3 -> Int -> Prop -> L6 -> Prop
 | 0, _, _, _, _, _ => False
 | n + 1, a, b, e, c, d => Z26.l4.b n a b (fun f => Z26.l4 n a b f c d) e c d
def Z26.w (n : Nat) (c : L3 -> L3 -> Int -> Prop -> L6 -> Prop) (a b : L3) (K : L6) : Prop :=
 let d := !(decide ((a.length : Int) = (b.length : Int))); if d = true then K false else c a b 0 (K true) K
def Z26.c : Nat -> L3 -> L3 -> L6 -> Prop
 | 0, _, _, _ => False
 | n + 1, a, b, K => Z26.w n (Z26.l4 n) a b K
def Z27.w (n : Nat) (a b : L3) (K : L6) : Prop :=
 Z26.c n a b fun c => if (!c) = true then K false else K true
def Z27.c : Nat -> L3 -> L3 -> L6 -> Prop
 | 0, _, _, _ => False
 | n + 1, a, b, K => Z27.w n a b K
def Z23.w (n : Nat) (a : Int) (b : Bool) (c d : L3) (e : Int) (f : Bool) (g h : L3) (K : L6) : Prop :=
 if (!(decide (a = e))) = true then K false else (if (!(b == f)) = true then K false else (Z27.c n c g fun i => if (!i) = true then K false else (Z27.c n d h fun j => if (!j) = true then K false else K true)))
def Z23.c : Nat -> Int -> Bool -> L3 -> L3 -> Int -> Bool -> L3 -> L3 -> L6 -> Prop
 | 0, _, _, _, _, _, _, _, _, _ => False
 | n + 1, a, b, c, d, e, f, g, h, K => Z23.w n a b c d e f g h K
end Go.Vsi
end

section
namespace Go.Vsi
def Z24.l4.b (n : Nat) (b c : L2) (d : L7) (a : Int) (e : Prop) (f : L6) : Prop :=
 if decide (a < b.length) then grd (decide (0 <= a) && decide (a < b.length)) (grd (decide (0 <= a) && decide (a < c.length)) (Z23.c n ((rd b (Int.toNat a)).1) (((rd b (Int.toNat a)).2).1) ((((rd b (Int.toNat a)).2).2).1) ((((rd b (Int.toNat a)).2).2).2) ((rd c (Int.toNat a)).1) (((rd c (Int.toNat a)).2).1) ((((rd c (Int.toNat a)).2).2).1) ((((rd c (Int.toNat a)).2).2).2) fun g => if (!g) = true then f false else d (IntKind.wrap .i64 (a + 1)))) else e
def Z24.l4 : Nat -> L2 -> L2 -> Int -> Prop -> L6 -> Prop
 | 0, _, _, _, _, _ => False
 | n + 1, a, b, e, c, d => Z24.l4.b n a b (fun f => Z24.l4 n a b f c d) e c d
def Z24.w (n : Nat) (c : L2 -> L2 -> Int -> Prop -> L6 -> Prop) (a b : L2) (K : L6) : Prop :=
 let d := !(decide ((a.length : Int) = (b.length : Int))); if d = true then K false else c a b 0 (K true) K
def Z24.c : Nat -> L2 -> L2 -> L6 -> Prop
 | 0, _, _, _ => False
 | n + 1, a, b, K => Z24.w n (Z24.l4 n) a b K
def Z37.l4.b (n : Nat) (d : Int -> L5 -> Prop) (a : Int) (b : L5) (e : L5 -> Prop) : Prop :=
 if decide (a > 0) then (let c := IntKind.wrap .u8 (IntKind.wrap .i64 (48 + (Int.tmod a 10))); grd (decide ((zZ ([c] : L4)).length + b.length <= 9223372036854775807)) (d (IntKind.wrap .i64 (Int.tdiv a 10)) ((zZ ([c] : L4)) ++ b))) else e b
def Z37.l4 : Nat -> Int -> L5 -> (L5 -> Prop) -> Prop
 | 0, _, _, _ => False
 | n + 1, b, c, a => Z37.l4.b n (fun d e => Z37.l4 n d e a) b c a
def Z37.w (n : Nat) (c : Int -> L5 -> (L5 -> Prop) -> Prop) (a : Int) (K : L5 -> Prop) : Prop :=
 if decide (a <= 0) then K ([109, 48] : L5) else (c a ([] : L5) fun b => grd (decide (([109] : L5).length + b.length <= 9223372036854775807)) (K (([109] : L5) ++ b)))
def Z37.c : Nat -> Int -> (L5 -> Prop) -> Prop
 | 0, _, _ => False
 | n + 1, a, K => Z37.w n (Z37.l4 n) a K
def Z31.l2.b (n : Nat) (e : Int -> Int -> L1 -> Prop) (c a : Int) (b : L1) (f : Int -> L1 -> Prop) : Prop :=
 if decide (a < b.length) then (Z37.c n c fun g => grd (decide (0 <= a) && decide (a < b.length)) (let d := List.set b (Int.toNat a) (g, (rd b (Int.toNat a)).2); grd (decide (0 <= a) && decide (a < d.length)) (let h := List.set d (Int.toNat a) ((rd d (Int.toNat a)).1, IntKind.wrap .i64 (c + 1)); let i := IntKind.wrap .i64 ((IntKind.wrap .i64 (c + 1)) + 1); e i (IntKind.wrap .i64 (a + 1)) h))) else f c b
def Z31.l2 : Nat -> Int -> Int -> L1 -> (Int -> L1 -> Prop) -> Prop
 | 0, _, _, _, _ => False
 | n + 1, b, c, d, a => Z31.l2.b n (fun e f g => Z31.l2 n e f g a) b c d a
def Z31.w (n : Nat) (a : Int -> Int -> L1 -> (Int -> L1 -> Prop) -> Prop) (b : L1) (c : Int) (K : Int -> L1 -> Prop) : Prop :=
 a c 0 b K
def Z31.c : Nat -> L1 -> Int -> (Int -> L1 -> Prop) -> Prop
 | 0, _, _, _ => False
 | n + 1, a, b, K => Z31.w n (Z31.l2 n) a b K
def Z38.l2.b (n : Nat) (d : Int -> Int -> L4 -> Prop) (c a : Int) (b : L4) (e : L9) : Prop :=
 if decide (a < b.length) then grd (decide (0 <= a) && decide (a < b.length)) (let f := List.set b (Int.toNat a) (IntKind.wrap .u64 c); d (IntKind.wrap .i64 (c + 1)) (IntKind.wrap .i64 (a + 1)) f) else e c b
def Z38.l2 : Nat -> Int -> Int -> L4 -> L9 -> Prop
 | 0, _, _, _, _ => False
 | n + 1, b, c, d, a => Z38.l2.b n (fun e f g => Z38.l2 n e f g a) b c d a
def Z38.w (n : Nat) (a : Int -> Int -> L4 -> L9 -> Prop) (b : L4) (c : Int) (K : L9) : Prop :=
 a c 0 b K
def Z38.c : Nat -> L4 -> Int -> L9 -> Prop
 | 0, _, _, _ => False
 | n + 1, a, b, K => Z38.w n (Z38.l2 n) a b K
def Z32.l2.b (n : Nat) (d : Int -> Int -> L4 -> Prop) (c a : Int) (b : L4) (e : L9) : Prop :=
 if decide (a < b.length) then grd (decide (0 <= a) && decide (a < b.length)) (d (IntKind.wrap .i64 (c + 1)) (IntKind.wrap .i64 (a + 1)) (List.set b (Int.toNat a) c)) else e c b
def Z32.l2 : Nat -> Int -> Int -> L4 -> L9 -> Prop
 | 0, _, _, _, _ => False
 | n + 1, b, c, d, a => Z32.l2.b n (fun e f g => Z32.l2 n e f g a) b c d a
def Z32.w (n : Nat) (a : Int -> Int -> L4 -> L9 -> Prop) (b : L4) (c : Int) (K : L9) : Prop :=
 a c 0 b K
def Z32.c : Nat -> L4 -> Int -> L9 -> Prop
 | 0, _, _, _ => False
 | n + 1, a, b, K => Z32.w n (Z32.l2 n) a b K
def Z36.l2.b (n : Nat) (l : Int -> Int -> L3 -> Prop) (i a : Int) (b : L3) (m : Int -> L3 -> Prop) : Prop :=
 if decide (a < b.length) then grd (decide (0 <= a) && decide (a < b.length)) (let e := List.set b (Int.toNat a) (i, ((rd b (Int.toNat a)).2).1, (((rd b (Int.toNat a)).2).2).1, ((((rd b (Int.toNat a)).2).2).2).1, (((((rd b (Int.toNat a)).2).2).2).2).1, ((((((rd b (Int.toNat a)).2).2).2).2).2).1, ((((((rd b (Int.toNat a)).2).2).2).2).2).2); grd (decide (0 <= a) && decide (a < e.length)) (let f := List.set e (Int.toNat a) ((rd e (Int.toNat a)).1, IntKind.wrap .i64 (i + 1), (((rd e (Int.toNat a)).2).2).1, ((((rd e (Int.toNat a)).2).2).2).1, (((((rd e (Int.toNat a)).2).2).2).2).1, ((((((rd e (Int.toNat a)).2).2).2).2).2).1, ((((((rd e (Int.toNat a)).2).2).2).2).2).2); let j := IntKind.wrap .i64 ((IntKind.wrap .i64 (i + 1)) + 1); grd (decide (0 <= a) && decide (a < f.length)) (let g := List.set f (Int.toNat a) ((rd f (Int.toNat a)).1, ((rd f (Int.toNat a)).2).1, j, ((((rd f (Int.toNat a)).2).2).2).1, (((((rd f (Int.toNat a)).2).2).2).2).1, ((((((rd f (Int.toNat a)).2).2).2).2).2).1, ((((((rd f (Int.toNat a)).2).2).2).2).2).2); grd (decide (0 <= a) && decide (a < g.length)) (let h := List.set g (Int.toNat a) ((rd g (Int.toNat a)).1, ((rd g (Int.toNat a)).2).1, (((rd g (Int.toNat a)).2).2).1, IntKind.wrap .i64 (j + 1), (((((rd g (Int.toNat a)).2).2).2).2).1, ((((((rd g (Int.toNat a)).2).2).2).2).2).1, ((((((rd g (Int.toNat a)).2).2).2).2).2).2); let k := IntKind.wrap .i64 ((IntKind.wrap .i64 (j + 1)) + 1); grd (decide (0 <= a) && decide (a < h.length)) (let c := List.set h (Int.toNat a) ((rd h (Int.toNat a)).1, ((rd h (Int.toNat a)).2).1, (((rd h (Int.toNat a)).2).2).1, ((((rd h (Int.toNat a)).2).2).2).1, k, ((((((rd h (Int.toNat a)).2).2).2).2).2).1, ((((((rd h (Int.toNat a)).2).2).2).2).2).2); grd (decide (0 <= a) && decide (a < c.length)) (Z38.c n (((((((rd c (Int.toNat a)).2).2).2).2).2).1) (IntKind.wrap .i64 (k + 1)) fun o p => let d := List.set c (Int.toNat a) ((rd c (Int.toNat a)).1, ((rd c (Int.toNat a)).2).1, (((rd c (Int.toNat a)).2).2).1, ((((rd c (Int.toNat a)).2).2).2).1, (((((rd c (Int.toNat a)).2).2).2).2).1, p, ((((((rd c (Int.toNat a)).2).2).2).2).2).2); grd (decide (0 <= a) && decide (a < d.length)) (Z32.c n (((((((rd d (Int.toNat a)).2).2).2).2).2).2) o fun q r => let s := List.set d (Int.toNat a) ((rd d (Int.toNat a)).1, ((rd d (Int.toNat a)).2).1, (((rd d (Int.toNat a)).2).2).1, ((((rd d (Int.toNat a)).2).2).2).1, (((((rd d (Int.toNat a)).2).2).2).2).1, ((((((rd d (Int.toNat a)).2).2).2).2).2).1, r); l q (IntKind.wrap .i64 (a + 1)) s))))))) else m i b
def Z36.l2 : Nat -> Int -> Int -> L3 -> (Int -> L3 -> Prop) -> Prop
 | 0, _, _, _, _ => False
 | n + 1, b, c, d, a => Z36.l2.b n (fun e f g => Z36.l2 n e f g a) b c d a
def Z36.w (n : Nat) (a : Int -> Int -> L3 -> (Int -> L3 -> Prop) -> Prop) (b : L3) (c : Int) (K : Int -> L3 -> Prop) : Prop :=
 a c 0 b K
def Z36.c : Nat -> L3 -> Int -> (Int -> L3 -> Prop) -> Prop
 | 0, _, _, _ => False
 | n + 1, a, b, K => Z36.w n (Z36.l2 n) a b K
def Z35.l2.b (n : Nat) (g : Int -> Int -> L2 -> Prop) (f a : Int) (b : L2) (h : Int -> L2 -> Prop) : Prop :=
 if decide (a < b.length) then grd (decide (0 <= a) && decide (a < b.length)) (let e := List.set b (Int.toNat a) (f, ((rd b (Int.toNat a)).2).1, (((rd b (Int.toNat a)).2).2).1, (((rd b (Int.toNat a)).2).2).2); let i := decide (Int.tmod (IntKind.wrap .i64 (f + 1)) 3 = 0); grd (decide (0 <= a) && decide (a < e.length)) (let c := List.set e (Int.toNat a) ((rd e (Int.toNat a)).1, i, (((rd e (Int.toNat a)).2).2).1, (((rd e (Int.toNat a)).2).2).2); let j := IntKind.wrap .i64 ((IntKind.wrap .i64 (f + 1)) + 1); grd (decide (0 <= a) && decide (a < c.length)) (Z36.c n ((((rd c (Int.toNat a)).2).2).1) j fun k l => let d := List.set c (Int.toNat a) ((rd c (Int.toNat a)).1, ((rd c (Int.toNat a)).2).1, l, (((rd c (Int.toNat a)).2).2).2); grd (decide (0 <= a) && decide (a < d.length)) (Z36.c n ((((rd d (Int.toNat a)).2).2).2) k fun m o => let p := List.set d (Int.toNat a) ((rd d (Int.toNat a)).1, ((rd d (Int.toNat a)).2).1, (((rd d (Int.toNat a)).2).2).1, o); g m (IntKind.wrap .i64 (a + 1)) p)))) else h f b
def Z35.l2 : Nat -> Int -> Int -> L2 -> (Int -> L2 -> Prop) -> Prop
 | 0, _, _, _, _ => False
 | n + 1, b, c, d, a => Z35.l2.b n (fun e f g => Z35.l2 n e f g a) b c d a
def Z35.w (n : Nat) (a : Int -> Int -> L2 -> (Int -> L2 -> Prop) -> Prop) (b : L2) (c : Int) (K : Int -> L2 -> Prop) : Prop :=
 a c 0 b K
def Z35.c : Nat -> L2 -> Int -> (Int -> L2 -> Prop) -> Prop
 | 0, _, _, _ => False
 | n + 1, a, b, K => Z35.w n (Z35.l2 n) a b K
def Z34.l2.b (n : Nat) (d : Int -> Int -> L4 -> Prop) (c a : Int) (b : L4) (e : L9) : Prop :=
 if decide (a < b.length) then grd (decide (0 <= a) && decide (a < b.length)) (d (IntKind.wrap .i64 (c + 1)) (IntKind.wrap .i64 (a + 1)) (List.set b (Int.toNat a) c)) else e c b
def Z34.l2 : Nat -> Int -> Int -> L4 -> L9 -> Prop
 | 0, _, _, _, _ => False
 | n + 1, b, c, d, a => Z34.l2.b n (fun e f g => Z34.l2 n e f g a) b c d a
def Z34.w (n : Nat) (a : Int -> Int -> L4 -> L9 -> Prop) (b : L4) (c : Int) (K : L9) : Prop :=
 a c 0 b K
def Z34.c : Nat -> L4 -> Int -> L9 -> Prop
 | 0, _, _, _ => False
 | n + 1, a, b, K => Z34.w n (Z34.l2 n) a b K
def Z33.l2.b (n : Nat) (d : Int -> Int -> List (L4) -> Prop) (c a : Int) (b : List (L4)) (e : Int -> List (L4) -> Prop) : Prop :=
 if decide (a < b.length) then grd (decide (0 <= a) && decide (a < b.length)) (Z34.c n (rd b (Int.toNat a)) c fun f g => d f (IntKind.wrap .i64 (a + 1)) (List.set b (Int.toNat a) g)) else e c b
def Z33.l2 : Nat -> Int -> Int -> List (L4) -> (Int -> List (L4) -> Prop) -> Prop
 | 0, _, _, _, _ => False
 | n + 1, b, c, d, a => Z33.l2.b n (fun e f g => Z33.l2 n e f g a) b c d a
def Z33.w (n : Nat) (a : Int -> Int -> List (L4) -> (Int -> List (L4) -> Prop) -> Prop) (b : List (L4)) (c : Int) (K : Int -> List (L4) -> Prop) : Prop :=
 a c 0 b K
def Z33.c : Nat -> List (L4) -> Int -> (Int -> List (L4) -> Prop) -> Prop
 | 0, _, _, _ => False
 | n + 1, a, b, K => Z33.w n (Z33.l2 n) a b K
def Z29.l2.b (n : Nat) (b : L4) (d : Int -> Int -> Prop) (c a : Int) (e f : L7) : Prop :=
 if decide (a < b.length) then grd (decide (0 <= a) && decide (a < b.length)) (if (!(decide (rd b (Int.toNat a) = c))) = true then f (- 1) else d (IntKind.wrap .i64 (c + 1)) (IntKind.wrap .i64 (a + 1))) else e c
def Z29.l2 : Nat -> L4 -> Int -> Int -> L7 -> L7 -> Prop
 | 0, _, _, _, _, _ => False
 | n + 1, a, d, e, b, c => Z29.l2.b n a (fun f g => Z29.l2 n a f g b c) d e b c
def Z29.w (n : Nat) (a : L4 -> Int -> Int -> L7 -> L7 -> Prop) (b : L4) (c : Int) (K : L7) : Prop :=
 a b c 0 K K
def Z29.c : Nat -> L4 -> Int -> L7 -> Prop
 | 0, _, _, _ => False
 | n + 1, a, b, K => Z29.w n (Z29.l2 n) a b K
def Z30.l2.b (n : Nat) (b : List (L4)) (e : Int -> Int -> Prop) (c a : Int) (f g : L7) : Prop :=
 if decide (a < b.length) then grd (decide (0 <= a) && decide (a < b.length)) (Z29.c n (rd b (Int.toNat a)) c fun d => if decide (d < 0) then g (- 1) else e d (IntKind.wrap .i64 (a + 1))) else f c
def Z30.l2 : Nat -> List (L4) -> Int -> Int -> L7 -> L7 -> Prop
 | 0, _, _, _, _, _ => False
 | n + 1, a, d, e, b, c => Z30.l2.b n a (fun f g => Z30.l2 n a f g b c) d e b c
def Z30.w (n : Nat) (a : List (L4) -> Int -> Int -> L7 -> L7 -> Prop) (b : List (L4)) (c : Int) (K : L7) : Prop :=
 a b c 0 K K
def Z30.c : Nat -> List (L4) -> Int -> L7 -> Prop
 | 0, _, _, _ => False
 | n + 1, a, b, K => Z30.w n (Z30.l2 n) a b K
def laws_FnExactParts.q22.b (n : Nat) (a : L1) (b : L2) (c d : Bool) (e f : List (L4)) (g : L6) (h : L1 -> L2 -> Bool -> List (L4) -> List (L4) -> Prop) : Prop :=
 if d = true then g false else h a b c e f
def laws_FnExactParts.q22 : Nat -> L1 -> L2 -> Bool -> Bool -> List (L4) -> List (L4) -> L6 -> (L1 -> L2 -> Bool -> List (L4) -> List (L4) -> Prop) -> Prop
 | 0, _, _, _, _, _, _, _, _ => False
 | n + 1, a, b, c, d, e, f, g, h => laws_FnExactParts.q22.b n a b c d e f g h
def laws_FnExactParts.j0 (a : L6) (n : Nat) (c : Int) (d : List (L4)) : Prop :=
 Z30.c n d 1 fun b => if decide (b < 0) then a false else (if (!(decide (b = c))) = true then a false else a true)
def laws_FnExactParts.j1 (b : L6) (n : Nat) (f : L1) (g : L2) (h : Bool) (i j : List (L4)) : Prop :=
 let a := b false; Z33.c n j 1 fun c d => Z30.c n d 1 fun e => if decide (e < 0) then a else (if (!(decide (e = c))) = true then a else (Z51.c n f fun k => Z54.c n g fun l => Z3.c n k l fun m o => Z22.c n m i fun p => if (!p) = false then (if (!(o == h)) = true then a else laws_FnExactParts.j0 b n c d) else a))
def laws_FnExactParts.q14.b (n : Nat) (g : L1 -> L2 -> Bool -> Bool -> List (L4) -> List (L4) -> L6 -> (L1 -> L2 -> Bool -> List (L4) -> List (L4) -> Prop) -> Prop) (b : L1) (c : L2) (d k : Bool) (e : List (L4)) (h : L1) (i : L2) (f : List (L4)) (a : L6) : Prop :=
 let j := g b c d true e f a fun l m o p q => laws_FnExactParts.j1 a n l m o p q; Z51.c n b fun r => Z20.c n h r fun s => if (!s) = true then a false else (Z54.c n c fun t => Z24.c n i t fun u => if (!u) = true then a false else (Z31.c n h 1 fun v E => Z35.c n i v fun w F => if (decide (w < 0)) = false then (Z22.c n f e fun x => if (!x) = false then (g b c d (!(k == d)) e f a fun y z A B D => laws_FnExactParts.j1 a n y z A B D) else j) else j))
def laws_FnExactParts.q14 : Nat -> L1 -> L2 -> Bool -> Bool -> List (L4) -> L1 -> L2 -> List (L4) -> L6 -> Prop
 | 0, _, _, _, _, _, _, _, _, _ => False
 | n + 1, a, b, c, d, e, f, g, h, i => laws_FnExactParts.q14.b n (laws_FnExactParts.q22 n) a b c d e f g h i
def laws_FnExactParts.w (n : Nat) (j : L1 -> L2 -> Bool -> Bool -> List (L4) -> L1 -> L2 -> List (L4) -> L6 -> Prop) (a : L1) (b : L2) (K : L6) : Prop :=
 Z41.c n a 1048576 fun c => if decide (c < 0) then K true else (Z44.c n b c fun k => if decide (k < 0) then K true else (Z51.c n a fun l => Z54.c n b fun m => Z69.c n l m fun d e => Z51.c n a fun f => Z54.c n b fun g => Z3.c n f g fun h i => Z22.c n h d fun o => if (!o) = false then (if (!(i == e)) = true then K false else j a b e i d f g h K) else K false))
def laws_FnExactParts.c : Nat -> L1 -> L2 -> L6 -> Prop
 | 0, _, _, _ => False
 | n + 1, a, b, K => laws_FnExactParts.w n (laws_FnExactParts.q14 n) a b K
end Go.Vsi
end
