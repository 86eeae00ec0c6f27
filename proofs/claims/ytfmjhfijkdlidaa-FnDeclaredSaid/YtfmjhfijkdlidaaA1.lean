/- Go functions, told on plain data. No statement is proved here. -/
import Derived.Test.YtfmjhfijkdlidaaM1
set_option linter.unusedVariables false
set_option linter.unusedSimpArgs false
set_option synthInstance.maxSize 4096

section
namespace Go.Vsi
abbrev qA : Type := Int × Int × Int × Int × Int × List (Int) × List (Int)
instance : DecidableEq qA := inferInstance
abbrev qE : Type := Int × Bool × List (qA) × List (qA)
instance : DecidableEq qE := inferInstance
abbrev qF : Type := Int × List (qE)
instance : DecidableEq qF := inferInstance
abbrev qB : Type := List UInt8 × Int
instance : DecidableEq qB := inferInstance
abbrev qU : Type := List UInt8 × List (Int)
instance : DecidableEq qU := inferInstance
abbrev qAM : Type := List (qB) × List (qF) × Int
instance : DecidableEq qAM := inferInstance
abbrev L1 := List qB
abbrev L2 := List qE
abbrev L3 := List qU
abbrev L4 := List qF
abbrev L5 := List qA
abbrev L6 := List Int
abbrev L7 := List UInt8
abbrev L8 := Int -> L1 -> L4 -> L1 -> L4 -> L6 -> Int -> Int -> Int -> Prop
abbrev L9 := Bool -> Prop
abbrev L10 := Int -> Int -> L1 -> L4 -> L1 -> L4 -> L1 -> L4 -> L6 -> Int -> Int -> Int -> Int -> Prop
abbrev L11 := Int -> Prop
abbrev L12 := Int -> L6 -> L5 -> L6 -> L6 -> Int -> Int -> Int -> Int -> Int -> Prop
abbrev L13 := L1 -> L4 -> Int -> Prop
abbrev L14 := Int -> Int -> L1 -> L4 -> Int -> Prop
abbrev L15 := L6 -> Prop
abbrev L16 := L7 -> Int -> Int -> Int -> L3 -> L3 -> L6 -> Prop
abbrev L17 := Int -> L6 -> Int -> Prop
abbrev L18 := L1 -> Int -> Int -> Int -> Int -> Int -> L6 -> L6 -> Prop
abbrev L19 := L1 -> L4 -> L1 -> L4 -> L6 -> Int -> Int -> Int -> Prop
abbrev L20 := L7 -> Prop
abbrev L21 := Int -> Int -> Prop
abbrev L22 := L2 -> Prop
abbrev L23 := L1 -> Int -> Int -> L6 -> L5 -> Prop
abbrev L24 := Bool -> L6 -> Prop
abbrev L25 := L1 -> L4 -> Int -> Int -> Prop
abbrev L26 := Int -> L6 -> List Bool -> Prop
abbrev L27 := Int -> Int -> Int -> Int -> L2 -> L1 -> L4 -> Int -> Prop
abbrev L28 := Bool -> L6 -> Int -> Prop
abbrev L29 := L1 -> L4 -> Int -> L1 -> L4 -> Int -> Prop
def Z22.w (n : Nat) (a : L6) (K : L9) : Prop :=
 K (decide ((a.length : Int) > 1048576))
def Z22.c : Nat -> L6 -> L9 -> Prop
 | 0, _, _ => False
 | n + 1, a, K => Z22.w n a K
def Z61.w (n : Nat) (a : L6) (K : L6 -> Int -> Prop) : Prop :=
 K a 0
def Z61.c : Nat -> L6 -> (L6 -> Int -> Prop) -> Prop
 | 0, _, _ => False
 | n + 1, a, K => Z61.w n a K
def Z35.w (n : Nat) (K : L13) : Prop :=
 let a := ([] : List qE); let b := ([(0, a)] : List qF); K ([] : List qB) b 1
def Z35.c : Nat -> L13 -> Prop
 | 0, _ => False
 | n + 1, K => Z35.w n K
def Z65.w (n : Nat) (a : L6) (b : Int) (K : L17) : Prop :=
 if decide (b >= a.length) then K 0 a b else (let c := IntKind.wrap .i64 ((IntKind.wrap .i64 (b + 1)) - 1); grd (decide (0 <= c) && decide (c < a.length)) (K (IntKind.wrap .i64 (rd a (Int.toNat c))) a (IntKind.wrap .i64 (b + 1))))
def Z65.c : Nat -> L6 -> Int -> L17 -> Prop
 | 0, _, _, _ => False
 | n + 1, a, b, K => Z65.w n a b K
def Z62.w (n : Nat) (b : L6) (c a : Int) (K : L17) : Prop :=
 if decide (a <= 1) then K 0 b c else (if decide (a <= 256) then (Z65.c n b c fun d e f => grd (!(decide (a = 0))) (K (Int.tmod d a) e f)) else (Z65.c n b c fun g h i => Z65.c n h i fun j k l => let m := IntKind.wrap .i64 ((IntKind.wrap .i64 (g * 256)) + j); grd (!(decide (a = 0))) (K (Int.tmod m a) k l)))
def Z62.c : Nat -> L6 -> Int -> Int -> L17 -> Prop
 | 0, _, _, _, _ => False
 | n + 1, a, b, c, K => Z62.w n a b c K
def Z69.w (n : Nat) (a : L6) (b c d : Int) (K : L17) : Prop :=
 grd (!(decide (c = 0))) (let e := IntKind.wrap .i64 (Int.tdiv (a.length : Int) c); if decide (IntKind.wrap .i64 (1 + e) > d) then (Z62.c n a b d fun f => K (IntKind.wrap .i64 (1 + f))) else (Z62.c n a b (IntKind.wrap .i64 (1 + e)) fun g => K (IntKind.wrap .i64 (1 + g))))
def Z69.c : Nat -> L6 -> Int -> Int -> Int -> L17 -> Prop
 | 0, _, _, _, _, _ => False
 | n + 1, a, b, c, d, K => Z69.w n a b c d K
def Z54.w (n : Nat) (a : Int) (K : L9) : Prop :=
 if decide (a >= 48) then K (decide (a <= 57)) else K false
def Z54.c : Nat -> Int -> L9 -> Prop
 | 0, _, _ => False
 | n + 1, a, K => Z54.w n a K
def Z59.l4.b (n : Nat) (b : L7) (e : L11) (a : Int) (f : Prop) (c : L9) : Prop :=
 let d := e (IntKind.wrap .i64 (a + 1)); if decide (a < b.length) then grd (decide (0 <= a) && decide (a < b.length)) (let g := ((List.getD b (Int.toNat a) 0).toNat : Int); Z54.c n g fun h => if (!h) = true then grd (decide (0 <= a) && decide (a < b.length)) (let i := ((List.getD b (Int.toNat a) 0).toNat : Int); if (decide (i < 97)) = false then grd (decide (0 <= a) && decide (a < b.length)) (let j := ((List.getD b (Int.toNat a) 0).toNat : Int); if decide (j > 122) then c false else d) else c false) else d) else f
def Z59.l4 : Nat -> L7 -> Int -> Prop -> L9 -> Prop
 | 0, _, _, _, _ => False
 | n + 1, a, d, b, c => Z59.l4.b n a (fun e => Z59.l4 n a e b c) d b c
def Z59.w (n : Nat) (b : L7 -> Int -> Prop -> L9 -> Prop) (a : L7) (K : L9) : Prop :=
 if (decide ((a.length : Int) < 1)) = false then (if (decide ((a.length : Int) > 12)) = false then grd (decide (0 < (a.length : Int))) (Z54.c n ((List.getD a 0 0).toNat : Int) fun c => if c = true then K false else b a 0 (K true) K) else K false) else K false
def Z59.c : Nat -> L7 -> L9 -> Prop
 | 0, _, _ => False
 | n + 1, a, K => Z59.w n (Z59.l4 n) a K
def Z57.w (n : Nat) (a b c : Int) (K : L9) : Prop :=
 if decide (a >= b) then K (decide (a <= c)) else K false
def Z57.c : Nat -> Int -> Int -> Int -> L9 -> Prop
 | 0, _, _, _, _ => False
 | n + 1, a, b, c, K => Z57.w n a b c K
def Z38.l10.b (n : Nat) (a : L1) (d b : Int) (e : L11) (c : Int) (f : L1 -> Int -> Int -> Prop) (g : L9) : Prop :=
 if decide (c < b) then grd (decide (0 <= c) && decide (c < a.length)) (grd (decide (0 <= b) && decide (b < a.length)) (let h : Bool := ((rd a (Int.toNat c)).1) == ((rd a (Int.toNat b)).1); if h = true then g false else e (IntKind.wrap .i64 (c + 1)))) else f a d b
def Z38.l10 : Nat -> L1 -> Int -> Int -> Int -> (L1 -> Int -> Int -> Prop) -> L9 -> Prop
 | 0, _, _, _, _, _, _ => False
 | n + 1, a, b, c, f, d, e => Z38.l10.b n a b c (fun g => Z38.l10 n a b c g d e) f d e
def Z38.j3 (c : L9) (d : L1 -> Int -> Int -> Prop) (e : L1 -> Int -> Int -> Int -> (L1 -> Int -> Int -> Prop) -> L9 -> Prop) (f : L1) (g h : Int) : Prop :=
 e f g h 0 (fun b i a => grd (decide (0 <= a) && decide (a < b.length)) (let j := IntKind.wrap .i64 (i + ((rd b (Int.toNat a)).2)); d b j (IntKind.wrap .i64 (a + 1)))) c
def Z38.l5.b (n : Nat) (e : L1 -> Int -> Int -> Int -> (L1 -> Int -> Int -> Prop) -> L9 -> Prop) (f : L1 -> Int -> Int -> Prop) (b : L1) (d a : Int) (g : L11) (c : L9) : Prop :=
 if decide (a < b.length) then grd (decide (0 <= a) && decide (a < b.length)) (Z59.c n ((rd b (Int.toNat a)).1) fun h => if (!h) = false then grd (decide (0 <= a) && decide (a < b.length)) (Z57.c n ((rd b (Int.toNat a)).2) 1 4096 fun i => if (!i) = true then c false else Z38.j3 c f e b d a) else c false) else g d
def Z38.l5 : Nat -> L1 -> Int -> Int -> L11 -> L9 -> Prop
 | 0, _, _, _, _, _ => False
 | n + 1, c, d, e, a, b => Z38.l5.b n (Z38.l10 n) (fun f g h => Z38.l5 n f g h a b) c d e a b
def Z38.w (n : Nat) (b : L1 -> Int -> Int -> L11 -> L9 -> Prop) (a : L1) (K : L9) : Prop :=
 if decide ((a.length : Int) > 60) then K false else b a 0 0 (fun c => K (decide (c <= 20000))) K
def Z38.c : Nat -> L1 -> L9 -> Prop
 | 0, _, _ => False
 | n + 1, a, K => Z38.w n (Z38.l5 n) a K
def Z84.w (n : Nat) (a : Int) (b : L6) (K : L9) : Prop :=
 if decide (a = 0) then K (decide ((b.length : Int) = 0)) else K false
def Z84.c : Nat -> Int -> L6 -> L9 -> Prop
 | 0, _, _, _ => False
 | n + 1, a, b, K => Z84.w n a b K
def Z85.w (n : Nat) (a : Int) (K : L9) : Prop :=
 Z57.c n a 4 9 K
def Z85.c : Nat -> Int -> L9 -> Prop
 | 0, _, _ => False
 | n + 1, a, K => Z85.w n a K
def Z52.w (n : Nat) (e : Int) (b : L6) (a : Int) (K : L11) : Prop :=
 grd (decide (0 <= IntKind.wrap .i64 (Int.tdiv a 64)) && decide (IntKind.wrap .i64 (Int.tdiv a 64) < (b.length : Int))) (let c : Int := rd b (Int.toNat (IntKind.wrap .i64 (Int.tdiv a 64))); grd (decide (0 <= IntKind.wrap .u64 (Int.tmod a 64))) (let d := Int.fdiv c (2 ^ (Nat.min (Int.toNat (IntKind.wrap .u64 (Int.tmod a 64))) 64)); K (IntKind.wrap .u8 (qCW .and .u64 d 1))))
def Z52.c : Nat -> Int -> L6 -> Int -> L11 -> Prop
 | 0, _, _, _, _ => False
 | n + 1, a, b, c, K => Z52.w n a b c K
def Z36.l4.b (n : Nat) (c : Int) (b : L6) (d : L11) (a : Int) (e : Prop) (f : L9) : Prop :=
 let g := decide (a < IntKind.wrap .i64 (64 * (b.length : Int))); if g = true then (Z52.c n c b a fun h => if (!(decide (h = 0))) = true then f false else d (IntKind.wrap .i64 (a + 1))) else e
def Z36.l4 : Nat -> Int -> L6 -> Int -> Prop -> L9 -> Prop
 | 0, _, _, _, _, _ => False
 | n + 1, a, b, e, c, d => Z36.l4.b n a b (fun f => Z36.l4 n a b f c d) e c d
def Z36.w (n : Nat) (c : Int -> L6 -> Int -> Prop -> L9 -> Prop) (a : Int) (b : L6) (K : L9) : Prop :=
 Z57.c n a 1 4096 fun d => if (!d) = false then (let e := IntKind.wrap .i64 (Int.tdiv (IntKind.wrap .i64 (a + 63)) 64); if (!(decide (b.length = e))) = true then K false else c a b a (K true) K) else K false
def Z36.c : Nat -> Int -> L6 -> L9 -> Prop
 | 0, _, _, _ => False
 | n + 1, a, b, K => Z36.w n (Z36.l4 n) a b K
def Z81.l2.b (n : Nat) (c : L1) (d e f g h i : Int) (j b : L6) (k : L11) (a : Int) (l : L18) (m : L9) : Prop :=
 if decide (a < b.length) then grd (decide (0 <= a) && decide (a < b.length)) (Z57.c n (rd b (Int.toNat a)) 0 (IntKind.wrap .i64 (d - 1)) fun o => if (!o) = true then m false else k (IntKind.wrap .i64 (a + 1))) else l c e f g h i j b
def Z81.l2 : Nat -> L1 -> Int -> Int -> Int -> Int -> Int -> Int -> L6 -> L6 -> Int -> L18 -> L9 -> Prop
 | 0, _, _, _, _, _, _, _, _, _, _, _, _ => False
 | n + 1, a, b, c, d, e, f, g, h, i, l, j, k => Z81.l2.b n a b c d e f g h i (fun m => Z81.l2 n a b c d e f g h i m j k) l j k
def Z81.q7.b (n : Nat) (a : L1) (b : Bool) (c d e f g : Int) (h i : L6) (j : L9) (k : L18) : Prop :=
 if b = true then j false else k a c d e f g h i
def Z81.q7 : Nat -> L1 -> Bool -> Int -> Int -> Int -> Int -> Int -> L6 -> L6 -> L9 -> L18 -> Prop
 | 0, _, _, _, _, _, _, _, _, _, _, _ => False
 | n + 1, a, b, c, d, e, f, g, h, i, j, k => Z81.q7.b n a b c d e f g h i j k
def Z81.q8.b (n : Nat) (d : L1) (b e i j f : Int) (g c : L6) (a : L9) : Prop :=
 if decide (b = 1) then (if decide ((c.length : Int) = 0) then Z57.c n e 0 (IntKind.wrap .i64 ((d.length : Int) - 1)) a else a false) else (if decide (b = 2) then (if decide ((c.length : Int) = 0) then Z36.c n f g a else a false) else (if decide (b = 3) then a (decide ((c.length : Int) >= 2)) else (Z85.c n b fun h => if h = true then a (decide ((c.length : Int) = 1)) else a false)))
def Z81.q8 : Nat -> L1 -> Int -> Int -> Int -> Int -> Int -> L6 -> L6 -> L9 -> Prop
 | 0, _, _, _, _, _, _, _, _, _ => False
 | n + 1, a, b, c, d, e, f, g, h, i => Z81.q8.b n a b c d e f g h i
def Z81.w (n : Nat) (p : L1 -> Int -> Int -> Int -> Int -> Int -> Int -> L6 -> L6 -> Int -> L18 -> L9 -> Prop) (g : L1 -> Bool -> Int -> Int -> Int -> Int -> Int -> L6 -> L6 -> L9 -> L18 -> Prop) (h : L1 -> Int -> Int -> Int -> Int -> Int -> L6 -> L6 -> L9 -> Prop) (q : L1) (r s t u v : Int) (w x : L6) (y : Int) (K : L9) : Prop :=
 p q y r s t u v w x 0 (fun i a b c d e f j => let l := Z85.c n a fun z => if (!z) = true then (g i (!(decide (c = 0))) a b c d e f j K fun A B D E F G H I => h A B D E F G H I K) else (g i false a b c d e f j K fun J L M N O R S T => h J L M N O R S T K); let k := g i true a b c d e f j K fun U V Y Z a0 a1 a2 a3 => h U V Y Z a0 a1 a2 a3 K; let m := if (!(decide (a = 4))) = true then (if (!(decide (d = 0))) = false then l else k) else l; let o := if (!(decide (a = 2))) = true then (Z84.c n e f fun a4 => if (!a4) = false then m else k) else m; if (!(decide (a = 1))) = true then (if (!(decide (b = 0))) = false then o else k) else o) K
def Z81.c : Nat -> L1 -> Int -> Int -> Int -> Int -> Int -> L6 -> L6 -> Int -> L9 -> Prop
 | 0, _, _, _, _, _, _, _, _, _, _ => False
 | n + 1, a, b, c, d, e, f, g, h, i, K => Z81.w n (Z81.l2 n) (Z81.q7 n) (Z81.q8 n) a b c d e f g h i K
def Z92.l3.b (n : Nat) (f : L1) (c : L6) (g h i j k : Int) (l b : L6) (m : L21) (d a : Int) (o : L1 -> Int -> Int -> Int -> Int -> Int -> Int -> L6 -> L6 -> Prop) : Prop :=
 if decide (a < b.length) then grd (decide (0 <= a) && decide (a < b.length)) (grd (decide (0 <= rd b (Int.toNat a)) && decide (rd b (Int.toNat a) < (c.length : Int))) (let e := IntKind.wrap .i64 (d + (rd c (Int.toNat (rd b (Int.toNat a))))); m (if e < 8192 then e else 8192) (IntKind.wrap .i64 (a + 1)))) else o f d g h i j k l b
def Z92.l3 : Nat -> L1 -> L6 -> Int -> Int -> Int -> Int -> Int -> L6 -> L6 -> Int -> Int -> (L1 -> Int -> Int -> Int -> Int -> Int -> Int -> L6 -> L6 -> Prop) -> Prop
 | 0, _, _, _, _, _, _, _, _, _, _, _, _ => False
 | n + 1, a, b, c, d, e, f, g, h, i, k, l, j => Z92.l3.b n a b c d e f g h i (fun m o => Z92.l3 n a b c d e f g h i m o j) k l j
def Z92.j2 (K : L11) (n : Nat) (a c b : Int) (d : Bool) : Prop :=
 if d = true then (Z57.c n b 0 4096 fun e => if (!e) = true then K (- 1) else K a) else (if decide (c = 9) then (Z57.c n b 1 4096 fun f => if (!f) = true then K (- 1) else K (IntKind.wrap .i64 (a * b))) else K a)
def Z92.j3 (K : L11) (n : Nat) (c a b : Int) (d : Bool) : Prop :=
 if d = true then (Z57.c n b 0 4096 fun e => if (!e) = true then K (- 1) else K (IntKind.wrap .i64 (c + b))) else (if decide (a = 7) then Z92.j2 K n c a b true else Z92.j2 K n c a b (decide (a = 8)))
def Z92.w (n : Nat) (g : L1 -> L6 -> Int -> Int -> Int -> Int -> Int -> L6 -> L6 -> Int -> Int -> (L1 -> Int -> Int -> Int -> Int -> Int -> Int -> L6 -> L6 -> Prop) -> Prop) (h : L1) (i j k l m : Int) (o p q : L6) (K : L11) : Prop :=
 g h q i j k l m o p 0 0 fun f c a d b e r t u => if decide (a = 1) then grd (decide (0 <= d) && decide (d < f.length)) (K ((rd f (Int.toNat d)).2)) else (if decide (a = 2) then K r else (if decide (a = 4) then (if (decide (e < 0)) = false then (if (decide (b < e)) = false then (if decide (b >= c) then K (- 1) else (let s := IntKind.wrap .i64 ((IntKind.wrap .i64 (b - e)) + 1); K s)) else K (- 1)) else K (- 1)) else (if decide (a = 5) then Z92.j3 K n c a b true else Z92.j3 K n c a b (decide (a = 6)))))
def Z92.c : Nat -> L1 -> Int -> Int -> Int -> Int -> Int -> L6 -> L6 -> L6 -> L11 -> Prop
 | 0, _, _, _, _, _, _, _, _, _, _ => False
 | n + 1, a, b, c, d, e, f, g, h, i, K => Z92.w n (Z92.l3 n) a b c d e f g h i K
def Z93.l16.b (n : Nat) (f : L1) (a : Int) (g h : L6) (c : L5) (i : Int -> List Bool -> Prop) (b : Int) (e : List Bool) (j : L1 -> Int -> L6 -> List Bool -> L6 -> L5 -> Prop) : Prop :=
 grd (decide (0 <= a) && decide (a < c.length)) (let k : L6 := ((((((rd c (Int.toNat a)).2).2).2).2).2).2; if decide (b < k.length) then grd (decide (0 <= a) && decide (a < c.length)) (let d : L6 := ((((((rd c (Int.toNat a)).2).2).2).2).2).2; grd (decide (0 <= b) && decide (b < d.length)) (grd (decide (0 <= rd d (Int.toNat b)) && decide (rd d (Int.toNat b) < (e.length : Int))) (let l := List.set e (Int.toNat (rd d (Int.toNat b))) true; i (IntKind.wrap .i64 (b + 1)) l))) else j f a g e h c)
def Z93.l16 : Nat -> L1 -> Int -> L6 -> L6 -> L5 -> Int -> List Bool -> (L1 -> Int -> L6 -> List Bool -> L6 -> L5 -> Prop) -> Prop
 | 0, _, _, _, _, _, _, _, _ => False
 | n + 1, a, b, c, d, e, g, h, f => Z93.l16.b n a b c d e (fun i j => Z93.l16 n a b c d e i j f) g h f
def Z93.l7.b (n : Nat) (i : L1 -> Int -> L6 -> L6 -> L5 -> Int -> List Bool -> (L1 -> Int -> L6 -> List Bool -> L6 -> L5 -> Prop) -> Prop) (j : L1 -> Int -> L6 -> L6 -> List Bool -> L5 -> Prop) (e : L1) (a : Int) (c d : L6) (g : List Bool) (b : L5) (k : L6 -> L6 -> List Bool -> Prop) (h : L15) : Prop :=
 if decide (a < b.length) then grd (decide (0 <= a) && decide (a < b.length)) (let l : L6 := ((((((rd b (Int.toNat a)).2).2).2).2).2).1; let m : L6 := ((((((rd b (Int.toNat a)).2).2).2).2).2).2; Z81.c n e ((rd b (Int.toNat a)).1) (((rd b (Int.toNat a)).2).1) ((((rd b (Int.toNat a)).2).2).1) (((((rd b (Int.toNat a)).2).2).2).1) ((((((rd b (Int.toNat a)).2).2).2).2).1) l m a fun o => if (!o) = true then h d else grd (decide (0 <= a) && decide (a < b.length)) (let p : L6 := ((((((rd b (Int.toNat a)).2).2).2).2).2).1; let q : L6 := ((((((rd b (Int.toNat a)).2).2).2).2).2).2; Z92.c n e ((rd b (Int.toNat a)).1) (((rd b (Int.toNat a)).2).1) ((((rd b (Int.toNat a)).2).2).1) (((((rd b (Int.toNat a)).2).2).2).1) ((((((rd b (Int.toNat a)).2).2).2).2).1) p q c fun f => Z57.c n f 1 4096 fun r => if (!r) = true then h d else grd (decide (c.length + ([f] : L6).length <= 7818749353073)) (i e a d (c ++ ([f] : L6)) b 0 g fun s t u v w => j s (IntKind.wrap .i64 (t + 1)) w u v))) else k c d g
def Z93.l7 : Nat -> L1 -> Int -> L6 -> L6 -> List Bool -> L5 -> (L6 -> L6 -> List Bool -> Prop) -> L15 -> Prop
 | 0, _, _, _, _, _, _, _, _ => False
 | n + 1, c, d, e, f, g, h, a, b => Z93.l7.b n (Z93.l16 n) (fun i j k l m o => Z93.l7 n i j k l m o a b) c d e f g h a b
def Z93.l20.b (n : Nat) (c d : L6) (b : List Bool) (e : L11) (a : Int) (f g : L15) : Prop :=
 let h := decide (IntKind.wrap .i64 (a + 1) < (b.length : Int)); if h = true then grd (decide (0 <= a) && decide (a < b.length)) (if (!(rd b (Int.toNat a))) = true then g d else e (IntKind.wrap .i64 (a + 1))) else f c
def Z93.l20 : Nat -> L6 -> L6 -> List Bool -> Int -> L15 -> L15 -> Prop
 | 0, _, _, _, _, _, _ => False
 | n + 1, a, b, c, f, d, e => Z93.l20.b n a b c (fun g => Z93.l20 n a b c g d e) f d e
def Z93.j0 (K : L15) (b : L1) (a : L5) (c : L1 -> Int -> L6 -> L6 -> List Bool -> L5 -> (L6 -> L6 -> List Bool -> Prop) -> L15 -> Prop) (d : L6 -> L6 -> List Bool -> Int -> L15 -> L15 -> Prop) : Prop :=
 grd ((decide (0 <= (a.length : Int)) && decide ((a.length : Int) <= 35184372088832)) && decide ((a.length : Int) = (a.length : Int))) (let e := List.replicate (Int.toNat (a.length : Int)) false; c b 0 ([] : L6) ([] : L6) e a (fun f g h => d f g h 0 K K) K)
def Z93.w (n : Nat) (d : L1 -> Int -> L6 -> L6 -> List Bool -> L5 -> (L6 -> L6 -> List Bool -> Prop) -> L15 -> Prop) (e : L6 -> L6 -> List Bool -> Int -> L15 -> L15 -> Prop) (c : L1) (a : L5) (K : L15) : Prop :=
 let b := K ([] : L6); Z38.c n c fun f => if (!f) = false then (if (decide ((a.length : Int) < 1)) = false then (if decide ((a.length : Int) > 400) then b else Z93.j0 K c a d e) else b) else b
def Z93.c : Nat -> L1 -> L5 -> L15 -> Prop
 | 0, _, _, _ => False
 | n + 1, a, b, K => Z93.w n (Z93.l7 n) (Z93.l20 n) a b K
def Z47.w (n : Nat) (b : L1) (c : L5) (K : L11) : Prop :=
 Z93.c n b c fun a => if decide ((a.length : Int) = 0) then K (- 1) else grd (decide (0 <= IntKind.wrap .i64 ((a.length : Int) - 1)) && decide (IntKind.wrap .i64 ((a.length : Int) - 1) < (a.length : Int))) (let d := Int.toNat (IntKind.wrap .i64 ((a.length : Int) - 1)); K (rd a d))
def Z47.c : Nat -> L1 -> L5 -> L11 -> Prop
 | 0, _, _, _ => False
 | n + 1, a, b, K => Z47.w n a b K
def Z40.l4.b (n : Nat) (d : L1) (b : L2) (g : L11) (a : Int) (h : Prop) (i : L9) : Prop :=
 let c := i false; if decide (a < b.length) then grd (decide (0 <= a) && decide (a < b.length)) (Z47.c n d ((((rd b (Int.toNat a)).2).2).1) fun e => let f := if (decide (e < 0)) = false then grd (decide (0 <= a) && decide (a < b.length)) (Z47.c n d ((((rd b (Int.toNat a)).2).2).2) fun j => if (!(decide (j = e))) = true then c else g (IntKind.wrap .i64 (a + 1))) else c; grd (decide (0 <= a) && decide (a < b.length)) (Z57.c n ((rd b (Int.toNat a)).1) 1 1000000 fun k => if (!k) = false then (if decide (a > 0) then grd (decide (0 <= a) && decide (a < b.length)) (grd (decide (0 <= IntKind.wrap .i64 (a - 1)) && decide (IntKind.wrap .i64 (a - 1) < (b.length : Int))) (let l : qE := rd b (Int.toNat (IntKind.wrap .i64 (a - 1))); if (decide ((rd b (Int.toNat a)).1 <= l.1)) = false then f else c)) else f) else c)) else h
def Z40.l4 : Nat -> L1 -> L2 -> Int -> Prop -> L9 -> Prop
 | 0, _, _, _, _, _ => False
 | n + 1, a, b, e, c, d => Z40.l4.b n a b (fun f => Z40.l4 n a b f c d) e c d
def Z40.w (n : Nat) (c : L1 -> L2 -> Int -> Prop -> L9 -> Prop) (a : L1) (b : L2) (K : L9) : Prop :=
 Z38.c n a fun d => if (!d) = false then (if decide ((b.length : Int) > 60) then K false else c a b 0 (K true) K) else K false
def Z40.c : Nat -> L1 -> L2 -> L9 -> Prop
 | 0, _, _, _ => False
 | n + 1, a, b, K => Z40.w n (Z40.l4 n) a b K
def Z46.l5.b (n : Nat) (c : Int) (d : L1) (b : L4) (e : Int) (f : L11) (a : Int) (g : Int -> L1 -> L4 -> Int -> Prop) (h : L9) : Prop :=
 if decide (a < b.length) then grd (decide (0 <= a) && decide (a < b.length)) (grd (decide (0 <= IntKind.wrap .i64 (a - 1)) && decide (IntKind.wrap .i64 (a - 1) < (b.length : Int))) (let i : qF := rd b (Int.toNat (IntKind.wrap .i64 (a - 1))); Z57.c n ((rd b (Int.toNat a)).1) i.1 c fun j => if (!j) = true then h false else f (IntKind.wrap .i64 (a + 1)))) else g c d b e
def Z46.l5 : Nat -> Int -> L1 -> L4 -> Int -> Int -> (Int -> L1 -> L4 -> Int -> Prop) -> L9 -> Prop
 | 0, _, _, _, _, _, _, _ => False
 | n + 1, a, b, c, d, g, e, f => Z46.l5.b n a b c d (fun h => Z46.l5 n a b c d h e f) g e f
def Z46.l21.b (n : Nat) (d e f : Int) (b : L2) (g : L1) (h : L4) (i : Int) (j : L21) (c a : Int) (k : L27) (l : L9) : Prop :=
 if decide (a < b.length) then grd (decide (0 <= a) && decide (a < b.length)) (if decide ((rd b (Int.toNat a)).1 <= c) then l false else grd (decide (0 <= a) && decide (a < b.length)) (j ((rd b (Int.toNat a)).1) (IntKind.wrap .i64 (a + 1)))) else k d e c f b g h i
def Z46.l21 : Nat -> Int -> Int -> Int -> L2 -> L1 -> L4 -> Int -> Int -> Int -> L27 -> L9 -> Prop
 | 0, _, _, _, _, _, _, _, _, _, _, _ => False
 | n + 1, a, b, c, d, e, f, g, j, k, h, i => Z46.l21.b n a b c d e f g (fun l m => Z46.l21 n a b c d e f g l m h i) j k h i
def Z46.j3 (e : L9) (f : Int -> Int -> Int -> Int -> L1 -> L4 -> Int -> Prop) (g : Int -> Int -> Int -> L2 -> L1 -> L4 -> Int -> Int -> Int -> L27 -> L9 -> Prop) (n : Nat) (h i j a : Int) (d : L1) (b : L4) (k c : Int) : Prop :=
 grd (decide (0 <= a) && decide (a < b.length)) (grd ((decide (0 <= c) && decide (c <= d.length)) && decide (0 <= c)) (let l := List.drop 0 (List.take (Int.toNat c) d); Z40.c n l ((rd b (Int.toNat a)).2) fun m => if (!m) = true then e false else g h i a ((rd b (Int.toNat a)).2) d b k j 0 (fun o p q r s t u v => let w := IntKind.wrap .i64 (p + (s.length : Int)); f o w q (IntKind.wrap .i64 (r + 1)) t u v) e))
def Z46.l12.b (n : Nat) (h : Int -> Int -> Int -> L2 -> L1 -> L4 -> Int -> Int -> Int -> L27 -> L9 -> Prop) (i : Int -> Int -> Int -> Int -> L1 -> L4 -> Int -> Prop) (c d e a : Int) (f : L1) (b : L4) (g : Int) (k : L14) (j : L9) : Prop :=
 if decide (a < b.length) then (let l := decide (IntKind.wrap .i64 (a + 1) < (b.length : Int)); if l = true then grd (decide (0 <= IntKind.wrap .i64 (a + 1)) && decide (IntKind.wrap .i64 (a + 1) < (b.length : Int))) (let m : qF := rd b (Int.toNat (IntKind.wrap .i64 (a + 1))); Z46.j3 j i h n c d e a f b g m.1) else Z46.j3 j i h n c d e a f b g c) else k d e f b g
def Z46.l12 : Nat -> Int -> Int -> Int -> Int -> L1 -> L4 -> Int -> L14 -> L9 -> Prop
 | 0, _, _, _, _, _, _, _, _, _ => False
 | n + 1, c, d, e, f, g, h, i, a, b => Z46.l12.b n (Z46.l21 n) (fun j k l m o p q => Z46.l12 n j k l m o p q a b) c d e f g h i a b
def Z46.j4 (K : L9) (a : L1) (b : L4) (c : Int) (d : Int -> L1 -> L4 -> Int -> Int -> (Int -> L1 -> L4 -> Int -> Prop) -> L9 -> Prop) (e : Int -> Int -> Int -> Int -> L1 -> L4 -> Int -> L14 -> L9 -> Prop) : Prop :=
 d (a.length : Int) a b c 1 (fun f g h i => e f 0 0 0 g h i (fun j k m o l => if decide (j <= 60) then K (decide (k < l)) else K false) K) K
def Z46.w (n : Nat) (d : Int -> L1 -> L4 -> Int -> Int -> (Int -> L1 -> L4 -> Int -> Prop) -> L9 -> Prop) (e : Int -> Int -> Int -> Int -> L1 -> L4 -> Int -> L14 -> L9 -> Prop) (b : L1) (a : L4) (c : Int) (K : L9) : Prop :=
 Z38.c n b fun f => if (!f) = false then (if (decide ((a.length : Int) < 1)) = false then (if (decide ((a.length : Int) > 20)) = false then grd (decide (0 < (a.length : Int))) (if (!(decide ((rd a 0).1 = 0))) = false then (Z57.c n c 1 1000000 fun g => if (!g) = true then K false else Z46.j4 K b a c d e) else K false) else K false) else K false) else K false
def Z46.c : Nat -> L1 -> L4 -> Int -> L9 -> Prop
 | 0, _, _, _, _ => False
 | n + 1, a, b, c, K => Z46.w n (Z46.l5 n) (Z46.l12 n) a b c K
def Z78.w (n : Nat) (e f g h i : Int) (c d : L6) (K : Int -> Int -> Int -> Int -> Int -> L6 -> L6 -> Prop) : Prop :=
 let a := grd (decide (([] : L6).length + c.length <= 7818749353073)) (K e f g h i (([] : L6) ++ c) (([] : L6) ++ d)); let b := a /\ a; grd (decide (([] : L6).length + d.length <= 7818749353073)) (b /\ b /\ a /\ b)
def Z78.c : Nat -> Int -> Int -> Int -> Int -> Int -> L6 -> L6 -> (Int -> Int -> Int -> Int -> Int -> L6 -> L6 -> Prop) -> Prop
 | 0, _, _, _, _, _, _, _, _ => False
 | n + 1, a, b, c, d, e, f, g, K => Z78.w n a b c d e f g K
def Z50.l3.b (n : Nat) (r b : L5) (d : Int -> L5 -> Prop) (a : Int) (c : L5) (s : L5 -> L5 -> Prop) : Prop :=
 if decide (a < b.length) then grd (decide (0 <= a) && decide (a < b.length)) (let e : L6 := ((((((rd b (Int.toNat a)).2).2).2).2).2).1; let f : L6 := ((((((rd b (Int.toNat a)).2).2).2).2).2).2; (Z78.c n ((rd b (Int.toNat a)).1) (((rd b (Int.toNat a)).2).1) ((((rd b (Int.toNat a)).2).2).1) (((((rd b (Int.toNat a)).2).2).2).1) ((((((rd b (Int.toNat a)).2).2).2).2).1) e f fun t u v w x y z => let g := ([(t, u, v, w, x, y, z)] : List qA); grd (decide (c.length + g.length <= 790660046940)) (d (IntKind.wrap .i64 (a + 1)) (c ++ g))) /\ (Z78.c n ((rd b (Int.toNat a)).1) (((rd b (Int.toNat a)).2).1) ((((rd b (Int.toNat a)).2).2).1) (((((rd b (Int.toNat a)).2).2).2).1) ((((((rd b (Int.toNat a)).2).2).2).2).1) e f fun h i j k l m o => (let p := ([(h, i, j, k, l, m, o)] : List qA); grd (decide (c.length + p.length <= 790660046940)) (d (IntKind.wrap .i64 (a + 1)) (c ++ p))) /\ (let q := ([(h, i, j, k, l, m, o)] : List qA); grd (decide (c.length + q.length <= 790660046940)) (d (IntKind.wrap .i64 (a + 1)) (c ++ q))))) else s r c
def Z50.l3 : Nat -> L5 -> L5 -> Int -> L5 -> (L5 -> L5 -> Prop) -> Prop
 | 0, _, _, _, _, _ => False
 | n + 1, a, b, d, e, c => Z50.l3.b n a b (fun f g => Z50.l3 n a b f g c) d e c
def Z50.w (n : Nat) (a : L5 -> L5 -> Int -> L5 -> (L5 -> L5 -> Prop) -> Prop) (b : L5) (K : L5 -> Prop) : Prop :=
 let c := ([] : List qA); let d := ([] : List qA); a c b 0 d fun e => K
def Z50.c : Nat -> L5 -> (L5 -> Prop) -> Prop
 | 0, _, _ => False
 | n + 1, a, K => Z50.w n (Z50.l3 n) a K
def Z51.l3.b (n : Nat) (b : L2) (e : Int -> L2 -> Prop) (a : Int) (c : L2) (f : L22) : Prop :=
 if decide (a < b.length) then grd (decide (0 <= a) && decide (a < b.length)) (Z50.c n ((((rd b (Int.toNat a)).2).2).1) fun g => Z50.c n ((((rd b (Int.toNat a)).2).2).2) fun h => let d := ([((rd b (Int.toNat a)).1, ((rd b (Int.toNat a)).2).1, g, h)] : List qE); grd (decide (c.length + d.length <= 1082596064271)) (e (IntKind.wrap .i64 (a + 1)) (c ++ d))) else f c
def Z51.l3 : Nat -> L2 -> Int -> L2 -> L22 -> Prop
 | 0, _, _, _, _ => False
 | n + 1, a, c, d, b => Z51.l3.b n a (fun e f => Z51.l3 n a e f b) c d b
def Z51.w (n : Nat) (a : L2 -> Int -> L2 -> L22 -> Prop) (b : L2) (K : L22) : Prop :=
 let c := ([] : List qE); a b 0 c K
def Z51.c : Nat -> L2 -> L22 -> Prop
 | 0, _, _ => False
 | n + 1, a, K => Z51.w n (Z51.l3 n) a K
def Z73.l3.b (n : Nat) (p q : L1) (r : L4) (x : L1) (b : L4) (y s t : Int) (d : Int -> L4 -> Prop) (a : Int) (c : L4) (u : L1 -> L1 -> L4 -> L4 -> Int -> Int -> Prop) : Prop :=
 let f := Z51.c n ((rd b (Int.toNat a)).2) fun g => (let h := ([((rd b (Int.toNat a)).1, g)] : List qF); grd (decide (c.length + h.length <= 2132386187201)) (d (IntKind.wrap .i64 (a + 1)) (c ++ h))) /\ (let i := ([((rd b (Int.toNat a)).1, g)] : List qF); grd (decide (c.length + i.length <= 2132386187201)) (d (IntKind.wrap .i64 (a + 1)) (c ++ i))); let e := (Z51.c n ((rd b (Int.toNat a)).2) fun v => let j := ([((rd b (Int.toNat a)).1, v)] : List qF); grd (decide (c.length + j.length <= 2132386187201)) (d (IntKind.wrap .i64 (a + 1)) (c ++ j))); if decide (a < b.length) then grd (decide (0 <= a) && decide (a < b.length)) ((grd (decide (0 <= a) && decide (a < b.length)) (e /\ e) /\ (Z51.c n ((rd b (Int.toNat a)).2) fun w => grd (decide (0 <= a) && decide (a < b.length)) (let k := ([((rd b (Int.toNat a)).1, w)] : List qF); grd (decide (c.length + k.length <= 2132386187201)) (d (IntKind.wrap .i64 (a + 1)) (c ++ k))))) /\ grd (decide (0 <= a) && decide (a < b.length)) ((e /\ e) /\ (e /\ f) /\ f) /\ (Z51.c n ((rd b (Int.toNat a)).2) fun l => grd (decide (0 <= a) && decide (a < b.length)) ((let m := ([((rd b (Int.toNat a)).1, l)] : List qF); grd (decide (c.length + m.length <= 2132386187201)) (d (IntKind.wrap .i64 (a + 1)) (c ++ m))) /\ (let o := ([((rd b (Int.toNat a)).1, l)] : List qF); grd (decide (c.length + o.length <= 2132386187201)) (d (IntKind.wrap .i64 (a + 1)) (c ++ o)))))) else u p q r c s t
def Z73.l3 : Nat -> L1 -> L1 -> L4 -> L1 -> L4 -> Int -> Int -> Int -> Int -> L4 -> (L1 -> L1 -> L4 -> L4 -> Int -> Int -> Prop) -> Prop
 | 0, _, _, _, _, _, _, _, _, _, _, _ => False
 | n + 1, a, b, c, d, e, f, g, h, j, k, i => Z73.l3.b n a b c d e f g h (fun l m => Z73.l3 n a b c d e f g h l m i) j k i
def Z73.w (n : Nat) (h : L1 -> L1 -> L4 -> L1 -> L4 -> Int -> Int -> Int -> Int -> L4 -> (L1 -> L1 -> L4 -> L4 -> Int -> Int -> Prop) -> Prop) (c : L1) (i : L4) (e : Int) (K : L13) : Prop :=
 let j := ([] : List qF); let b := grd (decide (([] : List qB).length + c.length <= 2814749767106)) (let k := ([] : List qF); h (([] : List qB) ++ c) ([] : List qB) j c i e 0 e 0 k fun l o p m q => K l m); let a := b /\ b; let f := b /\ a /\ a; let d := a /\ b; let g := a /\ d /\ a; f /\ (f /\ d /\ d) /\ g /\ g
def Z73.c : Nat -> L1 -> L4 -> Int -> L13 -> Prop
 | 0, _, _, _, _ => False
 | n + 1, a, b, c, K => Z73.w n (Z73.l3 n) a b c K
def Z79.l2.b (n : Nat) (b : L1) (c : L7) (d : L11) (a : Int) (e : Prop) (f : L11) : Prop :=
 if decide (a < b.length) then grd (decide (0 <= a) && decide (a < b.length)) (if (((rd b (Int.toNat a)).1) == c) = true then f a else d (IntKind.wrap .i64 (a + 1))) else e
def Z79.l2 : Nat -> L1 -> L7 -> Int -> Prop -> L11 -> Prop
 | 0, _, _, _, _, _ => False
 | n + 1, a, b, e, c, d => Z79.l2.b n a b (fun f => Z79.l2 n a b f c d) e c d
def Z79.w (n : Nat) (a : L1 -> L7 -> Int -> Prop -> L11 -> Prop) (b : L1) (c : L7) (K : L11) : Prop :=
 a b c 0 (K (- 1)) K
def Z79.c : Nat -> L1 -> L7 -> L11 -> Prop
 | 0, _, _, _ => False
 | n + 1, a, b, K => Z79.w n (Z79.l2 n) a b K
def Z37.w (n : Nat) (a : L1) (g : L4) (h : Int) (d : L7) (f : Int) (K : L25) : Prop :=
 Z46.c n a g h fun j => if (!j) = true then (let k := ([] : List qF); K ([] : List qB) k 0 1) else (Z73.c n a g h fun e b c => Z59.c n d fun l => if (!l) = true then K e b c 2 else (Z79.c n a d fun m => if decide (m >= 0) then K e b c 3 else (Z57.c n f 1 4096 fun o => if (!o) = true then K e b c 4 else grd (decide (([] : List qB).length + a.length <= 2814749767106)) (grd (decide ((([] : List qB) ++ a).length + ([(d, f)] : List qB).length <= 2814749767106)) (let i : List qB := (([] : List qB) ++ a) ++ ([(d, f)] : List qB); Z38.c n i fun p => if (!p) = true then K e b c 5 else K i b c 0)))))
def Z37.c : Nat -> L1 -> L4 -> Int -> L7 -> Int -> L25 -> Prop
 | 0, _, _, _, _, _, _ => False
 | n + 1, a, b, c, d, e, K => Z37.w n a b c d e K
def Z42.w (n : Nat) (a : L1) (b : L4) (d : Int) (K : L25) : Prop :=
 Z46.c n a b d fun h => if (!h) = true then (let i := ([] : List qF); K ([] : List qB) i 0 1) else (Z73.c n a b d fun e c f => if decide ((b.length : Int) = 20) then K e c f 5 else (let j := ([] : List qE); let g := ([((a.length : Int), j)] : List qF); grd (decide (c.length + g.length <= 2132386187201)) (K e (c ++ g) f 0)))
def Z42.c : Nat -> L1 -> L4 -> Int -> L25 -> Prop
 | 0, _, _, _, _ => False
 | n + 1, a, b, c, K => Z42.w n a b c K
def Z67.w (n : Nat) (b : L6) (c a : Int) (K : L28) : Prop :=
 Z62.c n b c a fun d => K (decide (d = IntKind.wrap .i64 (a - 1)))
def Z67.c : Nat -> L6 -> Int -> Int -> L28 -> Prop
 | 0, _, _, _, _ => False
 | n + 1, a, b, c, K => Z67.w n a b c K
def Z41.w (n : Nat) (e : L1) (a : L4) (f : Int) (K : L25) : Prop :=
 Z46.c n e a f fun h => if (!h) = true then (let i := ([] : List qF); K ([] : List qB) i 0 1) else (Z73.c n e a f fun c d g => let j := decide (IntKind.wrap .i64 ((a.length : Int) - 1) = 0); if j = true then K c d g 8 else grd (decide (0 <= IntKind.wrap .i64 ((a.length : Int) - 1)) && decide (IntKind.wrap .i64 ((a.length : Int) - 1) < (a.length : Int))) (let b : qF := rd a (Int.toNat (IntKind.wrap .i64 ((a.length : Int) - 1))); grd ((decide (0 <= b.1) && decide (b.1 <= (c.length : Int))) && decide (0 <= b.1)) (grd ((decide (0 <= IntKind.wrap .i64 ((a.length : Int) - 1)) && decide (IntKind.wrap .i64 ((a.length : Int) - 1) <= (d.length : Int))) && decide (0 <= IntKind.wrap .i64 ((a.length : Int) - 1))) (let k := Int.toNat (IntKind.wrap .i64 ((a.length : Int) - 1)); K (List.take (Int.toNat b.1) c) (List.take k d) g 0))))
def Z41.c : Nat -> L1 -> L4 -> Int -> L25 -> Prop
 | 0, _, _, _, _ => False
 | n + 1, a, b, c, K => Z41.w n a b c K
def Z70.l3.b (n : Nat) (e : Int -> Int -> L6 -> Int -> Prop) (a b : Int) (c : L6) (d : Int) (f : L17) : Prop :=
 if decide (b < 8) then (Z65.c n c d fun g h i => let j : Int := qCW .or .u64 (IntKind.wrap .u64 (a * 2 ^ 8)) (IntKind.wrap .u64 g); e j (IntKind.wrap .i64 (b + 1)) h i) else f a c d
def Z70.l3 : Nat -> Int -> Int -> L6 -> Int -> L17 -> Prop
 | 0, _, _, _, _, _ => False
 | n + 1, b, c, d, e, a => Z70.l3.b n (fun f g h i => Z70.l3 n f g h i a) b c d e a
def Z70.w (n : Nat) (a : Int -> Int -> L6 -> Int -> L17 -> Prop) (b : L6) (c : Int) (K : L17) : Prop :=
 a 0 0 b c K
def Z70.c : Nat -> L6 -> Int -> L17 -> Prop
 | 0, _, _, _ => False
 | n + 1, a, b, K => Z70.w n (Z70.l3 n) a b K
def Z55.l5.b (n : Nat) (c d : L6) (e f : Int) (g : Int -> L6 -> Prop) (a : Int) (b : L6) (h : L6 -> L6 -> Int -> Int -> Prop) : Prop :=
 if decide (a < c.length) then grd (decide (0 <= IntKind.wrap .i64 (Int.tdiv a 64)) && decide (IntKind.wrap .i64 (Int.tdiv a 64) < (b.length : Int))) (let i := Int.toNat (IntKind.wrap .i64 (Int.tdiv a 64)); grd (decide (0 <= a) && decide (a < c.length)) (grd (decide (0 <= IntKind.wrap .u64 (Int.tmod a 64))) (let j := IntKind.wrap .u64 ((IntKind.wrap .u64 (rd c (Int.toNat a))) * 2 ^ (Nat.min (Int.toNat (IntKind.wrap .u64 (Int.tmod a 64))) 64)); grd (decide (0 <= IntKind.wrap .i64 (Int.tdiv a 64)) && decide (IntKind.wrap .i64 (Int.tdiv a 64) < (b.length : Int))) (let k := Int.toNat (IntKind.wrap .i64 (Int.tdiv a 64)); let l := List.set b k (qCW .or .u64 (rd b i) j); g (IntKind.wrap .i64 (a + 1)) l)))) else h b d e f
def Z55.l5 : Nat -> L6 -> L6 -> Int -> Int -> Int -> L6 -> (L6 -> L6 -> Int -> Int -> Prop) -> Prop
 | 0, _, _, _, _, _, _, _ => False
 | n + 1, a, b, c, d, f, g, e => Z55.l5.b n a b c d (fun h i => Z55.l5 n a b c d h i e) f g e
def Z55.j0 (K : Int -> L6 -> Bool -> Prop) (b : L6) (c : L6 -> L6 -> Int -> Int -> Int -> L6 -> (L6 -> L6 -> Int -> Int -> Prop) -> Prop) : Prop :=
 let a := IntKind.wrap .i64 (Int.tdiv (IntKind.wrap .i64 ((b.length : Int) + 63)) 64); grd ((decide (0 <= a) && decide (a <= 7818749353073)) && decide (a = a)) (c b ([] : L6) 0 (b.length : Int) 0 (List.replicate (Int.toNat a) 0) fun d f g e => K e d true)
def Z55.w (n : Nat) (c : L6 -> L6 -> Int -> Int -> Int -> L6 -> (L6 -> L6 -> Int -> Int -> Prop) -> Prop) (a : L6) (K : Int -> L6 -> Bool -> Prop) : Prop :=
 let b := K 0 ([] : L6) false; if (decide ((a.length : Int) < 1)) = false then (if decide ((a.length : Int) > 4096) then b else Z55.j0 K a c) else b
def Z55.c : Nat -> L6 -> (Int -> L6 -> Bool -> Prop) -> Prop
 | 0, _, _ => False
 | n + 1, a, K => Z55.w n (Z55.l5 n) a K
def Z63.j4 (b : Int -> L6 -> Prop) (e c : Int) (a : L6) (d : Int) : Prop :=
 if decide (e = 1) then grd (decide (a.length + ([1] : L6).length <= 35184372088832)) (b (IntKind.wrap .i64 (c + 1)) (a ++ ([1] : L6))) else grd (decide (a.length + ([d] : L6).length <= 35184372088832)) (b (IntKind.wrap .i64 (c + 1)) (a ++ ([d] : L6)))
def Z63.l5.b (n : Nat) (f g b : Int) (h i : L6) (j k : Int) (d : Int -> L6 -> Prop) (a : Int) (c : L6) (l : L6 -> L6 -> L6 -> Int -> Int -> Prop) : Prop :=
 if decide (a < f) then (let e := IntKind.wrap .u64 (Int.tmod (IntKind.wrap .i64 (a * 7)) 64); grd (decide (0 <= e)) (let m := Int.fdiv g (2 ^ (Nat.min (Int.toNat e) 64)); if decide (b = 0) then Z63.j4 d b a c 0 else Z63.j4 d b a c (IntKind.wrap .u8 (qCW .and .u64 m 1)))) else l c h i j k
def Z63.l5 : Nat -> Int -> Int -> Int -> L6 -> L6 -> Int -> Int -> Int -> L6 -> (L6 -> L6 -> L6 -> Int -> Int -> Prop) -> Prop
 | 0, _, _, _, _, _, _, _, _, _, _ => False
 | n + 1, a, b, c, d, e, f, g, i, j, h => Z63.l5.b n a b c d e f g (fun k l => Z63.l5 n a b c d e f g k l h) i j h
def Z63.w (n : Nat) (a : Int -> Int -> Int -> L6 -> L6 -> Int -> Int -> Int -> L6 -> (L6 -> L6 -> L6 -> Int -> Int -> Prop) -> Prop) (b : L6) (c d : Int) (K : Int -> L6 -> L6 -> Int -> Prop) : Prop :=
 Z70.c n b c fun e f g => Z62.c n f g 4 fun h i j => a d e h ([] : L6) i j 0 0 ([] : L6) fun k q l m r => Z55.c n k fun o p s => K o p l m
def Z63.c : Nat -> L6 -> Int -> Int -> (Int -> L6 -> L6 -> Int -> Prop) -> Prop
 | 0, _, _, _, _ => False
 | n + 1, a, b, c, K => Z63.w n (Z63.l5 n) a b c K
end Go.Vsi
end

section
namespace Go.Vsi
def Z64.w (n : Nat) (h : L6) (i a b : Int) (K : L17) : Prop :=
 Z62.c n h i 8 fun e c d => let f := K a c d; if decide (e = 0) then f else (if decide (e = 1) then K b c d else (if decide (b < a) then f else (Z70.c n c d fun j k l => let g := IntKind.wrap .i64 ((IntKind.wrap .i64 (b - a)) + 1); grd (!(decide (IntKind.wrap .u64 g = 0))) (let m := Int.tmod (Int.fdiv j (2 ^ 1)) (IntKind.wrap .u64 g); let o := IntKind.wrap .i64 (a + (IntKind.wrap .i64 m)); K o k l))))
def Z64.c : Nat -> L6 -> Int -> Int -> Int -> L17 -> Prop
 | 0, _, _, _, _, _ => False
 | n + 1, a, b, c, d, K => Z64.w n a b c d K
def Z88.j1 (f : Int -> List Bool -> Prop) (d : L5) (c a : Int) (e : List Bool) : Prop :=
 grd (decide (0 <= c) && decide (c < d.length)) (let b : L6 := ((((((rd d (Int.toNat c)).2).2).2).2).2).2; grd (decide (0 <= a) && decide (a < b.length)) (grd (decide (0 <= rd b (Int.toNat a)) && decide (rd b (Int.toNat a) < (e.length : Int))) (let g := List.set e (Int.toNat (rd b (Int.toNat a))) true; f (IntKind.wrap .i64 (a + 1)) g)))
def Z88.l8.b (n : Nat) (b : L5) (a : Int) (f : L6) (g : Int -> List Bool -> Prop) (d : Int) (c : List Bool) (h : L5 -> Int -> List Bool -> L6 -> Prop) : Prop :=
 let e := h b a c f; grd (decide (0 <= a) && decide (a < c.length)) (if (rd c (Int.toNat a)) = true then grd (decide (0 <= a) && decide (a < b.length)) (let i : L6 := ((((((rd b (Int.toNat a)).2).2).2).2).2).2; if decide (d < i.length) then Z88.j1 g b a d c else e) else e)
def Z88.l8 : Nat -> L5 -> Int -> L6 -> Int -> List Bool -> (L5 -> Int -> List Bool -> L6 -> Prop) -> Prop
 | 0, _, _, _, _, _, _ => False
 | n + 1, a, b, c, e, f, d => Z88.l8.b n a b c (fun g h => Z88.l8 n a b c g h d) e f d
def Z88.l5.b (n : Nat) (e : L5 -> Int -> L6 -> Int -> List Bool -> (L5 -> Int -> List Bool -> L6 -> Prop) -> Prop) (f : L5 -> Int -> List Bool -> L6 -> Prop) (a : L5) (b : Int) (c : List Bool) (d : L6) (g : L5 -> List Bool -> L6 -> Prop) : Prop :=
 if decide (b >= 0) then (e a b d 0 c fun h i => f h (IntKind.wrap .i64 (i - 1))) else g a c d
def Z88.l5 : Nat -> L5 -> Int -> List Bool -> L6 -> (L5 -> List Bool -> L6 -> Prop) -> Prop
 | 0, _, _, _, _, _ => False
 | n + 1, b, c, d, e, a => Z88.l5.b n (Z88.l8 n) (fun f g h i => Z88.l5 n f g h i a) b c d e a
def Z88.l18.b (n : Nat) (d : L5) (e : Int) (f : L5) (g : List Bool) (c h : L6) (i j k l m : Int) (o : Int -> L6 -> Prop) (a : Int) (b : L6) (p : L5 -> Int -> L5 -> List Bool -> L6 -> L6 -> L6 -> Int -> Int -> Int -> Int -> Int -> Prop) : Prop :=
 if decide (a < b.length) then grd (decide (0 <= a) && decide (a < b.length)) (grd (decide (0 <= rd b (Int.toNat a)) && decide (rd b (Int.toNat a) < (c.length : Int))) (let q : Int := rd c (Int.toNat (rd b (Int.toNat a))); grd (decide (0 <= a) && decide (a < b.length)) (o (IntKind.wrap .i64 (a + 1)) (List.set b (Int.toNat a) q)))) else p d e f g c h b i j k l m
def Z88.l18 : Nat -> L5 -> Int -> L5 -> List Bool -> L6 -> L6 -> Int -> Int -> Int -> Int -> Int -> Int -> L6 -> (L5 -> Int -> L5 -> List Bool -> L6 -> L6 -> L6 -> Int -> Int -> Int -> Int -> Int -> Prop) -> Prop
 | 0, _, _, _, _, _, _, _, _, _, _, _, _, _, _ => False
 | n + 1, a, b, c, d, e, f, g, h, i, j, k, m, o, l => Z88.l18.b n a b c d e f g h i j k (fun p q => Z88.l18 n a b c d e f g h i j k p q l) m o l
def Z88.l13.b (n : Nat) (k : L5 -> Int -> L5 -> List Bool -> L6 -> L6 -> Int -> Int -> Int -> Int -> Int -> Int -> L6 -> (L5 -> Int -> L5 -> List Bool -> L6 -> L6 -> L6 -> Int -> Int -> Int -> Int -> Int -> Prop) -> Prop) (g : L5 -> Int -> L5 -> List Bool -> L6 -> Prop) (b : L5) (a : Int) (e : L5) (c : List Bool) (h : L6) (l : L5 -> Prop) : Prop :=
 if decide (a < b.length) then grd (decide (0 <= a) && decide (a < c.length)) (if (!(rd c (Int.toNat a))) = true then g b (IntKind.wrap .i64 (a + 1)) e c h else grd (decide (0 <= a) && decide (a < b.length)) (let m : L6 := ((((((rd b (Int.toNat a)).2).2).2).2).2).1; let o : L6 := ((((((rd b (Int.toNat a)).2).2).2).2).2).2; Z78.c n ((rd b (Int.toNat a)).1) (((rd b (Int.toNat a)).2).1) ((((rd b (Int.toNat a)).2).2).1) (((((rd b (Int.toNat a)).2).2).2).1) ((((((rd b (Int.toNat a)).2).2).2).2).1) m o fun p q r s t u v => k b a e c h u p q r s t 0 v fun w d f x i y z A B D E F => grd (decide (0 <= d) && decide (d < i.length)) (let G := List.set i (Int.toNat d) (f.length : Int); let j := ([(A, B, D, E, F, y, z)] : List qA); grd (decide (f.length + j.length <= 790660046940)) (g w (IntKind.wrap .i64 (d + 1)) (f ++ j) x G)))) else l e
def Z88.l13 : Nat -> L5 -> Int -> L5 -> List Bool -> L6 -> (L5 -> Prop) -> Prop
 | 0, _, _, _, _, _, _ => False
 | n + 1, b, c, d, e, f, a => Z88.l13.b n (Z88.l18 n) (fun g h i j k => Z88.l13 n g h i j k a) b c d e f a
def Z88.w (n : Nat) (d : L5 -> Int -> List Bool -> L6 -> (L5 -> List Bool -> L6 -> Prop) -> Prop) (e : L5 -> Int -> L5 -> List Bool -> L6 -> (L5 -> Prop) -> Prop) (a : L5) (b : Int) (K : L5 -> Prop) : Prop :=
 grd ((decide (0 <= (a.length : Int)) && decide ((a.length : Int) <= 35184372088832)) && decide ((a.length : Int) = (a.length : Int))) (let c := List.replicate (Int.toNat (a.length : Int)) false; grd (decide (0 <= b) && decide (b < c.length)) (grd ((decide (0 <= (a.length : Int)) && decide ((a.length : Int) <= 7818749353073)) && decide ((a.length : Int) = (a.length : Int))) (let f := List.replicate (Int.toNat (a.length : Int)) 0; d a (IntKind.wrap .i64 ((a.length : Int) - 1)) (List.set c (Int.toNat b) true) f fun g h i => let j := ([] : List qA); e g 0 j h i K)))
def Z88.c : Nat -> L5 -> Int -> (L5 -> Prop) -> Prop
 | 0, _, _, _ => False
 | n + 1, a, b, K => Z88.w n (Z88.l5 n) (Z88.l13 n) a b K
def Z80.w (n : Nat) (a : L5) (d c b : Int) (K : L5 -> Prop) : Prop :=
 if decide (c > b) then (let e := ([(4, 0, IntKind.wrap .i64 (b - 1), 0, 0, ([] : L6), ([d] : L6))] : List qA); grd (decide (a.length + e.length <= 790660046940)) (K (a ++ e))) else (if decide (c < b) then (let f := ([(5, 0, IntKind.wrap .i64 (b - c), 0, 0, ([] : L6), ([d] : L6))] : List qA); grd (decide (a.length + f.length <= 790660046940)) (K (a ++ f))) else K a)
def Z80.c : Nat -> L5 -> Int -> Int -> Int -> (L5 -> Prop) -> Prop
 | 0, _, _, _, _, _ => False
 | n + 1, a, b, c, d, K => Z80.w n a b c d K
def Z82.j0 (a : L1 -> Int -> Int -> Int -> Int -> L5 -> L6 -> L6 -> L5 -> L6 -> Int -> Int -> Int -> Int -> Int -> Int -> Prop) (n : Nat) (b : L1) (c d e f s : Int) (g : L5) (h i : L6) (j : L5) (k : L6) (l m o t p q : Int) (u : Bool) : Prop :=
 if u = true then (Z62.c n k l 9 fun v w x => a b c d e f g h i j w x m o v p q) else (if decide (s = 9) then (Z62.c n k l 3 fun r y z => let A := IntKind.wrap .i64 (e * (IntKind.wrap .i64 (1 + r))); a b c d A f g h i j y z m o (IntKind.wrap .i64 (1 + r)) p q) else a b c d e f g h i j k l m o t p q)
def Z82.q34.b (n : Nat) (b : L1) (c d e f a : Int) (u : Bool) (g : L5) (h i : L6) (j : L5) (k : L6) (l m o s p q : Int) (r : L1 -> Int -> Int -> Int -> Int -> L5 -> L6 -> L6 -> L5 -> L6 -> Int -> Int -> Int -> Int -> Int -> Int -> Prop) : Prop :=
 if u = true then (Z62.c n k l 5 fun t v w => r b c d (IntKind.wrap .i64 (e + t)) f g h i j v w m o t p q) else (if decide (a = 7) then Z82.j0 r n b c d e f a g h i j k l m o s p q true else Z82.j0 r n b c d e f a g h i j k l m o s p q (decide (a = 8)))
def Z82.q34 : Nat -> L1 -> Int -> Int -> Int -> Int -> Int -> Bool -> L5 -> L6 -> L6 -> L5 -> L6 -> Int -> Int -> Int -> Int -> Int -> Int -> (L1 -> Int -> Int -> Int -> Int -> L5 -> L6 -> L6 -> L5 -> L6 -> Int -> Int -> Int -> Int -> Int -> Int -> Prop) -> Prop
 | 0, _, _, _, _, _, _, _, _, _, _, _, _, _, _, _, _, _, _, _ => False
 | n + 1, a, b, c, d, e, f, g, h, i, j, k, l, m, o, p, q, r, s, t => Z82.q34.b n a b c d e f g h i j k l m o p q r s t
def Z82.j13 (i : L1 -> Int -> Int -> L5 -> L5 -> L6 -> Int -> Prop) (j : L1 -> Int -> Int -> Int -> Int -> L5 -> L5 -> L6 -> Int -> Prop) (k : Int) (c : L1) (d l m : Int) (e : L5) (f : Int) (a : L5) (o g : L6) (h : Int) : Prop :=
 if decide (f > 200) then i c d l a e g h else (let b := ([(k, 0, 0, 0, 0, ([] : L6), o)] : List qA); grd (decide (a.length + b.length <= 790660046940)) (let p := IntKind.wrap .i64 (((a ++ b).length : Int) - 1); j c d p f (IntKind.wrap .i64 (m - 1)) (a ++ b) e g h))
def Z82.j14 (i : L1 -> Int -> Int -> L5 -> L5 -> L6 -> Int -> Prop) (j : L1 -> Int -> Int -> Int -> Int -> L5 -> L5 -> L6 -> Int -> Prop) (c : L1) (d k e l : Int) (a : L5) (m o : L6) (f : L5) (g : L6) (h p q r s t : Int) : Prop :=
 if decide (e > 200) then i c d k a f g h else (let b := ([(p, q, r, s, t, o, m)] : List qA); grd (decide (a.length + b.length <= 790660046940)) (let u := IntKind.wrap .i64 (((a ++ b).length : Int) - 1); j c d u e (IntKind.wrap .i64 (l - 1)) (a ++ b) f g h))
def Z82.j15 (i : L1 -> Int -> Int -> L5 -> L5 -> L6 -> Int -> Prop) (j : L1 -> Int -> Int -> Int -> Int -> L5 -> L5 -> L6 -> Int -> Prop) (k : Int) (c : L1) (d l m : Int) (e : L5) (f : Int) (a : L5) (o g : L6) (h : Int) : Prop :=
 if decide (f > 200) then i c d l a e g h else (let b := ([(k, 0, 0, 0, 0, ([] : L6), o)] : List qA); grd (decide (a.length + b.length <= 790660046940)) (let p := IntKind.wrap .i64 (((a ++ b).length : Int) - 1); j c d p f (IntKind.wrap .i64 (m - 1)) (a ++ b) e g h))
def Z82.j16 (i : L1 -> Int -> Int -> L5 -> L5 -> L6 -> Int -> Prop) (j : L1 -> Int -> Int -> Int -> Int -> L5 -> L5 -> L6 -> Int -> Prop) (c : L1) (d k e l : Int) (a : L5) (m o : L6) (f : L5) (g : L6) (h p q r s t : Int) : Prop :=
 if decide (e > 200) then i c d k a f g h else (let b := ([(p, q, r, s, t, o, m)] : List qA); grd (decide (a.length + b.length <= 790660046940)) (let u := IntKind.wrap .i64 (((a ++ b).length : Int) - 1); j c d u e (IntKind.wrap .i64 (l - 1)) (a ++ b) f g h))
def Z82.l5.b (n : Nat) (s : L1 -> Int -> Int -> Int -> Int -> Int -> Bool -> L5 -> L6 -> L6 -> L5 -> L6 -> Int -> Int -> Int -> Int -> Int -> Int -> (L1 -> Int -> Int -> Int -> Int -> L5 -> L6 -> L6 -> L5 -> L6 -> Int -> Int -> Int -> Int -> Int -> Int -> Prop) -> Prop) (h : L1 -> Int -> Int -> Int -> Int -> L5 -> L5 -> L6 -> Int -> Prop) (c : L1) (d a f g : Int) (b e : L5) (R : L6) (S : Int) (i : L1 -> Int -> Int -> L5 -> L5 -> L6 -> Int -> Prop) : Prop :=
 if decide (g > 0) then (Z62.c n R S (c.length : Int) fun o b1 b2 => grd (decide (0 <= o) && decide (o < c.length)) (Z67.c n b1 b2 5 fun b3 x y => if b3 = true then (Z62.c n x y 6 fun p b4 b5 => Z63.c n b4 b5 (IntKind.wrap .i64 (1 + p)) fun T U V Y => if decide (a < 0) then (let Z := ([(2, 0, 0, 0, T, U, ([] : L6))] : List qA); grd (decide (b.length + Z.length <= 790660046940)) (h c d 0 (IntKind.wrap .i64 (1 + p)) (IntKind.wrap .i64 (g - 1)) (b ++ Z) e V Y)) else (Z64.c n V Y 3 9 fun j t u => if decide (j = 3) then (let l := ([(2, 0, 0, 0, T, U, ([] : L6))] : List qA); grd (decide (b.length + l.length <= 790660046940)) (let q := IntKind.wrap .i64 (((b ++ l).length : Int) - 1); Z67.c n t u 2 fun b6 a0 a1 => if b6 = true then (Z67.c n a0 a1 6 fun b7 z A => if b7 = true then grd (decide (([q, a] : L6).length + ([a] : L6).length <= 7818749353073)) (let b8 := ([q, a] : L6) ++ ([a] : L6); let b9 := IntKind.wrap .i64 ((IntKind.wrap .i64 (1 + p)) + f); Z82.j13 i h j c d a g e (IntKind.wrap .i64 (f + b9)) (b ++ l) b8 z A) else (let a2 := IntKind.wrap .i64 (f + (IntKind.wrap .i64 (1 + p))); if decide (a2 > 200) then i c d a (b ++ l) e z A else (let B := ([(j, 0, 0, 0, 0, ([] : L6), ([q, a] : L6))] : List qA); grd (decide ((b ++ l).length + B.length <= 790660046940)) (let c0 := IntKind.wrap .i64 ((((b ++ l) ++ B).length : Int) - 1); h c d c0 a2 (IntKind.wrap .i64 (g - 1)) ((b ++ l) ++ B) e z A)))) else (Z67.c n a0 a1 6 fun c1 D E => if c1 = true then grd (decide (([a, q] : L6).length + ([a] : L6).length <= 7818749353073)) (let c2 := ([a, q] : L6) ++ ([a] : L6); let c3 := IntKind.wrap .i64 ((IntKind.wrap .i64 (1 + p)) + f); Z82.j13 i h j c d a g e (IntKind.wrap .i64 (f + c3)) (b ++ l) c2 D E) else (let a3 := IntKind.wrap .i64 (f + (IntKind.wrap .i64 (1 + p))); if decide (a3 > 200) then i c d a (b ++ l) e D E else (let F := ([(j, 0, 0, 0, 0, ([] : L6), ([a, q] : L6))] : List qA); grd (decide ((b ++ l).length + F.length <= 790660046940)) (let c4 := IntKind.wrap .i64 ((((b ++ l) ++ F).length : Int) - 1); h c d c4 a3 (IntKind.wrap .i64 (g - 1)) ((b ++ l) ++ F) e D E)))))) else (if decide (j = 4) then (Z64.c n t u 0 (IntKind.wrap .i64 (f - 1)) fun G c5 c6 => Z64.c n c5 c6 0 G fun a4 c7 c8 => let c9 := IntKind.wrap .i64 ((IntKind.wrap .i64 (G - a4)) + 1); Z82.j14 i h c d a c9 g b ([a] : L6) ([] : L6) e c7 c8 j 0 G a4 0) else (if decide (j = 5) then (s c d a f g j true b ([a] : L6) ([] : L6) e t u j 0 0 0 0 fun d0 d1 d2 d3 d4 d5 d6 d7 d8 d9 e0 e1 e2 e3 e4 e5 => Z82.j14 i h d0 d1 d2 d3 d4 d5 d6 d7 d8 d9 e0 e1 e2 e3 e4 e5) else (s c d a f g j (decide (j = 6)) b ([a] : L6) ([] : L6) e t u j 0 0 0 0 fun e6 e7 e8 e9 f0 f1 f2 f3 f4 f5 f6 f7 f8 f9 g0 g1 => Z82.j14 i h e6 e7 e8 e9 f0 f1 f2 f3 f4 f5 f6 f7 f8 f9 g0 g1))))) else (if decide (a < 0) then (let a5 := ([(1, o, 0, 0, 0, ([] : L6), ([] : L6))] : List qA); grd (decide (b.length + a5.length <= 790660046940)) (h c d 0 ((rd c (Int.toNat o)).2) (IntKind.wrap .i64 (g - 1)) (b ++ a5) e x y)) else (Z64.c n x y 3 9 fun k v w => if decide (k = 3) then (let m := ([(1, o, 0, 0, 0, ([] : L6), ([] : L6))] : List qA); grd (decide (b.length + m.length <= 790660046940)) (let r := IntKind.wrap .i64 (((b ++ m).length : Int) - 1); Z67.c n v w 2 fun g2 a6 a7 => if g2 = true then (Z67.c n a6 a7 6 fun g3 H I => if g3 = true then grd (decide (([r, a] : L6).length + ([a] : L6).length <= 7818749353073)) (let g4 := ([r, a] : L6) ++ ([a] : L6); let g5 := IntKind.wrap .i64 (((rd c (Int.toNat o)).2) + f); Z82.j15 i h k c d a g e (IntKind.wrap .i64 (f + g5)) (b ++ m) g4 H I) else (let a8 := IntKind.wrap .i64 (f + ((rd c (Int.toNat o)).2)); if decide (a8 > 200) then i c d a (b ++ m) e H I else (let J := ([(k, 0, 0, 0, 0, ([] : L6), ([r, a] : L6))] : List qA); grd (decide ((b ++ m).length + J.length <= 790660046940)) (let g6 := IntKind.wrap .i64 ((((b ++ m) ++ J).length : Int) - 1); h c d g6 a8 (IntKind.wrap .i64 (g - 1)) ((b ++ m) ++ J) e H I)))) else (Z67.c n a6 a7 6 fun g7 L M => if g7 = true then grd (decide (([a, r] : L6).length + ([a] : L6).length <= 7818749353073)) (let g8 := ([a, r] : L6) ++ ([a] : L6); let g9 := IntKind.wrap .i64 (((rd c (Int.toNat o)).2) + f); Z82.j15 i h k c d a g e (IntKind.wrap .i64 (f + g9)) (b ++ m) g8 L M) else (let a9 := IntKind.wrap .i64 (f + ((rd c (Int.toNat o)).2)); if decide (a9 > 200) then i c d a (b ++ m) e L M else (let N := ([(k, 0, 0, 0, 0, ([] : L6), ([a, r] : L6))] : List qA); grd (decide ((b ++ m).length + N.length <= 790660046940)) (let h0 := IntKind.wrap .i64 ((((b ++ m) ++ N).length : Int) - 1); h c d h0 a9 (IntKind.wrap .i64 (g - 1)) ((b ++ m) ++ N) e L M)))))) else (if decide (k = 4) then (Z64.c n v w 0 (IntKind.wrap .i64 (f - 1)) fun O h1 h2 => Z64.c n h1 h2 0 O fun b0 h3 h4 => let h5 := IntKind.wrap .i64 ((IntKind.wrap .i64 (O - b0)) + 1); Z82.j16 i h c d a h5 g b ([a] : L6) ([] : L6) e h3 h4 k 0 O b0 0) else (if decide (k = 5) then (s c d a f g k true b ([a] : L6) ([] : L6) e v w k 0 0 0 0 fun h6 h7 h8 h9 i0 i1 i2 i3 i4 i5 i6 i7 i8 i9 j0 j1 => Z82.j16 i h h6 h7 h8 h9 i0 i1 i2 i3 i4 i5 i6 i7 i8 i9 j0 j1) else (s c d a f g k (decide (k = 6)) b ([a] : L6) ([] : L6) e v w k 0 0 0 0 fun j2 j3 j4 j5 j6 j7 j8 j9 k0 k1 k2 k3 k4 k5 k6 k7 => Z82.j16 i h j2 j3 j4 j5 j6 j7 j8 j9 k0 k1 k2 k3 k4 k5 k6 k7))))))) else i c d a b e R S
def Z82.l5 : Nat -> L1 -> Int -> Int -> Int -> Int -> L5 -> L5 -> L6 -> Int -> (L1 -> Int -> Int -> L5 -> L5 -> L6 -> Int -> Prop) -> Prop
 | 0, _, _, _, _, _, _, _, _, _, _ => False
 | n + 1, b, c, d, e, f, g, h, i, j, a => Z82.l5.b n (Z82.q34 n) (fun k l m o p q r s t => Z82.l5 n k l m o p q r s t a) b c d e f g h i j a
def Z82.w (n : Nat) (g : L1 -> Int -> Int -> Int -> Int -> L5 -> L5 -> L6 -> Int -> (L1 -> Int -> Int -> L5 -> L5 -> L6 -> Int -> Prop) -> Prop) (b : L6) (h : Int) (i : L1) (j : Int) (K : L5 -> L6 -> Int -> Prop) : Prop :=
 let k := ([] : List qA); let l := ([] : List qA); let c := IntKind.wrap .i64 (Int.tdiv (b.length : Int) 12); let m : Int := if (IntKind.wrap .i64 (2 + c)) < 7 then IntKind.wrap .i64 (2 + c) else 7; Z62.c n b h m fun o p q => g i j (- 1) 0 (IntKind.wrap .i64 (1 + o)) l k p q fun r d s t w e f => Z88.c n t s fun a => if decide (d > 0) then (Z47.c n r a fun u => Z80.c n a (IntKind.wrap .i64 ((a.length : Int) - 1)) u d fun v => K v e f) else K a e f
def Z82.c : Nat -> L6 -> Int -> L1 -> Int -> (L5 -> L6 -> Int -> Prop) -> Prop
 | 0, _, _, _, _, _ => False
 | n + 1, a, b, c, d, K => Z82.w n (Z82.l5 n) a b c d K
def Z95.w (n : Nat) (r : L6) (s : Int) (a : L1) (b : Int) (K : Int -> Bool -> L5 -> L5 -> L6 -> Int -> Prop) : Prop :=
 Z82.c n r s a 0 fun d t u => Z47.c n a d fun g => Z67.c n t u 2 fun v e f => if v = true then (Z62.c n e f (a.length : Int) fun c h i => let j := ([(1, c, 0, 0, 0, ([] : L6), ([] : L6))] : List qA); grd (decide (0 <= c) && decide (c < a.length)) (if decide ((rd a (Int.toNat c)).2 > 40) then (Z80.c n j (IntKind.wrap .i64 ((j.length : Int) - 1)) ((rd a (Int.toNat c)).2) 12 fun k => (Z67.c n h i 3 fun w x y => let l := Z82.c n x y a 12 (K b (!w) k); l /\ l) /\ (Z67.c n h i 3 fun z A B => Z82.c n A B a 12 (K b (!z) k))) else ((Z67.c n h i 3 fun D E F => let m := Z82.c n E F a ((rd a (Int.toNat c)).2) (K b (!D) j); m /\ m) /\ (Z67.c n h i 3 fun G H I => Z82.c n H I a ((rd a (Int.toNat c)).2) (K b (!G) j))))) else (if decide (g > 40) then (Z80.c n d (IntKind.wrap .i64 ((d.length : Int) - 1)) g 12 fun o => (Z67.c n e f 3 fun J L M => let p := Z82.c n L M a 12 (K b (!J) o); p /\ p) /\ (Z67.c n e f 3 fun N O R => Z82.c n O R a 12 (K b (!N) o))) else ((Z67.c n e f 3 fun S T U => let q := Z82.c n T U a g (K b (!S) d); q /\ q) /\ (Z67.c n e f 3 fun V Y Z => Z82.c n Y Z a g (K b (!V) d))))
def Z95.c : Nat -> L6 -> Int -> L1 -> Int -> (Int -> Bool -> L5 -> L5 -> L6 -> Int -> Prop) -> Prop
 | 0, _, _, _, _, _ => False
 | n + 1, a, b, c, d, K => Z95.w n a b c d K
def Z58.l3.b (n : Nat) (c : Int) (e : L6) (f : Int -> L6 -> Prop) (a : Int) (b : L6) (g : L15) : Prop :=
 if decide (a < c) then (Z52.c n c e a fun d => grd (decide (b.length + ([d] : L6).length <= 35184372088832)) (f (IntKind.wrap .i64 (a + 1)) (b ++ ([d] : L6)))) else g b
def Z58.l3 : Nat -> Int -> L6 -> Int -> L6 -> L15 -> Prop
 | 0, _, _, _, _, _ => False
 | n + 1, a, b, d, e, c => Z58.l3.b n a b (fun f g => Z58.l3 n a b f g c) d e c
def Z58.w (n : Nat) (a : Int -> L6 -> Int -> L6 -> L15 -> Prop) (b : Int) (c : L6) (K : L15) : Prop :=
 a b c 0 ([] : L6) K
def Z58.c : Nat -> Int -> L6 -> L15 -> Prop
 | 0, _, _, _ => False
 | n + 1, a, b, K => Z58.w n (Z58.l3 n) a b K
def Z71.l3.b (n : Nat) (b : L6) (d : Int -> L6 -> Prop) (a : Int) (c : L6) (e : L15) : Prop :=
 if decide (a >= 0) then grd (decide (0 <= a) && decide (a < b.length)) (grd (decide (c.length + ([rd b (Int.toNat a)] : L6).length <= 35184372088832)) (d (IntKind.wrap .i64 (a - 1)) (c ++ ([rd b (Int.toNat a)] : L6)))) else e c
def Z71.l3 : Nat -> L6 -> Int -> L6 -> L15 -> Prop
 | 0, _, _, _, _ => False
 | n + 1, a, c, d, b => Z71.l3.b n a (fun e f => Z71.l3 n a e f b) c d b
def Z71.w (n : Nat) (b : L6 -> Int -> L6 -> L15 -> Prop) (a : L6) (K : L15) : Prop :=
 b a (IntKind.wrap .i64 ((a.length : Int) - 1)) ([] : L6) K
def Z71.c : Nat -> L6 -> L15 -> Prop
 | 0, _, _ => False
 | n + 1, a, K => Z71.w n (Z71.l3 n) a K
def Z48.l8.b (n : Nat) (b : L6) (i : Int) (p : L6) (d : Int -> L6 -> Prop) (a : Int) (c : L6) (j : L15) : Prop :=
 if decide (a < b.length) then (if (!(decide (Int.tmod i 4 = 0))) = true then grd (decide (0 <= a) && decide (a < b.length)) (let g := IntKind.wrap .u8 (48 + (rd b (Int.toNat a))); grd (decide (c.length + ([g] : L6).length <= 35184372088832)) (d (IntKind.wrap .i64 (a + 1)) (c ++ ([g] : L6)))) else (if decide (Int.tmod a 4 = 0) then grd (decide (0 <= a) && decide (a < b.length)) (let k := IntKind.wrap .u8 (8 * (rd b (Int.toNat a))); grd (decide (0 <= IntKind.wrap .i64 (a + 1)) && decide (IntKind.wrap .i64 (a + 1) < (b.length : Int))) (let l : Int := rd b (Int.toNat (IntKind.wrap .i64 (a + 1))); let m := IntKind.wrap .u8 (k + (IntKind.wrap .u8 (4 * l))); grd (decide (0 <= IntKind.wrap .i64 (a + 2)) && decide (IntKind.wrap .i64 (a + 2) < (b.length : Int))) (let o : Int := rd b (Int.toNat (IntKind.wrap .i64 (a + 2))); let e := IntKind.wrap .u8 (m + (IntKind.wrap .u8 (2 * o))); grd (decide (0 <= IntKind.wrap .i64 (a + 3)) && decide (IntKind.wrap .i64 (a + 3) < (b.length : Int))) (let f : Int := rd b (Int.toNat (IntKind.wrap .i64 (a + 3))); grd (decide (0 <= IntKind.wrap .u8 (e + f)) && decide (IntKind.wrap .u8 (e + f) < (([48, 49, 50, 51, 52, 53, 54, 55, 56, 57, 97, 98, 99, 100, 101, 102] : L7).length : Int))) (let h := ((List.getD ([48, 49, 50, 51, 52, 53, 54, 55, 56, 57, 97, 98, 99, 100, 101, 102] : L7) (Int.toNat (IntKind.wrap .u8 (e + f))) 0).toNat : Int); grd (decide (c.length + ([h] : L6).length <= 35184372088832)) (d (IntKind.wrap .i64 (a + 1)) (c ++ ([h] : L6)))))))) else d (IntKind.wrap .i64 (a + 1)) c)) else j c
def Z48.l8 : Nat -> L6 -> Int -> L6 -> Int -> L6 -> L15 -> Prop
 | 0, _, _, _, _, _, _ => False
 | n + 1, a, b, c, e, f, d => Z48.l8.b n a b c (fun g h => Z48.l8 n a b c g h d) e f d
def Z48.w (n : Nat) (c : L6 -> Int -> L6 -> Int -> L6 -> L15 -> Prop) (a : Int) (b : L6) (K : L20) : Prop :=
 Z36.c n a b fun e => if (!e) = true then K ([] : L7) else (Z58.c n a b fun f => Z71.c n f fun d => grd (decide (0 < ([35, 98] : L6).length)) (if decide (Int.tmod a 4 = 0) then grd (decide (0 < ([35, 120] : L6).length)) (c d a b 0 ([35, 120] : L6) fun g => K (zC g)) else (c d a b 0 ([35, 98] : L6) fun h => K (zC h))))
def Z48.c : Nat -> Int -> L6 -> L20 -> Prop
 | 0, _, _, _ => False
 | n + 1, a, b, K => Z48.w n (Z48.l8 n) a b K
def Z94.w (n : Nat) (a : Int) (K : L20) : Prop :=
 let b := ([([] : L7), ([] : L7), ([] : L7), ([99, 97, 116] : L7), ([112, 97, 114, 116] : L7), ([122, 101, 114, 111] : L7), ([115, 105, 103, 110] : L7), ([108, 101, 102, 116] : L7), ([114, 105, 103, 104, 116] : L7), ([114, 101, 112] : L7)] : List (L7)); grd (decide (0 <= a) && decide (a < b.length)) (K (rd b (Int.toNat a)))
def Z94.c : Nat -> Int -> L20 -> Prop
 | 0, _, _ => False
 | n + 1, a, K => Z94.w n a K
def Z87.w (n : Nat) (a : Int) (K : L11) : Prop :=
 if decide (a = 4) then K 2 else (if decide (a > 4) then K 1 else K 0)
def Z87.c : Nat -> Int -> L11 -> Prop
 | 0, _, _ => False
 | n + 1, a, K => Z87.w n a K
def Z53.l4.b (n : Nat) (d : Int -> L7 -> Prop) (a : Int) (b : L7) (e : L20) : Prop :=
 if decide (a > 0) then (let c := IntKind.wrap .u8 (IntKind.wrap .i64 (48 + (Int.tmod a 10))); grd (decide ((zC ([c] : L6)).length + b.length <= 9223372036854775807)) (d (IntKind.wrap .i64 (Int.tdiv a 10)) ((zC ([c] : L6)) ++ b))) else e b
def Z53.l4 : Nat -> Int -> L7 -> L20 -> Prop
 | 0, _, _, _ => False
 | n + 1, b, c, a => Z53.l4.b n (fun d e => Z53.l4 n d e a) b c a
def Z53.w (n : Nat) (b : Int -> L7 -> L20 -> Prop) (a : Int) (K : L20) : Prop :=
 if decide (a = 0) then K ([48] : L7) else b a ([] : L7) K
def Z53.c : Nat -> Int -> L20 -> Prop
 | 0, _, _ => False
 | n + 1, a, K => Z53.w n (Z53.l4 n) a K
def Z89.l18.b (n : Nat) (e : L1) (f : Int) (c : L6) (g : L5) (k l m o p : Int) (q b : L6) (h : L21) (d a : Int) (i : L23) : Prop :=
 if decide (a < b.length) then grd (decide (0 <= a) && decide (a < b.length)) (grd (decide (0 <= rd b (Int.toNat a)) && decide (rd b (Int.toNat a) < (c.length : Int))) (let j := IntKind.wrap .i64 ((IntKind.wrap .i64 (d + 1)) + (rd c (Int.toNat (rd b (Int.toNat a))))); h j (IntKind.wrap .i64 (a + 1)))) else i e f d c g
def Z89.l18 : Nat -> L1 -> Int -> L6 -> L5 -> Int -> Int -> Int -> Int -> Int -> L6 -> L6 -> Int -> Int -> L23 -> Prop
 | 0, _, _, _, _, _, _, _, _, _, _, _, _, _, _ => False
 | n + 1, a, b, c, d, e, f, g, h, i, j, k, m, o, l => Z89.l18.b n a b c d e f g h i j k (fun p q => Z89.l18 n a b c d e f g h i j k p q l) m o l
def Z89.j10 (f : L1 -> Int -> L6 -> L5 -> Prop) (g : L1 -> Int -> L6 -> L5 -> Int -> Int -> Int -> Int -> Int -> L6 -> L6 -> Int -> Int -> L23 -> Prop) (h i : L6) (j : L1) (a : Int) (k : L6) (b : L5) (l : Int) : Prop :=
 g j a k b ((rd b (Int.toNat a)).1) (((rd b (Int.toNat a)).2).1) ((((rd b (Int.toNat a)).2).2).1) (((((rd b (Int.toNat a)).2).2).2).1) ((((((rd b (Int.toNat a)).2).2).2).2).1) h i l 0 fun m o c d p => let e := ([(if 20001 < c then 20001 else c)] : L6); grd (decide (d.length + e.length <= 7818749353073)) (f m (IntKind.wrap .i64 (o + 1)) (d ++ e) p)
def Z89.j11 (c : L1 -> Int -> L6 -> L5 -> Prop) (d : L1 -> Int -> L6 -> L5 -> Int -> Int -> Int -> Int -> Int -> L6 -> L6 -> Int -> Int -> L23 -> Prop) (n : Nat) (e f : L6) (g : L1) (a : Int) (h : L6) (b : L5) (i : Int) : Prop :=
 Z87.c n ((rd b (Int.toNat a)).1) fun j => if decide (j > 1) then (Z53.c n (((((rd b (Int.toNat a)).2).2).2).1) fun k => let l := IntKind.wrap .i64 ((IntKind.wrap .i64 (i + 1)) + (k.length : Int)); Z89.j10 c d e f g a h b l) else Z89.j10 c d e f g a h b i
def Z89.l3.b (n : Nat) (f : L1 -> Int -> L6 -> L5 -> Int -> Int -> Int -> Int -> Int -> L6 -> L6 -> Int -> Int -> L23 -> Prop) (g : L1 -> Int -> L6 -> L5 -> Prop) (c : L1) (a : Int) (d : L6) (b : L5) (j : L15) : Prop :=
 if decide (a < b.length) then grd (decide (0 <= a) && decide (a < b.length)) (let e : L6 := ((((((rd b (Int.toNat a)).2).2).2).2).2).1; let h : L6 := ((((((rd b (Int.toNat a)).2).2).2).2).2).2; if decide ((rd b (Int.toNat a)).1 = 1) then grd (decide (0 <= ((rd b (Int.toNat a)).2).1) && decide (((rd b (Int.toNat a)).2).1 < (c.length : Int))) (let k : qB := rd c (Int.toNat (((rd b (Int.toNat a)).2).1)); Z89.j10 g f e h c a d b (k.1.length : Int)) else (if decide ((rd b (Int.toNat a)).1 = 2) then (Z48.c n ((((((rd b (Int.toNat a)).2).2).2).2).1) e fun l => Z89.j10 g f e h c a d b (l.length : Int)) else (Z94.c n ((rd b (Int.toNat a)).1) fun i => Z87.c n ((rd b (Int.toNat a)).1) fun m => if decide (m > 0) then (let o := IntKind.wrap .i64 ((IntKind.wrap .i64 (2 + (i.length : Int))) + 1); Z53.c n ((((rd b (Int.toNat a)).2).2).1) fun p => let q := IntKind.wrap .i64 (o + (p.length : Int)); Z89.j11 g f n e h c a d b q) else Z89.j11 g f n e h c a d b (IntKind.wrap .i64 (2 + (i.length : Int)))))) else j d
def Z89.l3 : Nat -> L1 -> Int -> L6 -> L5 -> L15 -> Prop
 | 0, _, _, _, _, _ => False
 | n + 1, b, c, d, e, a => Z89.l3.b n (Z89.l18 n) (fun f g h i => Z89.l3 n f g h i a) b c d e a
def Z89.w (n : Nat) (a : L1 -> Int -> L6 -> L5 -> L15 -> Prop) (b : L1) (c : L5) (K : L15) : Prop :=
 a b 0 ([] : L6) c K
def Z89.c : Nat -> L1 -> L5 -> L15 -> Prop
 | 0, _, _, _ => False
 | n + 1, a, b, K => Z89.w n (Z89.l3 n) a b K
def Z91.l13.b (n : Nat) (self : L1 -> L5 -> Int -> L20 -> Prop) (e : L1) (f : L5) (i j k l m : Int) (o c : L6) (g : L7 -> Int -> Prop) (b : L7) (a : Int) (h : L20) : Prop :=
 if decide (a < c.length) then grd (decide (b.length + ([32] : L7).length <= 9223372036854775807)) (grd (decide (0 <= a) && decide (a < c.length)) (self e f (rd c (Int.toNat a)) fun d => grd (decide ((b ++ ([32] : L7)).length + d.length <= 9223372036854775807)) (g ((b ++ ([32] : L7)) ++ d) (IntKind.wrap .i64 (a + 1))))) else h b
def Z91.j0 (K : L20) (d : L1) (a : L5) (b : Int) (e : L1 -> L5 -> Int -> Int -> Int -> Int -> Int -> L6 -> L6 -> L7 -> Int -> L20 -> Prop) (f : L7) : Prop :=
 e d a ((rd a (Int.toNat b)).1) (((rd a (Int.toNat b)).2).1) ((((rd a (Int.toNat b)).2).2).1) (((((rd a (Int.toNat b)).2).2).2).1) ((((((rd a (Int.toNat b)).2).2).2).2).1) (((((((rd a (Int.toNat b)).2).2).2).2).2).1) (((((((rd a (Int.toNat b)).2).2).2).2).2).2) f 0 fun c => grd (decide (c.length + ([41] : L7).length <= 9223372036854775807)) (K (c ++ ([41] : L7)))
def Z91.j1 (K : L20) (d : L1) (a : L5) (b : Int) (e : L1 -> L5 -> Int -> Int -> Int -> Int -> Int -> L6 -> L6 -> L7 -> Int -> L20 -> Prop) (n : Nat) (c : L7) : Prop :=
 Z87.c n ((rd a (Int.toNat b)).1) fun g => if decide (g > 1) then grd (decide (c.length + ([32] : L7).length <= 9223372036854775807)) (Z53.c n (((((rd a (Int.toNat b)).2).2).2).1) fun f => grd (decide ((c ++ ([32] : L7)).length + f.length <= 9223372036854775807)) (Z91.j0 K d a b e ((c ++ ([32] : L7)) ++ f))) else Z91.j0 K d a b e c
def Z91.w (n : Nat) (e : L1 -> L5 -> Int -> Int -> Int -> Int -> Int -> L6 -> L6 -> L7 -> Int -> L20 -> Prop) (c : L1) (b : L5) (a : Int) (K : L20) : Prop :=
 grd (decide (0 <= a) && decide (a < b.length)) (if decide ((rd b (Int.toNat a)).1 = 1) then grd (decide (0 <= ((rd b (Int.toNat a)).2).1) && decide (((rd b (Int.toNat a)).2).1 < (c.length : Int))) (let h : qB := rd c (Int.toNat (((rd b (Int.toNat a)).2).1)); K h.1) else (if decide ((rd b (Int.toNat a)).1 = 2) then Z48.c n ((((((rd b (Int.toNat a)).2).2).2).2).1) (((((((rd b (Int.toNat a)).2).2).2).2).2).1) K else (Z94.c n ((rd b (Int.toNat a)).1) fun d => grd (decide (([40] : L7).length + d.length <= 9223372036854775807)) (Z87.c n ((rd b (Int.toNat a)).1) fun i => if decide (i > 0) then grd (decide ((([40] : L7) ++ d).length + ([32] : L7).length <= 9223372036854775807)) (let f : L7 := (([40] : L7) ++ d) ++ ([32] : L7); Z53.c n ((((rd b (Int.toNat a)).2).2).1) fun g => grd (decide (f.length + g.length <= 9223372036854775807)) (Z91.j1 K c b a e n (f ++ g))) else Z91.j1 K c b a e n (([40] : L7) ++ d)))))
def Z91.m : Nat -> (L1 -> L5 -> Int -> L20 -> Prop) × (L1 -> L5 -> Int -> Int -> Int -> Int -> Int -> L6 -> L6 -> L7 -> Int -> L20 -> Prop)
 | 0 => (fun _ _ _ _ => False, fun _ _ _ _ _ _ _ _ _ _ _ _ => False)
 | n + 1 => (fun a1 a2 a3 K => Z91.w n (Z91.m n).2 a1 a2 a3 K, fun x29 x32 x33 x34 x35 x36 x37 x38 x39 x30 x31 Kx1w13 => Z91.l13.b n (Z91.m n).1 x29 x32 x33 x34 x35 x36 x37 x38 x39 (fun x30q x31q => (Z91.m n).2 x29 x32 x33 x34 x35 x36 x37 x38 x39 x30q x31q Kx1w13) x30 x31 Kx1w13)
def Z91.c (n : Nat) : L1 -> L5 -> Int -> L20 -> Prop := (Z91.m n).1
def Z91.l13 (n : Nat) : L1 -> L5 -> Int -> Int -> Int -> Int -> Int -> L6 -> L6 -> L7 -> Int -> L20 -> Prop := (Z91.m n).2
theorem Z91.c_s (n : Nat) (a1 : L1) (a2 : L5) (a3 : Int) (K : L20) : Z91.c (n + 1) a1 a2 a3 K = Z91.w n (Z91.l13 n) a1 a2 a3 K := rfl
theorem Z91.l13_s (n : Nat) (x29 : L1) (x32 : L5) (x33 : Int) (x34 : Int) (x35 : Int) (x36 : Int) (x37 : Int) (x38 : L6) (x39 : L6) (x30 : L7) (x31 : Int) (Kx1w13 : L20) : Z91.l13 (n + 1) x29 x32 x33 x34 x35 x36 x37 x38 x39 x30 x31 Kx1w13 = Z91.l13.b n (Z91.c n) x29 x32 x33 x34 x35 x36 x37 x38 x39 (fun x30q x31q => Z91.l13 n x29 x32 x33 x34 x35 x36 x37 x38 x39 x30q x31q Kx1w13) x30 x31 Kx1w13 := rfl
def Z49.w (n : Nat) (b : L1) (a : L5) (K : L20) : Prop :=
 let c := K ([] : L7); let d := Z89.c n b a fun e => grd (decide (0 <= IntKind.wrap .i64 ((a.length : Int) - 1)) && decide (IntKind.wrap .i64 ((a.length : Int) - 1) < (e.length : Int))) (let f := Int.toNat (IntKind.wrap .i64 ((a.length : Int) - 1)); if decide (rd e f > 20000) then c else Z91.c n b a (IntKind.wrap .i64 ((a.length : Int) - 1)) K); Z47.c n b a fun g => if (decide (g < 0)) = false then (d /\ d) else (c /\ c)
def Z49.c : Nat -> L1 -> L5 -> L20 -> Prop
 | 0, _, _, _ => False
 | n + 1, a, b, K => Z49.w n a b K
def Z76.j0 (K : Int -> L3 -> L6 -> Prop) (b : L3) (a : L6) (h : L7) : Prop :=
 if decide ((a.length : Int) > 100) then K 5 b a else (if decide ((b.length : Int) = 2000) then K 6 b a else (let d := ([(h, ([] : L6))] : List qU); grd (decide (b.length + d.length <= 1716310833601)) (if decide ((a.length : Int) > 0) then grd (decide (0 <= IntKind.wrap .i64 ((a.length : Int) - 1)) && decide (IntKind.wrap .i64 ((a.length : Int) - 1) < (a.length : Int))) (let c := Int.toNat (IntKind.wrap .i64 ((a.length : Int) - 1)); let e := grd (decide (((rd (b ++ d) (Int.toNat (rd a c))).2).length + ([(b.length : Int)] : L6).length <= 7818749353073)) (let i : L6 := ((rd (b ++ d) (Int.toNat (rd a c))).2) ++ ([(b.length : Int)] : L6); grd (decide (0 <= rd a c) && decide (rd a c < ((b ++ d).length : Int))) (grd (decide (Int.toNat (rd a c) = Int.toNat (rd a c))) (let j := List.set (b ++ d) (Int.toNat (rd a c)) ((rd (b ++ d) (Int.toNat (rd a c))).1, i); K 0 j a))); let f := e /\ e; let g := grd (decide (0 <= rd a c) && decide (rd a c < ((b ++ d).length : Int))) f; (g /\ grd (decide (0 <= rd a c) && decide (rd a c < ((b ++ d).length : Int))) e) /\ grd (decide (0 <= rd a c) && decide (rd a c < ((b ++ d).length : Int))) (f /\ (e /\ f) /\ f) /\ g) else K 0 (b ++ d) a)))
def Z76.w (n : Nat) (a : L3) (b : L6) (d : L7) (K : Int -> L3 -> L6 -> Prop) : Prop :=
 let c := Z76.j0 K a b d; if decide ((b.length : Int) = 0) then (if decide ((a.length : Int) > 0) then K 4 a b else c) else c
def Z76.c : Nat -> L3 -> L6 -> L7 -> (Int -> L3 -> L6 -> Prop) -> Prop
 | 0, _, _, _, _ => False
 | n + 1, a, b, c, K => Z76.w n a b c K
def Z74.l2.b (n : Nat) (b : L7) (d : L11) (a : Int) (e : L20) (f : L9) : Prop :=
 let c := f false; if decide (a < b.length) then grd (decide (0 <= a) && decide (a < b.length)) (let g := ((List.getD b (Int.toNat a) 0).toNat : Int); if (decide (g < 33)) = false then grd (decide (0 <= a) && decide (a < b.length)) (let h := ((List.getD b (Int.toNat a) 0).toNat : Int); if (decide (h > 126)) = false then grd (decide (0 <= a) && decide (a < b.length)) (let i := ((List.getD b (Int.toNat a) 0).toNat : Int); if (decide (i = 40)) = false then grd (decide (0 <= a) && decide (a < b.length)) (let j := ((List.getD b (Int.toNat a) 0).toNat : Int); if (decide (j = 41)) = false then grd (decide (0 <= a) && decide (a < b.length)) (let k := ((List.getD b (Int.toNat a) 0).toNat : Int); if decide (k = 59) then c else d (IntKind.wrap .i64 (a + 1))) else c) else c) else c) else c) else e b
def Z74.l2 : Nat -> L7 -> Int -> L20 -> L9 -> Prop
 | 0, _, _, _, _ => False
 | n + 1, a, d, b, c => Z74.l2.b n a (fun e => Z74.l2 n a e b c) d b c
def Z74.w (n : Nat) (a : L7 -> Int -> L20 -> L9 -> Prop) (b : L7) (K : L9) : Prop :=
 a b 0 (fun c => K (decide ((c.length : Int) > 0))) K
def Z74.c : Nat -> L7 -> L9 -> Prop
 | 0, _, _ => False
 | n + 1, a, K => Z74.w n (Z74.l2 n) a K
def Z75.l1.b (n : Nat) (b : L7) (d : L11) (a : Int) (c : L11) : Prop :=
 if decide (a < b.length) then grd ((decide (0 <= a) && (decide (0 <= IntKind.wrap .i64 (a + 1)) && decide (IntKind.wrap .i64 (a + 1) <= (b.length : Int)))) && decide (a <= IntKind.wrap .i64 (a + 1))) (let e := List.drop (Int.toNat a) (List.take (Int.toNat (IntKind.wrap .i64 (a + 1))) b); Z74.c n e fun f => if f = true then d (IntKind.wrap .i64 (a + 1)) else c a) else c a
def Z75.l1 : Nat -> L7 -> Int -> L11 -> Prop
 | 0, _, _, _ => False
 | n + 1, a, c, b => Z75.l1.b n a (fun d => Z75.l1 n a d b) c b
def Z75.w (n : Nat) (a : L7 -> Int -> L11 -> Prop) (b : L7) (c : Int) (K : L11) : Prop :=
 a b c K
def Z75.c : Nat -> L7 -> Int -> L11 -> Prop
 | 0, _, _, _ => False
 | n + 1, a, b, K => Z75.w n (Z75.l1 n) a b K
def Z45.l15.b (n : Nat) (b : L7) (d e : Int) (f g : L3) (h : L6) (i : L11) (a : Int) (j : L16) : Prop :=
 let c := j b d e a f g h; if decide (a < b.length) then grd (decide (0 <= a) && decide (a < b.length)) (let k := ((List.getD b (Int.toNat a) 0).toNat : Int); if (!(decide (k = 10))) = true then grd (decide (0 <= a) && decide (a < b.length)) (let l := ((List.getD b (Int.toNat a) 0).toNat : Int); if decide (l >= 32) then grd (decide (0 <= a) && decide (a < b.length)) (let m := ((List.getD b (Int.toNat a) 0).toNat : Int); if decide (m <= 126) then i (IntKind.wrap .i64 (a + 1)) else c) else c) else c) else c
def Z45.l15 : Nat -> L7 -> Int -> Int -> L3 -> L3 -> L6 -> Int -> L16 -> Prop
 | 0, _, _, _, _, _, _, _, _ => False
 | n + 1, a, b, c, d, e, f, h, g => Z45.l15.b n a b c d e f (fun i => Z45.l15 n a b c d e f i g) h g
def Z45.j0 (h : L16) (r : L7 -> Int -> Int -> Int -> L3 -> L3 -> L6 -> Nat -> Nat -> Prop) (l : L7 -> Int -> Int -> Int -> L6 -> L3 -> L3 -> Prop) (s : L7 -> Int -> Int -> L3 -> L3 -> L6 -> Int -> L16 -> Prop) (n : Nat) (c : L7) (b k m e : Int) (d f : L3) (a : L6) (t : Bool) : Prop :=
 if t = true then h c b 2 e d f a else (if decide (k = 59) then s c b m d f a e h else (if decide (k = 41) then (if decide ((a.length : Int) = 0) then h c b 3 e d f a else grd ((decide (0 <= IntKind.wrap .i64 ((a.length : Int) - 1)) && decide (IntKind.wrap .i64 ((a.length : Int) - 1) <= (a.length : Int))) && decide (0 <= IntKind.wrap .i64 ((a.length : Int) - 1))) (let u := Int.toNat (IntKind.wrap .i64 ((a.length : Int) - 1)); r c b m e d f a 0 u)) else (if decide (k = 40) then (Z76.c n f a ([] : L7) fun o i j => (let p := ([IntKind.wrap .i64 ((i.length : Int) - 1)] : L6); grd (decide (j.length + p.length <= 7818749353073)) (l c b o e (j ++ p) d i)) /\ (let q := ([IntKind.wrap .i64 ((i.length : Int) - 1)] : L6); grd (decide (j.length + q.length <= 7818749353073)) (l c b o e (j ++ q) d i))) else (Z75.c n c b fun g => grd ((decide (0 <= b) && (decide (0 <= g) && decide (g <= c.length))) && decide (b <= g)) (let v := List.drop (Int.toNat b) (List.take (Int.toNat g) c); Z76.c n f a v fun w => h c b w g d)))))
def Z45.q12.b (n : Nat) (j : L7 -> Int -> Int -> L3 -> L3 -> L6 -> Int -> L16 -> Prop) (b : L7) (c a d e : Int) (m : Bool) (f g : L3) (h : L6) (i : L16) (k : L7 -> Int -> Int -> Int -> L3 -> L3 -> L6 -> Nat -> Nat -> Prop) (l : L7 -> Int -> Int -> Int -> L6 -> L3 -> L3 -> Prop) : Prop :=
 if m = true then i b c d e f g h else (if (decide (a < 32)) = false then Z45.j0 i k l j n b c a d e f g h (decide (a > 126)) else Z45.j0 i k l j n b c a d e f g h true)
def Z45.q12 : Nat -> L7 -> Int -> Int -> Int -> Int -> Bool -> L3 -> L3 -> L6 -> L16 -> (L7 -> Int -> Int -> Int -> L3 -> L3 -> L6 -> Nat -> Nat -> Prop) -> (L7 -> Int -> Int -> Int -> L6 -> L3 -> L3 -> Prop) -> Prop
 | 0, _, _, _, _, _, _, _, _, _, _, _, _ => False
 | n + 1, a, b, c, d, e, f, g, h, i, j, k, l => Z45.q12.b n (Z45.l15 n) a b c d e f g h i j k l
def Z45.l5.b (n : Nat) (i : L7 -> Int -> Int -> Int -> Int -> Bool -> L3 -> L3 -> L6 -> L16 -> (L7 -> Int -> Int -> Int -> L3 -> L3 -> L6 -> Nat -> Nat -> Prop) -> (L7 -> Int -> Int -> Int -> L6 -> L3 -> L3 -> Prop) -> Prop) (b : L7 -> Int -> L3 -> L3 -> L6 -> Prop) (c : L7) (a : Int) (f g : L3) (h : L6) (q : L7 -> L3 -> L3 -> L6 -> Prop) (d : Int -> Int -> L3 -> Prop) : Prop :=
 if decide (a < c.length) then grd (decide (0 <= a) && decide (a < c.length)) (let e := ((List.getD c (Int.toNat a) 0).toNat : Int); if (decide (e = 32)) = false then (i c a e 0 (IntKind.wrap .i64 (a + 1)) (decide (e = 10)) f g h (fun r s j t u v w => if (!(decide (j = 0))) = true then d j s ([] : List qU) else b r t u v w) (fun x y k z A B D a9 E => if (!(decide (k = 0))) = true then d k y ([] : List qU) else b x z A B (List.take E D)) fun F G l H I J L => if (!(decide (l = 0))) = true then d l G ([] : List qU) else b F H J L I) else (i c a e 0 (IntKind.wrap .i64 (a + 1)) true f g h (fun M N m O R S T => if (!(decide (m = 0))) = true then d m N ([] : List qU) else b M O R S T) (fun U V o Y Z a0 a1 b0 a2 => if (!(decide (o = 0))) = true then d o V ([] : List qU) else b U Y Z a0 (List.take a2 a1)) fun a3 a4 p a5 a6 a7 a8 => if (!(decide (p = 0))) = true then d p a4 ([] : List qU) else b a3 a5 a7 a8 a6)) else q c f g h
def Z45.l5 : Nat -> L7 -> Int -> L3 -> L3 -> L6 -> (L7 -> L3 -> L3 -> L6 -> Prop) -> (Int -> Int -> L3 -> Prop) -> Prop
 | 0, _, _, _, _, _, _, _ => False
 | n + 1, c, d, e, f, g, a, b => Z45.l5.b n (Z45.q12 n) (fun h i j k l => Z45.l5 n h i j k l a b) c d e f g a b
def Z45.w (n : Nat) (d : L7 -> Int -> L3 -> L3 -> L6 -> (L7 -> L3 -> L3 -> L6 -> Prop) -> (Int -> Int -> L3 -> Prop) -> Prop) (a : L7) (K : L3 -> Int -> Int -> Prop) : Prop :=
 if decide ((a.length : Int) > 20000) then K ([] : List qU) 1 0 else (d a 0 ([] : List qU) ([] : List qU) ([] : L6) (fun b i c e => if decide ((e.length : Int) > 0) then K ([] : List qU) 7 (b.length : Int) else (if decide ((c.length : Int) = 0) then K ([] : List qU) 8 (b.length : Int) else K c 0 0)) fun f g h => K h f g)
def Z45.c : Nat -> L7 -> (L3 -> Int -> Int -> Prop) -> Prop
 | 0, _, _ => False
 | n + 1, a, K => Z45.w n (Z45.l5 n) a K
end Go.Vsi
end

section
namespace Go.Vsi
def Z56.w (n : Nat) (a : Int) (K : L11) : Prop :=
 Z54.c n a fun b => if b = true then (let c := IntKind.wrap .i64 (IntKind.wrap .u8 (a - 48)); K c) else (if decide (a >= 97) then (if decide (a <= 102) then (let d := IntKind.wrap .i64 (IntKind.wrap .u8 (a - 97)); K (IntKind.wrap .i64 (d + 10))) else K (- 1)) else K (- 1))
def Z56.c : Nat -> Int -> L11 -> Prop
 | 0, _, _ => False
 | n + 1, a, K => Z56.w n a K
def Z43.l13.b (n : Nat) (d : L7) (e f : Int) (g : L6) (h : Int) (i : Int -> L6 -> Prop) (a : Int) (b : L6) (j : L7 -> Int -> L6 -> L6 -> Int -> Prop) : Prop :=
 if decide (a >= 0) then grd (decide (0 <= IntKind.wrap .u64 a)) (let k := Int.fdiv f (2 ^ (Nat.min (Int.toNat (IntKind.wrap .u64 a)) 64)); let c := ([IntKind.wrap .u8 (qCW .and .i64 k 1)] : L6); grd (decide (b.length + c.length <= 35184372088832)) (i (IntKind.wrap .i64 (a - 1)) (b ++ c))) else j d e b g h
def Z43.l13 : Nat -> L7 -> Int -> Int -> L6 -> Int -> Int -> L6 -> (L7 -> Int -> L6 -> L6 -> Int -> Prop) -> Prop
 | 0, _, _, _, _, _, _, _, _ => False
 | n + 1, a, b, c, d, e, g, h, f => Z43.l13.b n a b c d e (fun i j => Z43.l13 n a b c d e i j f) g h f
def Z43.j3 (d : L7 -> Int -> L6 -> L6 -> Int -> Prop) (h : L7 -> Int -> Int -> L6 -> Int -> Int -> L6 -> (L7 -> Int -> L6 -> L6 -> Int -> Prop) -> Prop) (b : Int) (a : L7) (e : Int) (c f : L6) (g : Int) : Prop :=
 grd (decide (1 < (a.length : Int))) (let i := decide (((List.getD a 1 0).toNat : Int) = 98); if i = true then grd (decide (c.length + ([IntKind.wrap .u8 b] : L6).length <= 35184372088832)) (d a (IntKind.wrap .i64 (e + 1)) (c ++ ([IntKind.wrap .u8 b] : L6)) f g) else (h a e b f g 3 c fun j k => d j (IntKind.wrap .i64 (k + 1))))
def Z43.l5.b (n : Nat) (i : L7 -> Int -> Int -> L6 -> Int -> Int -> L6 -> (L7 -> Int -> L6 -> L6 -> Int -> Prop) -> Prop) (j : L7 -> Int -> L6 -> L6 -> Int -> Prop) (a : L7) (b : Int) (d e : L6) (f : Int) (k : L6 -> L6 -> Int -> Prop) (l : L28) : Prop :=
 let g := l false ([] : L6) 0; if decide (b < a.length) then grd (decide (0 <= b) && decide (b < a.length)) (let m := ((List.getD a (Int.toNat b) 0).toNat : Int); Z56.c n m fun c => let h := Z43.j3 j i c a b d e f; if (decide (c < 0)) = false then grd (decide (1 < (a.length : Int))) (let o := decide (((List.getD a 1 0).toNat : Int) = 98); if o = true then (if decide (c > 1) then g else h) else h) else g) else k d e f
def Z43.l5 : Nat -> L7 -> Int -> L6 -> L6 -> Int -> (L6 -> L6 -> Int -> Prop) -> L28 -> Prop
 | 0, _, _, _, _, _, _, _ => False
 | n + 1, c, d, e, f, g, a, b => Z43.l5.b n (Z43.l13 n) (fun h i j k l => Z43.l5 n h i j k l a b) c d e f g a b
def Z43.j4 (K : Int -> L6 -> Bool -> Prop) (a : L7) (b : L7 -> Int -> L6 -> L6 -> Int -> (L6 -> L6 -> Int -> Prop) -> L28 -> Prop) (n : Nat) : Prop :=
 b a 2 ([] : L6) ([] : L6) 0 (fun c h i => Z71.c n c fun d => Z55.c n d K) fun e f g => K g f e
def Z43.w (n : Nat) (d : L7 -> Int -> L6 -> L6 -> Int -> (L6 -> L6 -> Int -> Prop) -> L28 -> Prop) (a : L7) (K : Int -> L6 -> Bool -> Prop) : Prop :=
 let c := Z43.j4 K a d n; let b := K 0 ([] : L6) false; if (decide ((a.length : Int) < 3)) = false then (if (decide ((a.length : Int) > 4098)) = false then grd (decide (0 < (a.length : Int))) (let e := !(decide (((List.getD a 0 0).toNat : Int) = 35)); if e = false then grd (decide (1 < (a.length : Int))) (let f := !(decide (((List.getD a 1 0).toNat : Int) = 98)); if f = true then grd (decide (1 < (a.length : Int))) (let g := !(decide (((List.getD a 1 0).toNat : Int) = 120)); if g = true then b else c) else c) else b) else b) else b
def Z43.c : Nat -> L7 -> (Int -> L6 -> Bool -> Prop) -> Prop
 | 0, _, _ => False
 | n + 1, a, K => Z43.w n (Z43.l5 n) a K
def Z86.q8.b (n : Nat) (b : L6) (a : Int) (d : L3) (c : L11) (e : L6 -> Int -> L3 -> Prop) : Prop :=
 let f := if decide (a > 4) then (if decide ((b.length : Int) = 3) then c a else e b a d) else e b a d; let g := if decide (a = 4) then (if (decide ((b.length : Int) = 4)) = false then f else c a) else f; if decide (a = 3) then (if (decide ((b.length : Int) >= 3)) = false then g else c a) else g
def Z86.q8 : Nat -> L6 -> Int -> L3 -> L11 -> (L6 -> Int -> L3 -> Prop) -> Prop
 | 0, _, _, _, _, _ => False
 | n + 1, a, b, c, d, e => Z86.q8.b n a b c d e
def Z86.j1 (e : L11) (a : L6 -> Int -> L3 -> Prop) (f : L6 -> Int -> L3 -> L11 -> (L6 -> Int -> L3 -> Prop) -> Prop) (b : L6) (c : Int) (d : L3) (g : Bool) : Prop :=
 if g = true then a b (IntKind.wrap .i64 (c + 1)) d else (f b c d e fun h i => a h (IntKind.wrap .i64 (i + 1)))
def Z86.l5.b (n : Nat) (d : L6 -> Int -> L3 -> L11 -> (L6 -> Int -> L3 -> Prop) -> Prop) (e : L6 -> Int -> L3 -> Prop) (a : L6) (c : Int) (b : L3) (j : Prop) (f : L11) : Prop :=
 let g := (Z94.c n c fun k => let l := !(((rd b (Int.toNat (rd a 0))).1) == k); Z86.j1 f e d a c b l); let h := Z94.c n c fun m => grd (decide (0 <= rd a 0) && decide (rd a 0 < (b.length : Int))) (let o := !(((rd b (Int.toNat (rd a 0))).1) == m); Z86.j1 f e d a c b o); let i := grd (decide (0 <= rd a 0) && decide (rd a 0 < (b.length : Int))) (g /\ g) /\ h; if decide (c <= 9) then grd (decide (0 < (a.length : Int))) (i /\ i /\ h) else j
def Z86.l5 : Nat -> L6 -> Int -> L3 -> Prop -> L11 -> Prop
 | 0, _, _, _, _, _ => False
 | n + 1, c, d, e, a, b => Z86.l5.b n (Z86.q8 n) (fun f g h => Z86.l5 n f g h a b) c d e a b
def Z86.w (n : Nat) (c : L6 -> Int -> L3 -> Prop -> L11 -> Prop) (a : L3) (b : Int) (K : L11) : Prop :=
 grd (decide (0 <= b) && decide (b < a.length)) (let d := decide ((((rd a (Int.toNat b)).2).length : Int) = 0); if d = true then K 0 else c ((rd a (Int.toNat b)).2) 3 a (K 0) K)
def Z86.c : Nat -> L3 -> Int -> L11 -> Prop
 | 0, _, _, _ => False
 | n + 1, a, b, K => Z86.w n (Z86.l5 n) a b K
def Z60.l5.b (n : Nat) (b : L7) (d : Int) (e : L21) (c a : Int) (f : L21) (g : L11) : Prop :=
 if decide (a < b.length) then grd (decide (0 <= a) && decide (a < b.length)) (let h := ((List.getD b (Int.toNat a) 0).toNat : Int); Z54.c n h fun i => if (!i) = true then g (- 1) else grd (decide (0 <= a) && decide (a < b.length)) (let j := ((List.getD b (Int.toNat a) 0).toNat : Int); let k := IntKind.wrap .i64 (IntKind.wrap .u8 (j - 48)); let l := IntKind.wrap .i64 ((IntKind.wrap .i64 (c * 10)) + k); e l (IntKind.wrap .i64 (a + 1)))) else f d c
def Z60.l5 : Nat -> L7 -> Int -> Int -> Int -> L21 -> L11 -> Prop
 | 0, _, _, _, _, _, _ => False
 | n + 1, a, b, e, f, c, d => Z60.l5.b n a b (fun g h => Z60.l5 n a b g h c d) e f c d
def Z60.w (n : Nat) (e : L7 -> Int -> Int -> Int -> L21 -> L11 -> Prop) (a : L7) (f : Int) (K : L11) : Prop :=
 let b := K (- 1); let c := e a f 0 0 (fun g d => if decide (d > g) then b else K d) K; if (decide ((a.length : Int) < 1)) = false then (if (decide ((a.length : Int) > 15)) = false then (if decide ((a.length : Int) > 1) then grd (decide (0 < (a.length : Int))) (let h := decide (((List.getD a 0 0).toNat : Int) = 48); if h = true then b else c) else c) else b) else b
def Z60.c : Nat -> L7 -> Int -> L11 -> Prop
 | 0, _, _, _ => False
 | n + 1, a, b, K => Z60.w n (Z60.l5 n) a b K
def Z77.l19.b (n : Nat) (e : L1) (f : Int) (b : L6) (d : Int) (c : L3) (g : L11) (a : Int) (h : L1 -> L6 -> Int -> L3 -> Prop) (i : L21) : Prop :=
 if decide (a <= d) then grd (decide (0 <= a) && decide (a < b.length)) (grd (decide (0 <= rd b (Int.toNat a)) && decide (rd b (Int.toNat a) < (c.length : Int))) (let j : L7 := (rd c (Int.toNat (rd b (Int.toNat a)))).1; if (j == ([] : L7)) = true then i 11 f else g (IntKind.wrap .i64 (a + 1)))) else h e b d c
def Z77.l24.b (n : Nat) (self : L1 -> L3 -> Int -> L21 -> Prop) (g : L1) (b : L6) (h : Int) (c : L3) (i : L11) (a : Int) (j : Prop) (d : L21) : Prop :=
 let e := i (IntKind.wrap .i64 (a + 1)); if decide (a < b.length) then (if decide (a <= h) then grd (decide (0 <= a) && decide (a < b.length)) (grd (decide (0 <= rd b (Int.toNat a)) && decide (rd b (Int.toNat a) < (c.length : Int))) (let k : qU := rd c (Int.toNat (rd b (Int.toNat a))); Z60.c n k.1 4096 fun l => if decide (l < 0) then grd (decide (0 <= a) && decide (a < b.length)) (d 13 (rd b (Int.toNat a))) else e)) else grd (decide (0 <= a) && decide (a < b.length)) (self g c (rd b (Int.toNat a)) fun f m => if (!(decide (f = 0))) = true then d f m else e)) else j
def Z77.w (n : Nat) (e : L1 -> Int -> L6 -> Int -> L3 -> Int -> (L1 -> L6 -> Int -> L3 -> Prop) -> L21 -> Prop) (f : L1 -> L6 -> Int -> L3 -> Int -> Prop -> L21 -> Prop) (c : L1) (b : L3) (a : Int) (K : L21) : Prop :=
 grd (decide (0 <= a) && decide (a < b.length)) (let g := !(((rd b (Int.toNat a)).1) == ([] : L7)); if g = true then grd (decide (0 < (((rd b (Int.toNat a)).1).length : Int))) (let h := ((List.getD ((rd b (Int.toNat a)).1) 0 0).toNat : Int); if decide (h = 35) then (Z43.c n ((rd b (Int.toNat a)).1) fun r s i => if (!i) = true then K 13 a else K 0 0) else (Z59.c n ((rd b (Int.toNat a)).1) fun j => if (!j) = true then K 11 a else (Z79.c n c ((rd b (Int.toNat a)).1) fun k => if decide (k < 0) then K 12 a else K 0 0))) else (Z86.c n b a fun d => if decide (d = 0) then K 11 a else grd (decide (0 <= a) && decide (a < b.length)) (Z87.c n d fun l => e c a ((rd b (Int.toNat a)).2) l b 1 (fun m o p q => f m o p q 1 (K 0 0) K) K)))
def Z77.m : Nat -> (L1 -> L3 -> Int -> L21 -> Prop) × (L1 -> Int -> L6 -> Int -> L3 -> Int -> (L1 -> L6 -> Int -> L3 -> Prop) -> L21 -> Prop) × (L1 -> L6 -> Int -> L3 -> Int -> Prop -> L21 -> Prop)
 | 0 => (fun _ _ _ _ => False, fun _ _ _ _ _ _ _ _ => False, fun _ _ _ _ _ _ _ => False)
 | n + 1 => (fun a1 a2 a3 K => Z77.w n (Z77.m n).2.1 (Z77.m n).2.2 a1 a2 a3 K, fun x54 x55 x56 x57 x59 x58 Kx0w19 Kr19 => Z77.l19.b n  x54 x55 x56 x57 x59 (fun x58q => (Z77.m n).2.1 x54 x55 x56 x57 x59 x58q Kx0w19 Kr19) x58 Kx0w19 Kr19, fun x119 x120 x121 x123 x122 Kx2w24 Kr24 => Z77.l24.b n (Z77.m n).1 x119 x120 x121 x123 (fun x122q => (Z77.m n).2.2 x119 x120 x121 x123 x122q Kx2w24 Kr24) x122 Kx2w24 Kr24)
def Z77.c (n : Nat) : L1 -> L3 -> Int -> L21 -> Prop := (Z77.m n).1
def Z77.l19 (n : Nat) : L1 -> Int -> L6 -> Int -> L3 -> Int -> (L1 -> L6 -> Int -> L3 -> Prop) -> L21 -> Prop := (Z77.m n).2.1
def Z77.l24 (n : Nat) : L1 -> L6 -> Int -> L3 -> Int -> Prop -> L21 -> Prop := (Z77.m n).2.2
theorem Z77.c_s (n : Nat) (a1 : L1) (a2 : L3) (a3 : Int) (K : L21) : Z77.c (n + 1) a1 a2 a3 K = Z77.w n (Z77.l19 n) (Z77.l24 n) a1 a2 a3 K := rfl
theorem Z77.l19_s (n : Nat) (x54 : L1) (x55 : Int) (x56 : L6) (x57 : Int) (x59 : L3) (x58 : Int) (Kx0w19 : L1 -> L6 -> Int -> L3 -> Prop) (Kr19 : L21) : Z77.l19 (n + 1) x54 x55 x56 x57 x59 x58 Kx0w19 Kr19 = Z77.l19.b n  x54 x55 x56 x57 x59 (fun x58q => Z77.l19 n x54 x55 x56 x57 x59 x58q Kx0w19 Kr19) x58 Kx0w19 Kr19 := rfl
theorem Z77.l24_s (n : Nat) (x119 : L1) (x120 : L6) (x121 : Int) (x123 : L3) (x122 : Int) (Kx2w24 : Prop) (Kr24 : L21) : Z77.l24 (n + 1) x119 x120 x121 x123 x122 Kx2w24 Kr24 = Z77.l24.b n (Z77.c n) x119 x120 x121 x123 (fun x122q => Z77.l24 n x119 x120 x121 x123 x122q Kx2w24 Kr24) x122 Kx2w24 Kr24 := rfl
def Z83.l17.b (n : Nat) (self : L5 -> L6 -> L1 -> L3 -> Int -> (Int -> L5 -> L6 -> Prop) -> Prop) (f : L1) (l : Int) (c m : L6) (g : L3) (o p q r s : Int) (h : Int -> L5 -> L6 -> L6 -> Prop) (a : Int) (d : L5) (e b : L6) (t : L12) : Prop :=
 if decide (a < c.length) then grd (decide (0 <= a) && decide (a < c.length)) ((self d e f g (rd c (Int.toNat a)) fun i u v => grd (decide (b.length + ([i] : L6).length <= 7818749353073)) (h (IntKind.wrap .i64 (a + 1)) u v (b ++ ([i] : L6)))) /\ (self d e f g (rd c (Int.toNat a)) fun j w x => let k := grd (decide (b.length + ([j] : L6).length <= 7818749353073)) (h (IntKind.wrap .i64 (a + 1)) w x (b ++ ([j] : L6))); k /\ k)) else t l m d e b o p q r s
def Z83.j3 (K : Int -> L5 -> L6 -> Prop) (a : Int) (b : L6) (c : L5) : Prop :=
 grd (decide (b.length + ([a] : L6).length <= 7818749353073)) (K (IntKind.wrap .i64 ((c.length : Int) - 1)) c (b ++ ([a] : L6)))
def Z83.j4 (K : Int -> L5 -> L6 -> Prop) (p : L5) (q : L6) (r : L1) (b : L3) (c s : Int) (t : L1 -> Int -> L6 -> L6 -> L3 -> Int -> Int -> Int -> Int -> Int -> Int -> L5 -> L6 -> L6 -> L12 -> Prop) (u v w : Int) : Prop :=
 t r c ((rd b (Int.toNat c)).2) ([] : L6) b u 0 s w 0 (IntKind.wrap .i64 (1 + v)) p q ([] : L6) fun d e a f g h i j k l => (let m := ([(h, i, j, k, l, e, g)] : List qA); grd (decide (a.length + m.length <= 790660046940)) (Z83.j3 K d f (a ++ m))) /\ (let o := ([(h, i, j, k, l, e, g)] : List qA); grd (decide (a.length + o.length <= 790660046940)) (Z83.j3 K d f (a ++ o)))
def Z83.j5 (K : Int -> L5 -> L6 -> Prop) (d : L5) (e : L6) (f : L1) (a : L3) (b : Int) (g : L1 -> Int -> L6 -> L6 -> L3 -> Int -> Int -> Int -> Int -> Int -> Int -> L5 -> L6 -> L6 -> L12 -> Prop) (n : Nat) (h c i : Int) : Prop :=
 if decide (c > 1) then grd (decide (2 < (((rd a (Int.toNat b)).2).length : Int))) (grd (decide (0 <= rd ((rd a (Int.toNat b)).2) 2) && decide (rd ((rd a (Int.toNat b)).2) 2 < (a.length : Int))) (let j : qU := rd a (Int.toNat (rd ((rd a (Int.toNat b)).2) 2)); Z60.c n j.1 4096 fun k => Z83.j4 K d e f a b i g h c k)) else Z83.j4 K d e f a b i g h c 0
def Z83.j6 (K : Int -> L5 -> L6 -> Prop) (b : L5) (d : L6) (e : L1) (c : L3) (a : Int) (l : L1 -> Int -> L6 -> L6 -> L3 -> Int -> Int -> Int -> Int -> Int -> Int -> L5 -> L6 -> L6 -> L12 -> Prop) (n : Nat) (q : Bool) : Prop :=
 if q = true then (Z43.c n ((rd c (Int.toNat a)).1) fun m o y => (let f := ([(2, 0, 0, 0, m, o, ([] : L6))] : List qA); grd (decide (b.length + f.length <= 790660046940)) (grd (decide (d.length + ([a] : L6).length <= 7818749353073)) (let r := IntKind.wrap .i64 (((b ++ f).length : Int) - 1); K r (b ++ f) (d ++ ([a] : L6))))) /\ (let g := ([(2, 0, 0, 0, m, o, ([] : L6))] : List qA); grd (decide (b.length + g.length <= 790660046940)) (grd (decide (d.length + ([a] : L6).length <= 7818749353073)) (let s := IntKind.wrap .i64 (((b ++ g).length : Int) - 1); K s (b ++ g) (d ++ ([a] : L6)))))) else (let t := !(((rd c (Int.toNat a)).1) == ([] : L7)); if t = true then (Z79.c n e ((rd c (Int.toNat a)).1) fun p => (let h := ([(1, p, 0, 0, 0, ([] : L6), ([] : L6))] : List qA); grd (decide (b.length + h.length <= 790660046940)) (grd (decide (d.length + ([a] : L6).length <= 7818749353073)) (let u := IntKind.wrap .i64 (((b ++ h).length : Int) - 1); K u (b ++ h) (d ++ ([a] : L6))))) /\ (let i := ([(1, p, 0, 0, 0, ([] : L6), ([] : L6))] : List qA); grd (decide (b.length + i.length <= 790660046940)) (grd (decide (d.length + ([a] : L6).length <= 7818749353073)) (let v := IntKind.wrap .i64 (((b ++ i).length : Int) - 1); K v (b ++ i) (d ++ ([a] : L6)))))) else (Z86.c n c a fun j => grd (decide (0 <= a) && decide (a < c.length)) (Z87.c n j fun k => if decide (k > 0) then grd (decide (1 < (((rd c (Int.toNat a)).2).length : Int))) (grd (decide (0 <= rd ((rd c (Int.toNat a)).2) 1) && decide (rd ((rd c (Int.toNat a)).2) 1 < (c.length : Int))) (let w : qU := rd c (Int.toNat (rd ((rd c (Int.toNat a)).2) 1)); Z60.c n w.1 4096 fun x => Z83.j5 K b d e c a l n j k x)) else Z83.j5 K b d e c a l n j k 0)))
def Z83.w (n : Nat) (c : L1 -> Int -> L6 -> L6 -> L3 -> Int -> Int -> Int -> Int -> Int -> Int -> L5 -> L6 -> L6 -> L12 -> Prop) (d : L5) (e : L6) (f : L1) (b : L3) (a : Int) (K : Int -> L5 -> L6 -> Prop) : Prop :=
 grd (decide (0 <= a) && decide (a < b.length)) (let g := !(((rd b (Int.toNat a)).1) == ([] : L7)); if g = true then grd (decide (0 < (((rd b (Int.toNat a)).1).length : Int))) (let h := ((List.getD ((rd b (Int.toNat a)).1) 0 0).toNat : Int); Z83.j6 K d e f b a c n (decide (h = 35))) else Z83.j6 K d e f b a c n false)
def Z83.m : Nat -> (L5 -> L6 -> L1 -> L3 -> Int -> (Int -> L5 -> L6 -> Prop) -> Prop) × (L1 -> Int -> L6 -> L6 -> L3 -> Int -> Int -> Int -> Int -> Int -> Int -> L5 -> L6 -> L6 -> L12 -> Prop)
 | 0 => (fun _ _ _ _ _ _ => False, fun _ _ _ _ _ _ _ _ _ _ _ _ _ _ _ => False)
 | n + 1 => (fun a1 a2 a3 a4 a5 K => Z83.w n (Z83.m n).2 a1 a2 a3 a4 a5 K, fun x52 x53 x54 x56 x60 x61 x62 x63 x64 x65 x55 x57 x58 x59 Kx0w17 => Z83.l17.b n (Z83.m n).1 x52 x53 x54 x56 x60 x61 x62 x63 x64 x65 (fun x55q x57q x58q x59q => (Z83.m n).2 x52 x53 x54 x56 x60 x61 x62 x63 x64 x65 x55q x57q x58q x59q Kx0w17) x55 x57 x58 x59 Kx0w17)
def Z83.c (n : Nat) : L5 -> L6 -> L1 -> L3 -> Int -> (Int -> L5 -> L6 -> Prop) -> Prop := (Z83.m n).1
def Z83.l17 (n : Nat) : L1 -> Int -> L6 -> L6 -> L3 -> Int -> Int -> Int -> Int -> Int -> Int -> L5 -> L6 -> L6 -> L12 -> Prop := (Z83.m n).2
theorem Z83.c_s (n : Nat) (a1 : L5) (a2 : L6) (a3 : L1) (a4 : L3) (a5 : Int) (K : Int -> L5 -> L6 -> Prop) : Z83.c (n + 1) a1 a2 a3 a4 a5 K = Z83.w n (Z83.l17 n) a1 a2 a3 a4 a5 K := rfl
theorem Z83.l17_s (n : Nat) (x52 : L1) (x53 : Int) (x54 : L6) (x56 : L6) (x60 : L3) (x61 : Int) (x62 : Int) (x63 : Int) (x64 : Int) (x65 : Int) (x55 : Int) (x57 : L5) (x58 : L6) (x59 : L6) (Kx0w17 : L12) : Z83.l17 (n + 1) x52 x53 x54 x56 x60 x61 x62 x63 x64 x65 x55 x57 x58 x59 Kx0w17 = Z83.l17.b n (Z83.c n) x52 x53 x54 x56 x60 x61 x62 x63 x64 x65 (fun x55q x57q x58q x59q => Z83.l17 n x52 x53 x54 x56 x60 x61 x62 x63 x64 x65 x55q x57q x58q x59q Kx0w17) x55 x57 x58 x59 Kx0w17 := rfl
def Z90.l11.b (n : Nat) (j : L1) (h k b : L5) (c : L6) (l : Int -> L6 -> Prop) (a : Int) (e : L6) (m : L5 -> L5 -> L6 -> Prop) (i : Int -> Int -> L5 -> Prop) : Prop :=
 let f := i 16 (rd c (Int.toNat a)) h; let g := i 15 (rd c (Int.toNat a)) h; if decide (a < b.length) then grd (decide (0 <= a) && decide (a < b.length)) (Z92.c n j ((rd b (Int.toNat a)).1) (((rd b (Int.toNat a)).2).1) ((((rd b (Int.toNat a)).2).2).1) (((((rd b (Int.toNat a)).2).2).2).1) ((((((rd b (Int.toNat a)).2).2).2).2).1) (((((((rd b (Int.toNat a)).2).2).2).2).2).1) (((((((rd b (Int.toNat a)).2).2).2).2).2).2) e fun d => if decide (d < 0) then (grd (decide (0 <= a) && decide (a < c.length)) (g /\ g) /\ grd (decide (0 <= a) && decide (a < c.length)) g) else (if decide (d > 4096) then (grd (decide (0 <= a) && decide (a < c.length)) (f /\ f) /\ grd (decide (0 <= a) && decide (a < c.length)) f) else grd (decide (e.length + ([d] : L6).length <= 7818749353073)) (l (IntKind.wrap .i64 (a + 1)) (e ++ ([d] : L6))))) else m k b c
def Z90.l11 : Nat -> L1 -> L5 -> L5 -> L5 -> L6 -> Int -> L6 -> (L5 -> L5 -> L6 -> Prop) -> (Int -> Int -> L5 -> Prop) -> Prop
 | 0, _, _, _, _, _, _, _, _, _ => False
 | n + 1, a, b, c, d, e, h, i, f, g => Z90.l11.b n a b c d e (fun j k => Z90.l11 n a b c d e j k f g) h i f g
def Z90.w (n : Nat) (g : L1 -> L5 -> L5 -> L5 -> L6 -> Int -> L6 -> (L5 -> L5 -> L6 -> Prop) -> (Int -> Int -> L5 -> Prop) -> Prop) (a : L1) (c : L3) (d : Int) (K : L5 -> Int -> Int -> Prop) : Prop :=
 let h := ([] : List qA); let b := ([] : List qA); Z77.c n a c d fun e i => if (!(decide (e = 0))) = true then K b e i else (let j := ([] : List qA); Z83.c n j ([] : L6) a c d fun q f k => if decide ((f.length : Int) > 400) then K b 14 0 else (g a b h f k 0 ([] : L6) (fun r l s => K l 0 0) fun m o p => K p m o))
def Z90.c : Nat -> L1 -> L3 -> Int -> (L5 -> Int -> Int -> Prop) -> Prop
 | 0, _, _, _, _ => False
 | n + 1, a, b, c, K => Z90.w n (Z90.l11 n) a b c K
def Z44.w (n : Nat) (a : L1) (c : L7) (K : L5 -> Int -> Int -> Prop) : Prop :=
 Z45.c n c fun d b e => if (!(decide (b = 0))) = true then (let f := ([] : List qA); K f b e) else (Z38.c n a fun g => if (!g) = true then (let h := ([] : List qA); K h 10 0) else Z90.c n a d 0 K)
def Z44.c : Nat -> L1 -> L7 -> (L5 -> Int -> Int -> Prop) -> Prop
 | 0, _, _, _ => False
 | n + 1, a, b, K => Z44.w n a b K
def Z72.l3.b (n : Nat) (g : L1) (b : L4) (h : Int) (e : Int -> L2 -> Prop) (a : Int) (c : L2) (f : L22) : Prop :=
 if decide (a < b.length) then grd (decide (0 <= a) && decide (a < b.length)) (Z51.c n ((rd b (Int.toNat a)).2) fun d => grd (decide (c.length + d.length <= 1082596064271)) (e (IntKind.wrap .i64 (a + 1)) (c ++ d))) else f c
def Z72.l3 : Nat -> L1 -> L4 -> Int -> Int -> L2 -> L22 -> Prop
 | 0, _, _, _, _, _, _ => False
 | n + 1, a, b, c, e, f, d => Z72.l3.b n a b c (fun g h => Z72.l3 n a b c g h d) e f d
def Z72.w (n : Nat) (a : L1 -> L4 -> Int -> Int -> L2 -> L22 -> Prop) (b : L1) (c : L4) (d : Int) (K : L22) : Prop :=
 let e := ([] : List qE); a b c d 0 e K
def Z72.c : Nat -> L1 -> L4 -> Int -> L22 -> Prop
 | 0, _, _, _, _ => False
 | n + 1, a, b, c, K => Z72.w n (Z72.l3 n) a b c K
def Z34.j0 (d : L14) (e : Bool) (f : L1) (a : L4) (g h : L5) (b : Int) : Prop :=
 (grd (decide (0 <= IntKind.wrap .i64 ((a.length : Int) - 1)) && decide (IntKind.wrap .i64 ((a.length : Int) - 1) < (a.length : Int))) (let i := Int.toNat (IntKind.wrap .i64 ((a.length : Int) - 1)); (let v := ([(b, e, g, h)] : List qE); grd (decide (((rd a i).2).length + v.length <= 1082596064271)) (grd (decide (0 <= IntKind.wrap .i64 ((a.length : Int) - 1)) && decide (IntKind.wrap .i64 ((a.length : Int) - 1) < (a.length : Int))) (let j := Int.toNat (IntKind.wrap .i64 ((a.length : Int) - 1)); grd (decide (i = j)) (let U := List.set a j ((rd a j).1, ((rd a i).2) ++ v); let w := d b 0 f U (IntKind.wrap .i64 (b + 1)); w /\ w)))) /\ (let x := ([(b, e, g, h)] : List qE); grd (decide (((rd a i).2).length + x.length <= 1082596064271)) (grd (decide (0 <= IntKind.wrap .i64 ((a.length : Int) - 1)) && decide (IntKind.wrap .i64 ((a.length : Int) - 1) < (a.length : Int))) (let k := Int.toNat (IntKind.wrap .i64 ((a.length : Int) - 1)); grd (decide (i = k)) (let V := List.set a k ((rd a k).1, ((rd a i).2) ++ x); let y := d b 0 f V (IntKind.wrap .i64 (b + 1)); y /\ y))))) /\ (let z := ([(b, e, g, h)] : List qE); grd (decide (0 <= IntKind.wrap .i64 ((a.length : Int) - 1)) && decide (IntKind.wrap .i64 ((a.length : Int) - 1) < (a.length : Int))) (let l := Int.toNat (IntKind.wrap .i64 ((a.length : Int) - 1)); grd (decide (((rd a l).2).length + z.length <= 1082596064271)) (grd (decide (0 <= IntKind.wrap .i64 ((a.length : Int) - 1)) && decide (IntKind.wrap .i64 ((a.length : Int) - 1) < (a.length : Int))) (let m := Int.toNat (IntKind.wrap .i64 ((a.length : Int) - 1)); grd (decide (l = m)) (let Y := List.set a m ((rd a m).1, ((rd a l).2) ++ z); let A := d b 0 f Y (IntKind.wrap .i64 (b + 1)); A /\ A)))))) /\ grd (decide (0 <= IntKind.wrap .i64 ((a.length : Int) - 1)) && decide (IntKind.wrap .i64 ((a.length : Int) - 1) < (a.length : Int))) (let c := Int.toNat (IntKind.wrap .i64 ((a.length : Int) - 1)); ((let B := ([(b, e, g, h)] : List qE); grd (decide (((rd a c).2).length + B.length <= 1082596064271)) (grd (decide (0 <= IntKind.wrap .i64 ((a.length : Int) - 1)) && decide (IntKind.wrap .i64 ((a.length : Int) - 1) < (a.length : Int))) (let o := Int.toNat (IntKind.wrap .i64 ((a.length : Int) - 1)); grd (decide (c = o)) (let Z := List.set a o ((rd a o).1, ((rd a c).2) ++ B); let D := d b 0 f Z (IntKind.wrap .i64 (b + 1)); D /\ D)))) /\ (let E := ([(b, e, g, h)] : List qE); grd (decide (((rd a c).2).length + E.length <= 1082596064271)) (grd (decide (0 <= IntKind.wrap .i64 ((a.length : Int) - 1)) && decide (IntKind.wrap .i64 ((a.length : Int) - 1) < (a.length : Int))) (let p := Int.toNat (IntKind.wrap .i64 ((a.length : Int) - 1)); grd (decide (c = p)) (let a0 := List.set a p ((rd a p).1, ((rd a c).2) ++ E); let F := d b 0 f a0 (IntKind.wrap .i64 (b + 1)); F /\ F))))) /\ ((let G := ([(b, e, g, h)] : List qE); grd (decide (((rd a c).2).length + G.length <= 1082596064271)) (grd (decide (0 <= IntKind.wrap .i64 ((a.length : Int) - 1)) && decide (IntKind.wrap .i64 ((a.length : Int) - 1) < (a.length : Int))) (let q := Int.toNat (IntKind.wrap .i64 ((a.length : Int) - 1)); grd (decide (c = q)) (let a1 := List.set a q ((rd a q).1, ((rd a c).2) ++ G); let H := d b 0 f a1 (IntKind.wrap .i64 (b + 1)); H /\ H)))) /\ (let I := ([(b, e, g, h)] : List qE); let J := grd (decide (((rd a c).2).length + I.length <= 1082596064271)) (grd (decide (0 <= IntKind.wrap .i64 ((a.length : Int) - 1)) && decide (IntKind.wrap .i64 ((a.length : Int) - 1) < (a.length : Int))) (let r := Int.toNat (IntKind.wrap .i64 ((a.length : Int) - 1)); grd (decide (c = r)) (let a2 := List.set a r ((rd a r).1, ((rd a c).2) ++ I); let L := d b 0 f a2 (IntKind.wrap .i64 (b + 1)); L /\ L))); J /\ J)) /\ (let M := ([(b, e, g, h)] : List qE); let N := grd (decide (((rd a c).2).length + M.length <= 1082596064271)) (grd (decide (0 <= IntKind.wrap .i64 ((a.length : Int) - 1)) && decide (IntKind.wrap .i64 ((a.length : Int) - 1) < (a.length : Int))) (let s := Int.toNat (IntKind.wrap .i64 ((a.length : Int) - 1)); grd (decide (c = s)) (let a3 := List.set a s ((rd a s).1, ((rd a c).2) ++ M); let O := d b 0 f a3 (IntKind.wrap .i64 (b + 1)); O /\ O))); N /\ N)) /\ (let R := ([(b, e, g, h)] : List qE); grd (decide (0 <= IntKind.wrap .i64 ((a.length : Int) - 1)) && decide (IntKind.wrap .i64 ((a.length : Int) - 1) < (a.length : Int))) (let t := Int.toNat (IntKind.wrap .i64 ((a.length : Int) - 1)); let S := grd (decide (((rd a t).2).length + R.length <= 1082596064271)) (grd (decide (0 <= IntKind.wrap .i64 ((a.length : Int) - 1)) && decide (IntKind.wrap .i64 ((a.length : Int) - 1) < (a.length : Int))) (let u := Int.toNat (IntKind.wrap .i64 ((a.length : Int) - 1)); grd (decide (t = u)) (let a4 := List.set a u ((rd a u).1, ((rd a t).2) ++ R); let T := d b 0 f a4 (IntKind.wrap .i64 (b + 1)); T /\ T))); S /\ S))
def Z34.q10.b (n : Nat) (f : Bool) (b : L1) (c : L4) (g h : L5) (m : L1) (o : L4) (i : L1) (j : L4) (a p k : Int) (d : L14) : Prop :=
 let e := d 0 5 b c k; Z72.c n i j a fun l => if (decide ((l.length : Int) = 60)) = false then (if decide (a = 1000000) then e else Z34.j0 d f b c g h a) else e
def Z34.q10 : Nat -> Bool -> L1 -> L4 -> L5 -> L5 -> L1 -> L4 -> L1 -> L4 -> Int -> Int -> Int -> L14 -> Prop
 | 0, _, _, _, _, _, _, _, _, _, _, _, _, _ => False
 | n + 1, a, b, c, d, e, f, g, h, i, j, k, l, m => Z34.q10.b n a b c d e f g h i j k l m
def Z34.j1 (K : L1 -> L4 -> Int -> Int -> Int -> Prop) (d : L1) (e : L4) (f : Int) (g : Bool) (h : Bool -> L1 -> L4 -> L5 -> L5 -> L1 -> L4 -> L1 -> L4 -> Int -> Int -> Int -> L14 -> Prop) (a : L1) (b : L4) (c : Int) (i j : L5) (k : L4) (l : Bool) : Prop :=
 if l = true then K a b c 0 7 else (h g a b i j ([] : List qB) k d e f 0 c fun m o p q r => K p q r m o)
def Z34.j2 (K : L1 -> L4 -> Int -> Int -> Int -> Prop) (b : L1) (e : L4) (f : Int) (g : Bool) (h : Bool -> L1 -> L4 -> L5 -> L5 -> L1 -> L4 -> L1 -> L4 -> Int -> Int -> Int -> L14 -> Prop) (n : Nat) (i : L1) (j : L4) (k : Int) (c d : L5) (l : L4) : Prop :=
 let a := Z47.c n b c fun m => Z47.c n b d fun o => Z34.j1 K b e f g h i j k c d l (!(decide (m = o))); a /\ (a /\ a) /\ a /\ a
def Z34.w (n : Nat) (h : Bool -> L1 -> L4 -> L5 -> L5 -> L1 -> L4 -> L1 -> L4 -> Int -> Int -> Int -> L14 -> Prop) (a : L1) (b : L4) (c : Int) (i : Bool) (j k : L7) (K : L1 -> L4 -> Int -> Int -> Int -> Prop) : Prop :=
 let l := ([] : List qF); Z46.c n a b c fun m => if (!m) = true then (let o := ([] : List qF); K ([] : List qB) o 0 0 1) else (Z73.c n a b c fun d e f => let g := K d e f 0 6; Z44.c n a j fun p q t => Z44.c n a k fun r s u => if (!(decide (q = 0))) = false then (if (!(decide (s = 0))) = true then g else Z34.j2 K a b c i h n d e f p r l) else g)
def Z34.c : Nat -> L1 -> L4 -> Int -> Bool -> L7 -> L7 -> (L1 -> L4 -> Int -> Int -> Int -> Prop) -> Prop
 | 0, _, _, _, _, _, _, _ => False
 | n + 1, a, b, c, d, e, f, K => Z34.w n (Z34.q10 n) a b c d e f K
def Z66.w (n : Nat) (g : L6) (h b c : Int) (K : L17) : Prop :=
 Z67.c n g h 24 fun i d e => if i = true then (let f := ([IntKind.wrap .i64 (b - 1), IntKind.wrap .i64 (c + 1), (- 9223372036854775808), 9223372036854775807] : L6); Z62.c n d e 4 fun a j k => grd (decide (0 <= a) && decide (a < f.length)) (K (rd f (Int.toNat a)) j k)) else Z64.c n d e b c K
def Z66.c : Nat -> L6 -> Int -> Int -> Int -> L17 -> Prop
 | 0, _, _, _, _, _ => False
 | n + 1, a, b, c, d, K => Z66.w n a b c d K
def Z68.q13.b (n : Nat) (d B D : Int) (S : Bool) (e : L1) (f : L4) (a : L1) (b : L4) (h : L6) (i g c E : Int) (o T U : L10) (F : Int -> Int -> L1 -> L4 -> L1 -> L4 -> L6 -> Int -> Int -> Int -> Int -> Prop) (p : L10) : Prop :=
 if S = true then ((Z62.c n h i 9 fun V Y Z => let a0 := IntKind.wrap .u8 (IntKind.wrap .i64 (97 + V)); let q := Z62.c n Y Z 6 fun a1 a2 a3 => Z37.c n a b c (zC ([a0] : L6)) (IntKind.wrap .i64 (1 + a1)) fun a4 a5 a6 a7 => o d a7 a4 a5 e f a b a2 a3 g c a6; (q /\ q) /\ q) /\ (Z62.c n h i 9 fun a8 G H => let I := IntKind.wrap .u8 (IntKind.wrap .i64 (97 + a8)); let k := Z62.c n G H 6 fun a9 b0 b1 => Z37.c n a b c (zC ([I] : L6)) (IntKind.wrap .i64 (1 + a9)) fun b2 b3 b4 b5 => o d b5 b2 b3 e f a b b0 b1 g c b4; let r := k /\ k; (r /\ k) /\ (r /\ r /\ k) /\ (Z62.c n G H 6 fun b6 b7 b8 => let J := Z37.c n a b c (zC ([I] : L6)) (IntKind.wrap .i64 (1 + b6)) fun b9 c0 c1 c2 => o d c2 b9 c0 e f a b b7 b8 g c c1; J /\ J))) else (if decide (D = 2) then (Z42.c n a b c fun c3 c4 c5 c6 => T d c6 c3 c4 e f a b h i g c c5) else (if decide (D = 3) then (Z67.c n h i 2 fun c7 L M => if c7 = true then (Z41.c n a b c fun c8 c9 d0 d1 => U d d1 c8 c9 e f a b L M g c d0) else F d B e f a b L M g c E) else (if decide ((a.length : Int) > 0) then (Z95.c n h i a 1 fun f0 s t u v w => let x := (Z49.c n a t fun d2 => let N := Z49.c n a u fun d3 => Z34.c n a b c s d2 d3 fun d4 d5 d6 f1 d7 => p d d7 d4 d5 e f a b v w g c d6; N /\ N); let l := Z49.c n a t fun d8 => Z49.c n a u fun d9 => Z34.c n a b c s d8 d9 fun e0 e1 e2 f2 e3 => p d e3 e0 e1 e f a b v w g c e2; let y := l /\ x; let z := l /\ l; let A := (Z49.c n a t fun e4 => let j := Z49.c n a u fun e5 => Z34.c n a b c s e4 e5 fun e6 e7 e8 f3 e9 => p d e9 e6 e7 e f a b v w g c e8; (j /\ j) /\ (j /\ j) /\ j); let m := z /\ x /\ y; let O := m /\ m /\ A /\ y /\ y /\ A; let R := (l /\ z /\ z) /\ x /\ m /\ m; R /\ R /\ A /\ O /\ O) else F d B e f a b h i g c E)))
def Z68.q13 : Nat -> Int -> Int -> Int -> Bool -> L1 -> L4 -> L1 -> L4 -> L6 -> Int -> Int -> Int -> Int -> L10 -> L10 -> L10 -> (Int -> Int -> L1 -> L4 -> L1 -> L4 -> L6 -> Int -> Int -> Int -> Int -> Prop) -> L10 -> Prop
 | 0, _, _, _, _, _, _, _, _, _, _, _, _, _, _, _, _, _, _ => False
 | n + 1, a, b, c, d, e, f, g, h, i, j, k, l, m, o, p, q, r, s => Z68.q13.b n a b c d e f g h i j k l m o p q r s
def Z68.q19.b (n : Nat) (a g : Int) (h : L1) (i : L4) (b : L1) (c : L4) (j : L1) (k : L4) (d : L6) (e f l m : Int) (o p : L8) : Prop :=
 if decide (g = 0) then o a h i b c d e f m else p a b c j k d e f l
def Z68.q19 : Nat -> Int -> Int -> L1 -> L4 -> L1 -> L4 -> L1 -> L4 -> L6 -> Int -> Int -> Int -> Int -> L8 -> L8 -> Prop
 | 0, _, _, _, _, _, _, _, _, _, _, _, _, _, _, _ => False
 | n + 1, a, b, c, d, e, f, g, h, i, j, k, l, m, o, p => Z68.q19.b n a b c d e f g h i j k l m o p
def Z68.q4.b (n : Nat) (a : Int) (b : L1) (c : L4) (d : L1) (e : L4) (f : L6) (g h i : Int) (j : L8) : Prop :=
 j (IntKind.wrap .i64 (a - 1)) b c d e f g h i
def Z68.q4 : Nat -> Int -> L1 -> L4 -> L1 -> L4 -> L6 -> Int -> Int -> Int -> L8 -> Prop
 | 0, _, _, _, _, _, _, _, _, _, _ => False
 | n + 1, a, b, c, d, e, f, g, h, i, j => Z68.q4.b n a b c d e f g h i j
def Z68.q4_1.b (n : Nat) (a : Int) (b : L1) (c : L4) (d : L1) (e : L4) (f : L6) (g h i : Int) (j : L8) : Prop :=
 j (IntKind.wrap .i64 (a - 1)) b c d e f g h i
def Z68.q4_1 : Nat -> Int -> L1 -> L4 -> L1 -> L4 -> L6 -> Int -> Int -> Int -> L8 -> Prop
 | 0, _, _, _, _, _, _, _, _, _, _ => False
 | n + 1, a, b, c, d, e, f, g, h, i, j => Z68.q4_1.b n a b c d e f g h i j
def Z68.q19_1.b (n : Nat) (a g : Int) (h : L1) (i : L4) (b : L1) (c : L4) (j : L1) (k : L4) (d : L6) (e f l m : Int) (o p : L8) : Prop :=
 if decide (g = 0) then o a h i b c d e f m else p a b c j k d e f l
def Z68.q19_1 : Nat -> Int -> Int -> L1 -> L4 -> L1 -> L4 -> L1 -> L4 -> L6 -> Int -> Int -> Int -> Int -> L8 -> L8 -> Prop
 | 0, _, _, _, _, _, _, _, _, _, _, _, _, _, _, _ => False
 | n + 1, a, b, c, d, e, f, g, h, i, j, k, l, m, o, p => Z68.q19_1.b n a b c d e f g h i j k l m o p
def Z68.q4_2.b (n : Nat) (a : Int) (b : L1) (c : L4) (d : L1) (e : L4) (f : L6) (g h i : Int) (j : L8) : Prop :=
 j (IntKind.wrap .i64 (a - 1)) b c d e f g h i
def Z68.q4_2 : Nat -> Int -> L1 -> L4 -> L1 -> L4 -> L6 -> Int -> Int -> Int -> L8 -> Prop
 | 0, _, _, _, _, _, _, _, _, _, _ => False
 | n + 1, a, b, c, d, e, f, g, h, i, j => Z68.q4_2.b n a b c d e f g h i j
def Z68.q19_2.b (n : Nat) (a g : Int) (h : L1) (i : L4) (b : L1) (c : L4) (j : L1) (k : L4) (d : L6) (e f l m : Int) (o p : L8) : Prop :=
 if decide (g = 0) then o a h i b c d e f m else p a b c j k d e f l
def Z68.q19_2 : Nat -> Int -> Int -> L1 -> L4 -> L1 -> L4 -> L1 -> L4 -> L6 -> Int -> Int -> Int -> Int -> L8 -> L8 -> Prop
 | 0, _, _, _, _, _, _, _, _, _, _, _, _, _, _, _ => False
 | n + 1, a, b, c, d, e, f, g, h, i, j, k, l, m, o, p => Z68.q19_2.b n a b c d e f g h i j k l m o p
def Z68.q4_3.b (n : Nat) (a : Int) (b : L1) (c : L4) (d : L1) (e : L4) (f : L6) (g h i : Int) (j : L8) : Prop :=
 j (IntKind.wrap .i64 (a - 1)) b c d e f g h i
def Z68.q4_3 : Nat -> Int -> L1 -> L4 -> L1 -> L4 -> L6 -> Int -> Int -> Int -> L8 -> Prop
 | 0, _, _, _, _, _, _, _, _, _, _ => False
 | n + 1, a, b, c, d, e, f, g, h, i, j => Z68.q4_3.b n a b c d e f g h i j
def Z68.q19_3.b (n : Nat) (a j : Int) (b : L1) (c : L4) (d : L1) (e : L4) (f : L6) (g h k l : Int) (i : L8) : Prop :=
 if decide (j = 0) then i a b c d e f g h l else i a b c d e f g h k
def Z68.q19_3 : Nat -> Int -> Int -> L1 -> L4 -> L1 -> L4 -> L6 -> Int -> Int -> Int -> Int -> L8 -> Prop
 | 0, _, _, _, _, _, _, _, _, _, _, _, _ => False
 | n + 1, a, b, c, d, e, f, g, h, i, j, k, l => Z68.q19_3.b n a b c d e f g h i j k l
def Z68.q19_4.b (n : Nat) (a g : Int) (h : L1) (i : L4) (b : L1) (c : L4) (j : L1) (k : L4) (d : L6) (e f l m : Int) (o p : L8) : Prop :=
 if decide (g = 0) then o a h i b c d e f m else p a b c j k d e f l
def Z68.q19_4 : Nat -> Int -> Int -> L1 -> L4 -> L1 -> L4 -> L1 -> L4 -> L6 -> Int -> Int -> Int -> Int -> L8 -> L8 -> Prop
 | 0, _, _, _, _, _, _, _, _, _, _, _, _, _, _, _ => False
 | n + 1, a, b, c, d, e, f, g, h, i, j, k, l, m, o, p => Z68.q19_4.b n a b c d e f g h i j k l m o p
def Z68.q4_4.b (n : Nat) (a : Int) (b : L1) (c : L4) (d : L1) (e : L4) (f : L6) (g h i : Int) (j : L8) : Prop :=
 j (IntKind.wrap .i64 (a - 1)) b c d e f g h i
def Z68.q4_4 : Nat -> Int -> L1 -> L4 -> L1 -> L4 -> L6 -> Int -> Int -> Int -> L8 -> Prop
 | 0, _, _, _, _, _, _, _, _, _, _ => False
 | n + 1, a, b, c, d, e, f, g, h, i, j => Z68.q4_4.b n a b c d e f g h i j
def Z68.l3.b (n : Nat) (k : Int -> L1 -> L4 -> L1 -> L4 -> L6 -> Int -> Int -> Int -> L8 -> Prop) (l : Int -> Int -> Int -> Bool -> L1 -> L4 -> L1 -> L4 -> L6 -> Int -> Int -> Int -> Int -> L10 -> L10 -> L10 -> (Int -> Int -> L1 -> L4 -> L1 -> L4 -> L6 -> Int -> Int -> Int -> Int -> Prop) -> L10 -> Prop) (m : Int -> Int -> L1 -> L4 -> L1 -> L4 -> L1 -> L4 -> L6 -> Int -> Int -> Int -> Int -> L8 -> L8 -> Prop) (b o p q : Int -> L1 -> L4 -> L1 -> L4 -> L6 -> Int -> Int -> Int -> L8 -> Prop) (r s : Int -> Int -> L1 -> L4 -> L1 -> L4 -> L1 -> L4 -> L6 -> Int -> Int -> Int -> Int -> L8 -> L8 -> Prop) (t : Int -> Int -> L1 -> L4 -> L1 -> L4 -> L6 -> Int -> Int -> Int -> Int -> L8 -> Prop) (u : Int -> Int -> L1 -> L4 -> L1 -> L4 -> L1 -> L4 -> L6 -> Int -> Int -> Int -> Int -> L8 -> L8 -> Prop) (a : L8) (e : Int) (f : L1) (g : L4) (h : L1) (i : L4) (v : L6) (w j c : Int) (z : L19) : Prop :=
 if decide (e > 0) then (Z62.c n v w 6 fun d x y => if decide (d = 0) then (l e 0 d true f g h i x y j c c (fun A B D E F G H I J L M N O => m A B D E F G H I J L M N O (fun R S T U V Y Z a0 a1 => k R S T U V Y Z a0 a1 fun a2 a3 a4 a5 a6 => a a2 a5 a6 a3 a4) fun a7 a8 a9 b0 b1 b2 b3 b4 b5 => b a7 a8 a9 b0 b1 b2 b3 b4 b5 a) (fun b6 b7 b8 b9 c0 c1 c2 c3 c4 c5 c6 c7 c8 => r b6 b7 b8 b9 c0 c1 c2 c3 c4 c5 c6 c7 c8 (fun c9 d0 d1 d2 d3 d4 d5 d6 d7 => o c9 d0 d1 d2 d3 d4 d5 d6 d7 fun d8 d9 e0 e1 e2 => a d8 e1 e2 d9 e0) fun e3 e4 e5 e6 e7 e8 e9 f0 f1 => b e3 e4 e5 e6 e7 e8 e9 f0 f1 a) (fun f2 f3 f4 f5 f6 f7 f8 f9 g0 g1 g2 g3 g4 => s f2 f3 f4 f5 f6 f7 f8 f9 g0 g1 g2 g3 g4 (fun g5 g6 g7 g8 g9 h0 h1 h2 h3 => p g5 g6 g7 g8 g9 h0 h1 h2 h3 fun h4 h5 h6 h7 h8 => a h4 h7 h8 h5 h6) fun h9 i0 i1 i2 i3 i4 i5 i6 i7 => b h9 i0 i1 i2 i3 i4 i5 i6 i7 a) (fun i8 i9 j0 j1 j2 j3 j4 j5 j6 j7 j8 => t i8 i9 j0 j1 j2 j3 j4 j5 j6 j7 j8 fun j9 k0 k1 k2 k3 k4 k5 k6 k7 => b j9 k0 k1 k2 k3 k4 k5 k6 k7 a) fun k8 k9 l0 l1 l2 l3 l4 l5 l6 l7 l8 l9 m0 => u k8 k9 l0 l1 l2 l3 l4 l5 l6 l7 l8 l9 m0 (fun m1 m2 m3 m4 m5 m6 m7 m8 m9 => q m1 m2 m3 m4 m5 m6 m7 m8 m9 fun n0 n1 n2 n3 n4 => a n0 n3 n4 n1 n2) fun n5 n6 n7 n8 n9 o0 o1 o2 o3 => b n5 n6 n7 n8 n9 o0 o1 o2 o3 a) else (l e 0 d (decide (d = 1)) f g h i x y j c c (fun o4 o5 o6 o7 o8 o9 p0 p1 p2 p3 p4 p5 p6 => m o4 o5 o6 o7 o8 o9 p0 p1 p2 p3 p4 p5 p6 (fun p7 p8 p9 q0 q1 q2 q3 q4 q5 => k p7 p8 p9 q0 q1 q2 q3 q4 q5 fun q6 q7 q8 q9 r0 => a q6 q9 r0 q7 q8) fun r1 r2 r3 r4 r5 r6 r7 r8 r9 => b r1 r2 r3 r4 r5 r6 r7 r8 r9 a) (fun s0 s1 s2 s3 s4 s5 s6 s7 s8 s9 t0 t1 t2 => r s0 s1 s2 s3 s4 s5 s6 s7 s8 s9 t0 t1 t2 (fun t3 t4 t5 t6 t7 t8 t9 u0 u1 => o t3 t4 t5 t6 t7 t8 t9 u0 u1 fun u2 u3 u4 u5 u6 => a u2 u5 u6 u3 u4) fun u7 u8 u9 v0 v1 v2 v3 v4 v5 => b u7 u8 u9 v0 v1 v2 v3 v4 v5 a) (fun v6 v7 v8 v9 w0 w1 w2 w3 w4 w5 w6 w7 w8 => s v6 v7 v8 v9 w0 w1 w2 w3 w4 w5 w6 w7 w8 (fun w9 x0 x1 x2 x3 x4 x5 x6 x7 => p w9 x0 x1 x2 x3 x4 x5 x6 x7 fun x8 x9 y0 y1 y2 => a x8 y1 y2 x9 y0) fun y3 y4 y5 y6 y7 y8 y9 z0 z1 => b y3 y4 y5 y6 y7 y8 y9 z0 z1 a) (fun z2 z3 z4 z5 z6 z7 z8 z9 aa ab ac => t z2 z3 z4 z5 z6 z7 z8 z9 aa ab ac fun ad ae af ag ah ai aj ak al => b ad ae af ag ah ai aj ak al a) fun am ao ap aq ar as au av aw ax ay az aA => u am ao ap aq ar as au av aw ax ay az aA (fun aB aD aE aF aG aH aI aJ aL => q aB aD aE aF aG aH aI aJ aL fun aM aN aO aR aS => a aM aR aS aN aO) fun aT aU aV aY aZ ba bb bc bd => b aT aU aV aY aZ ba bb bc bd a)) else z f g h i v w j c
def Z68.l3 : Nat -> Int -> L1 -> L4 -> L1 -> L4 -> L6 -> Int -> Int -> Int -> L19 -> Prop
 | 0, _, _, _, _, _, _, _, _, _, _ => False
 | n + 1, b, c, d, e, f, g, h, i, j, a => Z68.l3.b n (Z68.q4 n) (Z68.q13 n) (Z68.q19 n) (Z68.q4_1 n) (Z68.q4_2 n) (Z68.q4_3 n) (Z68.q4_4 n) (Z68.q19_1 n) (Z68.q19_2 n) (Z68.q19_3 n) (Z68.q19_4 n) (fun k l m o p q r s t => Z68.l3 n k l m o p q r s t a) b c d e f g h i j a
def Z68.j2 (c : L4 -> L6 -> Int -> Prop) (d : L1) (a : L4) (e : L6) (f : Int) : Prop :=
 let g := ([] : List qE); let b := ([((d.length : Int), g)] : List qF); grd (decide (a.length + b.length <= 2132386187201)) (c (a ++ b) e f)
def Z68.l34.b (n : Nat) (f : L1) (g : L4) (b : L1) (h i : Int) (j : L4 -> L6 -> Int -> Prop) (a : L4) (k : L6) (l : Int) (m : L19) : Prop :=
 let c := (Z62.c n k l 2 fun o d e => let p := decide ((a.length : Int) < IntKind.wrap .i64 (20 + o)); if p = true then Z68.j2 j b a d e else m f g b a d e h i); c /\ c
def Z68.l34 : Nat -> L1 -> L4 -> L1 -> Int -> Int -> L4 -> L6 -> Int -> L19 -> Prop
 | 0, _, _, _, _, _, _, _, _, _ => False
 | n + 1, a, b, c, d, e, g, h, i, f => Z68.l34.b n a b c d e (fun j k l => Z68.l34 n a b c d e j k l f) g h i f
def Z68.w (n : Nat) (j : Int -> L1 -> L4 -> L1 -> L4 -> L6 -> Int -> Int -> Int -> L19 -> Prop) (k : L1 -> L4 -> L1 -> Int -> Int -> L4 -> L6 -> Int -> L19 -> Prop) (l : L6) (m : Int) (K : L1 -> L4 -> Int -> L6 -> Int -> Prop) : Prop :=
 let o := ([] : List qF); Z35.c n fun p q r => Z69.c n l m 6 14 fun s t u => j s ([] : List qB) o p q t u 0 r fun v w b a x y z f => Z62.c n x y 40 fun e c d => let h := K b a f c d; let g := Z66.c n c d 0 (b.length : Int) fun A B D => grd (decide (0 <= IntKind.wrap .i64 ((a.length : Int) - 1)) && decide (IntKind.wrap .i64 ((a.length : Int) - 1) < (a.length : Int))) (let i := Int.toNat (IntKind.wrap .i64 ((a.length : Int) - 1)); let E := List.set a i (A, (rd a i).2); K b E f B D); if decide (e = 0) then Z66.c n c d 1 1000000 (K b a) else (if decide (e = 1) then ((g /\ g) /\ (g /\ g) /\ g) else (if decide (e = 2) then (if decide ((b.length : Int) > 0) then grd (decide (1 <= (b.length : Int))) (K (List.drop 1 (List.take (Int.toNat (b.length : Int)) b)) a f c d) else h) else (if decide (e = 3) then grd (decide (1 <= (a.length : Int))) (K b (List.drop 1 (List.take (Int.toNat (a.length : Int)) a)) f c d) else (if decide (e = 4) then K b a 1000000 c d else (if decide (e = 5) then (k v w b z f a c d fun L M F G H I N J => K F G J H I) else h)))))
def Z68.c : Nat -> L6 -> Int -> (L1 -> L4 -> Int -> L6 -> Int -> Prop) -> Prop
 | 0, _, _, _ => False
 | n + 1, a, b, K => Z68.w n (Z68.l3 n) (Z68.l34 n) a b K
end Go.Vsi
end

section
namespace Go.Vsi
def Z39.j0 (K : L1 -> L4 -> Int -> L7 -> Int -> Prop) (n : Nat) (b : L1) (c : L4) (d : Int) (e : L7) (f : L6) (g : Int) : Prop :=
 let h := Z62.c n f g 2 fun i m o => grd (decide (0 <= i) && decide (i < ([9, 4096] : L6).length)) (Z66.c n m o 1 (rd ([9, 4096] : L6) (Int.toNat i)) fun p w x => K b c d e p); (h /\ h) /\ (h /\ (Z62.c n f g 2 fun j q r => let l := Z66.c n q r 1 (rd ([9, 4096] : L6) (Int.toNat j)) fun s y z => K b c d e s; grd (decide (0 <= j) && decide (j < ([9, 4096] : L6).length)) (l /\ l))) /\ (Z62.c n f g 2 fun a t u => let k := Z66.c n t u 1 (rd ([9, 4096] : L6) (Int.toNat a)) fun v A B => K b c d e v; grd (decide (0 <= a) && decide (a < ([9, 4096] : L6).length)) k /\ grd (decide (0 <= a) && decide (a < ([9, 4096] : L6).length)) (k /\ k))
def Z39.w (n : Nat) (h : L6) (K : L1 -> L4 -> Int -> L7 -> Int -> Prop) : Prop :=
 Z61.c n h fun i j => Z68.c n i j fun b c d k l => Z62.c n k l 26 fun m o p => let q := IntKind.wrap .u8 (IntKind.wrap .i64 (97 + m)); Z67.c n o p 8 fun r e f => if r = true then (let g := ([([] : L7), ([65] : L7), ([97, 32, 98] : L7), ([122, 57] : L7)] : List (L7)); Z62.c n e f 4 fun a s t => grd (decide (0 <= a) && decide (a < g.length)) (Z39.j0 K n b c d (rd g (Int.toNat a)) s t)) else Z39.j0 K n b c d (zC ([q] : L6)) e f
def Z39.c : Nat -> L6 -> (L1 -> L4 -> Int -> L7 -> Int -> Prop) -> Prop
 | 0, _, _ => False
 | n + 1, a, K => Z39.w n a K
def Z17.l4.b (n : Nat) (b : L7) (f : L11) (a : Int) (g : Prop) (c : L9) : Prop :=
 let d := f (IntKind.wrap .i64 (a + 1)); let e := grd (decide (0 <= a) && decide (a < b.length)) (let h := ((List.getD b (Int.toNat a) 0).toNat : Int); if (decide (h < 48)) = false then grd (decide (0 <= a) && decide (a < b.length)) (let i := ((List.getD b (Int.toNat a) 0).toNat : Int); if decide (i > 57) then c false else d) else c false); if decide (a < b.length) then grd (decide (0 <= a) && decide (a < b.length)) (let j := ((List.getD b (Int.toNat a) 0).toNat : Int); if (decide (j < 97)) = false then grd (decide (0 <= a) && decide (a < b.length)) (let k := ((List.getD b (Int.toNat a) 0).toNat : Int); if decide (k > 122) then e else d) else e) else g
def Z17.l4 : Nat -> L7 -> Int -> Prop -> L9 -> Prop
 | 0, _, _, _, _ => False
 | n + 1, a, d, b, c => Z17.l4.b n a (fun e => Z17.l4 n a e b c) d b c
def Z17.w (n : Nat) (b : L7 -> Int -> Prop -> L9 -> Prop) (a : L7) (K : L9) : Prop :=
 if (decide ((a.length : Int) < 1)) = false then (if (decide ((a.length : Int) > 12)) = false then grd (decide (0 < (a.length : Int))) (let c := decide (((List.getD a 0 0).toNat : Int) < 97); if c = false then grd (decide (0 < (a.length : Int))) (let d := decide (((List.getD a 0 0).toNat : Int) > 122); if d = true then K false else b a 0 (K true) K) else K false) else K false) else K false
def Z17.c : Nat -> L7 -> L9 -> Prop
 | 0, _, _ => False
 | n + 1, a, K => Z17.w n (Z17.l4 n) a K
def Z15.w (n : Nat) (a b c : Int) (K : L9) : Prop :=
 if decide (a >= b) then K (decide (a <= c)) else K false
def Z15.c : Nat -> Int -> Int -> Int -> L9 -> Prop
 | 0, _, _, _, _ => False
 | n + 1, a, b, c, K => Z15.w n a b c K
def Z14.w (n : Nat) (a : L7) (c : Int) (b : L7) (K : L9) : Prop :=
 K (a == b)
def Z14.c : Nat -> L7 -> Int -> L7 -> L9 -> Prop
 | 0, _, _, _, _ => False
 | n + 1, a, b, c, K => Z14.w n a b c K
def Z32.l2.b (n : Nat) (b : L1) (c : L7) (d : Int) (e : L11) (a : Int) (f : Prop) (g : L11) : Prop :=
 if decide (a < d) then grd (decide (0 <= a) && decide (a < b.length)) (Z14.c n ((rd b (Int.toNat a)).1) ((rd b (Int.toNat a)).2) c fun h => if h = true then g a else e (IntKind.wrap .i64 (a + 1))) else f
def Z32.l2 : Nat -> L1 -> L7 -> Int -> Int -> Prop -> L11 -> Prop
 | 0, _, _, _, _, _, _ => False
 | n + 1, a, b, c, f, d, e => Z32.l2.b n a b c (fun g => Z32.l2 n a b c g d e) f d e
def Z32.w (n : Nat) (b : L1 -> L7 -> Int -> Int -> Prop -> L11 -> Prop) (a : L1) (c : L7) (K : L11) : Prop :=
 b a c (a.length : Int) 0 (K (- 1)) K
def Z32.c : Nat -> L1 -> L7 -> L11 -> Prop
 | 0, _, _, _ => False
 | n + 1, a, b, K => Z32.w n (Z32.l2 n) a b K
def Z13.w (n : Nat) (a : L1) (b : L7) (K : L11) : Prop :=
 Z32.c n a b K
def Z13.c : Nat -> L1 -> L7 -> L11 -> Prop
 | 0, _, _, _ => False
 | n + 1, a, b, K => Z13.w n a b K
def Z2.l5.b (n : Nat) (d b : L1) (f : Int) (g : L21) (e a : Int) (h : L11) (c : L9) : Prop :=
 if decide (a < f) then grd (decide (0 <= a) && decide (a < b.length)) (Z17.c n ((rd b (Int.toNat a)).1) fun i => if (!i) = false then (Z15.c n ((rd b (Int.toNat a)).2) 1 4096 fun j => if (!j) = false then grd ((decide (0 <= a) && decide (a <= d.length)) && decide (0 <= a)) (Z13.c n (List.drop 0 (List.take (Int.toNat a) d)) ((rd b (Int.toNat a)).1) fun k => if decide (k >= 0) then c false else (let l := IntKind.wrap .i64 (e + ((rd b (Int.toNat a)).2)); g l (IntKind.wrap .i64 (a + 1)))) else c false) else c false) else h e
def Z2.l5 : Nat -> L1 -> L1 -> Int -> Int -> Int -> L11 -> L9 -> Prop
 | 0, _, _, _, _, _, _, _ => False
 | n + 1, a, b, c, f, g, d, e => Z2.l5.b n a b c (fun h i => Z2.l5 n a b c h i d e) f g d e
def Z2.w (n : Nat) (b : L1 -> L1 -> Int -> Int -> Int -> L11 -> L9 -> Prop) (a : L1) (K : L9) : Prop :=
 if decide ((a.length : Int) > 60) then K false else b a a (a.length : Int) 0 0 (fun c => K (decide (c <= 20000))) K
def Z2.c : Nat -> L1 -> L9 -> Prop
 | 0, _, _ => False
 | n + 1, a, K => Z2.w n (Z2.l5 n) a K
def Z5.w (n : Nat) (a : qAM) (b : Int) (K : L11) : Prop :=
 let c := decide (IntKind.wrap .i64 (b + 1) < (a.2.1.length : Int)); if c = true then grd (decide (0 <= IntKind.wrap .i64 (b + 1)) && decide (IntKind.wrap .i64 (b + 1) < (a.2.1.length : Int))) (let d : qF := rd a.2.1 (Int.toNat (IntKind.wrap .i64 (b + 1))); K d.1) else K (a.1.length : Int)
def Z5.c : Nat -> qAM -> Int -> L11 -> Prop
 | 0, _, _, _ => False
 | n + 1, a, b, K => Z5.w n a b K
def Z21.w (n : Nat) (a : Int) (K : L11) : Prop :=
 let b := IntKind.wrap .i64 (Int.tdiv (IntKind.wrap .i64 (a + 63)) 64); K b
def Z21.c : Nat -> Int -> L11 -> Prop
 | 0, _, _ => False
 | n + 1, a, K => Z21.w n a K
def Z0.j0 (K : L9) (b : Int) (a : L6) : Prop :=
 if (decide (Int.tmod b 64 = 0)) = false then grd (decide (0 <= IntKind.wrap .i64 ((a.length : Int) - 1)) && decide (IntKind.wrap .i64 ((a.length : Int) - 1) < (a.length : Int))) (let c : Int := rd a (Int.toNat (IntKind.wrap .i64 ((a.length : Int) - 1))); grd (decide (0 <= Int.tmod b 64)) (let d := Int.fdiv c (2 ^ (Nat.min (Int.toNat (Int.tmod b 64)) 64)); K (decide (d = 0)))) else K true
def Z0.w (n : Nat) (a : Int) (b : L6) (K : L9) : Prop :=
 let c := Z21.c n a fun d => if (!(decide (b.length = d))) = true then K false else Z0.j0 K a b; Z15.c n a 1 4096 fun e => if (!e) = false then (c /\ c) else (K false /\ K false)
def Z0.c : Nat -> Int -> L6 -> L9 -> Prop
 | 0, _, _, _ => False
 | n + 1, a, b, K => Z0.w n a b K
def Z7.l11.b (n : Nat) (b : L6) (d : Int) (e : L21) (c a : Int) (f : L11) : Prop :=
 if decide (a < d) then grd (decide (0 <= a) && decide (a < b.length)) (let g := IntKind.wrap .i64 (c + (rd b (Int.toNat a))); e g (IntKind.wrap .i64 (a + 1))) else f c
def Z7.l11 : Nat -> L6 -> Int -> Int -> Int -> L11 -> Prop
 | 0, _, _, _, _, _ => False
 | n + 1, a, b, d, e, c => Z7.l11.b n a b (fun f g => Z7.l11 n a b f g c) d e c
def Z7.j0 (b : L11) (c : Prop) (n : Nat) (a : qA) (d : Int) (e : Bool) : Prop :=
 if e = true then b d else (if decide (a.1 = 9) then (Z15.c n a.2.2.1 1 4096 fun f => if f = true then b (IntKind.wrap .i64 (d * a.2.2.1)) else c) else c)
def Z7.q21.b (n : Nat) (a : qA) (b : Int) (f : Bool) (c : L11) (d : Prop) : Prop :=
 let e := Z15.c n a.2.2.1 0 4096 fun g => Z7.j0 c d n a b g; if f = true then c (IntKind.wrap .i64 (b + a.2.2.1)) else (if (decide (a.1 = 7)) = false then (if decide (a.1 = 8) then e else Z7.j0 c d n a b false) else e)
def Z7.q21 : Nat -> qA -> Int -> Bool -> L11 -> Prop -> Prop
 | 0, _, _, _, _, _ => False
 | n + 1, a, b, c, d, e => Z7.q21.b n a b c d e
def Z7.j1 (b : L11) (c : Prop) (d : qA -> Int -> Bool -> L11 -> Prop -> Prop) (n : Nat) (a : qA) (e : Int) (g : Bool) : Prop :=
 let f := Z15.c n a.2.2.1 0 4096 fun h => d a e h b c; if g = true then (let i := IntKind.wrap .i64 ((IntKind.wrap .i64 (a.2.2.1 - a.2.2.2.1)) + 1); b i) else (if (decide (a.1 = 5)) = false then (if decide (a.1 = 6) then f else d a e false b c) else f)
def Z7.q9.b (n : Nat) (h : L6 -> Int -> Int -> Int -> L11 -> Prop) (f : qA -> Int -> Bool -> L11 -> Prop -> Prop) (a : qA) (c : L6) (d : Int) (i : Bool) (b : L11) (g : Prop) : Prop :=
 let e := Z7.j1 b g f n a d false; if i = true then h c (c.length : Int) 0 0 b else (if (!(decide ((c.length : Int) = 1))) = true then b (- 1) else (if decide (a.1 = 4) then (if decide (a.2.2.2.1 >= 0) then (if decide (a.2.2.2.1 <= a.2.2.1) then Z7.j1 b g f n a d (decide (a.2.2.1 < d)) else e) else e) else e))
def Z7.q9 : Nat -> qA -> L6 -> Int -> Bool -> L11 -> Prop -> Prop
 | 0, _, _, _, _, _, _ => False
 | n + 1, a, b, c, d, e, f => Z7.q9.b n (Z7.l11 n) (Z7.q21 n) a b c d e f
def Z7.j2 (b : L11) (d : Prop) (e : qA -> L6 -> Int -> Bool -> L11 -> Prop -> Prop) (a : qA) (c : L6) (f : Int) (g : Bool) : Prop :=
 if g = true then b a.2.2.2.2.1 else (if decide (a.1 = 3) then e a c f (decide ((c.length : Int) > 1)) b d else e a c f false b d)
def Z7.q5.b (n : Nat) (d : qA -> L6 -> Int -> Bool -> L11 -> Prop -> Prop) (a : qA) (e : L1) (b : L6) (f : Int) (i : Bool) (c : L11) (g : Prop) : Prop :=
 let h := Z7.j2 c g d a b f false; if i = true then grd (decide (0 <= a.2.1) && decide (a.2.1 < (e.length : Int))) (c ((rd e (Int.toNat a.2.1)).2)) else (if decide (a.1 = 2) then (if decide ((b.length : Int) = 0) then (Z0.c n a.2.2.2.2.1 a.2.2.2.2.2.1 fun j => Z7.j2 c g d a b f j) else h) else h)
def Z7.q5 : Nat -> qA -> L1 -> L6 -> Int -> Bool -> L11 -> Prop -> Prop
 | 0, _, _, _, _, _, _, _ => False
 | n + 1, a, b, c, d, e, f, g => Z7.q5.b n (Z7.q9 n) a b c d e f g
def Z7.j3 (K : L11) (a : qA) (b : L1) (c : L6) (d : qA -> L1 -> L6 -> Int -> Bool -> L11 -> Prop -> Prop) (n : Nat) (e : Int) : Prop :=
 let f := d a b c e false K (K (- 1)); if decide (a.1 = 1) then (if decide ((c.length : Int) = 0) then (Z15.c n a.2.1 0 (IntKind.wrap .i64 ((b.length : Int) - 1)) fun g => d a b c e g K (K (- 1))) else f) else f
def Z7.w (n : Nat) (b : qA -> L1 -> L6 -> Int -> Bool -> L11 -> Prop -> Prop) (c : qA) (d : L1) (a : L6) (K : L11) : Prop :=
 if decide ((a.length : Int) > 0) then grd (decide (0 < (a.length : Int))) (Z7.j3 K c d a b n (rd a 0)) else Z7.j3 K c d a b n 0
def Z7.c : Nat -> qA -> L1 -> L6 -> L11 -> Prop
 | 0, _, _, _, _ => False
 | n + 1, a, b, c, K => Z7.w n (Z7.q5 n) a b c K
def Z6.q3.b (n : Nat) (a : qA) (b : Bool) (c : L9) (d : qA -> Prop) : Prop :=
 if b = true then c false else d a
def Z6.q3 : Nat -> qA -> Bool -> L9 -> (qA -> Prop) -> Prop
 | 0, _, _, _, _ => False
 | n + 1, a, b, c, d => Z6.q3.b n a b c d
def Z6.j0 (a : L9) (b : qA) : Prop :=
 if (decide (b.1 = 2)) = false then (if decide (b.2.2.2.2.1 = 0) then a (decide ((b.2.2.2.2.2.1.length : Int) = 0)) else a false) else a true
def Z6.q2.b (n : Nat) (c : qA -> Bool -> L9 -> (qA -> Prop) -> Prop) (a : qA) (g : Bool) (b : L9) : Prop :=
 let d := c a true b fun h => Z6.j0 b h; let e := if (!(decide (a.1 = 1))) = true then (c a (!(decide (a.2.1 = 0))) b fun i => Z6.j0 b i) else (c a false b fun j => Z6.j0 b j); let f := if (!(decide (a.1 = 4))) = true then (if (!(decide (a.2.2.2.1 = 0))) = false then e else d) else e; if (!g) = true then (if (!(decide (a.2.2.1 = 0))) = false then f else d) else f
def Z6.q2 : Nat -> qA -> Bool -> L9 -> Prop
 | 0, _, _, _ => False
 | n + 1, a, b, c => Z6.q2.b n (Z6.q3 n) a b c
def Z6.w (n : Nat) (b : qA -> Bool -> L9 -> Prop) (a : qA) (K : L9) : Prop :=
 if decide (a.1 >= 4) then b a (decide (a.1 <= 9)) K else b a false K
def Z6.c : Nat -> qA -> L9 -> Prop
 | 0, _, _ => False
 | n + 1, a, K => Z6.w n (Z6.q2 n) a K
def Z33.l2.b (n : Nat) (b : List Bool) (c : Bool) (d : Int) (e : L11) (a : Int) (f : Prop) (g : L11) : Prop :=
 if decide (a < d) then grd (decide (0 <= a) && decide (a < b.length)) (if (c == (rd b (Int.toNat a))) = true then g a else e (IntKind.wrap .i64 (a + 1))) else f
def Z33.l2 : Nat -> List Bool -> Bool -> Int -> Int -> Prop -> L11 -> Prop
 | 0, _, _, _, _, _, _ => False
 | n + 1, a, b, c, f, d, e => Z33.l2.b n a b c (fun g => Z33.l2 n a b c g d e) f d e
def Z33.w (n : Nat) (b : List Bool -> Bool -> Int -> Int -> Prop -> L11 -> Prop) (a : List Bool) (c : Bool) (K : L11) : Prop :=
 b a c (a.length : Int) 0 (K (- 1)) K
def Z33.c : Nat -> List Bool -> Bool -> L11 -> Prop
 | 0, _, _, _ => False
 | n + 1, a, b, K => Z33.w n (Z33.l2 n) a b K
def Z31.w (n : Nat) (a : List Bool) (b : Bool) (K : L9) : Prop :=
 Z33.c n a b fun c => K (decide (c >= 0))
def Z31.c : Nat -> List Bool -> Bool -> L9 -> Prop
 | 0, _, _, _ => False
 | n + 1, a, b, K => Z31.w n a b K
def Z20.l13.b (n : Nat) (g : L1) (h f : Int) (i : qA) (j k : Int) (b : L6) (l : Int) (c : L6) (m : L5) (o : Int -> List Bool -> L6 -> Prop) (a : Int) (d : List Bool) (e : L6) (p : L1 -> Int -> Int -> qA -> Int -> Int -> L6 -> List Bool -> L6 -> L5 -> Prop) (q : L24) : Prop :=
 if decide (a < l) then grd (decide (0 <= a) && decide (a < b.length)) (Z15.c n (rd b (Int.toNat a)) 0 (IntKind.wrap .i64 (f - 1)) fun r => if (!r) = true then q false ([] : L6) else grd (decide (0 <= rd b (Int.toNat a)) && decide (rd b (Int.toNat a) < (c.length : Int))) (grd (decide (0 <= rd b (Int.toNat a)) && decide (rd b (Int.toNat a) < (d.length : Int))) (let s := List.set d (Int.toNat (rd b (Int.toNat a))) true; grd (decide (0 <= a) && decide (a < e.length)) (let t := List.set e (Int.toNat a) (rd c (Int.toNat (rd b (Int.toNat a)))); o (IntKind.wrap .i64 (a + 1)) s t)))) else p g h f i j k c d e m
def Z20.l13 : Nat -> L1 -> Int -> Int -> qA -> Int -> Int -> L6 -> Int -> L6 -> L5 -> Int -> List Bool -> L6 -> (L1 -> Int -> Int -> qA -> Int -> Int -> L6 -> List Bool -> L6 -> L5 -> Prop) -> L24 -> Prop
 | 0, _, _, _, _, _, _, _, _, _, _, _, _, _, _, _ => False
 | n + 1, a, b, c, d, e, f, g, h, i, j, m, o, p, k, l => Z20.l13.b n a b c d e f g h i j (fun q r s => Z20.l13 n a b c d e f g h i j q r s k l) m o p k l
def Z20.l6.b (n : Nat) (q : L1 -> Int -> Int -> qA -> Int -> Int -> L6 -> Int -> L6 -> L5 -> Int -> List Bool -> L6 -> (L1 -> Int -> Int -> qA -> Int -> Int -> L6 -> List Bool -> L6 -> L5 -> Prop) -> L24 -> Prop) (r : L1 -> Int -> Int -> Int -> L6 -> List Bool -> L5 -> Prop) (s : L1) (h i a : Int) (j : L6) (k : List Bool) (c : L5) (t : L26) (l : L24) : Prop :=
 let f := l false ([] : L6); if decide (a < i) then grd (decide (0 <= a) && decide (a < c.length)) (let u : L6 := ((((((rd c (Int.toNat a)).2).2).2).2).2).2; if decide ((u.length : Int) > 4096) then f else (let d : L6 := ((((((rd c (Int.toNat a)).2).2).2).2).2).2; grd ((decide (0 <= (d.length : Int)) && decide ((d.length : Int) <= 7818749353073)) && decide ((d.length : Int) = (d.length : Int))) (let v := List.replicate (Int.toNat (d.length : Int)) 0; let m : L6 := ((((((rd c (Int.toNat a)).2).2).2).2).2).2; q s h a (rd c (Int.toNat a)) i a m (m.length : Int) j c 0 k v (fun o w b p x y e z A B => Z7.c n p o A fun g => grd (decide (0 <= b) && decide (b < e.length)) (Z6.c n p fun D => if (!D) = false then grd (decide (0 <= b) && decide (b < (List.set e (Int.toNat b) g).length)) (let E : Int := rd (List.set e (Int.toNat b) g) (Int.toNat b); Z15.c n E 1 4096 fun F => if (!F) = true then f else r o w x (IntKind.wrap .i64 (y + 1)) (List.set e (Int.toNat b) g) z B) else f)) l))) else t h j k
def Z20.l6 : Nat -> L1 -> Int -> Int -> Int -> L6 -> List Bool -> L5 -> L26 -> L24 -> Prop
 | 0, _, _, _, _, _, _, _, _, _ => False
 | n + 1, c, d, e, f, g, h, i, a, b => Z20.l6.b n (Z20.l13 n) (fun j k l m o p q => Z20.l6 n j k l m o p q a b) c d e f g h i a b
def Z20.j0 (K : L6 -> Bool -> Prop) (d : L1) (b : L5) (e : L1 -> Int -> Int -> Int -> L6 -> List Bool -> L5 -> L26 -> L24 -> Prop) (n : Nat) (f : L6) (g : List Bool) : Prop :=
 e d (b.length : Int) (b.length : Int) 0 f g b (fun a h c => grd ((decide (0 <= IntKind.wrap .i64 (a - 1)) && decide (IntKind.wrap .i64 (a - 1) <= (c.length : Int))) && decide (0 <= IntKind.wrap .i64 (a - 1))) (Z31.c n (List.drop 0 (List.take (Int.toNat (IntKind.wrap .i64 (a - 1))) c)) false fun i => K h (!i))) fun j k => K k j
def Z20.j1 (K : L6 -> Bool -> Prop) (b : L1) (a : L5) (c : L1 -> Int -> Int -> Int -> L6 -> List Bool -> L5 -> L26 -> L24 -> Prop) (n : Nat) : Prop :=
 grd ((decide (0 <= (a.length : Int)) && decide ((a.length : Int) <= 7818749353073)) && decide ((a.length : Int) = (a.length : Int))) (let d := List.replicate (Int.toNat (a.length : Int)) 0; grd ((decide (0 <= (a.length : Int)) && decide ((a.length : Int) <= 35184372088832)) && decide ((a.length : Int) = (a.length : Int))) (let e := List.replicate (Int.toNat (a.length : Int)) false; Z20.j0 K b a c n d e)) /\ grd ((decide (0 <= (a.length : Int)) && decide ((a.length : Int) <= 35184372088832)) && decide ((a.length : Int) = (a.length : Int))) (let f := List.replicate (Int.toNat (a.length : Int)) false; grd ((decide (0 <= (a.length : Int)) && decide ((a.length : Int) <= 7818749353073)) && decide ((a.length : Int) = (a.length : Int))) (let g := List.replicate (Int.toNat (a.length : Int)) 0; Z20.j0 K b a c n g f))
def Z20.w (n : Nat) (c : L1 -> Int -> Int -> Int -> L6 -> List Bool -> L5 -> L26 -> L24 -> Prop) (d : L1) (a : L5) (K : L6 -> Bool -> Prop) : Prop :=
 let b := K ([] : L6) false; if (decide ((a.length : Int) < 1)) = false then (if decide ((a.length : Int) > 400) then b else Z20.j1 K d a c n) else b
def Z20.c : Nat -> L1 -> L5 -> (L6 -> Bool -> Prop) -> Prop
 | 0, _, _, _ => False
 | n + 1, a, b, K => Z20.w n (Z20.l6 n) a b K
def Z19.w (n : Nat) (b : L1) (c : L5) (K : L11) : Prop :=
 Z20.c n b c fun a d => if (!d) = true then K (- 1) else grd (decide (0 <= IntKind.wrap .i64 ((a.length : Int) - 1)) && decide (IntKind.wrap .i64 ((a.length : Int) - 1) < (a.length : Int))) (let e := Int.toNat (IntKind.wrap .i64 ((a.length : Int) - 1)); K (rd a e))
def Z19.c : Nat -> L1 -> L5 -> L11 -> Prop
 | 0, _, _, _ => False
 | n + 1, a, b, K => Z19.w n a b K
def Z16.l5.b (n : Nat) (d : L1) (b : L2) (f : Int) (g : L21) (h a : Int) (i : Prop) (c : L9) : Prop :=
 if decide (a < f) then grd (decide (0 <= a) && decide (a < b.length)) (Z19.c n d ((((rd b (Int.toNat a)).2).2).1) fun e => Z15.c n ((rd b (Int.toNat a)).1) (IntKind.wrap .i64 (h + 1)) 1000000 fun j => if (!j) = false then (if (decide (e < 0)) = false then (Z19.c n d ((((rd b (Int.toNat a)).2).2).2) fun k => if (!(decide (e = k))) = true then c false else g ((rd b (Int.toNat a)).1) (IntKind.wrap .i64 (a + 1))) else c false) else c false) else i
def Z16.l5 : Nat -> L1 -> L2 -> Int -> Int -> Int -> Prop -> L9 -> Prop
 | 0, _, _, _, _, _, _, _ => False
 | n + 1, a, b, c, f, g, d, e => Z16.l5.b n a b c (fun h i => Z16.l5 n a b c h i d e) f g d e
def Z16.w (n : Nat) (b : L1 -> L2 -> Int -> Int -> Int -> Prop -> L9 -> Prop) (c : L1) (a : L2) (K : L9) : Prop :=
 if decide ((a.length : Int) > 60) then K false else b c a (a.length : Int) 0 0 (K true) K
def Z16.c : Nat -> L1 -> L2 -> L9 -> Prop
 | 0, _, _, _ => False
 | n + 1, a, b, K => Z16.w n (Z16.l5 n) a b K
def Z4.l3.b (n : Nat) (b : L4) (d : Int) (e : Int -> L2 -> Prop) (a : Int) (c : L2) (f : L22) : Prop :=
 if decide (a < d) then grd (decide (0 <= a) && decide (a < b.length)) (grd (decide (c.length + ((rd b (Int.toNat a)).2).length <= 1082596064271)) (e (IntKind.wrap .i64 (a + 1)) (c ++ ((rd b (Int.toNat a)).2)))) else f c
def Z4.l3 : Nat -> L4 -> Int -> Int -> L2 -> L22 -> Prop
 | 0, _, _, _, _, _ => False
 | n + 1, a, b, d, e, c => Z4.l3.b n a b (fun f g => Z4.l3 n a b f g c) d e c
def Z4.w (n : Nat) (b : L4 -> Int -> Int -> L2 -> L22 -> Prop) (a : qAM) (K : L22) : Prop :=
 let c := ([] : List qE); b a.2.1 (a.2.1.length : Int) 0 c K
def Z4.c : Nat -> qAM -> L22 -> Prop
 | 0, _, _ => False
 | n + 1, a, K => Z4.w n (Z4.l3 n) a K
def Z3.l5.b (n : Nat) (b : L4) (f : Int) (c : L1) (g : L4) (h : Int) (i : L21) (j a : Int) (k : L13) (d : L9) : Prop :=
 let e := Z15.c n ((rd b (Int.toNat a)).1) j (c.length : Int) fun l => if (!l) = true then d false else i ((rd b (Int.toNat a)).1) (IntKind.wrap .i64 (a + 1)); if decide (a < f) then grd (decide (0 <= a) && decide (a < b.length)) (if decide (a = 0) then (if (!(decide ((rd b (Int.toNat a)).1 = 0))) = false then e else d false) else e) else k c g h
def Z3.l5 : Nat -> L4 -> Int -> L1 -> L4 -> Int -> Int -> Int -> L13 -> L9 -> Prop
 | 0, _, _, _, _, _, _, _, _, _ => False
 | n + 1, a, b, c, d, e, h, i, f, g => Z3.l5.b n a b c d e (fun j k => Z3.l5 n a b c d e j k f g) h i f g
def Z3.l12.b (n : Nat) (e : L4) (h : Int) (c : L1) (f : L4) (g : Int) (i : L11) (a : Int) (j : L13) (k : L9) : Prop :=
 let b := Z5.c n (c, f, g) a fun d => grd ((decide (0 <= d) && decide (d <= c.length)) && decide (0 <= d)) (let l := List.drop 0 (List.take (Int.toNat d) c); Z16.c n l ((rd e (Int.toNat a)).2) fun m => if (!m) = true then k false else i (IntKind.wrap .i64 (a + 1))); if decide (a < h) then grd (decide (0 <= a) && decide (a < e.length)) ((b /\ b) /\ b /\ b /\ b) else j c f g
def Z3.l12 : Nat -> L4 -> Int -> L1 -> L4 -> Int -> Int -> L13 -> L9 -> Prop
 | 0, _, _, _, _, _, _, _, _ => False
 | n + 1, a, b, c, d, e, h, f, g => Z3.l12.b n a b c d e (fun i => Z3.l12 n a b c d e i f g) h f g
def Z3.l21.b (n : Nat) (e : Int) (b : L2) (j : L1) (k : L4) (f : Int) (g : L11) (a : Int) (h : Prop) (c : L9) : Prop :=
 let d := g (IntKind.wrap .i64 (a + 1)); if decide (a < e) then grd (decide (0 <= a) && decide (a < b.length)) (if (decide ((rd b (Int.toNat a)).1 >= f)) = false then (if decide (a > 0) then grd (decide (0 <= IntKind.wrap .i64 (a - 1)) && decide (IntKind.wrap .i64 (a - 1) < (b.length : Int))) (let i : Int := (rd b (Int.toNat (IntKind.wrap .i64 (a - 1)))).1; if decide (i >= (rd b (Int.toNat a)).1) then c false else d) else d) else c false) else h
def Z3.l21 : Nat -> Int -> L2 -> L1 -> L4 -> Int -> Int -> Prop -> L9 -> Prop
 | 0, _, _, _, _, _, _, _, _ => False
 | n + 1, a, b, c, d, e, h, f, g => Z3.l21.b n a b c d e (fun i => Z3.l21 n a b c d e i f g) h f g
def Z3.j0 (K : L9) (g : L1) (a : L4) (h : Int) (i : L4 -> Int -> L1 -> L4 -> Int -> Int -> Int -> L13 -> L9 -> Prop) (j : L4 -> Int -> L1 -> L4 -> Int -> Int -> L13 -> L9 -> Prop) (k : Int -> L2 -> L1 -> L4 -> Int -> Int -> Prop -> L9 -> Prop) (n : Nat) : Prop :=
 i a (a.length : Int) g a h 0 0 (fun l b m => j b (b.length : Int) l b m 0 (fun d e f => Z4.c n (d, e, f) fun c => if decide ((c.length : Int) > 60) then K false else k (c.length : Int) c d e f 0 (K true) K) K) K
def Z3.w (n : Nat) (d : L4 -> Int -> L1 -> L4 -> Int -> Int -> Int -> L13 -> L9 -> Prop) (e : L4 -> Int -> L1 -> L4 -> Int -> Int -> L13 -> L9 -> Prop) (f : Int -> L2 -> L1 -> L4 -> Int -> Int -> Prop -> L9 -> Prop) (b : L1) (a : L4) (c : Int) (K : L9) : Prop :=
 Z2.c n b fun g => if (!g) = false then (if (decide ((a.length : Int) < 1)) = false then (if (decide ((a.length : Int) > 20)) = false then (Z15.c n c 1 1000000 fun h => if (!h) = true then K false else Z3.j0 K b a c d e f n) else K false) else K false) else K false
def Z3.c : Nat -> L1 -> L4 -> Int -> L9 -> Prop
 | 0, _, _, _, _ => False
 | n + 1, a, b, c, K => Z3.w n (Z3.l5 n) (Z3.l12 n) (Z3.l21 n) a b c K
def Z28.j0 (K : L1 -> Prop) (a : L1) (b : Bool) : Prop :=
 if b = true then K ([] : List qB) else grd (decide (([] : List qB).length + a.length <= 2814749767106)) (K (([] : List qB) ++ a))
def Z28.w (n : Nat) (a : L1) (K : L1 -> Prop) : Prop :=
 (a.length = 0 -> (Z28.j0 K a true)) /\ Z28.j0 K a false
def Z28.c : Nat -> L1 -> (L1 -> Prop) -> Prop
 | 0, _, _ => False
 | n + 1, a, K => Z28.w n a K
def Z30.w (n : Nat) (a : L6) (K : L15) : Prop :=
 (a.length = 0 -> (K ([] : L6))) /\ grd (decide (([] : L6).length + a.length <= 7818749353073)) (K (([] : L6) ++ a))
def Z30.c : Nat -> L6 -> L15 -> Prop
 | 0, _, _ => False
 | n + 1, a, K => Z30.w n a K
def Z8.w (n : Nat) (b : Int) (c : L6) (K : Int -> L6 -> Prop) : Prop :=
 let a := Z30.c n c (K b); a /\ a
def Z8.c : Nat -> Int -> L6 -> (Int -> L6 -> Prop) -> Prop
 | 0, _, _, _ => False
 | n + 1, a, b, K => Z8.w n a b K
def Z29.w (n : Nat) (a : L6) (K : L15) : Prop :=
 (a.length = 0 -> (K ([] : L6))) /\ grd (decide (([] : L6).length + a.length <= 7818749353073)) (K (([] : L6) ++ a))
def Z29.c : Nat -> L6 -> L15 -> Prop
 | 0, _, _ => False
 | n + 1, a, K => Z29.w n a K
def Z10.w (n : Nat) (a b c d e : Int) (f g : L6) (K : Int -> Int -> Int -> Int -> Int -> L6 -> L6 -> Prop) : Prop :=
 Z8.c n e f fun h i => Z29.c n g (K a b c d h i)
def Z10.c : Nat -> Int -> Int -> Int -> Int -> Int -> L6 -> L6 -> (Int -> Int -> Int -> Int -> Int -> L6 -> L6 -> Prop) -> Prop
 | 0, _, _, _, _, _, _, _, _ => False
 | n + 1, a, b, c, d, e, f, g, K => Z10.w n a b c d e f g K
def Z12.l3.b (n : Nat) (b : L5) (e : Int) (f : L5) (g : Int -> L5 -> Prop) (a : Int) (c : L5) (h : L5 -> L5 -> Prop) : Prop :=
 if decide (a < e) then grd (decide (0 <= a) && decide (a < b.length)) (let i : L6 := ((((((rd b (Int.toNat a)).2).2).2).2).2).1; let j : L6 := ((((((rd b (Int.toNat a)).2).2).2).2).2).2; let d := Z10.c n ((rd b (Int.toNat a)).1) (((rd b (Int.toNat a)).2).1) ((((rd b (Int.toNat a)).2).2).1) (((((rd b (Int.toNat a)).2).2).2).1) ((((((rd b (Int.toNat a)).2).2).2).2).1) i j fun k l m o p q r => grd (decide (0 <= a) && decide (a < c.length)) (let s := List.set c (Int.toNat a) (k, l, m, o, p, q, r); g (IntKind.wrap .i64 (a + 1)) s); d /\ d) else h c f
def Z12.l3 : Nat -> L5 -> Int -> L5 -> Int -> L5 -> (L5 -> L5 -> Prop) -> Prop
 | 0, _, _, _, _, _, _ => False
 | n + 1, a, b, c, e, f, d => Z12.l3.b n a b c (fun g h => Z12.l3 n a b c g h d) e f d
def Z12.w (n : Nat) (b : L5 -> Int -> L5 -> Int -> L5 -> (L5 -> L5 -> Prop) -> Prop) (a : L5) (K : L5 -> Prop) : Prop :=
 let c := ([] : List qA); grd ((decide (0 <= (a.length : Int)) && decide ((a.length : Int) <= 790660046940)) && decide ((a.length : Int) = (a.length : Int))) (let d := List.replicate (Int.toNat (a.length : Int)) (0, 0, 0, 0, 0, ([] : L6), ([] : L6)); b a (a.length : Int) c 0 d fun e f => K e)
def Z12.c : Nat -> L5 -> (L5 -> Prop) -> Prop
 | 0, _, _ => False
 | n + 1, a, K => Z12.w n (Z12.l3 n) a K
def Z9.j3 (d : Int -> L2 -> Prop) (b : L2) (a : Int) (c : L2) (e f : L5) : Prop :=
 grd (decide (0 <= a) && decide (a < c.length)) (let g := List.set c (Int.toNat a) ((rd b (Int.toNat a)).1, ((rd b (Int.toNat a)).2).1, e, f); d (IntKind.wrap .i64 (a + 1)) g)
def Z9.l3.b (n : Nat) (b : L2) (e : Int) (f : Int -> L2 -> Prop) (a : Int) (c : L2) (g : L22) : Prop :=
 let d := Z12.c n ((((rd b (Int.toNat a)).2).2).1) fun h => Z12.c n ((((rd b (Int.toNat a)).2).2).2) fun i => Z9.j3 f b a c h i; if decide (a < e) then grd (decide (0 <= a) && decide (a < b.length)) (d /\ d) else g c
def Z9.l3 : Nat -> L2 -> Int -> Int -> L2 -> L22 -> Prop
 | 0, _, _, _, _, _ => False
 | n + 1, a, b, d, e, c => Z9.l3.b n a b (fun f g => Z9.l3 n a b f g c) d e c
def Z9.w (n : Nat) (b : L2 -> Int -> Int -> L2 -> L22 -> Prop) (a : L2) (K : L22) : Prop :=
 grd ((decide (0 <= (a.length : Int)) && decide ((a.length : Int) <= 1082596064271)) && decide ((a.length : Int) = (a.length : Int))) (let c := List.replicate (Int.toNat (a.length : Int)) (0, false, ([] : List qA), ([] : List qA)); b a (a.length : Int) 0 c K)
def Z9.c : Nat -> L2 -> L22 -> Prop
 | 0, _, _ => False
 | n + 1, a, K => Z9.w n (Z9.l3 n) a K
def Z11.l3.b (n : Nat) (c : L4) (e : Int) (f g : L1) (h : L4) (i j : Int) (k : Int -> L4 -> Prop) (a : Int) (d : L4) (l : L1 -> L4 -> L1 -> L4 -> Int -> Int -> Prop) : Prop :=
 let b := Z9.c n ((rd c (Int.toNat a)).2) fun m => grd (decide (0 <= a) && decide (a < d.length)) (let o := List.set d (Int.toNat a) ((rd c (Int.toNat a)).1, m); k (IntKind.wrap .i64 (a + 1)) o); if decide (a < e) then grd (decide (0 <= a) && decide (a < c.length)) ((b /\ b) /\ (b /\ b) /\ b) else l f d g h i j
def Z11.l3 : Nat -> L4 -> Int -> L1 -> L1 -> L4 -> Int -> Int -> Int -> L4 -> (L1 -> L4 -> L1 -> L4 -> Int -> Int -> Prop) -> Prop
 | 0, _, _, _, _, _, _, _, _, _, _ => False
 | n + 1, a, b, c, d, e, f, g, i, j, h => Z11.l3.b n a b c d e f g (fun k l => Z11.l3 n a b c d e f g k l h) i j h
def Z11.q2.b (n : Nat) (b : L4 -> Int -> L1 -> L1 -> L4 -> Int -> Int -> Int -> L4 -> (L1 -> L4 -> L1 -> L4 -> Int -> Int -> Prop) -> Prop) (c : L1) (d : L4) (e : L1) (f : L4) (l : L1) (a : L4) (m g h : Int) (i : L13) : Prop :=
 b a (a.length : Int) c e f g h 0 d fun j k o p q => i j k
def Z11.q2 : Nat -> L1 -> L4 -> L1 -> L4 -> L1 -> L4 -> Int -> Int -> Int -> L13 -> Prop
 | 0, _, _, _, _, _, _, _, _, _, _ => False
 | n + 1, a, b, c, d, e, f, g, h, i, j => Z11.q2.b n (Z11.l3 n) a b c d e f g h i j
def Z11.w (n : Nat) (d : L1 -> L4 -> L1 -> L4 -> L1 -> L4 -> Int -> Int -> Int -> L13 -> Prop) (b : L1) (a : L4) (c : Int) (K : L13) : Prop :=
 let e := ([] : List qF); let o := grd ((decide (0 <= (a.length : Int)) && decide ((a.length : Int) <= 2132386187201)) && decide ((a.length : Int) = (a.length : Int))) (let w := List.replicate (Int.toNat (a.length : Int)) (0, ([] : List qE)); let p := Z28.c n b fun x => d x w ([] : List qB) e b a c 0 c K; p /\ p); let q := (Z28.c n b fun y => let r := grd ((decide (0 <= (a.length : Int)) && decide ((a.length : Int) <= 2132386187201)) && decide ((a.length : Int) = (a.length : Int))) (let z := List.replicate (Int.toNat (a.length : Int)) (0, ([] : List qE)); d y z ([] : List qB) e b a c 0 c K); r /\ r); let j := grd ((decide (0 <= (a.length : Int)) && decide ((a.length : Int) <= 2132386187201)) && decide ((a.length : Int) = (a.length : Int))) (let A := List.replicate (Int.toNat (a.length : Int)) (0, ([] : List qE)); Z28.c n b fun B => d B A ([] : List qB) e b a c 0 c K); let k := Z28.c n b fun D => grd ((decide (0 <= (a.length : Int)) && decide ((a.length : Int) <= 2132386187201)) && decide ((a.length : Int) = (a.length : Int))) (let E := List.replicate (Int.toNat (a.length : Int)) (0, ([] : List qE)); d D E ([] : List qB) e b a c 0 c K); let s := grd ((decide (0 <= (a.length : Int)) && decide ((a.length : Int) <= 2132386187201)) && decide ((a.length : Int) = (a.length : Int))) (let F := List.replicate (Int.toNat (a.length : Int)) (0, ([] : List qE)); let f := Z28.c n b fun G => d G F ([] : List qB) e b a c 0 c K; f /\ (f /\ f) /\ f /\ f); let t := (Z28.c n b fun H => let g := grd ((decide (0 <= (a.length : Int)) && decide ((a.length : Int) <= 2132386187201)) && decide ((a.length : Int) = (a.length : Int))) (let I := List.replicate (Int.toNat (a.length : Int)) (0, ([] : List qE)); d H I ([] : List qB) e b a c 0 c K); g /\ (g /\ g) /\ g /\ g); let h := k /\ j; let i := q /\ o /\ h; let u := t /\ s /\ i /\ i; let l := i /\ o /\ h /\ j; let m := q /\ i /\ k /\ h; let v := m /\ l /\ (k /\ h) /\ h /\ j; (t /\ u /\ m /\ m) /\ (u /\ s /\ l /\ l) /\ v /\ v
def Z11.c : Nat -> L1 -> L4 -> Int -> L13 -> Prop
 | 0, _, _, _, _ => False
 | n + 1, a, b, c, K => Z11.w n (Z11.q2 n) a b c K
end Go.Vsi
end

section
namespace Go.Vsi
def Z18.l3.b (n : Nat) (b : L1) (d : Int) (e : L21) (c a : Int) (f : L11) : Prop :=
 if decide (a < d) then grd (decide (0 <= a) && decide (a < b.length)) (let g := IntKind.wrap .i64 (c + ((rd b (Int.toNat a)).2)); e g (IntKind.wrap .i64 (a + 1))) else f c
def Z18.l3 : Nat -> L1 -> Int -> Int -> Int -> L11 -> Prop
 | 0, _, _, _, _, _ => False
 | n + 1, a, b, d, e, c => Z18.l3.b n a b (fun f g => Z18.l3 n a b f g c) d e c
def Z18.w (n : Nat) (b : L1 -> Int -> Int -> Int -> L11 -> Prop) (a : L1) (K : L11) : Prop :=
 b a (a.length : Int) 0 0 K
def Z18.c : Nat -> L1 -> L11 -> Prop
 | 0, _, _ => False
 | n + 1, a, K => Z18.w n (Z18.l3 n) a K
def Z1.j0 (K : L25) (a : L7) (b : Int) (c : L1) (d : L4) (e : Int) : Prop :=
 grd (decide (c.length + ([(a, b)] : List qB).length <= 2814749767106)) (let f : List qB := c ++ ([(a, b)] : List qB); K f d e 0)
def Z1.w (n : Nat) (a : L1) (g : L4) (h : Int) (e : L7) (f : Int) (K : L25) : Prop :=
 Z3.c n a g h fun j => if (!j) = true then (let k := ([] : List qF); K ([] : List qB) k 0 1) else (Z11.c n a g h fun b c d => let i := K b c d 5; Z17.c n e fun l => if (!l) = true then K b c d 2 else (Z13.c n a e fun m => if decide (m >= 0) then K b c d 3 else (Z15.c n f 1 4096 fun o => if (!o) = true then K b c d 4 else (if (decide ((a.length : Int) = 60)) = false then (Z18.c n a fun p => let q := decide (IntKind.wrap .i64 (p + f) > 20000); if q = true then i else Z1.j0 K e f b c d) else i))))
def Z1.c : Nat -> L1 -> L4 -> Int -> L7 -> Int -> L25 -> Prop
 | 0, _, _, _, _, _, _ => False
 | n + 1, a, b, c, d, e, K => Z1.w n a b c d e K
def Z23.l4.b (n : Nat) (h : Int) (b : L6) (i : Int) (c : L6) (d : L11) (a : Int) (e : Prop) (f : L9) : Prop :=
 if decide (a < b.length) then grd (decide (0 <= a) && decide (a < b.length)) (grd (decide (0 <= a) && decide (a < c.length)) (let g := !(decide (rd b (Int.toNat a) = rd c (Int.toNat a))); if g = true then f false else d (IntKind.wrap .i64 (a + 1)))) else e
def Z23.l4 : Nat -> Int -> L6 -> Int -> L6 -> Int -> Prop -> L9 -> Prop
 | 0, _, _, _, _, _, _, _ => False
 | n + 1, a, b, c, d, g, e, f => Z23.l4.b n a b c d (fun h => Z23.l4 n a b c d h e f) g e f
def Z23.w (n : Nat) (e : Int -> L6 -> Int -> L6 -> Int -> Prop -> L9 -> Prop) (a : Int) (b : L6) (c : Int) (d : L6) (K : L9) : Prop :=
 if (!(decide (a = c))) = false then (let f := !(decide ((b.length : Int) = (d.length : Int))); if f = true then K false else e a b c d 0 (K true) K) else K false
def Z23.c : Nat -> Int -> L6 -> Int -> L6 -> L9 -> Prop
 | 0, _, _, _, _, _ => False
 | n + 1, a, b, c, d, K => Z23.w n (Z23.l4 n) a b c d K
def Z24.l4.b (n : Nat) (b c : L6) (d : L11) (a : Int) (e : Prop) (f : L9) : Prop :=
 if decide (a < b.length) then grd (decide (0 <= a) && decide (a < b.length)) (grd (decide (0 <= a) && decide (a < c.length)) (let g := !(decide (rd b (Int.toNat a) = rd c (Int.toNat a))); if g = true then f false else d (IntKind.wrap .i64 (a + 1)))) else e
def Z24.l4 : Nat -> L6 -> L6 -> Int -> Prop -> L9 -> Prop
 | 0, _, _, _, _, _ => False
 | n + 1, a, b, e, c, d => Z24.l4.b n a b (fun f => Z24.l4 n a b f c d) e c d
def Z24.w (n : Nat) (c : L6 -> L6 -> Int -> Prop -> L9 -> Prop) (a b : L6) (K : L9) : Prop :=
 let d := !(decide ((a.length : Int) = (b.length : Int))); if d = true then K false else c a b 0 (K true) K
def Z24.c : Nat -> L6 -> L6 -> L9 -> Prop
 | 0, _, _, _ => False
 | n + 1, a, b, K => Z24.w n (Z24.l4 n) a b K
def Z26.l4.b (n : Nat) (b c : L5) (e : L11) (a : Int) (f : Prop) (g : L9) : Prop :=
 let d := g false; if decide (a < b.length) then grd (decide (0 <= a) && decide (a < b.length)) (let h : L6 := ((((((rd b (Int.toNat a)).2).2).2).2).2).1; let i : L6 := ((((((rd b (Int.toNat a)).2).2).2).2).2).2; grd (decide (0 <= a) && decide (a < c.length)) (let j : L6 := ((((((rd c (Int.toNat a)).2).2).2).2).2).1; let k : L6 := ((((((rd c (Int.toNat a)).2).2).2).2).2).2; let l := !(decide ((rd b (Int.toNat a)).1 = (rd c (Int.toNat a)).1)); if l = false then (let m := !(decide (((rd b (Int.toNat a)).2).1 = ((rd c (Int.toNat a)).2).1)); if m = false then (let o := !(decide ((((rd b (Int.toNat a)).2).2).1 = (((rd c (Int.toNat a)).2).2).1)); if o = false then (let p := !(decide (((((rd b (Int.toNat a)).2).2).2).1 = ((((rd c (Int.toNat a)).2).2).2).1)); if p = false then (Z23.c n ((((((rd b (Int.toNat a)).2).2).2).2).1) h ((((((rd c (Int.toNat a)).2).2).2).2).1) j fun q => if (!q) = false then (Z24.c n i k fun r => if (!r) = true then d else e (IntKind.wrap .i64 (a + 1))) else d) else d) else d) else d) else d)) else f
def Z26.l4 : Nat -> L5 -> L5 -> Int -> Prop -> L9 -> Prop
 | 0, _, _, _, _, _ => False
 | n + 1, a, b, e, c, d => Z26.l4.b n a b (fun f => Z26.l4 n a b f c d) e c d
def Z26.w (n : Nat) (c : L5 -> L5 -> Int -> Prop -> L9 -> Prop) (a b : L5) (K : L9) : Prop :=
 let d := !(decide ((a.length : Int) = (b.length : Int))); if d = true then K false else c a b 0 (K true) K
def Z26.c : Nat -> L5 -> L5 -> L9 -> Prop
 | 0, _, _, _ => False
 | n + 1, a, b, K => Z26.w n (Z26.l4 n) a b K
def Z25.l4.b (n : Nat) (b c : L2) (e : L11) (a : Int) (f : Prop) (g : L9) : Prop :=
 let d := g false; if decide (a < b.length) then grd (decide (0 <= a) && decide (a < b.length)) (grd (decide (0 <= a) && decide (a < c.length)) (let h := !(decide ((rd b (Int.toNat a)).1 = (rd c (Int.toNat a)).1)); if h = false then grd (decide (0 <= a) && decide (a < b.length)) (grd (decide (0 <= a) && decide (a < c.length)) (let i := !((((rd b (Int.toNat a)).2).1) == (((rd c (Int.toNat a)).2).1)); if i = false then grd (decide (0 <= a) && decide (a < b.length)) (grd (decide (0 <= a) && decide (a < c.length)) (Z26.c n ((((rd b (Int.toNat a)).2).2).1) ((((rd c (Int.toNat a)).2).2).1) fun j => if (!j) = false then grd (decide (0 <= a) && decide (a < b.length)) (grd (decide (0 <= a) && decide (a < c.length)) (Z26.c n ((((rd b (Int.toNat a)).2).2).2) ((((rd c (Int.toNat a)).2).2).2) fun k => if (!k) = true then d else e (IntKind.wrap .i64 (a + 1)))) else d)) else d)) else d)) else f
def Z25.l4 : Nat -> L2 -> L2 -> Int -> Prop -> L9 -> Prop
 | 0, _, _, _, _, _ => False
 | n + 1, a, b, e, c, d => Z25.l4.b n a b (fun f => Z25.l4 n a b f c d) e c d
def Z25.w (n : Nat) (c : L2 -> L2 -> Int -> Prop -> L9 -> Prop) (a b : L2) (K : L9) : Prop :=
 let d := !(decide ((a.length : Int) = (b.length : Int))); if d = true then K false else c a b 0 (K true) K
def Z25.c : Nat -> L2 -> L2 -> L9 -> Prop
 | 0, _, _, _ => False
 | n + 1, a, b, K => Z25.w n (Z25.l4 n) a b K
def Z27.l4.b (n : Nat) (b : L1) (d : L4) (e : Int) (c : L1) (f : L4) (g : Int) (h : L11) (a : Int) (i : L29) (j : L9) : Prop :=
 if decide (a < b.length) then grd (decide (0 <= a) && decide (a < b.length)) (grd (decide (0 <= a) && decide (a < c.length)) (let k := !((((rd b (Int.toNat a)).1) == ((rd c (Int.toNat a)).1)) && (decide ((rd b (Int.toNat a)).2 = (rd c (Int.toNat a)).2))); if k = true then j false else h (IntKind.wrap .i64 (a + 1)))) else i b d e c f g
def Z27.l4 : Nat -> L1 -> L4 -> Int -> L1 -> L4 -> Int -> Int -> L29 -> L9 -> Prop
 | 0, _, _, _, _, _, _, _, _, _ => False
 | n + 1, a, b, c, d, e, f, i, g, h => Z27.l4.b n a b c d e f (fun j => Z27.l4 n a b c d e f j g h) i g h
def Z27.l9.b (n : Nat) (i : L1) (b : L4) (j : Int) (k : L1) (c : L4) (l : Int) (e : L11) (a : Int) (f : Prop) (d : L9) : Prop :=
 if decide (a < b.length) then grd (decide (0 <= a) && decide (a < b.length)) (grd (decide (0 <= a) && decide (a < c.length)) (let g := !(decide ((rd b (Int.toNat a)).1 = (rd c (Int.toNat a)).1)); if g = false then grd (decide (0 <= a) && decide (a < b.length)) (grd (decide (0 <= a) && decide (a < c.length)) (Z25.c n ((rd b (Int.toNat a)).2) ((rd c (Int.toNat a)).2) fun h => if (!h) = true then d false else e (IntKind.wrap .i64 (a + 1)))) else d false)) else f
def Z27.l9 : Nat -> L1 -> L4 -> Int -> L1 -> L4 -> Int -> Int -> Prop -> L9 -> Prop
 | 0, _, _, _, _, _, _, _, _, _ => False
 | n + 1, a, b, c, d, e, f, i, g, h => Z27.l9.b n a b c d e f (fun j => Z27.l9 n a b c d e f j g h) i g h
def Z27.j0 (K : L9) (a : L1) (b : L4) (c : Int) (d : L1) (e : L4) (f : Int) (g : L1 -> L4 -> Int -> L1 -> L4 -> Int -> Int -> L29 -> L9 -> Prop) (h : L1 -> L4 -> Int -> L1 -> L4 -> Int -> Int -> Prop -> L9 -> Prop) (i : Bool) : Prop :=
 if i = true then K false else g a b c d e f 0 (fun j k l m o p => h j k l m o p 0 (K true) K) K
def Z27.w (n : Nat) (g : L1 -> L4 -> Int -> L1 -> L4 -> Int -> Int -> L29 -> L9 -> Prop) (h : L1 -> L4 -> Int -> L1 -> L4 -> Int -> Int -> Prop -> L9 -> Prop) (a : L1) (b : L4) (c : Int) (d : L1) (e : L4) (f : Int) (K : L9) : Prop :=
 let i := Z27.j0 K a b c d e f g h true; let j := !(decide ((a.length : Int) = (d.length : Int))); if j = false then (let k := !(decide ((b.length : Int) = (e.length : Int))); if k = false then Z27.j0 K a b c d e f g h (!(decide (c = f))) else i) else i
def Z27.c : Nat -> L1 -> L4 -> Int -> L1 -> L4 -> Int -> L9 -> Prop
 | 0, _, _, _, _, _, _, _ => False
 | n + 1, a, b, c, d, e, f, K => Z27.w n (Z27.l4 n) (Z27.l9 n) a b c d e f K
def laws_FnDeclared.w (n : Nat) (j : L6) (K : L9) : Prop :=
 Z22.c n j fun k => if k = true then K true else (Z39.c n j fun b e f c d => Z37.c n b e f c d fun r s t l => Z1.c n b e f c d fun a g h i => if (!(decide (i = l))) = true then K false else (if decide (i = 1) then K true else (if (!(decide (i = 0))) = true then Z27.c n a g h b e f K else (Z1.c n a g h c d fun u v w m => let o := decide ((a.length : Int) = IntKind.wrap .i64 ((b.length : Int) + 1)); if o = true then grd (decide (0 <= IntKind.wrap .i64 ((a.length : Int) - 1)) && decide (IntKind.wrap .i64 ((a.length : Int) - 1) < (a.length : Int))) (let p := Int.toNat (IntKind.wrap .i64 ((a.length : Int) - 1)); if (((rd a p).1) == c) = true then grd (decide (0 <= IntKind.wrap .i64 ((a.length : Int) - 1)) && decide (IntKind.wrap .i64 ((a.length : Int) - 1) < (a.length : Int))) (let q := Int.toNat (IntKind.wrap .i64 ((a.length : Int) - 1)); if decide ((rd a q).2 = d) then (if decide (m = 3) then Z3.c n a g h K else K false) else K false) else K false) else K false))))
def laws_FnDeclared.c : Nat -> L6 -> L9 -> Prop
 | 0, _, _ => False
 | n + 1, a, K => laws_FnDeclared.w n a K
end Go.Vsi
end
