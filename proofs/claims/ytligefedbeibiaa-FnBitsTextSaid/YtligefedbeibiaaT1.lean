/- Each told function is what the machine comes to. No statement is proved here. -/
import Derived.Test.YtligefedbeibiaaM4
import Derived.Test.YtligefedbeibiaaA1
import Derived.Shelf.Small.Strs
import Derived.Test.YtligefedbeibiaaProg
import Derived.KernelRfl

section
set_option linter.unusedVariables false
namespace Go.Vsi
abbrev Y3 : Ty := .prod (.sl 5 (.int .u8)) (.int .i64)
abbrev Y2 : Ty := .prod (.int .i64) (.sl 39 (.int .u64))
abbrev Y1 : Ty := .prod (.int .i64) (.prod (.int .i64) (.prod .bool (.int .u8)))
open Go.Proofs
def tis : List (Nat × TI) := [
(1, ⟨false, 1, 8, [.undef], none, none, []⟩),
(2, ⟨false, 1, 8, [.int .i64 0], some (.int .i64), none, []⟩),
(3, ⟨false, 1, 8, [.int .i64 0], some (.int .i64), none, []⟩),
(4, ⟨false, 1, 1, [.bool false], some (.bool), none, []⟩),
(5, ⟨false, 1, 1, [.int .u8 0], some (.int .u8), none, []⟩),
(6, ⟨false, 1, 1, [.int .u8 0], some (.int .u8), none, []⟩),
(7, ⟨true, 4, 24, [.int .i64 0, .int .i64 0, .bool false, .int .u8 0], some Y1, none, [(0, 2), (1, 3), (2, 4), (3, 6)]⟩),
(8, ⟨true, 4, 24, [.int .i64 0, .int .i64 0, .bool false, .int .u8 0], some Y1, none, [(0, 2), (1, 3), (2, 4), (3, 6)]⟩),
(9, ⟨false, 1, 16, [.str []], some (.str), none, []⟩),
(10, ⟨false, 1, 16, [.str []], some (.str), none, []⟩),
(11, ⟨false, 1, 16, [.str []], some (.str), none, []⟩),
(12, ⟨false, 1, 8, [.int .u64 0], some (.int .u64), none, []⟩),
(13, ⟨true, 2, 24, [.str [], .int .u64 0], some (.prod .str (.int .u64)), none, [(0, 9), (1, 12)]⟩),
(14, ⟨true, 2, 24, [.str [], .int .u64 0], some (.prod .str (.int .u64)), none, [(0, 9), (1, 12)]⟩),
(15, ⟨false, 1, 8, [.undef], none, none, []⟩),
(16, ⟨false, 1, 8, [.undef], none, none, []⟩),
(17, ⟨false, 1, 8, [.undef], none, none, []⟩),
(18, ⟨true, 1, 8, [.undef], none, none, [(0, 17)]⟩),
(19, ⟨true, 1, 8, [.undef], none, none, [(0, 17)]⟩),
(20, ⟨false, 1, 16, [.undef], none, none, []⟩),
(21, ⟨false, 1, 4, [.int .i32 0], some (.int .i32), none, []⟩),
(22, ⟨false, 1, 24, [.emp 5 (.int .u8)], some (.sl 5 (.int .u8)), some 5, []⟩),
(23, ⟨false, 1, 8, [.undef], none, none, []⟩),
(24, ⟨false, 1, 24, [.emp 39 (.int .u64)], some (.sl 39 (.int .u64)), some 39, []⟩),
(25, ⟨true, 2, 32, [.int .i64 0, .emp 39 (.int .u64)], some Y2, none, [(0, 2), (1, 24)]⟩),
(26, ⟨true, 2, 32, [.int .i64 0, .emp 39 (.int .u64)], some Y2, none, [(0, 2), (1, 24)]⟩),
(27, ⟨false, 1, 8, [.undef], none, none, []⟩),
(28, ⟨false, 1, 8, [.undef], none, none, []⟩),
(30, ⟨false, 1, 8, [.undef], none, none, []⟩),
(31, ⟨false, 1, 8, [.undef], none, none, []⟩),
(32, ⟨false, 1, 8, [.undef], none, none, []⟩),
(33, ⟨false, 1, 8, [.undef], none, none, []⟩),
(34, ⟨false, 1, 8, [.undef], none, none, []⟩),
(35, ⟨false, 1, 8, [.undef], none, none, []⟩),
(36, ⟨false, 1, 8, [.undef], none, none, []⟩),
(37, ⟨false, 1, 8, [.undef], none, none, []⟩),
(38, ⟨false, 1, 8, [.undef], none, none, []⟩),
(39, ⟨false, 1, 8, [.int .u64 0], some (.int .u64), none, []⟩),
(40, ⟨false, 1, 8, [.undef], none, none, []⟩),
(41, ⟨false, 1, 8, [.undef], none, none, []⟩),
(42, ⟨false, 1, 8, [.undef], none, none, []⟩),
(43, ⟨false, 1, 8, [.undef], none, none, []⟩),
(44, ⟨false, 1, 8, [.undef], none, none, []⟩),
(45, ⟨false, 1, 24, [.emp 9 .str], some (.sl 9 .str), some 9, []⟩),
(46, ⟨false, 1, 8, [.undef], none, none, []⟩),
(47, ⟨false, 1, 8, [.int .u64 0], some (.int .u64), none, []⟩),
(48, ⟨false, 1, 8, [.undef], none, none, []⟩),
(49, ⟨false, 1, 8, [.undef], none, none, []⟩),
(50, ⟨false, 1, 8, [.undef], none, none, []⟩),
(51, ⟨false, 1, 8, [.undef], none, none, []⟩),
(52, ⟨true, 2, 32, [.emp 5 (.int .u8), .int .i64 0], some Y3, none, [(0, 22), (1, 3)]⟩),
(53, ⟨true, 2, 32, [.emp 5 (.int .u8), .int .i64 0], some Y3, none, [(0, 22), (1, 3)]⟩),
(54, ⟨false, 1, 8, [.undef], none, none, []⟩),
(55, ⟨false, 1, 8, [.undef], none, none, []⟩),
(56, ⟨false, 1, 24, [.emp 2 (.int .i64)], some (.sl 2 (.int .i64)), some 2, []⟩),
(57, ⟨false, 1, 8, [.undef], none, none, []⟩),
(58, ⟨false, 1, 8, [.undef], none, none, []⟩),
(59, ⟨false, 1, 8, [.undef], none, none, []⟩),
(60, ⟨false, 1, 8, [.undef], none, none, []⟩),
(61, ⟨true, 4, 40, [.undef, .undef, .undef, .undef], none, none, [(0, 17), (1, 17), (2, 17), (3, 9)]⟩),
(62, ⟨true, 4, 40, [.undef, .undef, .undef, .undef], none, none, [(0, 17), (1, 17), (2, 17), (3, 9)]⟩),
(63, ⟨true, 0, 0, [], none, none, []⟩),
(64, ⟨true, 0, 0, [], none, none, [(0, 63)]⟩),
(65, ⟨true, 0, 0, [], none, none, [(0, 63)]⟩),
(66, ⟨false, 1, 4, [.int .u32 0], some (.int .u32), none, []⟩),
(67, ⟨false, 1, 1, [.int .u8 0], some (.int .u8), none, []⟩),
(68, ⟨false, 1, 1, [.int .u8 0], some (.int .u8), none, []⟩),
(69, ⟨false, 1, 8, [.undef], none, none, []⟩),
(70, ⟨false, 1, 8, [.undef], none, none, []⟩),
(71, ⟨false, 1, 4, [.int .i32 0], some (.int .i32), none, []⟩),
(72, ⟨false, 1, 4, [.int .i32 0], some (.int .i32), none, []⟩),
(73, ⟨true, 11, 48, [.undef, .undef, .undef, .undef, .undef, .undef, .undef, .undef, .undef, .undef, .undef], none, none, [(0, 12), (1, 12), (2, 66), (3, 67), (4, 5), (5, 5), (6, 68), (7, 69), (8, 70), (9, 71), (10, 72)]⟩),
(74, ⟨true, 11, 48, [.undef, .undef, .undef, .undef, .undef, .undef, .undef, .undef, .undef, .undef, .undef], none, none, [(0, 12), (1, 12), (2, 66), (3, 67), (4, 5), (5, 5), (6, 68), (7, 69), (8, 70), (9, 71), (10, 72)]⟩),
(75, ⟨false, 1, 8, [.undef], none, none, []⟩),
(76, ⟨false, 1, 8, [.undef], none, none, []⟩)]
noncomputable def fns : List (Nat × Func) := [(3, Try.f3), (4, Try.f4), (5, Try.f5), (6, Try.f6), (7, Try.f7), (8, Try.f8), (9, Try.f9), (10, Try.f10), (11, Try.f11), (12, Try.f12), (13, Try.f13), (14, Try.f14), (15, Try.f15), (17, Try.f17), (18, Try.f18), (19, Try.f19), (20, Try.f20), (21, Try.f21), (22, Try.f22), (23, Try.f23), (24, Try.f24), (25, Try.f25), (26, Try.f26), (27, Try.f27), (28, Try.f28), (30, Try.f30), (31, Try.f31), (32, Try.f32), (33, Try.f33), (34, Try.f34), (35, Try.f35), (37, Try.f37)]
def fis : List (Nat × Fi) := [
(3, ⟨[], [], []⟩),
(4, ⟨[], [], []⟩),
(5, ⟨[], [], []⟩),
(6, ⟨[], [], [(4, ⟨⟨[1, 3], []⟩, [(0, ⟨[], []⟩)], ⟨[2], []⟩⟩)]⟩),
(7, ⟨[], [], [(12, ⟨⟨[2, 4, 5, 7, 45], []⟩, [(0, ⟨[2, 7], []⟩)], ⟨[2, 3], []⟩⟩)]⟩),
(8, ⟨[], [], [(8, ⟨⟨[1, 3, 5, 6], [(5, 0, .own 99)]⟩, [(0, ⟨[5], []⟩)], ⟨[2], []⟩⟩)]⟩),
(9, ⟨[], [], [(4, ⟨⟨[2, 3, 5], []⟩, [(0, ⟨[], []⟩)], ⟨[4], []⟩⟩)]⟩),
(10, ⟨[], [], [(9, ⟨⟨[3, 4, 6], []⟩, [(0, ⟨[3, 4], []⟩)], ⟨[2], []⟩⟩)]⟩),
(11, ⟨[], [], [(5, ⟨⟨[0, 2, 4, 5], [(4, 0, .own 99)]⟩, [(0, ⟨[2, 4], []⟩)], ⟨[2, 3], []⟩⟩), (13, ⟨⟨[0, 2, 4, 5, 6, 7], [(4, 0, .own 99)]⟩, [(2, ⟨[0, 2, 4, 5], []⟩)], ⟨[2, 3], []⟩⟩)]⟩),
(12, ⟨[], [], []⟩),
(13, ⟨[], [], []⟩),
(14, ⟨[], [], []⟩),
(15, ⟨[], [], []⟩),
(16, ⟨[], [], []⟩),
(17, ⟨[], [], []⟩),
(18, ⟨[], [], []⟩),
(19, ⟨[], [], [(8, ⟨⟨[1, 3, 4, 5], [(4, 0, .own 99)]⟩, [(0, ⟨[4], []⟩)], ⟨[2], []⟩⟩)]⟩),
(20, ⟨[1], [], [(5, ⟨⟨[1, 4, 5, 6, 7, 8], [(5, 0, .own 99)]⟩, [(0, ⟨[4, 5], []⟩)], ⟨[4], []⟩⟩)]⟩),
(21, ⟨[1], [], []⟩),
(22, ⟨[1], [], []⟩),
(23, ⟨[1], [], []⟩),
(24, ⟨[], [], []⟩),
(25, ⟨[], [], [(5, ⟨⟨[0, 2, 4, 5], []⟩, [(0, ⟨[2, 4], []⟩)], ⟨[2, 3], []⟩⟩)]⟩),
(26, ⟨[], [], [(3, ⟨⟨[0, 3, 4], [(3, 0, .own 99)]⟩, [(0, ⟨[3], []⟩)], ⟨[2], []⟩⟩)]⟩),
(27, ⟨[1], [], []⟩),
(28, ⟨[], [], []⟩),
(30, ⟨[], [], []⟩),
(31, ⟨[], [], [(3, ⟨⟨[1, 3, 4], [(3, 0, .own 99)]⟩, [(0, ⟨[3], []⟩)], ⟨[2], []⟩⟩)]⟩),
(32, ⟨[1], [], [(3, ⟨⟨[0, 3, 4], []⟩, [(0, ⟨[3], []⟩)], ⟨[2], []⟩⟩)]⟩),
(33, ⟨[1], [], []⟩),
(34, ⟨[], [], []⟩),
(35, ⟨[1], [], []⟩),
(37, ⟨[1], [], []⟩)]
def fiF (f : Nat) : Fi := (look f fis).getD ⟨[], [], []⟩
noncomputable def C : Ctx := { ti := fun t => look t tis, fs := fun f => look f fns, fi := fiF }
def bodyOf (f : Func) : Code := f.body.getD .skip
def loopOf (f : Func) (k : Nat) : Code := (findLoop k (bodyOf f)).getD .skip
def cutOf (f : Func) (k : Nat) : Code := (findCut k (bodyOf f)).getD .skip
def liOf (l : List (Nat × Li)) (k : Nat) : Li := (look k l).getD ⟨⟨[], []⟩, [], ⟨[], []⟩⟩
theorem tis_ok : (tis.all fun x => tiB Try.prog x.1 x.2) = true := by kernel_rfl
theorem fns_all : (fns.all fun x => fnB (fiF x.1) x.2) = true := by kernel_rfl
theorem fnp (f : Nat) (x : Func) (r : List (Nat × Func)) (h : Try.prog.funcs[f]? = some x) (hr : ∀ y ∈ r, Try.prog.funcs[y.1]? = some y.2) : ∀ y ∈ (f, x) :: r, Try.prog.funcs[y.1]? = some y.2 := List.forall_mem_cons.2 ⟨h, hr⟩
set_option maxRecDepth 100000 in
theorem fns_prog : ∀ x ∈ fns, Try.prog.funcs[x.1]? = some x.2 := (fnp _ _ _ Try.func3
(fnp _ _ _ Try.func4
(fnp _ _ _ Try.func5
(fnp _ _ _ Try.func6
(fnp _ _ _ Try.func7
(fnp _ _ _ Try.func8
(fnp _ _ _ Try.func9
(fnp _ _ _ Try.func10
(fnp _ _ _ Try.func11
(fnp _ _ _ Try.func12
(fnp _ _ _ Try.func13
(fnp _ _ _ Try.func14
(fnp _ _ _ Try.func15
(fnp _ _ _ Try.func17
(fnp _ _ _ Try.func18
(fnp _ _ _ Try.func19
(fnp _ _ _ Try.func20
(fnp _ _ _ Try.func21
(fnp _ _ _ Try.func22
(fnp _ _ _ Try.func23
(fnp _ _ _ Try.func24
(fnp _ _ _ Try.func25
(fnp _ _ _ Try.func26
(fnp _ _ _ Try.func27
(fnp _ _ _ Try.func28
(fnp _ _ _ Try.func30
(fnp _ _ _ Try.func31
(fnp _ _ _ Try.func32
(fnp _ _ _ Try.func33
(fnp _ _ _ Try.func34
(fnp _ _ _ Try.func35
(fnp _ _ _ Try.func37
(fun _ h => by cases h)))))))))))))))))))))))))))))))))
theorem C_ok : CtxOK Try.prog C := ctx_ok tis_ok fns_prog
theorem C_fns : FnsOK Try.prog C := Go.Vsi.fns_ok fns_all
theorem C_follows : Try.prog.follows .mixedOrders = true := by kernel_rfl
def D0 (n : Nat) : CallF := noC
theorem D0_ok {X0 : CallF} (hX : CallF.Mono X0) : ∀ n g a K, D0 n g a K -> callM C X0 n g a K := fun n => noC_ok
end Go.Vsi
namespace Go.Proofs
open Go.Shelf
def Try.ixbL_ren : Go.Shelf.Ren := ⟨fun | 137 => 16 | 217 => 29 | 266 => 36 | n => n, fun | 9 => 9 | 5 => 5 | 3 => 3 | n => n, fun | n => n⟩
theorem Try.ixbL : Go.Proofs.Lays.n137 Try.prog Try.ixbL_ren where
 mixed := by kernel_rfl
 f137 := Try.func16.trans (congrArg some (by kernel_rfl))
 f217 := Try.func29.trans (congrArg some (by kernel_rfl))
 f266 := Try.func36.trans (congrArg some (by kernel_rfl))
 t3 := Try.underlying3
 a3 := Try.isAgg3
 z3 := Try.sizeOf3
 v3 := Try.zeroValue3
 t5 := Try.underlying5
 a5 := Try.isAgg5
 z5 := Try.sizeOf5
 v5 := Try.zeroValue5
 t9 := Try.underlying9
 a9 := Try.isAgg9
 z9 := Try.sizeOf9
 v9 := Try.zeroValue9
end Go.Proofs
namespace Go.Vsi
open Go.Proofs
theorem ixb_ok : IxbOK Try.prog 16 := ⟨fun s c w => (Any.strings_IndexByte Try.ixbL s c w).mono fun e w' ⟨he, hw⟩ => ⟨he, hw ▸ Go.RowKit.Below.refl _ _⟩⟩
def X0 : CallF := oneX ixbB 16
theorem X0_mono : CallF.Mono X0 := oneX_mono ixbB_mono 16
set_option maxRecDepth 100000 in
theorem X0_ok : CallOK Try.prog C X0 := ixbX_ok ixb_ok (by kernel_rfl) Try.func16 (by kernel_rfl) (by kernel_rfl)
theorem X0_ixb : ∀ args K, ixbB args K -> X0 16 args K := fun args K h => ⟨rfl, h⟩
end Go.Vsi
end

section
set_option linter.unusedVariables false
namespace Go.Vsi
open Go.Proofs
section
variable (hX : CallF.Mono X0)
include hX
abbrev Z6.a : List TS := [.c (.o (.dat 5 (.int .u8)))]
def Z6.u (n : Nat) (v : VA Z6.a) (K : RES -> Prop) : Prop := Z6.c n v.1 (fun r0 => K ⟨.c (.bool r0), []⟩)
theorem Z6_ok : ∀ n v K, Z6.u n v K -> callM C X0 n 4 (fillA Z6.a v) K :=
 call_tell hX (fn := Try.f4) (c := bodyOf Try.f4) (by kernel_rfl) (by kernel_rfl) (A := Z6.a) (u := Z6.u) (fun _ _ h => h) (call := D0) (lp := fun n => noL) (D0_ok hX) (fun n => noL_ok) (fun n v K => by kernel_rfl)
def D1 (n : Nat) : CallF := orC 4 Z6.a (Z6.u n) (D0 n)
theorem D1_ok : ∀ n g a K, D1 n g a K -> callM C X0 n g a K := fun n => orC_ok (Z6_ok hX n) (D0_ok hX n)
abbrev Z20.a : List TS := [.c (.o (.dat 5 (.int .u8)))]
def Z20.u (n : Nat) (v : VA Z20.a) (K : RES -> Prop) : Prop := Z20.c n v.1 (fun r0 r1 => K ⟨.c (.boxr 53 [.dat 5 (.int .u8) r0, .int .i64 r1]), []⟩)
theorem Z20_ok : ∀ n v K, Z20.u n v K -> callM C X0 n 18 (fillA Z20.a v) K :=
 call_tell hX (fn := Try.f18) (c := bodyOf Try.f18) (by kernel_rfl) (by kernel_rfl) (A := Z20.a) (u := Z20.u) (fun _ _ h => h) (call := D1) (lp := fun n => noL) (D1_ok hX) (fun n => noL_ok) (fun n v K => by kernel_rfl)
def D2 (n : Nat) : CallF := orC 18 Z20.a (Z20.u n) (D1 n)
theorem D2_ok : ∀ n g a K, D2 n g a K -> callM C X0 n g a K := fun n => orC_ok (Z20_ok hX n) (D1_ok hX n)
abbrev Z24.a : List TS := [.c (.boxr 53 [.dat 5 (.int .u8), .int .i64])]
def Z24.u (n : Nat) (v : VA Z24.a) (K : RES -> Prop) : Prop := Z24.c n v.1.1 v.1.2.1 (fun r0 r1 r2 => K ⟨.c (.int .i64 r0), [[.boxr 53 [.dat 5 (.int .u8) r1, .int .i64 r2]]]⟩)
theorem Z24_ok : ∀ n v K, Z24.u n v K -> callM C X0 n 33 (fillA Z24.a v) K :=
 call_tell hX (fn := Try.f33) (c := bodyOf Try.f33) (by kernel_rfl) (by kernel_rfl) (A := Z24.a) (u := Z24.u) (fun _ _ h => h) (call := D2) (lp := fun n => noL) (D2_ok hX) (fun n => noL_ok) (fun n v K => by kernel_rfl)
def D3 (n : Nat) : CallF := orC 33 Z24.a (Z24.u n) (D2 n)
theorem D3_ok : ∀ n g a K, D3 n g a K -> callM C X0 n g a K := fun n => orC_ok (Z24_ok hX n) (D2_ok hX n)
abbrev Z21.a : List TS := [.c (.boxr 53 [.dat 5 (.int .u8), .int .i64]), .c (.o (.int .i64))]
def Z21.u (n : Nat) (v : VA Z21.a) (K : RES -> Prop) : Prop := Z21.c n v.1.1 v.1.2.1 v.2.1 (fun r0 r1 r2 => K ⟨.c (.int .i64 r0), [[.boxr 53 [.dat 5 (.int .u8) r1, .int .i64 r2]]]⟩)
theorem Z21_ok : ∀ n v K, Z21.u n v K -> callM C X0 n 23 (fillA Z21.a v) K :=
 call_tell hX (fn := Try.f23) (c := bodyOf Try.f23) (by kernel_rfl) (by kernel_rfl) (A := Z21.a) (u := Z21.u) (fun _ _ h => h) (call := D3) (lp := fun n => noL) (D3_ok hX) (fun n => noL_ok) (fun n v K => by kernel_rfl)
def D4 (n : Nat) : CallF := orC 23 Z21.a (Z21.u n) (D3 n)
theorem D4_ok : ∀ n g a K, D4 n g a K -> callM C X0 n g a K := fun n => orC_ok (Z21_ok hX n) (D3_ok hX n)
abbrev Z28.a : List TS := [.c (.boxr 53 [.dat 5 (.int .u8), .int .i64])]
def Z28.u (n : Nat) (v : VA Z28.a) (K : RES -> Prop) : Prop := Z28.c n v.1.1 v.1.2.1 (fun r0 r1 r2 => K ⟨.c (.int .i64 r0), [[.boxr 53 [.dat 5 (.int .u8) r1, .int .i64 r2]]]⟩)
theorem Z28_ok : ∀ n v K, Z28.u n v K -> callM C X0 n 21 (fillA Z28.a v) K :=
 call_tell hX (fn := Try.f21) (c := bodyOf Try.f21) (by kernel_rfl) (by kernel_rfl) (A := Z28.a) (u := Z28.u) (fun _ _ h => h) (call := D4) (lp := fun n => noL) (D4_ok hX) (fun n => noL_ok) (fun n v K => by kernel_rfl)
def D5 (n : Nat) : CallF := orC 21 Z28.a (Z28.u n) (D4 n)
theorem D5_ok : ∀ n g a K, D5 n g a K -> callM C X0 n g a K := fun n => orC_ok (Z28_ok hX n) (D4_ok hX n)
abbrev Z29.a : List TS := [.c (.boxr 53 [.dat 5 (.int .u8), .int .i64])]
def Z29.u (n : Nat) (v : VA Z29.a) (K : RES -> Prop) : Prop := Z29.c n v.1.1 v.1.2.1 (fun r0 r1 r2 => K ⟨.c (.int .u64 r0), [[.boxr 53 [.dat 5 (.int .u8) r1, .int .i64 r2]]]⟩)
abbrev Z29.l3.s : ST := ⟨[(0, .c (.o (.pbox 0 0))), (3, .c (.o (.int .u64))), (4, .c (.o (.int .i64)))], [], [⟨0, 53, [.o (.dat 5 (.int .u8)), .o (.int .i64)], false, false⟩], [], [0]⟩
def Z29.l3.u (n : Nat) (v : Z29.l3.s.V) (K : X -> St -> Prop) : Prop := Z29.l3 n v.1.2.1 v.1.2.2.1 v.2.2.1.1 v.2.2.1.2.1 (fun y0 y1 y2 => K (.exit 0) ⟨[(3, .c (.int .u64 y0))], [], [(0, ⟨53, [.dat 5 (.int .u8) y1, .int .i64 y2], false, false⟩)], [], [0]⟩)
theorem Z29.l3_ok : ∀ n v K, Z29.l3.u n v K -> loopM C X0 n 32 3 (Z29.l3.s.fill v) K :=
 loop_tell hX (fn := Try.f32) (c := bodyOf Try.f32) (a := loopOf Try.f32 3) (li := liOf (C.fi 32).loops 3) (by kernel_rfl) (by kernel_rfl) (of_decide_eq_true rfl) (by kernel_rfl) (by kernel_rfl) (T := Z29.l3.s) (u := Z29.l3.u) (fun _ _ h => h) (call := D5) (lp := fun n => noL) (D5_ok hX) (fun n => noL_ok) (fun n v K => by kernel_rfl)
theorem Z29_ok : ∀ n v K, Z29.u n v K -> callM C X0 n 32 (fillA Z29.a v) K :=
 call_tell hX (fn := Try.f32) (c := bodyOf Try.f32) (by kernel_rfl) (by kernel_rfl) (A := Z29.a) (u := Z29.u) (fun _ _ h => h) (call := D5) (lp := fun n => orL 3 Z29.l3.s (Z29.l3.u n) noL) (D5_ok hX) (fun n => (orL_ok (Z29.l3_ok hX n) noL_ok)) (fun n v K => by kernel_rfl)
def D6 (n : Nat) : CallF := orC 32 Z29.a (Z29.u n) (D5 n)
theorem D6_ok : ∀ n g a K, D6 n g a K -> callM C X0 n g a K := fun n => orC_ok (Z29_ok hX n) (D5_ok hX n)
abbrev Z16.a : List TS := [.c (.o (.dat 5 (.int .u8)))]
def Z16.u (n : Nat) (v : VA Z16.a) (K : RES -> Prop) : Prop := Z16.c n v.1 (fun r0 r1 r2 => K ⟨.tup [.agg [.int .i64 r0, .row ⟨39, .int .u64, r1, 99, none⟩], .c (.bool r2)], []⟩)
abbrev Z16.l5.s : ST := ⟨[(0, .c (.o (.dat 5 (.int .u8)))), (2, .c (.o (.pbox 2 0))), (4, .c (.o (.pbox 4 0))), (5, .c (.o (.int .i64)))], [⟨672, 39, .int .u64, 99⟩, ⟨1000065, 39, .int .u64, 99⟩], [⟨2, 26, [.o (.int .i64), .o (.own 1000065)], false, false⟩, ⟨4, 26, [.o (.int .i64), .o (.own 672)], false, false⟩], [], []⟩
def Z16.l5.u (n : Nat) (v : Z16.l5.s.V) (K : X -> St -> Prop) : Prop := Z16.l5 n v.1.1 v.2.1.2.1 v.2.2.1.1 v.2.2.2.1.1 v.1.2.2.2.1 v.2.1.1 (fun y0 y1 y2 y3 => K (.exit 0) ⟨[(2, .c (.pbox 2 0)), (4, .c (.pbox 4 0))], [(672, ⟨39, .int .u64, y0, 99, none⟩), (1000065, ⟨39, .int .u64, y1, 99, none⟩)], [(2, ⟨26, [.int .i64 y2, .own 1000065], false, false⟩), (4, ⟨26, [.int .i64 y3, .own 672], false, false⟩)], [], []⟩)
theorem Z16.l5_ok : ∀ n v K, Z16.l5.u n v K -> loopM C X0 n 25 5 (Z16.l5.s.fill v) K :=
 loop_tell hX (fn := Try.f25) (c := bodyOf Try.f25) (a := loopOf Try.f25 5) (li := liOf (C.fi 25).loops 5) (by kernel_rfl) (by kernel_rfl) (of_decide_eq_true rfl) (by kernel_rfl) (by kernel_rfl) (T := Z16.l5.s) (u := Z16.l5.u) (fun _ _ h => h) (call := D6) (lp := fun n => noL) (D6_ok hX) (fun n => noL_ok) (fun n v K => by kernel_rfl)
theorem Z16_ok : ∀ n v K, Z16.u n v K -> callM C X0 n 25 (fillA Z16.a v) K :=
 call_tell hX (fn := Try.f25) (c := bodyOf Try.f25) (by kernel_rfl) (by kernel_rfl) (A := Z16.a) (u := Z16.u) (fun _ _ h => h) (call := D6) (lp := fun n => orL 5 Z16.l5.s (Z16.l5.u n) noL) (D6_ok hX) (fun n => (orL_ok (Z16.l5_ok hX n) noL_ok)) (fun n v K => by kernel_rfl)
def D7 (n : Nat) : CallF := orC 25 Z16.a (Z16.u n) (D6 n)
theorem D7_ok : ∀ n g a K, D7 n g a K -> callM C X0 n g a K := fun n => orC_ok (Z16_ok hX n) (D6_ok hX n)
abbrev Z22.a : List TS := [.c (.boxr 53 [.dat 5 (.int .u8), .int .i64]), .c (.o (.int .i64))]
def Z22.u (n : Nat) (v : VA Z22.a) (K : RES -> Prop) : Prop := Z22.c n v.1.1 v.1.2.1 v.2.1 (fun r0 r1 r2 r3 => K ⟨.agg [.int .i64 r0, .row ⟨39, .int .u64, r1, 99, none⟩], [[.boxr 53 [.dat 5 (.int .u8) r2, .int .i64 r3]]]⟩)
abbrev Z22.l5.s : ST := ⟨[(1, .c (.o (.int .i64))), (4, .c (.o (.pbox 4 0))), (5, .c (.o (.own 160))), (6, .c (.o (.int .u64))), (7, .c (.o (.int .i64))), (8, .c (.o (.int .i64)))], [⟨160, 5, .int .u8, 99⟩, ⟨1000129, 39, .int .u64, 99⟩], [⟨0, 53, [.o (.dat 5 (.int .u8)), .o (.int .i64)], false, false⟩, ⟨4, 26, [.o (.int .i64), .o (.own 1000129)], false, false⟩], [], [0]⟩
def Z22.l5.u (n : Nat) (v : Z22.l5.s.V) (K : X -> St -> Prop) : Prop := Z22.l5 n v.1.1 v.1.2.2.2.1 v.1.2.2.2.2.1 v.2.1.2.1 v.2.2.1.1 v.2.2.1.2.1 v.2.2.2.1.1 v.1.2.2.2.2.2.1 v.2.1.1 (fun y0 y1 y2 y3 y4 => K (.exit 0) ⟨[(4, .c (.pbox 4 0)), (5, .c (.own 160))], [(160, ⟨5, .int .u8, y0, 99, none⟩), (1000129, ⟨39, .int .u64, y1, 99, none⟩)], [(0, ⟨53, [.dat 5 (.int .u8) y2, .int .i64 y3], false, false⟩), (4, ⟨26, [.int .i64 y4, .own 1000129], false, false⟩)], [], [0]⟩)
theorem Z22.l5_ok : ∀ n v K, Z22.l5.u n v K -> loopM C X0 n 20 5 (Z22.l5.s.fill v) K :=
 loop_tell hX (fn := Try.f20) (c := bodyOf Try.f20) (a := loopOf Try.f20 5) (li := liOf (C.fi 20).loops 5) (by kernel_rfl) (by kernel_rfl) (of_decide_eq_true rfl) (by kernel_rfl) (by kernel_rfl) (T := Z22.l5.s) (u := Z22.l5.u) (fun _ _ h => h) (call := D7) (lp := fun n => noL) (D7_ok hX) (fun n => noL_ok) (fun n v K => by kernel_rfl)
theorem Z22_ok : ∀ n v K, Z22.u n v K -> callM C X0 n 20 (fillA Z22.a v) K :=
 call_tell hX (fn := Try.f20) (c := bodyOf Try.f20) (by kernel_rfl) (by kernel_rfl) (A := Z22.a) (u := Z22.u) (fun _ _ h => h) (call := D7) (lp := fun n => orL 5 Z22.l5.s (Z22.l5.u n) noL) (D7_ok hX) (fun n => (orL_ok (Z22.l5_ok hX n) noL_ok)) (fun n v K => by kernel_rfl)
def D8 (n : Nat) : CallF := orC 20 Z22.a (Z22.u n) (D7 n)
theorem D8_ok : ∀ n g a K, D8 n g a K -> callM C X0 n g a K := fun n => orC_ok (Z22_ok hX n) (D7_ok hX n)
abbrev Z27.a : List TS := [.c (.boxr 53 [.dat 5 (.int .u8), .int .i64]), .c (.o (.int .i64))]
def Z27.u (n : Nat) (v : VA Z27.a) (K : RES -> Prop) : Prop := Z27.c n v.1.1 v.1.2.1 v.2.1 (fun r0 r1 r2 => K ⟨.c (.bool r0), [[.boxr 53 [.dat 5 (.int .u8) r1, .int .i64 r2]]]⟩)
theorem Z27_ok : ∀ n v K, Z27.u n v K -> callM C X0 n 22 (fillA Z27.a v) K :=
 call_tell hX (fn := Try.f22) (c := bodyOf Try.f22) (by kernel_rfl) (by kernel_rfl) (A := Z27.a) (u := Z27.u) (fun _ _ h => h) (call := D8) (lp := fun n => noL) (D8_ok hX) (fun n => noL_ok) (fun n v K => by kernel_rfl)
def D9 (n : Nat) : CallF := orC 22 Z27.a (Z27.u n) (D8 n)
theorem D9_ok : ∀ n g a K, D9 n g a K -> callM C X0 n g a K := fun n => orC_ok (Z27_ok hX n) (D8_ok hX n)
abbrev Z23.a : List TS := [.c (.boxr 53 [.dat 5 (.int .u8), .int .i64]), .c (.o (.int .i64)), .c (.o (.int .i64))]
def Z23.u (n : Nat) (v : VA Z23.a) (K : RES -> Prop) : Prop := Z23.c n v.1.1 v.1.2.1 v.2.1 v.2.2.1 (fun r0 r1 r2 => K ⟨.c (.int .i64 r0), [[.boxr 53 [.dat 5 (.int .u8) r1, .int .i64 r2]]]⟩)
theorem Z23_ok : ∀ n v K, Z23.u n v K -> callM C X0 n 37 (fillA Z23.a v) K :=
 call_tell hX (fn := Try.f37) (c := bodyOf Try.f37) (by kernel_rfl) (by kernel_rfl) (A := Z23.a) (u := Z23.u) (fun _ _ h => h) (call := D9) (lp := fun n => noL) (D9_ok hX) (fun n => noL_ok) (fun n v K => by kernel_rfl)
def D10 (n : Nat) : CallF := orC 37 Z23.a (Z23.u n) (D9 n)
theorem D10_ok : ∀ n g a K, D10 n g a K -> callM C X0 n g a K := fun n => orC_ok (Z23_ok hX n) (D9_ok hX n)
abbrev Z26.a : List TS := [.c (.boxr 53 [.dat 5 (.int .u8), .int .i64]), .c (.o (.int .i64)), .c (.o (.int .i64))]
def Z26.u (n : Nat) (v : VA Z26.a) (K : RES -> Prop) : Prop := Z26.c n v.1.1 v.1.2.1 v.2.1 v.2.2.1 (fun r0 r1 r2 => K ⟨.c (.int .i64 r0), [[.boxr 53 [.dat 5 (.int .u8) r1, .int .i64 r2]]]⟩)
theorem Z26_ok : ∀ n v K, Z26.u n v K -> callM C X0 n 35 (fillA Z26.a v) K :=
 call_tell hX (fn := Try.f35) (c := bodyOf Try.f35) (by kernel_rfl) (by kernel_rfl) (A := Z26.a) (u := Z26.u) (fun _ _ h => h) (call := D10) (lp := fun n => noL) (D10_ok hX) (fun n => noL_ok) (fun n v K => by kernel_rfl)
def D11 (n : Nat) : CallF := orC 35 Z26.a (Z26.u n) (D10 n)
theorem D11_ok : ∀ n g a K, D11 n g a K -> callM C X0 n g a K := fun n => orC_ok (Z26_ok hX n) (D10_ok hX n)
abbrev Z25.a : List TS := [.c (.boxr 53 [.dat 5 (.int .u8), .int .i64])]
def Z25.u (n : Nat) (v : VA Z25.a) (K : RES -> Prop) : Prop := Z25.c n v.1.1 v.1.2.1 (fun r0 r1 r2 r3 => K ⟨.agg [.int .i64 r0, .row ⟨39, .int .u64, r1, 99, none⟩], [[.boxr 53 [.dat 5 (.int .u8) r2, .int .i64 r3]]]⟩)
theorem Z25_ok : ∀ n v K, Z25.u n v K -> callM C X0 n 27 (fillA Z25.a v) K :=
 call_tell hX (fn := Try.f27) (c := bodyOf Try.f27) (by kernel_rfl) (by kernel_rfl) (A := Z25.a) (u := Z25.u) (fun _ _ h => h) (call := D11) (lp := fun n => noL) (D11_ok hX) (fun n => noL_ok) (fun n v K => by kernel_rfl)
def D12 (n : Nat) : CallF := orC 27 Z25.a (Z25.u n) (D11 n)
theorem D12_ok : ∀ n g a K, D12 n g a K -> callM C X0 n g a K := fun n => orC_ok (Z25_ok hX n) (D11_ok hX n)
abbrev Z9.a : List TS := [.c (.o (.dat 5 (.int .u8)))]
def Z9.u (n : Nat) (v : VA Z9.a) (K : RES -> Prop) : Prop := Z9.c n v.1 (fun r0 r1 => K ⟨.agg [.int .i64 r0, .row ⟨39, .int .u64, r1, 99, none⟩], []⟩)
theorem Z9_ok : ∀ n v K, Z9.u n v K -> callM C X0 n 12 (fillA Z9.a v) K :=
 call_tell hX (fn := Try.f12) (c := bodyOf Try.f12) (by kernel_rfl) (by kernel_rfl) (A := Z9.a) (u := Z9.u) (fun _ _ h => h) (call := D12) (lp := fun n => noL) (D12_ok hX) (fun n => noL_ok) (fun n v K => by kernel_rfl)
def D13 (n : Nat) : CallF := orC 12 Z9.a (Z9.u n) (D12 n)
theorem D13_ok : ∀ n g a K, D13 n g a K -> callM C X0 n g a K := fun n => orC_ok (Z9_ok hX n) (D12_ok hX n)
abbrev Z11.a : List TS := [.c (.o (.dat 5 (.int .u8)))]
def Z11.u (n : Nat) (v : VA Z11.a) (K : RES -> Prop) : Prop := Z11.c n v.1 (fun r0 r1 => K ⟨.agg [.int .i64 r0, .row ⟨39, .int .u64, r1, 99, none⟩], []⟩)
theorem Z11_ok : ∀ n v K, Z11.u n v K -> callM C X0 n 5 (fillA Z11.a v) K :=
 call_tell hX (fn := Try.f5) (c := bodyOf Try.f5) (by kernel_rfl) (by kernel_rfl) (A := Z11.a) (u := Z11.u) (fun _ _ h => h) (call := D13) (lp := fun n => noL) (D13_ok hX) (fun n => noL_ok) (fun n v K => by kernel_rfl)
def D14 (n : Nat) : CallF := orC 5 Z11.a (Z11.u n) (D13 n)
theorem D14_ok : ∀ n g a K, D14 n g a K -> callM C X0 n g a K := fun n => orC_ok (Z11_ok hX n) (D13_ok hX n)
abbrev Z18.a : List TS := [.c (.o (.int .i64)), .c (.o (.int .i64)), .c (.o (.int .i64))]
def Z18.u (n : Nat) (v : VA Z18.a) (K : RES -> Prop) : Prop := Z18.c n v.1 v.2.1 v.2.2.1 (fun r0 => K ⟨.c (.bool r0), []⟩)
theorem Z18_ok : ∀ n v K, Z18.u n v K -> callM C X0 n 13 (fillA Z18.a v) K :=
 call_tell hX (fn := Try.f13) (c := bodyOf Try.f13) (by kernel_rfl) (by kernel_rfl) (A := Z18.a) (u := Z18.u) (fun _ _ h => h) (call := D14) (lp := fun n => noL) (D14_ok hX) (fun n => noL_ok) (fun n v K => by kernel_rfl)
def D15 (n : Nat) : CallF := orC 13 Z18.a (Z18.u n) (D14 n)
theorem D15_ok : ∀ n g a K, D15 n g a K -> callM C X0 n g a K := fun n => orC_ok (Z18_ok hX n) (D14_ok hX n)
abbrev Z14.a : List TS := [.a [.o (.int .i64), .o (.dat 39 (.int .u64))], .c (.o (.int .i64))]
def Z14.u (n : Nat) (v : VA Z14.a) (K : RES -> Prop) : Prop := Z14.c n v.1.1 v.1.2.1 v.2.1 (fun r0 => K ⟨.c (.int .u8 r0), []⟩)
theorem Z14_ok : ∀ n v K, Z14.u n v K -> callM C X0 n 14 (fillA Z14.a v) K :=
 call_tell hX (fn := Try.f14) (c := bodyOf Try.f14) (by kernel_rfl) (by kernel_rfl) (A := Z14.a) (u := Z14.u) (fun _ _ h => h) (call := D15) (lp := fun n => noL) (D15_ok hX) (fun n => noL_ok) (fun n v K => by kernel_rfl)
def D16 (n : Nat) : CallF := orC 14 Z14.a (Z14.u n) (D15 n)
theorem D16_ok : ∀ n g a K, D16 n g a K -> callM C X0 n g a K := fun n => orC_ok (Z14_ok hX n) (D15_ok hX n)
abbrev Z8.a : List TS := [.a [.o (.int .i64), .o (.dat 39 (.int .u64))]]
def Z8.u (n : Nat) (v : VA Z8.a) (K : RES -> Prop) : Prop := Z8.c n v.1.1 v.1.2.1 (fun r0 => K ⟨.c (.bool r0), []⟩)
abbrev Z8.l4.s : ST := ⟨[(1, .c (.o (.pbox 1 0))), (3, .c (.o (.int .i64)))], [], [⟨1, 26, [.o (.int .i64), .o (.dat 39 (.int .u64))], false, false⟩], [], []⟩
def Z8.l4.u (n : Nat) (v : Z8.l4.s.V) (K : X -> St -> Prop) : Prop := Z8.l4 n v.2.2.1.1 v.2.2.1.2.1 v.1.2.1 (K (.exit 0) ⟨[], [], [], [], []⟩) (fun y0 => K .ret ⟨[(2, .c (.bool y0))], [], [], [], []⟩)
theorem Z8.l4_ok : ∀ n v K, Z8.l4.u n v K -> loopM C X0 n 6 4 (Z8.l4.s.fill v) K :=
 loop_tell hX (fn := Try.f6) (c := bodyOf Try.f6) (a := loopOf Try.f6 4) (li := liOf (C.fi 6).loops 4) (by kernel_rfl) (by kernel_rfl) (of_decide_eq_true rfl) (by kernel_rfl) (by kernel_rfl) (T := Z8.l4.s) (u := Z8.l4.u) (fun _ _ h => h) (call := D16) (lp := fun n => noL) (D16_ok hX) (fun n => noL_ok) (fun n v K => by kernel_rfl)
theorem Z8_ok : ∀ n v K, Z8.u n v K -> callM C X0 n 6 (fillA Z8.a v) K :=
 call_tell hX (fn := Try.f6) (c := bodyOf Try.f6) (by kernel_rfl) (by kernel_rfl) (A := Z8.a) (u := Z8.u) (fun _ _ h => h) (call := D16) (lp := fun n => orL 4 Z8.l4.s (Z8.l4.u n) noL) (D16_ok hX) (fun n => (orL_ok (Z8.l4_ok hX n) noL_ok)) (fun n v K => by kernel_rfl)
def D17 (n : Nat) : CallF := orC 6 Z8.a (Z8.u n) (D16 n)
theorem D17_ok : ∀ n g a K, D17 n g a K -> callM C X0 n g a K := fun n => orC_ok (Z8_ok hX n) (D16_ok hX n)
abbrev Z3.a : List TS := [.c (.o (.int .i64)), .c (.o (.int .i64)), .c (.o (.int .i64))]
def Z3.u (n : Nat) (v : VA Z3.a) (K : RES -> Prop) : Prop := Z3.c n v.1 v.2.1 v.2.2.1 (fun r0 => K ⟨.c (.bool r0), []⟩)
theorem Z3_ok : ∀ n v K, Z3.u n v K -> callM C X0 n 30 (fillA Z3.a v) K :=
 call_tell hX (fn := Try.f30) (c := bodyOf Try.f30) (by kernel_rfl) (by kernel_rfl) (A := Z3.a) (u := Z3.u) (fun _ _ h => h) (call := D17) (lp := fun n => noL) (D17_ok hX) (fun n => noL_ok) (fun n v K => by kernel_rfl)
def D18 (n : Nat) : CallF := orC 30 Z3.a (Z3.u n) (D17 n)
theorem D18_ok : ∀ n g a K, D18 n g a K -> callM C X0 n g a K := fun n => orC_ok (Z3_ok hX n) (D17_ok hX n)
abbrev Z4.a : List TS := [.c (.o (.int .i64))]
def Z4.u (n : Nat) (v : VA Z4.a) (K : RES -> Prop) : Prop := Z4.c n v.1 (fun r0 => K ⟨.c (.int .i64 r0), []⟩)
theorem Z4_ok : ∀ n v K, Z4.u n v K -> callM C X0 n 28 (fillA Z4.a v) K :=
 call_tell hX (fn := Try.f28) (c := bodyOf Try.f28) (by kernel_rfl) (by kernel_rfl) (A := Z4.a) (u := Z4.u) (fun _ _ h => h) (call := D18) (lp := fun n => noL) (D18_ok hX) (fun n => noL_ok) (fun n v K => by kernel_rfl)
def D19 (n : Nat) : CallF := orC 28 Z4.a (Z4.u n) (D18 n)
theorem D19_ok : ∀ n g a K, D19 n g a K -> callM C X0 n g a K := fun n => orC_ok (Z4_ok hX n) (D18_ok hX n)
abbrev Z0.a : List TS := [.a [.o (.int .i64), .o (.dat 39 (.int .u64))]]
def Z0.u (n : Nat) (v : VA Z0.a) (K : RES -> Prop) : Prop := Z0.c n v.1.1 v.1.2.1 (fun r0 => K ⟨.c (.bool r0), []⟩)
theorem Z0_ok : ∀ n v K, Z0.u n v K -> callM C X0 n 17 (fillA Z0.a v) K :=
 call_tell hX (fn := Try.f17) (c := bodyOf Try.f17) (by kernel_rfl) (by kernel_rfl) (A := Z0.a) (u := Z0.u) (fun _ _ h => h) (call := D19) (lp := fun n => noL) (D19_ok hX) (fun n => noL_ok) (fun n v K => by kernel_rfl)
def D20 (n : Nat) : CallF := orC 17 Z0.a (Z0.u n) (D19 n)
theorem D20_ok : ∀ n g a K, D20 n g a K -> callM C X0 n g a K := fun n => orC_ok (Z0_ok hX n) (D19_ok hX n)
abbrev Z2.a : List TS := [.a [.o (.int .i64), .o (.dat 39 (.int .u64))]]
def Z2.u (n : Nat) (v : VA Z2.a) (K : RES -> Prop) : Prop := Z2.c n v.1.1 v.1.2.1 (fun r0 => K ⟨.c (.str r0), []⟩)
abbrev Z2.l8.s : ST := ⟨[(1, .c (.o (.pbox 1 0))), (3, .c (.o (.int .i64))), (5, .c (.o (.own 160))), (6, .c (.o (.int .i64)))], [⟨160, 5, .int .u8, 99⟩], [⟨1, 26, [.o (.int .i64), .o (.dat 39 (.int .u64))], false, false⟩], [], []⟩
def Z2.l8.u (n : Nat) (v : Z2.l8.s.V) (K : X -> St -> Prop) : Prop := Z2.l8 n v.1.2.1 v.2.2.1.1 v.2.2.1.2.1 v.1.2.2.2.1 v.2.1.1 (fun y0 => K (.exit 0) ⟨[(5, .c (.own 160))], [(160, ⟨5, .int .u8, y0, 99, none⟩)], [], [], []⟩)
theorem Z2.l8_ok : ∀ n v K, Z2.l8.u n v K -> loopM C X0 n 8 8 (Z2.l8.s.fill v) K :=
 loop_tell hX (fn := Try.f8) (c := bodyOf Try.f8) (a := loopOf Try.f8 8) (li := liOf (C.fi 8).loops 8) (by kernel_rfl) (by kernel_rfl) (of_decide_eq_true rfl) (by kernel_rfl) (by kernel_rfl) (T := Z2.l8.s) (u := Z2.l8.u) (fun _ _ h => h) (call := D20) (lp := fun n => noL) (D20_ok hX) (fun n => noL_ok) (fun n v K => by kernel_rfl)
theorem Z2_ok : ∀ n v K, Z2.u n v K -> callM C X0 n 8 (fillA Z2.a v) K :=
 call_tell hX (fn := Try.f8) (c := bodyOf Try.f8) (by kernel_rfl) (by kernel_rfl) (A := Z2.a) (u := Z2.u) (fun _ _ h => h) (call := D20) (lp := fun n => orL 8 Z2.l8.s (Z2.l8.u n) noL) (D20_ok hX) (fun n => (orL_ok (Z2.l8_ok hX n) noL_ok)) (fun n v K => by kernel_rfl)
def D21 (n : Nat) : CallF := orC 8 Z2.a (Z2.u n) (D20 n)
theorem D21_ok : ∀ n g a K, D21 n g a K -> callM C X0 n g a K := fun n => orC_ok (Z2_ok hX n) (D20_ok hX n)
abbrev Z5.a : List TS := [.c (.o (.int .i64))]
def Z5.u (n : Nat) (v : VA Z5.a) (K : RES -> Prop) : Prop := Z5.c n v.1 (fun r0 r1 => K ⟨.agg [.int .i64 r0, .row ⟨39, .int .u64, r1, 99, none⟩], []⟩)
theorem Z5_ok : ∀ n v K, Z5.u n v K -> callM C X0 n 15 (fillA Z5.a v) K :=
 call_tell hX (fn := Try.f15) (c := bodyOf Try.f15) (by kernel_rfl) (by kernel_rfl) (A := Z5.a) (u := Z5.u) (fun _ _ h => h) (call := D21) (lp := fun n => noL) (D21_ok hX) (fun n => noL_ok) (fun n v K => by kernel_rfl)
def D22 (n : Nat) : CallF := orC 15 Z5.a (Z5.u n) (D21 n)
theorem D22_ok : ∀ n g a K, D22 n g a K -> callM C X0 n g a K := fun n => orC_ok (Z5_ok hX n) (D21_ok hX n)
abbrev Z31.a : List TS := [.c (.o .str), .c (.o (.int .u8))]
def Z31.u (n : Nat) (v : VA Z31.a) (K : RES -> Prop) : Prop := Z31.c n v.1 v.2.1 (fun r0 => K ⟨.c (.int .i64 r0), []⟩)
omit hX in
theorem Z31_ok0 : ∀ n v K, Z31.u n v K -> callM C X0 n 16 (fillA Z31.a v) K :=
 out_tell (C := C) (X0 := X0) (g := 16) (by kernel_rfl) (B := ixbB) X0_ixb (A := Z31.a) (u := Z31.u) (fun v K h => h) (fun n v K => by kernel_rfl)
set_option linter.unusedSectionVars false in
theorem Z31_ok : ∀ n v K, Z31.u n v K -> callM C X0 n 16 (fillA Z31.a v) K := Z31_ok0
def D23 (n : Nat) : CallF := orC 16 Z31.a (Z31.u n) (D22 n)
theorem D23_ok : ∀ n g a K, D23 n g a K -> callM C X0 n g a K := fun n => orC_ok (Z31_ok hX n) (D22_ok hX n)
abbrev Z1.a : List TS := [.c (.o .str)]
def Z1.u (n : Nat) (v : VA Z1.a) (K : RES -> Prop) : Prop := Z1.c n v.1 (fun r0 r1 r2 => K ⟨.tup [.agg [.int .i64 r0, .row ⟨39, .int .u64, r1, 99, none⟩], .c (.bool r2)], []⟩)
abbrev Z1.l12.s : ST := ⟨[(2, .c (.o (.pbox 2 0))), (4, .c (.o (.int .i64))), (5, .c (.o .str)), (7, .c (.o (.pbox 7 0))), (45, .c (.o (.pbox 45 0)))], [⟨1377, 39, .int .u64, 99⟩, ⟨1000065, 39, .int .u64, 99⟩], [⟨2, 26, [.o (.int .i64), .o (.own 1000065)], false, false⟩, ⟨7, 26, [.o (.int .i64), .o (.own 1377)], false, false⟩, ⟨45, 0, [.o .str, .o (.int .i64)], false, true⟩], [], []⟩
def Z1.l12.u (n : Nat) (v : Z1.l12.s.V) (K : X -> St -> Prop) : Prop := Z1.l12 n v.1.2.1 v.1.2.2.1 v.2.1.2.1 v.2.2.1.1 v.2.2.2.1.1 v.2.2.2.2.1.1 v.2.1.1 v.2.2.2.2.1.2.1 (fun y0 y1 y2 y3 => K (.exit 0) ⟨[(2, .c (.pbox 2 0)), (7, .c (.pbox 7 0))], [(1377, ⟨39, .int .u64, y0, 99, none⟩), (1000065, ⟨39, .int .u64, y1, 99, none⟩)], [(2, ⟨26, [.int .i64 y2, .own 1000065], false, false⟩), (7, ⟨26, [.int .i64 y3, .own 1377], false, false⟩)], [], []⟩) (fun y0 y1 y2 => K .ret ⟨[(2, .c (.pbox 2 0)), (3, .c (.bool y0))], [(2081, ⟨39, .int .u64, y1, 99, none⟩)], [(2, ⟨26, [.int .i64 y2, .own 2081], false, false⟩)], [], []⟩)
theorem Z1.l12_ok : ∀ n v K, Z1.l12.u n v K -> loopM C X0 n 7 12 (Z1.l12.s.fill v) K :=
 loop_tell hX (fn := Try.f7) (c := bodyOf Try.f7) (a := loopOf Try.f7 12) (li := liOf (C.fi 7).loops 12) (by kernel_rfl) (by kernel_rfl) (of_decide_eq_true rfl) (by kernel_rfl) (by kernel_rfl) (T := Z1.l12.s) (u := Z1.l12.u) (fun _ _ h => h) (call := D23) (lp := fun n => noL) (D23_ok hX) (fun n => noL_ok) (fun n v K => by kernel_rfl)
theorem Z1_ok : ∀ n v K, Z1.u n v K -> callM C X0 n 7 (fillA Z1.a v) K :=
 call_tell hX (fn := Try.f7) (c := bodyOf Try.f7) (by kernel_rfl) (by kernel_rfl) (A := Z1.a) (u := Z1.u) (fun _ _ h => h) (call := D23) (lp := fun n => orL 12 Z1.l12.s (Z1.l12.u n) noL) (D23_ok hX) (fun n => (orL_ok (Z1.l12_ok hX n) noL_ok)) (fun n v K => by kernel_rfl)
def D24 (n : Nat) : CallF := orC 7 Z1.a (Z1.u n) (D23 n)
theorem D24_ok : ∀ n g a K, D24 n g a K -> callM C X0 n g a K := fun n => orC_ok (Z1_ok hX n) (D23_ok hX n)
abbrev Z7.a : List TS := [.a [.o (.int .i64), .o (.dat 39 (.int .u64))], .a [.o (.int .i64), .o (.dat 39 (.int .u64))]]
def Z7.u (n : Nat) (v : VA Z7.a) (K : RES -> Prop) : Prop := Z7.c n v.1.1 v.1.2.1 v.2.1.1 v.2.1.2.1 (fun r0 => K ⟨.c (.bool r0), []⟩)
abbrev Z7.l4.s : ST := ⟨[(2, .c (.o (.pbox 2 0))), (3, .c (.o (.pbox 3 0))), (5, .c (.o (.int .i64)))], [], [⟨2, 26, [.o (.int .i64), .o (.dat 39 (.int .u64))], false, false⟩, ⟨3, 26, [.o (.int .i64), .o (.dat 39 (.int .u64))], false, false⟩], [], []⟩
def Z7.l4.u (n : Nat) (v : Z7.l4.s.V) (K : X -> St -> Prop) : Prop := Z7.l4 n v.2.2.1.1 v.2.2.1.2.1 v.2.2.2.1.1 v.2.2.2.1.2.1 v.1.2.2.1 (K (.exit 0) ⟨[], [], [], [], []⟩) (fun y0 => K .ret ⟨[(4, .c (.bool y0))], [], [], [], []⟩)
theorem Z7.l4_ok : ∀ n v K, Z7.l4.u n v K -> loopM C X0 n 9 4 (Z7.l4.s.fill v) K :=
 loop_tell hX (fn := Try.f9) (c := bodyOf Try.f9) (a := loopOf Try.f9 4) (li := liOf (C.fi 9).loops 4) (by kernel_rfl) (by kernel_rfl) (of_decide_eq_true rfl) (by kernel_rfl) (by kernel_rfl) (T := Z7.l4.s) (u := Z7.l4.u) (fun _ _ h => h) (call := D24) (lp := fun n => noL) (D24_ok hX) (fun n => noL_ok) (fun n v K => by kernel_rfl)
theorem Z7_ok : ∀ n v K, Z7.u n v K -> callM C X0 n 9 (fillA Z7.a v) K :=
 call_tell hX (fn := Try.f9) (c := bodyOf Try.f9) (by kernel_rfl) (by kernel_rfl) (A := Z7.a) (u := Z7.u) (fun _ _ h => h) (call := D24) (lp := fun n => orL 4 Z7.l4.s (Z7.l4.u n) noL) (D24_ok hX) (fun n => (orL_ok (Z7.l4_ok hX n) noL_ok)) (fun n v K => by kernel_rfl)
def D25 (n : Nat) : CallF := orC 9 Z7.a (Z7.u n) (D24 n)
theorem D25_ok : ∀ n g a K, D25 n g a K -> callM C X0 n g a K := fun n => orC_ok (Z7_ok hX n) (D24_ok hX n)
abbrev Z19.a : List TS := [.a [.o (.int .i64), .o (.dat 39 (.int .u64))]]
def Z19.u (n : Nat) (v : VA Z19.a) (K : RES -> Prop) : Prop := Z19.c n v.1.1 v.1.2.1 (fun r0 => K ⟨.c (.row ⟨5, .int .u8, r0, 99, none⟩), []⟩)
abbrev Z19.l3.s : ST := ⟨[(1, .c (.o (.pbox 1 0))), (3, .c (.o (.own 96))), (4, .c (.o (.int .i64)))], [⟨96, 5, .int .u8, 99⟩], [⟨1, 26, [.o (.int .i64), .o (.dat 39 (.int .u64))], false, false⟩], [], []⟩
def Z19.l3.u (n : Nat) (v : Z19.l3.s.V) (K : X -> St -> Prop) : Prop := Z19.l3 n v.2.2.1.1 v.2.2.1.2.1 v.1.2.2.1 v.2.1.1 (fun y0 => K (.exit 0) ⟨[(3, .c (.own 96))], [(96, ⟨5, .int .u8, y0, 99, none⟩)], [], [], []⟩)
theorem Z19.l3_ok : ∀ n v K, Z19.l3.u n v K -> loopM C X0 n 31 3 (Z19.l3.s.fill v) K :=
 loop_tell hX (fn := Try.f31) (c := bodyOf Try.f31) (a := loopOf Try.f31 3) (li := liOf (C.fi 31).loops 3) (by kernel_rfl) (by kernel_rfl) (of_decide_eq_true rfl) (by kernel_rfl) (by kernel_rfl) (T := Z19.l3.s) (u := Z19.l3.u) (fun _ _ h => h) (call := D25) (lp := fun n => noL) (D25_ok hX) (fun n => noL_ok) (fun n v K => by kernel_rfl)
theorem Z19_ok : ∀ n v K, Z19.u n v K -> callM C X0 n 31 (fillA Z19.a v) K :=
 call_tell hX (fn := Try.f31) (c := bodyOf Try.f31) (by kernel_rfl) (by kernel_rfl) (A := Z19.a) (u := Z19.u) (fun _ _ h => h) (call := D25) (lp := fun n => orL 3 Z19.l3.s (Z19.l3.u n) noL) (D25_ok hX) (fun n => (orL_ok (Z19.l3_ok hX n) noL_ok)) (fun n v K => by kernel_rfl)
def D26 (n : Nat) : CallF := orC 31 Z19.a (Z19.u n) (D25 n)
theorem D26_ok : ∀ n g a K, D26 n g a K -> callM C X0 n g a K := fun n => orC_ok (Z19_ok hX n) (D25_ok hX n)
abbrev Z30.a : List TS := [.c (.o (.dat 5 (.int .u8)))]
def Z30.u (n : Nat) (v : VA Z30.a) (K : RES -> Prop) : Prop := Z30.c n v.1 (fun r0 => K ⟨.c (.row ⟨5, .int .u8, r0, 99, none⟩), []⟩)
abbrev Z30.l3.s : ST := ⟨[(0, .c (.o (.dat 5 (.int .u8)))), (3, .c (.o (.own 96))), (4, .c (.o (.int .i64)))], [⟨96, 5, .int .u8, 99⟩], [], [], []⟩
def Z30.l3.u (n : Nat) (v : Z30.l3.s.V) (K : X -> St -> Prop) : Prop := Z30.l3 n v.1.1 v.1.2.2.1 v.2.1.1 (fun y0 => K (.exit 0) ⟨[(3, .c (.own 96))], [(96, ⟨5, .int .u8, y0, 99, none⟩)], [], [], []⟩)
theorem Z30.l3_ok : ∀ n v K, Z30.l3.u n v K -> loopM C X0 n 26 3 (Z30.l3.s.fill v) K :=
 loop_tell hX (fn := Try.f26) (c := bodyOf Try.f26) (a := loopOf Try.f26 3) (li := liOf (C.fi 26).loops 3) (by kernel_rfl) (by kernel_rfl) (of_decide_eq_true rfl) (by kernel_rfl) (by kernel_rfl) (T := Z30.l3.s) (u := Z30.l3.u) (fun _ _ h => h) (call := D26) (lp := fun n => noL) (D26_ok hX) (fun n => noL_ok) (fun n v K => by kernel_rfl)
theorem Z30_ok : ∀ n v K, Z30.u n v K -> callM C X0 n 26 (fillA Z30.a v) K :=
 call_tell hX (fn := Try.f26) (c := bodyOf Try.f26) (by kernel_rfl) (by kernel_rfl) (A := Z30.a) (u := Z30.u) (fun _ _ h => h) (call := D26) (lp := fun n => orL 3 Z30.l3.s (Z30.l3.u n) noL) (D26_ok hX) (fun n => (orL_ok (Z30.l3_ok hX n) noL_ok)) (fun n v K => by kernel_rfl)
def D27 (n : Nat) : CallF := orC 26 Z30.a (Z30.u n) (D26 n)
theorem D27_ok : ∀ n g a K, D27 n g a K -> callM C X0 n g a K := fun n => orC_ok (Z30_ok hX n) (D26_ok hX n)
abbrev Z13.a : List TS := [.a [.o (.int .i64), .o (.dat 39 (.int .u64))]]
def Z13.u (n : Nat) (v : VA Z13.a) (K : RES -> Prop) : Prop := Z13.c n v.1.1 v.1.2.1 (fun r0 => K ⟨.c (.str r0), []⟩)
abbrev Z13.l8.s : ST := ⟨[(1, .c (.o (.pbox 1 0))), (3, .c (.o (.own 352))), (4, .c (.o (.own 128))), (5, .c (.o (.int .i64)))], [⟨128, 5, .int .u8, 99⟩, ⟨352, 5, .int .u8, 99⟩], [⟨1, 26, [.o (.int .i64), .o (.dat 39 (.int .u64))], false, false⟩], [], []⟩
def Z13.l8.u (n : Nat) (v : Z13.l8.s.V) (K : X -> St -> Prop) : Prop := Z13.l8 n v.2.1.2.1 v.2.2.1.1 v.2.2.1.2.1 v.1.2.2.2.1 v.2.1.1 (fun y0 => K (.exit 0) ⟨[(4, .c (.own 128))], [(128, ⟨5, .int .u8, y0, 99, none⟩)], [], [], []⟩)
theorem Z13.l8_ok : ∀ n v K, Z13.l8.u n v K -> loopM C X0 n 19 8 (Z13.l8.s.fill v) K :=
 loop_tell hX (fn := Try.f19) (c := bodyOf Try.f19) (a := loopOf Try.f19 8) (li := liOf (C.fi 19).loops 8) (by kernel_rfl) (by kernel_rfl) (of_decide_eq_true rfl) (by kernel_rfl) (by kernel_rfl) (T := Z13.l8.s) (u := Z13.l8.u) (fun _ _ h => h) (call := D27) (lp := fun n => noL) (D27_ok hX) (fun n => noL_ok) (fun n v K => by kernel_rfl)
theorem Z13_ok : ∀ n v K, Z13.u n v K -> callM C X0 n 19 (fillA Z13.a v) K :=
 call_tell hX (fn := Try.f19) (c := bodyOf Try.f19) (by kernel_rfl) (by kernel_rfl) (A := Z13.a) (u := Z13.u) (fun _ _ h => h) (call := D27) (lp := fun n => orL 8 Z13.l8.s (Z13.l8.u n) noL) (D27_ok hX) (fun n => (orL_ok (Z13.l8_ok hX n) noL_ok)) (fun n v K => by kernel_rfl)
def D28 (n : Nat) : CallF := orC 19 Z13.a (Z13.u n) (D27 n)
theorem D28_ok : ∀ n g a K, D28 n g a K -> callM C X0 n g a K := fun n => orC_ok (Z13_ok hX n) (D27_ok hX n)
abbrev Z10.a : List TS := [.c (.o (.dat 5 (.int .u8)))]
def Z10.u (n : Nat) (v : VA Z10.a) (K : RES -> Prop) : Prop := Z10.c n v.1 (fun r0 => K ⟨.c (.str r0), []⟩)
abbrev Z10.l9.s : ST := ⟨[(3, .c (.o (.pbox 8 0))), (4, .c (.o .str)), (6, .c (.o (.int .i64)))], [], [⟨8, 53, [.o (.dat 5 (.int .u8)), .o (.int .i64)], false, false⟩], [], []⟩
def Z10.l9.u (n : Nat) (v : Z10.l9.s.V) (K : X -> St -> Prop) : Prop := Z10.l9 n v.2.2.1.1 v.2.2.1.2.1 v.1.2.1 v.1.2.2.1 (fun y0 y1 y2 => K (.exit 0) ⟨[(3, .c (.pbox 8 0)), (4, .c (.str y0))], [], [(8, ⟨53, [.dat 5 (.int .u8) y1, .int .i64 y2], false, false⟩)], [], []⟩)
theorem Z10.l9_ok : ∀ n v K, Z10.l9.u n v K -> loopM C X0 n 10 9 (Z10.l9.s.fill v) K :=
 loop_tell hX (fn := Try.f10) (c := bodyOf Try.f10) (a := loopOf Try.f10 9) (li := liOf (C.fi 10).loops 9) (by kernel_rfl) (by kernel_rfl) (of_decide_eq_true rfl) (by kernel_rfl) (by kernel_rfl) (T := Z10.l9.s) (u := Z10.l9.u) (fun _ _ h => h) (call := D28) (lp := fun n => noL) (D28_ok hX) (fun n => noL_ok) (fun n v K => by kernel_rfl)
theorem Z10_ok : ∀ n v K, Z10.u n v K -> callM C X0 n 10 (fillA Z10.a v) K :=
 call_tell hX (fn := Try.f10) (c := bodyOf Try.f10) (by kernel_rfl) (by kernel_rfl) (A := Z10.a) (u := Z10.u) (fun _ _ h => h) (call := D28) (lp := fun n => orL 9 Z10.l9.s (Z10.l9.u n) noL) (D28_ok hX) (fun n => (orL_ok (Z10.l9_ok hX n) noL_ok)) (fun n v K => by kernel_rfl)
def D29 (n : Nat) : CallF := orC 10 Z10.a (Z10.u n) (D28 n)
theorem D29_ok : ∀ n g a K, D29 n g a K -> callM C X0 n g a K := fun n => orC_ok (Z10_ok hX n) (D28_ok hX n)
abbrev Z15.a : List TS := [.c (.o (.int .u8))]
def Z15.u (n : Nat) (v : VA Z15.a) (K : RES -> Prop) : Prop := Z15.c n v.1 (fun r0 => K ⟨.c (.bool r0), []⟩)
theorem Z15_ok : ∀ n v K, Z15.u n v K -> callM C X0 n 34 (fillA Z15.a v) K :=
 call_tell hX (fn := Try.f34) (c := bodyOf Try.f34) (by kernel_rfl) (by kernel_rfl) (A := Z15.a) (u := Z15.u) (fun _ _ h => h) (call := D29) (lp := fun n => noL) (D29_ok hX) (fun n => noL_ok) (fun n v K => by kernel_rfl)
def D30 (n : Nat) : CallF := orC 34 Z15.a (Z15.u n) (D29 n)
theorem D30_ok : ∀ n g a K, D30 n g a K -> callM C X0 n g a K := fun n => orC_ok (Z15_ok hX n) (D29_ok hX n)
abbrev Z17.a : List TS := [.c (.o (.int .u8))]
def Z17.u (n : Nat) (v : VA Z17.a) (K : RES -> Prop) : Prop := Z17.c n v.1 (fun r0 => K ⟨.c (.int .i64 r0), []⟩)
theorem Z17_ok : ∀ n v K, Z17.u n v K -> callM C X0 n 24 (fillA Z17.a v) K :=
 call_tell hX (fn := Try.f24) (c := bodyOf Try.f24) (by kernel_rfl) (by kernel_rfl) (A := Z17.a) (u := Z17.u) (fun _ _ h => h) (call := D30) (lp := fun n => noL) (D30_ok hX) (fun n => noL_ok) (fun n v K => by kernel_rfl)
def D31 (n : Nat) : CallF := orC 24 Z17.a (Z17.u n) (D30 n)
theorem D31_ok : ∀ n g a K, D31 n g a K -> callM C X0 n g a K := fun n => orC_ok (Z17_ok hX n) (D30_ok hX n)
abbrev Z12.a : List TS := [.c (.o .str)]
def Z12.u (n : Nat) (v : VA Z12.a) (K : RES -> Prop) : Prop := Z12.c n v.1 (fun r0 r1 r2 => K ⟨.tup [.agg [.int .i64 r0, .row ⟨39, .int .u64, r1, 99, none⟩], .c (.bool r2)], []⟩)
abbrev Z12.l13.s : ST := ⟨[(0, .c (.o .str)), (2, .c (.o (.pbox 2 0))), (4, .c (.o (.own 128))), (5, .c (.o (.int .i64))), (6, .c (.o (.int .i64))), (7, .c (.o (.int .i64)))], [⟨128, 5, .int .u8, 99⟩, ⟨1000065, 39, .int .u64, 99⟩], [⟨2, 26, [.o (.int .i64), .o (.own 1000065)], false, false⟩], [], []⟩
def Z12.l13.u (n : Nat) (v : Z12.l13.s.V) (K : X -> St -> Prop) : Prop := Z12.l13 n v.1.1 v.1.2.2.2.1 v.1.2.2.2.2.1 v.2.1.2.1 v.2.2.1.1 v.1.2.2.2.2.2.1 v.2.1.1 (fun y0 y1 y2 y3 y4 => K (.exit 2) ⟨[(0, .c (.str y0)), (2, .c (.pbox 2 0)), (4, .c (.own 128)), (5, .c (.int .i64 y1))], [(128, ⟨5, .int .u8, y2, 99, none⟩), (1000065, ⟨39, .int .u64, y3, 99, none⟩)], [(2, ⟨26, [.int .i64 y4, .own 1000065], false, false⟩)], [], []⟩)
abbrev Z12.l5.s : ST := ⟨[(0, .c (.o .str)), (2, .c (.o (.pbox 2 0))), (4, .c (.o (.own 128))), (5, .c (.o (.int .i64)))], [⟨128, 5, .int .u8, 99⟩, ⟨1000065, 39, .int .u64, 99⟩], [⟨2, 26, [.o (.int .i64), .o (.own 1000065)], false, false⟩], [], []⟩
def Z12.l5.u (n : Nat) (v : Z12.l5.s.V) (K : X -> St -> Prop) : Prop := Z12.l5 n v.1.1 v.1.2.2.2.1 v.2.1.1 v.2.1.2.1 v.2.2.1.1 (fun y0 y1 y2 => K (.exit 0) ⟨[(2, .c (.pbox 2 0)), (4, .c (.own 128))], [(128, ⟨5, .int .u8, y0, 99, none⟩), (1000065, ⟨39, .int .u64, y1, 99, none⟩)], [(2, ⟨26, [.int .i64 y2, .own 1000065], false, false⟩)], [], []⟩) (fun y0 y1 y2 => K .ret ⟨[(2, .c (.pbox 2 0)), (3, .c (.bool y0))], [(1729, ⟨39, .int .u64, y1, 99, none⟩)], [(2, ⟨26, [.int .i64 y2, .own 1729], false, false⟩)], [], []⟩)
theorem Z12.l13_ok : ∀ n v K, Z12.l13.u n v K -> loopM C X0 n 11 13 (Z12.l13.s.fill v) K :=
 loop_tell hX (fn := Try.f11) (c := bodyOf Try.f11) (a := loopOf Try.f11 13) (li := liOf (C.fi 11).loops 13) (by kernel_rfl) (by kernel_rfl) (of_decide_eq_true rfl) (by kernel_rfl) (by kernel_rfl) (T := Z12.l13.s) (u := Z12.l13.u) (fun _ _ h => h) (call := D31) (lp := fun n => noL) (D31_ok hX) (fun n => noL_ok) (fun n v K => by kernel_rfl)
theorem Z12.l5_ok : ∀ n v K, Z12.l5.u n v K -> loopM C X0 n 11 5 (Z12.l5.s.fill v) K :=
 loop_tell hX (fn := Try.f11) (c := bodyOf Try.f11) (a := loopOf Try.f11 5) (li := liOf (C.fi 11).loops 5) (by kernel_rfl) (by kernel_rfl) (of_decide_eq_true rfl) (by kernel_rfl) (by kernel_rfl) (T := Z12.l5.s) (u := Z12.l5.u) (fun _ _ h => h) (call := D31) (lp := fun n => orL 13 Z12.l13.s (Z12.l13.u n) noL) (D31_ok hX) (fun n => (orL_ok (Z12.l13_ok hX n) noL_ok)) (fun n v K => by kernel_rfl)
theorem Z12_ok : ∀ n v K, Z12.u n v K -> callM C X0 n 11 (fillA Z12.a v) K :=
 call_tell hX (fn := Try.f11) (c := bodyOf Try.f11) (by kernel_rfl) (by kernel_rfl) (A := Z12.a) (u := Z12.u) (fun _ _ h => h) (call := D31) (lp := fun n => orL 5 Z12.l5.s (Z12.l5.u n) noL) (D31_ok hX) (fun n => (orL_ok (Z12.l5_ok hX n) noL_ok)) (fun n v K => by kernel_rfl)
def D32 (n : Nat) : CallF := orC 11 Z12.a (Z12.u n) (D31 n)
theorem D32_ok : ∀ n g a K, D32 n g a K -> callM C X0 n g a K := fun n => orC_ok (Z12_ok hX n) (D31_ok hX n)
abbrev laws_FnBitsText.a : List TS := [.c (.o (.dat 5 (.int .u8))), .c (.o (.dat 5 (.int .u8)))]
def laws_FnBitsText.u (n : Nat) (v : VA laws_FnBitsText.a) (K : RES -> Prop) : Prop := laws_FnBitsText.c n v.1 v.2.1 (fun r0 => K ⟨.c (.bool r0), []⟩)
theorem laws_FnBitsText_ok : ∀ n v K, laws_FnBitsText.u n v K -> callM C X0 n 3 (fillA laws_FnBitsText.a v) K :=
 call_tell hX (fn := Try.f3) (c := bodyOf Try.f3) (by kernel_rfl) (by kernel_rfl) (A := laws_FnBitsText.a) (u := laws_FnBitsText.u) (fun _ _ h => h) (call := D32) (lp := fun n => noL) (D32_ok hX) (fun n => noL_ok) (fun n v K => by kernel_rfl)
def D33 (n : Nat) : CallF := orC 3 laws_FnBitsText.a (laws_FnBitsText.u n) (D32 n)
theorem D33_ok : ∀ n g a K, D33 n g a K -> callM C X0 n g a K := fun n => orC_ok (laws_FnBitsText_ok hX n) (D32_ok hX n)
end
end Go.Vsi
end
