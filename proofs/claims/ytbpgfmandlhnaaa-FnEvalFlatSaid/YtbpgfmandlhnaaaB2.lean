/- What the told functions answer. No statement is proved here. -/
import Derived.Test.YtbpgfmandlhnaaaB1

section
set_option linter.unusedVariables false
set_option linter.unusedSimpArgs false
set_option synthInstance.maxSize 4096
namespace Go.Vsi
def BIn (d : List tDecl) : Bt -> Prop
 | .c _ => True
 | .v i a => i < d.length /\ (a : Int) < (rd d i).2
def SIn (d : List tDecl) : Sg -> Prop
 | .c _ => True
 | .v i a w => i < d.length /\ ((a + w : Nat) : Int) <= (rd d i).2
theorem SIn.bits {d : List tDecl} : ∀ {s : Sg}, SIn d s -> ∀ b ∈ s.bits, BIn d b
 | .c l, _, b, hb => by
  obtain ⟨x, _, rfl⟩ := List.mem_map.1 hb; trivial
 | .v i a w, h, b, hb => by
  obtain ⟨k, hk, rfl⟩ := List.mem_map.1 hb
  rw [List.mem_range] at hk
  have := h.2
  exact ⟨h.1, by omega⟩
theorem meets_cv {s t : Sg} : meetB (cvS s) (cvS t) = meetsB s t := by
 match s, t with
 | .c l, .c m => rfl
 | .c l, .v j b u => rw [meetB, decide_eq_false (show ¬ (cvS (.c l)).1 = (cvS (.v j b u)).1 by simp only [cvS]; omega)]; rfl
 | .v i a w, .c m => rw [meetB, decide_eq_false (show ¬ (cvS (.v i a w)).1 = (cvS (.c m)).1 by simp only [cvS]; omega)]; rfl
 | .v i a w, .v j b u =>
  rw [meetB, meetsB, decide_eq_false (show ¬ (cvS (.v i a w)).1 = -1 by simp only [cvS]; omega), Bool.false_or]
  congr 1
  ·rw [Bool.eq_iff_iff, decide_eq_true_eq, decide_eq_true_eq]; simp only [cvS]; omega
  ·rw [Bool.eq_iff_iff, decide_eq_true_eq, decide_eq_true_eq]; simp only [cvS]; omega
theorem sumW_bits : ∀ {ss : List Sg}, sumW (ss.map cvS) = ((ss.flatMap Sg.bits).length : Int)
 | [] => rfl
 | s :: ss => by
  rw [List.map_cons, sumW_cons, sumW_bits, cvS_wid, List.flatMap_cons, List.length_append, s.bits_len]; omega
def NoMeet : List Sg -> Prop
 | s :: p :: r => meetsB p s = false /\ NoMeet (p :: r)
 | _ => True
theorem add1_no {d : List tDecl} {r : List Sg} {b : Bt} (hb : BIn d b) (h : NoMeet r /\ ∀ s ∈ r, SIn d s) : NoMeet (add1 r b) /\ ∀ s ∈ add1 r b, SIn d s := by
 obtain ⟨h, hs⟩ := h
 match r, b with
 | [], .c b => exact ⟨trivial, fun s h' => by rw [show add1 [] (.c b) = [.c [b]] from rfl, List.mem_singleton] at h'; subst h'; trivial⟩
 | [], .v j b => exact ⟨trivial, fun s h' => by rw [show add1 [] (.v j b) = [.v j b 1] from rfl, List.mem_singleton] at h'; subst h'; exact ⟨hb.1, by have := hb.2; omega⟩⟩
 | .c l :: r, .c b =>
  rw [show add1 (.c l :: r) (.c b) = .c (l ++ [b]) :: r from rfl]
  refine ⟨?_, fun s h' => ?_⟩
  ·match r, h with
   | [], _ => trivial
   | .c m :: r, h => exact h
   | .v _ _ _ :: r, h => exact h
  ·rcases List.mem_cons.1 h' with rfl | h'
   ·trivial
   ·exact hs s (List.mem_cons_of_mem _ h')
 | .c l :: r, .v j b =>
  rw [show add1 (.c l :: r) (.v j b) = .v j b 1 :: .c l :: r from rfl]
  refine ⟨⟨rfl, h⟩, fun s h' => ?_⟩
  rcases List.mem_cons.1 h' with rfl | h'
  ·exact ⟨hb.1, by have := hb.2; omega⟩
  ·exact hs s h'
 | .v i a w :: r, .c b =>
  rw [show add1 (.v i a w :: r) (.c b) = .c [b] :: .v i a w :: r from rfl]
  refine ⟨⟨rfl, h⟩, fun s h' => ?_⟩
  rcases List.mem_cons.1 h' with rfl | h'
  ·trivial
  ·exact hs s h'
 | .v i a w :: r, .v j b =>
  rw [add1]
  split
  ·rename_i hj
   obtain ⟨rfl, rfl⟩ := hj
   refine ⟨?_, fun s h' => ?_⟩
   ·match r, h with
    | [], _ => trivial
    | .c m :: r, h => exact h
    | .v _ _ _ :: r, h => exact h
   ·rcases List.mem_cons.1 h' with rfl | h'
    ·exact ⟨hb.1, by have := hb.2; omega⟩
    ·exact hs s (List.mem_cons_of_mem _ h')
  ·rename_i hj
   refine ⟨⟨?_, h⟩, fun s h' => ?_⟩
   ·rw [meetsB, <- Bool.not_eq_true, Bool.and_eq_true, decide_eq_true_eq, decide_eq_true_eq]; exact hj
   ·rcases List.mem_cons.1 h' with rfl | h'
    ·exact ⟨hb.1, by have := hb.2; omega⟩
    ·exact hs s h'
theorem adds_no {d : List tDecl} : ∀ {L : List Bt} {r : List Sg}, (∀ b ∈ L, BIn d b) -> NoMeet r /\ (∀ s ∈ r, SIn d s) -> NoMeet (L.foldl add1 r) /\ ∀ s ∈ L.foldl add1 r, SIn d s
 | [], r, _, h => h
 | b :: L, r, hb, h => by
  rw [List.foldl_cons]
  exact adds_no (fun b' h' => hb b' (List.mem_cons_of_mem _ h')) (add1_no (hb b List.mem_cons_self) h)
theorem segB_cv {d : List tDecl} : ∀ {s : Sg}, SOk s -> SIn d s -> s.wid <= 4096 -> segB d (cvS s) = true
 | .c l, h1, h2, hw => by
  have ho := wl_ok (l := l) h1 hw
  rw [segB, if_pos (show (cvS (.c l)).1 = -1 from rfl), Bool.and_eq_true, Bool.and_eq_true, decide_eq_true_eq, decide_eq_true_eq]
  refine ⟨⟨rfl, (bitsOk_W ho.words).2 ⟨?_, ?_, ?_, fun i hi => ho.top i hi⟩⟩, rfl⟩
  ·have : 1 <= l.length := h1
   show (1 : Int) <= (l.length : Int); omega
  ·have : l.length <= 4096 := hw
   show (l.length : Int) <= 4096; omega
  ·have := ho.len
   show ((wl l).length : Int) = ((l.length : Int) + 63) / 64; omega
 | .v i a w, h1, h2, hw => by
  have := h1.1; have := h2.1; have := h2.2
  rw [segB, if_neg (show ¬ (cvS (.v i a w)).1 = -1 by simp only [cvS]; omega), Bool.and_eq_true, Bool.and_eq_true, decide_eq_true_eq, decide_eq_true_eq, decide_eq_true_eq]
  refine ⟨⟨?_, rfl, rfl⟩, ?_⟩
  ·show (0 : Int) <= (i : Int) /\ (i : Int) <= (d.length : Int) - 1
   omega
  ·show (0 : Int) <= (a : Int) /\ (1 : Int) <= (w : Int) /\ (a : Int) + (w : Int) <= (rd d i).2
   omega
theorem flGo_app {d : List tDecl} : ∀ {l : List tSeg} {s : tSeg} {p : Option tSeg}, flGo d (l ++ [s]) p = (flGo d l p && segB d s && !(metP (match l.getLast? with | some q => some q | none => p) s))
 | [], s, p => by simp only [List.nil_append, flGo, List.getLast?_nil, Bool.true_and, Bool.and_true]
 | y :: l, s, p => by
  rw [List.cons_append, flGo, flGo_app (l := l), flGo]
  have : (match (y :: l).getLast? with | some q => some q | none => p) = (match l.getLast? with | some q => some q | none => some y) := by
   cases l with
   | nil => rfl
   | cons z l =>
    rw [List.getLast?_cons_cons]
    cases h : (z :: l).getLast? with
    | none => simp at h
    | some q => rfl
  rw [this]; simp only [Bool.and_assoc]
theorem flGo_cvl {d : List tDecl} : ∀ {r : List Sg}, NoMeet r -> (∀ s ∈ r, SOk s /\ SIn d s /\ s.wid <= 4096) -> flGo d (cvl r) none = true
 | [], _, _ => rfl
 | [s], h, hs => by
  obtain ⟨h1, h2, h3⟩ := hs s List.mem_cons_self
  rw [cvl_cons, show cvl [] = [] from rfl, flGo_app, segB_cv h1 h2 h3]; rfl
 | s :: p :: r, h, hs => by
  obtain ⟨h1, h2, h3⟩ := hs s List.mem_cons_self
  have ih := flGo_cvl h.2 (fun t ht => hs t (List.mem_cons_of_mem _ ht))
  rw [cvl_cons, flGo_app, segB_cv h1 h2 h3, ih, cvl_cons, List.getLast?_concat]
  simp only [metP, meets_cv, h.1]; rfl
theorem form_flatOk {d : List tDecl} {L : List Bt} (hd : declsOk d = true) (hL : KOk L) (hb : ∀ b ∈ L, BIn d b) (hl : (cf L).length <= 2000) : flatOkB d (cf L) = true := by
 have ho := form_ok hL.1
 obtain ⟨n1, n2⟩ := adds_no (d := d) (r := []) hb ⟨trivial, fun s hs => (by cases hs)⟩
 have hw : ∀ s ∈ form L, s.wid <= 4096 := fun s hs => by
  have h1 : s.bits.length <= (bitsR (form L)).length := by
   rw [bitsR]
   have hm : s ∈ (form L).reverse := List.mem_reverse.2 hs
   obtain ⟨a, b, e⟩ := List.append_of_mem hm
   rw [e, List.flatMap_append, List.flatMap_cons, List.length_append, List.length_append]; omega
  rw [bits_form, s.bits_len] at h1
  have := hL.2.2; omega
 have hsum : sumW (cf L) = (L.length : Int) := by
  rw [cf, cvl, sumW_bits]
  rw [show ((form L).reverse.flatMap Sg.bits) = L from bits_form L]
 have hne : 1 <= (cf L).length := by
  rw [cf, cvl_len]
  rcases Nat.eq_zero_or_pos (form L).length with h | h
  ·have h' := List.eq_nil_of_length_eq_zero h
   have := bits_form L
   rw [h'] at this
   have h1 := hL.2.1
   rw [<- this] at h1; simp [bitsR] at h1
  ·exact h
 have hg : flGo d (cf L) none = true := flGo_cvl n1 fun s hs => ⟨ho s hs, n2 s hs, hw s hs⟩
 rw [flatOkB, hd, flatOkI, decide_eq_true ⟨hne, hl⟩, hg, hsum, decide_eq_true (by have := hL.2.2; omega)]; rfl
end Go.Vsi
end

section
set_option linter.unusedVariables false
set_option linter.unusedSimpArgs false
set_option synthInstance.maxSize 4096
namespace Go.Vsi
def bvB (vals : List tBits) : Bt -> Bool
 | .c x => x
 | .v i a => bit (toN (rd vals i).2) a
def bvl (vals : List tBits) (l : List Bt) : List Bool := l.map (bvB vals)
def bw (vals : List tBits) (l : List Bt) : tBits := ((l.length : Int), W (wl (bvl vals l)))
theorem bvl_len (vals : List tBits) (l : List Bt) : (bvl vals l).length = l.length := List.length_map ..
theorem bvl_app (vals : List tBits) (l m : List Bt) : bvl vals (l ++ m) = bvl vals l ++ bvl vals m := List.map_append ..
theorem bit_wl (l : List Bool) (i : Nat) : bit (wl l) i = l.getD i false := by
 rw [wl, pk_bit]
 by_cases h : i < l.length
 ·rw [decide_eq_true h, Bool.true_and]
 ·rw [decide_eq_false h, Bool.false_and, List.getD_eq_getElem?_getD, List.getElem?_eq_none (by omega)]; rfl
theorem pk_wl {w : Nat} {f : Nat -> Bool} {m : List Bool} (h : m.length = w) (hf : ∀ i, i < w -> f i = m.getD i false) : pk w f = wl m := by subst h; exact pk_ext hf
theorem bw_val {vals : List tBits} {d : List tDecl} (hv : ValR d vals) {i : Nat} (hi : i < d.length) : rd vals i = bw vals (Sg.v i 0 (rd d i).2.toNat).bits := by
 obtain ⟨h1, h2⟩ := hv.2 i (by rw [hv.1]; exact hi)
 obtain ⟨w, ws, e, ho, _, _⟩ := h1.of
 have hw : (rd d i).2.toNat = w := by rw [<- h2, e]; simp
 rw [hw]
 have e2 : wl (bvl vals (Sg.v i 0 w).bits) = ws := by
  rw [wl_of ho, bvl, Sg.bits, List.map_map]
  congr 1
  refine List.map_congr_left fun k _ => ?_
  show bit (toN (rd vals i).2) (0 + k) = bit ws k
  rw [e, toN_W, Nat.zero_add]
 rw [bw, e2, Sg.bits_len, e]; rfl
theorem cat_bw (vals : List tBits) (a b : List Bt) : catB (bw vals a) (bw vals b) = bw vals (b ++ a) := by
 have := wl_app (bvl vals b) (bvl vals a)
 rw [bvl_len, bvl_len] at this
 simp only [catB, bw, Int.toNat_natCast, toN_W, this, bvl_app, List.length_append, Nat.add_comm]
theorem cats_bw (vals : List tBits) : ∀ (l : List (List Bt)) (a : List Bt), (l.map (bw vals)).foldl catB (bw vals a) = bw vals (l.reverse.flatten ++ a)
 | [], a => by simp
 | b :: l, a => by
  rw [List.map_cons, List.foldl_cons, cat_bw, cats_bw vals l]
  congr 1
  simp
theorem turn_bw (vals : List tBits) {b : List Bt} (hb : 1 <= b.length) (m : Int) : turnB (bw vals b) m = bw vals (rotF b (m.toNat % b.length)) := by
 have hm := Nat.mod_lt m.toNat (show 0 < b.length by omega)
 simp only [turnB, bw, Int.toNat_natCast, toN_W, rot_len]
 congr 2
 rw [turnW]
 refine pk_wl (by rw [bvl_len, rot_len]) fun i hi => ?_
 rw [bit_wl, rotF, bvl_app]
 generalize m.toNat % b.length = k at hm ⊢
 simp only [List.getD_eq_getElem?_getD]
 have e1 : bvl vals (b.drop (b.length - k)) = (bvl vals b).drop (b.length - k) := List.map_drop ..
 have e2 : bvl vals (b.take (b.length - k)) = (bvl vals b).take (b.length - k) := List.map_take ..
 rw [e1, e2]
 have hl := bvl_len vals b
 by_cases h : i < k
 ·rw [List.getElem?_append_left (by rw [List.length_drop]; omega), List.getElem?_drop, Nat.mod_eq_of_lt (by omega)]
  congr 2; omega
 ·rw [List.getElem?_append_right (by rw [List.length_drop]; omega), List.length_drop, List.getElem?_take_of_lt (by omega)]
  have : (i + (b.length - k)) % b.length = i - k := by
   rw [show i + (b.length - k) = (i - k) + b.length by omega, Nat.add_mod_right, Nat.mod_eq_of_lt (by omega)]
  rw [this]; congr 2; omega
theorem flat_rep_get {B : List Bool} : ∀ (r i : Nat), i < r * B.length -> ((List.replicate r B).flatten).getD i false = B.getD (i % B.length) false
 | 0, i, h => by omega
 | r + 1, i, h => by
  rw [List.replicate_succ, List.flatten_cons, List.getD_eq_getElem?_getD]
  by_cases hi : i < B.length
  ·rw [List.getElem?_append_left hi, Nat.mod_eq_of_lt hi, List.getD_eq_getElem?_getD]
  ·have hs : (r + 1) * B.length = r * B.length + B.length := by rw [Nat.add_mul]; omega
   have ih := flat_rep_get (B := B) r (i - B.length) (by omega)
   rw [List.getElem?_append_right (by omega), <- List.getD_eq_getElem?_getD, ih]
   congr 1
   conv => rhs; rw [show i = (i - B.length) + B.length by omega, Nat.add_mod_right]
theorem rep_bw (vals : List tBits) (b : List Bt) (r : Int) : repB (bw vals b) r = bw vals (List.replicate r.toNat b).flatten := by
 have e : bvl vals (List.replicate r.toNat b).flatten = (List.replicate r.toNat (bvl vals b)).flatten := by
  rw [bvl, List.map_flatten, List.map_replicate]; rfl
 have hl : ((List.replicate r.toNat b).flatten).length = r.toNat * b.length := by rw [List.length_flatten, List.map_replicate, List.sum_replicate_nat]
 simp only [repB, bw, Int.toNat_natCast, toN_W, hl]
 congr 2
 rw [repW, e]
 refine pk_wl (by rw [List.length_flatten, List.map_replicate, List.sum_replicate_nat, bvl_len]) fun i hi => ?_
 have := flat_rep_get (B := bvl vals b) r.toNat i (by rw [bvl_len]; exact hi)
 rw [bvl_len] at this
 rw [this, bit_wl]
theorem widen_bw (vals : List tBits) {b : List Bt} (hb : 1 <= b.length) (m : Int) (op : Int) : widenB (bw vals b) m (decide (op = 6)) = bw vals (b ++ List.replicate m.toNat (if op = 6 then rd b (b.length - 1) else .c false)) := by
 simp only [widenB, bw, Int.toNat_natCast, toN_W, List.length_append, List.length_replicate]
 congr 2
 rw [widenW]
 refine pk_wl (by rw [bvl_len]; simp) fun i hi => ?_
 rw [bvl_app, List.getD_eq_getElem?_getD]
 have hl := bvl_len vals b
 by_cases h : i < b.length
 ·rw [if_pos h, bit_wl, List.getElem?_append_left (by omega), List.getD_eq_getElem?_getD]
 ·rw [if_neg h, bit_wl, List.getElem?_append_right (by omega), show bvl vals (List.replicate m.toNat (if op = 6 then rd b (b.length - 1) else .c false)) = List.replicate m.toNat (bvB vals (if op = 6 then rd b (b.length - 1) else .c false)) from List.map_replicate .., List.getElem?_replicate, if_pos (by omega)]
  by_cases ho : op = 6
  ·rw [decide_eq_true ho, Bool.true_and, if_pos ho]
   have h1 : b.length - 1 < b.length := by omega
   simp [bvl, rd, List.getD_eq_getElem?_getD, h1]
  ·rw [decide_eq_false ho, Bool.false_and, if_neg ho]; rfl
theorem apply_bw {d : List tDecl} {x : tTNode} {w : Int} {kids : List (List Bt)} {vals : List tBits} (h : NodeF d x w kids) (h1 : 1 <= w) (hv : ValR d vals) (hx : Wd x.2.2.2.2.2.1) (hk : ∀ l ∈ kids, KOk l) :
  applyB vals x (kids.map (bw vals)) = bw vals (applyF d x kids) := by
 unfold applyB applyF
 cases h with
 | var c1 c2 c3 c4 =>
  rw [if_pos c1, if_pos c1]
  exact bw_val hv (by omega)
 | bits c1 c2 c3 =>
  rw [if_neg (by omega), if_pos c1, if_neg (by omega), if_pos c1]
  obtain ⟨us, e, hb⟩ := hx.of
  rw [e] at c2
  obtain ⟨q1, q2, q3, q4⟩ := (bitsOk_W hb).1 c2
  have ho : Ok x.2.2.2.2.1.toNat us := ⟨by omega, by omega, by omega, hb, fun i hi => q4 i (by omega)⟩
  rw [e, toN_W, bw, Sg.bits_len, Sg.wid, Sg.bits, bvl, List.map_map]
  have : (List.map (bvB vals ∘ Bt.c) ((List.range x.2.2.2.2.1.toNat).map (bit us))) = (List.range x.2.2.2.2.1.toNat).map (bit us) := by
   rw [List.map_map]; rfl
  rw [this, <- wl_of ho, List.length_map, List.length_range, Int.toNat_of_nonneg (by omega)]
 | cat _ c1 c2 =>
  rw [if_neg (by omega), if_neg (by omega), if_pos c1, if_neg (by omega), if_neg (by omega), if_pos c1]
  match kids, c2 with
  | [], c2 => simp at c2; omega
  | a :: l, c2 =>
   show ((List.map (bw vals) (a :: l)).drop 1).foldl catB (bw vals a) = _
   rw [List.map_cons, List.drop_one, List.tail_cons, cats_bw]
   congr 1
   simp
 | part b c1 c2 c3 c4 c5 =>
  rw [if_neg (by omega), if_neg (by omega), if_neg (by omega), if_pos c1, if_neg (by omega), if_neg (by omega), if_neg (by omega), if_pos c1, show rd [b] 0 = b from rfl, show rd (List.map (bw vals) [b]) 0 = bw vals b from rfl]
  simp only [cutB, bw, Int.toNat_natCast, toN_W]
  rw [wl_cut (by rw [bvl_len]; omega)]
  have e : bvl vals ((b.drop x.2.2.2.1.toNat).take (x.2.2.1 - x.2.2.2.1 + 1).toNat) = ((bvl vals b).drop x.2.2.2.1.toNat).take (x.2.2.1 - x.2.2.2.1 + 1).toNat := by
   rw [bvl, List.map_take, List.map_drop]; rfl
  rw [e, List.length_take, List.length_drop, Nat.min_eq_left (by omega)]
 | wide b c1 c2 c3 c4 =>
  have hb := hk b List.mem_cons_self
  rw [if_neg (by omega), if_neg (by omega), if_neg (by omega), if_neg (by omega), if_neg (by omega), if_neg (by omega), if_neg (by omega), if_neg (by omega), if_neg (by omega), if_neg (by omega), if_neg (by omega), if_neg (by omega), if_neg (by omega), if_neg (by omega), show rd [b] 0 = b from rfl, show rd (List.map (bw vals) [b]) 0 = bw vals b from rfl]
  exact widen_bw vals hb.2.1 _ _
 | turn b c1 c2 c3 c4 =>
  have hb := hk b List.mem_cons_self
  have hl := hb.2.1
  have n1 : ¬ x.1 = 1 := by omega
  have n2 : ¬ x.1 = 2 := by omega
  have n3 : ¬ x.1 = 3 := by omega
  have n4 : ¬ x.1 = 4 := by omega
  simp only [if_neg n1, if_neg n2, if_neg n3, if_neg n4]
  rw [show rd [b] 0 = b from rfl, show rd (List.map (bw vals) [b]) 0 = bw vals b from rfl]
  by_cases c7 : x.1 = 7
  ·simp only [if_pos c7]; exact turn_bw vals hl _
  ·have c8 : x.1 = 8 := by omega
   simp only [if_neg c7, if_pos c8]
   rw [turn_bw vals hl]
   congr 2
   have e : ((bw vals b).1 - x.2.2.1 % (bw vals b).1).toNat = b.length - x.2.2.1.toNat % b.length := by
    show ((b.length : Int) - x.2.2.1 % (b.length : Int)).toNat = _
    have : x.2.2.1 % (b.length : Int) = ((x.2.2.1.toNat % b.length : Nat) : Int) := by rw [Int.natCast_emod, Int.toNat_of_nonneg c2]
    rw [this]; omega
   rw [e]
 | rep b c1 c2 c3 c4 =>
  rw [if_neg (by omega), if_neg (by omega), if_neg (by omega), if_neg (by omega), if_neg (by omega), if_neg (by omega), if_pos c1, if_neg (by omega), if_neg (by omega), if_neg (by omega), if_neg (by omega), if_neg (by omega), if_neg (by omega), if_pos c1, show rd [b] 0 = b from rfl, show rd (List.map (bw vals) [b]) 0 = bw vals b from rfl]
  exact rep_bw vals b _
theorem apply_in {d : List tDecl} {x : tTNode} {w : Int} {kids : List (List Bt)} (h : NodeF d x w kids) (h1 : 1 <= w) (hk : ∀ l ∈ kids, KOk l /\ ∀ b ∈ l, BIn d b) : ∀ b ∈ applyF d x kids, BIn d b := by
 unfold applyF
 cases h with
 | var c1 c2 c3 c4 =>
  rw [if_pos c1]
  exact SIn.bits (s := .v _ 0 _) ⟨by omega, by omega⟩
 | bits c1 c2 c3 =>
  rw [if_neg (by omega), if_pos c1]
  exact SIn.bits (s := .c _) trivial
 | cat _ c1 c2 =>
  rw [if_neg (by omega), if_neg (by omega), if_pos c1]
  intro b hb
  obtain ⟨l, hl, hb⟩ := List.mem_flatten.1 hb
  exact (hk l (List.mem_reverse.1 hl)).2 b hb
 | part b c1 c2 c3 c4 c5 =>
  rw [if_neg (by omega), if_neg (by omega), if_neg (by omega), if_pos c1, show rd [b] 0 = b from rfl]
  exact fun y hy => (hk b List.mem_cons_self).2 y (List.mem_of_mem_drop (List.mem_of_mem_take hy))
 | wide b c1 c2 c3 c4 =>
  have hb := hk b List.mem_cons_self
  rw [if_neg (by omega), if_neg (by omega), if_neg (by omega), if_neg (by omega), if_neg (by omega), if_neg (by omega), if_neg (by omega), show rd [b] 0 = b from rfl]
  intro y hy
  rcases List.mem_append.1 hy with hy | hy
  ·exact hb.2 y hy
  ·rw [List.eq_of_mem_replicate hy]
   split
   ·exact hb.2 _ (rd_memN (by have := hb.1.2.1; omega))
   ·trivial
 | turn b c1 c2 c3 c4 =>
  have hb := hk b List.mem_cons_self
  have ht : ∀ k, ∀ y ∈ rotF b k, BIn d y := fun k y hy => by
   rcases List.mem_append.1 hy with hy | hy
   ·exact hb.2 y (List.mem_of_mem_drop hy)
   ·exact hb.2 y (List.mem_of_mem_take hy)
  rw [if_neg (by omega), if_neg (by omega), if_neg (by omega), if_neg (by omega), show rd [b] 0 = b from rfl]
  by_cases c7 : x.1 = 7
  ·rw [if_pos c7]; exact ht _
  ·rw [if_neg c7, if_pos (by omega)]; exact ht _
 | rep b c1 c2 c3 c4 =>
  have hb := hk b List.mem_cons_self
  rw [if_neg (by omega), if_neg (by omega), if_neg (by omega), if_neg (by omega), if_neg (by omega), if_neg (by omega), if_pos c1, show rd [b] 0 = b from rfl]
  intro y hy
  obtain ⟨k, hk', hy⟩ := List.mem_flatten.1 hy
  rw [List.eq_of_mem_replicate hk'] at hy
  exact hb.2 y hy
theorem kids_bw {vals : List tBits} {wide : List Int} {acc : List (List Bt)} {x : tTNode} (ha : AccF wide acc) (hk : kidsIn wide.length x.2.2.2.2.2.2 = true) : kidsB (acc.map (bw vals)) x = (kidsF acc x).map (bw vals) := by
 rw [kidsB, kidsF, List.map_map]
 rw [kidsIn, List.all_eq_true] at hk
 refine List.map_congr_left fun k hk' => ?_
 have h := hk k hk'
 rw [decide_eq_true_eq] at h
 have hl : k.toNat < acc.length := by have := ha.1; omega
 simp [rd, List.getD_eq_getElem?_getD, hl]
theorem evalGo_bw {d : List tDecl} {vals : List tBits} (hv : ValR d vals) : ∀ {ys : List tTNode} {wide : List Int} {used : List Bool} {acc a : List (List Bt)} {r : List Int × List Bool}, WOk wide -> (∀ x ∈ ys, Wd x.2.2.2.2.2.1) -> AccF wide acc -> (∀ l ∈ acc, ∀ b ∈ l, BIn d b) -> widthsGo d ys wide used = some r -> flatGo d ys acc = some a ->
  evalGo vals ys (acc.map (bw vals)) = a.map (bw vals) /\ (∀ l ∈ a, ∀ b ∈ l, BIn d b)
 | [], wide, used, acc, a, r, hw, _, ha, hi, h, hf => by rw [flatGo] at hf; cases hf; exact ⟨rfl, hi⟩
 | x :: ys, wide, used, acc, a, r, hw, hy, ha, hi, h, hf => by
  rw [widthsGo] at h
  cases hs : stepW d x wide with
  | none => rw [hs] at h; cases h
  | some w =>
   rw [hs] at h
   obtain ⟨g1, g2, g3, g4, g5, _⟩ := step_F hw ha hs
   rw [flatGo] at hf
   split at hf
   ·cases hf
   ·have hin := apply_in g1 g3 (fun l hl => ⟨g2 l hl, by
     obtain ⟨k, hk, rfl⟩ := List.mem_map.1 hl
     rw [kidsIn, List.all_eq_true] at g5
     have h5 := g5 k hk
     rw [decide_eq_true_eq] at h5
     exact hi _ (rd_memN (by have := ha.1; omega))⟩)
    have ih := evalGo_bw hv (hw.app (stepW_ok hs)) (fun y hy' => hy y (List.mem_cons_of_mem _ hy')) (ha.app (applyF_ok g1 g4 g3 g2)) (fun l hl => by
     rcases List.mem_append.1 hl with hl | hl
     ·exact hi l hl
     ·rw [List.mem_singleton.1 hl]; exact hin) h hf
    rw [evalGo, kids_bw ha g5, apply_bw g1 g3 hv (hy x List.mem_cons_self) g2]
    rw [List.map_append] at ih
    exact ih
end Go.Vsi
end

section
set_option linter.unusedVariables false
set_option linter.unusedSimpArgs false
namespace Go.Vsi
def Bytes (bs : List Int) : Prop := (∀ x ∈ bs, 0 <= x /\ x < 256) /\ (bs.length : Int) <= 4611686018427387904
def Pos (bs : List Int) (p : Int) : Prop := 0 <= p /\ p <= (bs.length : Int)
theorem rd_in {bs : List Int} {P : Int -> Prop} (h : ∀ x ∈ bs, P x) {i : Nat} (hi : i < bs.length) : P (rd bs i) := by
 simp only [rd, List.getD_eq_getElem?_getD, List.getElem?_eq_getElem hi, Option.getD_some]
 exact h _ (List.getElem_mem hi)
theorem big_wp {a : List Int} {R : Nat -> Bool -> Prop} (h : Ev fun n => R n (decide ((a.length : Int) > 1048576))) : Ev fun n => Z41.c n a (R n) := by
 refine Ev.succ ?_; simp only [Z41.c, Z41.w]; exact h.shift
theorem open_wp {bs : List Int} {R : Nat -> List Int -> Int -> Prop} (h : Ev fun n => R n bs 0) : Ev fun n => Z58.c n bs (R n) := by
 refine Ev.succ ?_; simp only [Z58.c, Z58.w]; exact h.shift
theorem next_wp {bs : List Int} {p : Int} {R : Nat -> Int -> List Int -> Int -> Prop} (hb : Bytes bs) (hp : Pos bs p) (h : ∀ r q, 0 <= r -> r < 256 -> Pos bs q -> Ev (fun n => R n r bs q)) :
  Ev (fun n => Z63.c n bs p (R n)) := by
 obtain ⟨hp0, hp1⟩ := hp
 have hl := hb.2
 refine Ev.succ ?_
 simp only [Z63.c, Z63.w]
 refine Ev.ite (fun hc => (h 0 p (by omega) (by omega) ⟨hp0, hp1⟩).shift) fun hc => ?_
 simp only [decide_eq_true_eq] at hc
 have hr := rd_in hb.1 (i := p.toNat) (by omega)
 simp (disch := omega) only [wrap64, Int.add_sub_cancel]
 exact Ev.grd (by simp; omega) (h _ _ hr.1 hr.2 ⟨by omega, by omega⟩).shift
theorem tmod_in {x m : Int} (hx : 0 <= x) (hm : 1 <= m) : 0 <= Int.tmod x m /\ Int.tmod x m < m := by
 rw [tmodP hx]; exact ⟨Int.emod_nonneg _ (by omega), Int.emod_lt_of_pos _ (by omega)⟩
theorem below_wp {bs : List Int} {p m : Int} {R : Nat -> Int -> List Int -> Int -> Prop} (hb : Bytes bs) (hp : Pos bs p) (hm : 1 <= m) (h : ∀ r q, 0 <= r -> r < m -> Pos bs q -> Ev (fun n => R n r bs q)) :
  Ev (fun n => Z59.c n bs p m (R n)) := by
 refine Ev.succ ?_
 simp only [Z59.c, Z59.w]
 refine Ev.ite (fun hc => (h 0 p (by omega) (by omega) hp).shift) fun hc => Ev.ite (fun hc' => next_wp hb hp fun r q h1 h2 h3 => ?_) fun hc' => next_wp hb hp fun r q h1 h2 h3 => next_wp hb h3 fun r' q' h1' h2' h3' => ?_
 ·have := tmod_in (x := r) (m := m) h1 hm
  exact Ev.grd (by simp; omega) (h _ _ this.1 this.2 h3).shift
 ·simp (disch := omega) only [wrap64]
  have := tmod_in (x := r * 256 + r') (m := m) (by omega) hm
  exact Ev.grd (by simp; omega) (h _ _ this.1 this.2 h3').shift
theorem once_wp {bs : List Int} {p m : Int} {R : Nat -> Bool -> List Int -> Int -> Prop} (hb : Bytes bs) (hp : Pos bs p) (hm : 1 <= m) (h : ∀ r q, Pos bs q -> Ev (fun n => R n r bs q)) :
  Ev (fun n => Z67.c n bs p m (R n)) := by
 refine Ev.succ ?_
 simp only [Z67.c, Z67.w]
 exact below_wp hb hp hm fun r q _ _ h3 => (h _ q h3).shift
theorem wide_wp {bs : List Int} {p : Int} {R : Nat -> Int -> List Int -> Int -> Prop} (hb : Bytes bs) (hp : Pos bs p) (h : ∀ r q, 1 <= r -> r <= 200 -> Pos bs q -> Ev (fun n => R n r bs q)) :
  Ev (fun n => Z69.c n bs p (R n)) := by
 refine Ev.succ ?_
 simp only [Z69.c, Z69.w]
 refine below_wp hb hp (by omega) fun r q h1 h2 h3 => Ev.ite (fun hc => below_wp hb h3 (by omega) fun r' q' h1' h2' h3' => ?_) fun hc => Ev.ite (fun hc' => below_wp hb h3 (by omega) fun r' q' h1' h2' h3' => ?_) fun hc' => below_wp hb h3 (by omega) fun r' q' h1' h2' h3' => ?_
 ·have hr : 1 <= rd ([63, 64, 65, 127, 128, 129, 200] : List Int) r'.toNat /\ rd ([63, 64, 65, 127, 128, 129, 200] : List Int) r'.toNat <= 200 :=
   rd_in (P := fun x => 1 <= x /\ x <= 200) (by decide) (by simp; omega)
  exact Ev.grd (by simp; omega) (h _ _ hr.1 hr.2 h3').shift
 ·simp (disch := omega) only [wrap64]; exact (h _ _ (by omega) (by omega) h3').shift
 ·simp (disch := omega) only [wrap64]; exact (h _ _ (by omega) (by omega) h3').shift
theorem word_lp_wp {bs : List Int} (hb : Bytes bs) : ∀ (m : Nat) (x4 : Int), x4 + m = 8 -> 0 <= x4 -> ∀ (x3 p : Int), 0 <= x3 -> x3 < 18446744073709551616 -> Pos bs p -> ∀ R : Nat -> Int -> List Int -> Int -> Prop,
  (∀ r q, 0 <= r -> r < 18446744073709551616 -> Pos bs q -> Ev (fun n => R n r bs q)) -> Ev (fun n => Z70.l3 n x3 x4 bs p (R n))
 | 0, x4, h, h0, x3, p, h3, h3', hp, R, hR => by
  refine Ev.succ ?_
  simp only [Z70.l3, Z70.l3.b]
  exact Ev.neg (by simp; omega) (hR _ _ h3 h3' hp).shift
 | m + 1, x4, h, h0, x3, p, h3, h3', hp, R, hR => by
  refine Ev.succ ?_
  simp only [Z70.l3, Z70.l3.b]
  refine Ev.pos (by simp; omega) (next_wp hb hp fun r q h1 h2 hq => ?_)
  rw [wrap64 (by omega) (by omega)]
  have := ibitsU .or (IntKind.wrap .u64 (x3 * 2 ^ 8)) (IntKind.wrap .u64 r)
  exact word_lp_wp hb m (x4 + 1) (by omega) (by omega) _ q this.1 this.2 hq (fun n => R (n + 1)) fun r q h1 h2 hq => (hR r q h1 h2 hq).shift
theorem word_wp {bs : List Int} {p : Int} {R : Nat -> Int -> List Int -> Int -> Prop} (hb : Bytes bs) (hp : Pos bs p) (h : ∀ r q, 0 <= r -> r < 18446744073709551616 -> Pos bs q -> Ev (fun n => R n r bs q)) :
  Ev (fun n => Z70.c n bs p (R n)) := by
 refine Ev.succ ?_
 simp only [Z70.c, Z70.w]
 exact word_lp_wp hb 8 0 (by omega) (by omega) 0 p (by omega) (by omega) hp (fun n => R (n + 1)) fun r q h1 h2 hq => (h r q h1 h2 hq).shift
theorem wrapW (x : Int) : IntKind.wrap .u64 (IntKind.wrap .i64 x) = x % 18446744073709551616 := by
 simp only [IntKind.wrap, IntKind.bits, IntKind.signed]
 simp; split <;> omega
def In64 (r : Int) : Prop := -9223372036854775808 <= r /\ r < 9223372036854775808
theorem near_wp {bs : List Int} {p a b : Int} {R : Nat -> Int -> List Int -> Int -> Prop} (hb : Bytes bs) (hp : Pos bs p) (ha : In64 a) (hbb : In64 b) (hab : b - a < 9223372036854775808)
  (h : ∀ r q, In64 r -> (a <= b -> a <= r /\ r <= b) -> Pos bs q -> Ev (fun n => R n r bs q)) : Ev (fun n => Z62.c n bs p a b (R n)) := by
 obtain ⟨a1, a2⟩ := ha; obtain ⟨b1, b2⟩ := hbb
 refine Ev.succ ?_
 simp only [Z62.c, Z62.w]
 refine below_wp hb hp (by omega) fun r q h1 h2 h3 => Ev.ite (fun hc => (h a q ⟨a1, a2⟩ (fun _ => by omega) h3).shift) fun hc => Ev.ite (fun hc => (h b q ⟨b1, b2⟩ (fun _ => by omega) h3).shift) fun hc' =>
  Ev.ite (fun hc => (h a q ⟨a1, a2⟩ (fun _ => by omega) h3).shift) fun hc'' => word_wp hb h3 fun w q' w1 w2 h3' => ?_
 simp only [decide_eq_true_eq] at hc''
 rw [wrap64 (x := b - a) (by omega) (by omega), wrapW]
 have e : (b - a + 1) % 18446744073709551616 = b - a + 1 := by omega
 rw [e]
 have hd : 0 <= Int.fdiv w (2 ^ 1) := by rw [fdivP (by decide)]; omega
 have ht := tmod_in (x := Int.fdiv w (2 ^ 1)) (m := b - a + 1) hd (by omega)
 generalize Int.tmod (Int.fdiv w (2 ^ 1)) (b - a + 1) = t at ht ⊢
 rw [wrap64 (x := t) (by omega) (by omega), wrap64 (x := a + t) (by omega) (by omega)]
 exact Ev.grd (by simp; omega) (h _ _ ⟨by omega, by omega⟩ (fun _ => by omega) h3').shift
theorem off_wp {bs : List Int} {p a b : Int} {R : Nat -> Int -> List Int -> Int -> Prop} (hb : Bytes bs) (hp : Pos bs p) (ha : In64 a) (hbb : In64 b) (hab : b - a < 9223372036854775808)
  (h : ∀ r q, In64 r -> Pos bs q -> Ev (fun n => R n r bs q)) : Ev (fun n => Z66.c n bs p a b (R n)) := by
 refine Ev.succ ?_
 simp only [Z66.c, Z66.w]
 refine once_wp hb hp (by omega) fun o q hq => Ev.ite (fun hc => below_wp hb hq (by omega) fun r q' h1 h2 hq' => ?_) fun hc => near_wp hb hq ha hbb hab fun r q' h1 _ hq' => (h r q' h1 hq').shift
 refine Ev.grd (by simp; omega) (h _ _ ?_ hq').shift
 refine rd_in (P := In64) ?_ (by simp; omega)
 intro x hx
 simp only [List.mem_cons, List.not_mem_nil, or_false] at hx
 rcases hx with rfl | rfl | rfl | rfl
 ·exact wrap64r _
 ·exact wrap64r _
 ·exact ⟨by omega, by omega⟩
 ·exact ⟨by omega, by omega⟩
theorem Wd.set {ws : List Int} (h : Wd ws) {i : Nat} {x : Int} (h0 : 0 <= x) (h1 : x < 18446744073709551616) : Wd (ws.set i x) := by
 intro y hy
 rcases List.mem_or_eq_of_mem_set hy with h' | rfl
 ·exact h y h'
 ·exact ⟨h0, by omega⟩
theorem Wd.rep (n : Nat) : Wd (List.replicate n 0) := by
 intro y hy
 rw [List.eq_of_mem_replicate hy]; omega
theorem Wd.nil : Wd [] := fun y hy => by cases hy
theorem from_lp_wp {l : List Int} (hl : l.length <= 4096) (x7 : List Int) (x8 x9 : Int) : ∀ (m : Nat) (x5 : Int), x5 + m = l.length -> 0 <= x5 -> ∀ (ws : List Int), ws.length = (l.length + 63) / 64 -> Wd ws ->
  ∀ R : Nat -> List Int -> List Int -> Int -> Int -> Prop, (∀ ws', ws'.length = (l.length + 63) / 64 -> Wd ws' -> Ev (fun n => R n ws' x7 x8 x9)) -> Ev (fun n => Z55.l5 n l x7 x8 x9 x5 ws (R n))
 | 0, x5, h, h0, ws, hw, hu, R, hR => by
  refine Ev.succ ?_
  simp only [Z55.l5, Z55.l5.b]
  exact Ev.neg (by simp; omega) (hR ws hw hu).shift
 | m + 1, x5, h, h0, ws, hw, hu, R, hR => by
  refine Ev.succ ?_
  simp only [Z55.l5, Z55.l5.b]
  refine Ev.pos (by simp; omega) ?_
  rw [tdivP h0, tmodP h0, wrap64 (x := x5 / 64) (by omega) (by omega), wrapU (x := x5 % 64) (by omega) (by omega), wrap64 (x := x5 + 1) (by omega) (by omega)]
  refine Ev.grd (by simp; omega) (Ev.grd (by simp; omega) (Ev.grd (by simp; omega) (Ev.grd (by simp; omega) ?_)))
  have i := ibitsU .or (rd ws (Int.toNat (x5 / 64))) (IntKind.wrap .u64 ((IntKind.wrap .u64 (rd l (Int.toNat x5))) * 2 ^ (Nat.min (Int.toNat (x5 % 64)) 64)))
  exact from_lp_wp hl x7 x8 x9 m (x5 + 1) (by omega) (by omega) _ (by rw [List.length_set]; exact hw) (hu.set i.1 i.2) (fun n => R (n + 1)) fun ws' h1 h2 => (hR ws' h1 h2).shift
theorem from_wp {l : List Int} {R : Nat -> Int -> List Int -> Bool -> Prop} (h1 : 1 <= l.length) (h2 : l.length <= 4096) (h : ∀ ws, ws.length = (l.length + 63) / 64 -> Wd ws -> Ev (fun n => R n l.length ws true)) :
  Ev (fun n => Z55.c n l (R n)) := by
 refine Ev.succ ?_
 simp only [Z55.c, Z55.w, Z55.j0]
 refine Ev.pos (by simp; omega) (Ev.neg (by simp; omega) ?_)
 have e : IntKind.wrap .i64 (Int.tdiv (IntKind.wrap .i64 ((l.length : Int) + 63)) 64) = (((l.length + 63) / 64 : Nat) : Int) := by
  rw [wrap64 (x := (l.length : Int) + 63) (by omega) (by omega), tdivP (by omega), wrap64 (by omega) (by omega)]; omega
 rw [e]
 refine Ev.grd (by simp; omega) ?_
 rw [Int.toNat_natCast]
 exact from_lp_wp h2 _ _ _ l.length 0 (by omega) (by omega) _ (by simp) (Wd.rep _) (fun n y22 y23 y24 y25 => R (n + 1) y25 y22 true) fun ws h3 h4 => (h ws h3 h4).shift
theorem bits_lp_wp {x10 x11 x12 x17 x18 : Int} {x15 x16 : List Int} (h10 : x10 <= 4096) : ∀ (m : Nat) (x13 : Int), x13 + m = x10 -> 0 <= x13 -> ∀ l : List Int, (l.length : Int) = x13 ->
  ∀ R : Nat -> List Int -> List Int -> List Int -> Int -> Int -> Prop, (∀ l' : List Int, (l'.length : Int) = x10 -> Ev (fun n => R n l' x15 x16 x17 x18)) -> Ev (fun n => Z60.l5 n x10 x11 x12 x15 x16 x17 x18 x13 l (R n))
 | 0, x13, h, h0, l, hl, R, hR => by
  refine Ev.succ ?_
  simp only [Z60.l5, Z60.l5.b]
  exact Ev.neg (by simp; omega) (hR l (by omega)).shift
 | m + 1, x13, h, h0, l, hl, R, hR => by
  have e : ∀ v : Int, Ev (fun n => Z60.l5 n x10 x11 x12 x15 x16 x17 x18 (x13 + 1) (l ++ [v]) (R (n + 1))) :=
   fun v => bits_lp_wp h10 m (x13 + 1) (by omega) (by omega) (l ++ [v]) (by simp; omega) (fun n => R (n + 1)) fun l' h' => (hR l' h').shift
  refine Ev.succ ?_
  simp only [Z60.l5, Z60.l5.b, Z60.j4]
  rw [wrap64 (x := x13 * 7) (by omega) (by omega), tmodP (by omega), wrapU (by omega) (by omega), wrap64 (x := x13 + 1) (by omega) (by omega)]
  refine Ev.pos (by simp; omega) (Ev.grd (by simp; omega) (Ev.ite (fun _ => Ev.ite (fun _ => ?_) fun _ => ?_) fun _ => Ev.ite (fun _ => ?_) fun _ => ?_))
  all_goals exact Ev.grd (by simp; omega) (e _)
theorem bits_wp {bs : List Int} {p m : Int} {R : Nat -> Int -> List Int -> List Int -> Int -> Prop} (hb : Bytes bs) (hp : Pos bs p) (h1 : 1 <= m) (h2 : m <= 4096)
  (h : ∀ ws q, (ws.length : Int) = (m + 63) / 64 -> Wd ws -> Pos bs q -> Ev (fun n => R n m ws bs q)) : Ev (fun n => Z60.c n bs p m (R n)) := by
 refine Ev.succ ?_
 simp only [Z60.c, Z60.w]
 refine word_wp hb hp fun w q _ _ hq => below_wp hb hq (by omega) fun r q' _ _ hq' => bits_lp_wp h2 m.toNat 0 (by omega) (by omega) [] rfl (fun n y33 y34 y35 y36 y37 => Z55.c n y33 (fun r38 r39 r40 => R (n + 1) r38 r39 y35 y36)) fun l hl => ?_
 refine from_wp (by omega) (by omega) fun ws h3 h4 => ?_
 rw [hl]
 exact (h ws q' (by omega) h4 hq').shift
def DBits (b : tBits) : Prop := In64 b.1 /\ Wd b.2 /\ (b.2.length : Int) <= 4096
theorem oddBits_wp {bs : List Int} {p : Int} {R : Nat -> Int -> List Int -> List Int -> Int -> Prop} (hb : Bytes bs) (hp : Pos bs p)
  (h : ∀ w ws q, DBits (w, ws) -> Pos bs q -> Ev (fun n => R n w ws bs q)) : Ev (fun n => Z64.c n bs p (R n)) := by
 refine Ev.succ ?_
 simp only [Z64.c, Z64.w, and_self]
 refine wide_wp hb hp fun w q w1 w2 hq => bits_wp hb hq w1 (by omega) fun ws q1 hl hw hq1 => below_wp hb hq1 (by omega) fun r q2 _ _ hq2 => Ev.ite (fun _ => ?_) fun _ => Ev.ite (fun _ => ?_) fun _ => Ev.ite (fun _ => ?_) fun _ => Ev.ite (fun _ => ?_) fun _ => Ev.ite (fun _ => ?_) fun _ => ?_
 ·rw [wrap64 (by omega) (by omega)]
  exact (h _ _ q2 ⟨⟨by show _ <= w + 1; omega, by show w + 1 < _; omega⟩, hw, by show (ws.length : Int) <= _; omega⟩ hq2).shift
 ·refine Ev.grd (by simp; omega) (h _ _ q2 ⟨⟨by show _ <= w; omega, by show w < _; omega⟩, ?_, by simp; omega⟩ hq2).shift
  intro x hx
  rcases List.mem_append.mp hx with hx | hx
  ·exact hw x hx
  ·rw [List.mem_singleton.mp hx]; omega
 ·rw [wrap64 (x := (ws.length : Int) - 1) (by omega) (by omega)]
  exact word_wp hb hq2 fun y q3 y1 y2 hq3 => Ev.grd (by simp; omega) (h _ _ q3 ⟨⟨by show _ <= w; omega, by show w < _; omega⟩, hw.set y1 y2, by simp; omega⟩ hq3).shift
 ·exact off_wp hb hq2 ⟨by omega, by omega⟩ ⟨by omega, by omega⟩ (by omega) fun y q3 hy hq3 => (h _ _ q3 ⟨hy, hw, by show (ws.length : Int) <= _; omega⟩ hq3).shift
 ·refine below_wp hb hq2 (by omega) fun y q3 y1 y2 hq3 => ?_
  rw [wrap64 (by omega) (by omega)]
  exact (h _ _ q3 ⟨⟨by show _ <= 4096 + y; omega, by show 4096 + y < _; omega⟩, Wd.rep _, by simp⟩ hq3).shift
 ·exact (h _ _ q2 ⟨⟨by show _ <= w; omega, by show w < _; omega⟩, hw, by show (ws.length : Int) <= _; omega⟩ hq2).shift
end Go.Vsi
end

section
set_option linter.unusedVariables false
set_option linter.unusedSimpArgs false
namespace Go.Vsi
def DDecls (d : List tDecl) : Prop := 1 <= d.length /\ d.length <= 7 /\ ∀ x ∈ d, 1 <= x.2 /\ x.2 <= 200
theorem decls_lp_wp {bs : List Int} (hb : Bytes bs) : ∀ (m : Nat) (x : Int), x = m -> ∀ (acc : List tDecl) (p : Int), acc.length + m <= 7 -> (∀ x ∈ acc, 1 <= x.2 /\ x.2 <= 200) -> Pos bs p -> ∀ R : Nat -> List tDecl -> List Int -> Int -> Prop,
  (∀ d q, d.length = acc.length + m -> (∀ x ∈ d, 1 <= x.2 /\ x.2 <= 200) -> Pos bs q -> Ev (fun n => R n d bs q)) -> Ev (fun n => Z61.l3 n x acc bs p (R n))
 | 0, x, hx, acc, p, hl, ha, hp, R, hR => by
  refine Ev.succ ?_
  simp only [Z61.l3, Z61.l3.b]
  exact Ev.neg (by simp; omega) (hR acc p (by omega) ha hp).shift
 | m + 1, x, hx, acc, p, hl, ha, hp, R, hR => by
  have key : ∀ (nm : List UInt8) (w q : Int), 1 <= w -> w <= 200 -> Pos bs q -> Ev (fun n => Z61.l3 n m (acc ++ [(nm, w)]) bs q (R (n + 1))) := fun nm w q h1 h2 hq =>
   decls_lp_wp hb m m rfl (acc ++ [(nm, w)]) q (by simp; omega) (fun x hx => by
    rcases List.mem_append.1 hx with hx | hx
    ·exact ha x hx
    ·rw [List.mem_singleton.1 hx]; exact ⟨h1, h2⟩) hq (fun n => R (n + 1)) fun d q h1 h2 h3 => (hR d q (by rw [h1, List.length_append, List.length_singleton]; omega) h2 h3).shift
  have e : IntKind.wrap .i64 (x - 1) = (m : Int) := by rw [wrap64] <;> omega
  refine Ev.succ ?_
  simp only [Z61.l3, Z61.l3.b, Z61.j3, e]
  refine Ev.pos (by simp; omega) (below_wp hb hp (by omega) fun r q h1 h2 hq => once_wp hb hq (by omega) fun o q1 hq1 => Ev.ite (fun _ => wide_wp hb hq1 fun w q2 w1 w2 hq2 => ?_) fun _ => ?_)
  ·exact Ev.grd (by simp; omega) (key _ _ _ w1 w2 hq2)
  ·rw [wrap64 (x := 1 + r) (by omega) (by omega)]
   exact Ev.grd (by simp; omega) (key _ _ _ (by omega) (by omega) hq1)
theorem decls_wp {bs : List Int} {p : Int} {R : Nat -> List tDecl -> List Int -> Int -> Prop} (hb : Bytes bs) (hp : Pos bs p) (h : ∀ d q, DDecls d -> Pos bs q -> Ev (fun n => R n d bs q)) :
  Ev (fun n => Z61.c n bs p (R n)) := by
 have hl := hb.2
 refine Ev.succ ?_
 simp only [Z61.c, Z61.w]
 rw [tdivP (by omega), wrap64 (x := (bs.length : Int) / 10) (by omega) (by omega), wrap64 (x := 2 + (bs.length : Int) / 10) (by omega) (by omega)]
 refine below_wp hb hp (by split <;> omega) fun r q h1 h2 hq => ?_
 have hr : r <= 5 := by split at h2 <;> omega
 rw [wrap64 (x := 1 + r) (by omega) (by omega)]
 exact decls_lp_wp hb (1 + r).toNat (1 + r) (by omega) [] q (by simp; omega) (fun x hx => by cases hx) hq (fun n => R (n + 1)) fun d q' h3 h4 hq' => (h d q' ⟨by simp at h3; omega, by simp at h3; omega, h4⟩ hq').shift
def DVals (v : List tBits) : Prop := v.length <= 7 /\ ∀ b ∈ v, DBits b
theorem rd_memL {α : Type} [Inhabited α] {l : List α} {P : α -> Prop} (h : ∀ x ∈ l, P x) {i : Nat} (hi : i < l.length) : P (rd l i) := by
 simp only [rd, List.getD_eq_getElem?_getD, List.getElem?_eq_getElem hi, Option.getD_some]
 exact h _ (List.getElem_mem hi)
theorem mem_setL {α : Type} {l : List α} {P : α -> Prop} (h : ∀ x ∈ l, P x) {i : Nat} {y : α} (hy : P y) : ∀ x ∈ l.set i y, P x := fun x hx => by
 rcases List.mem_or_eq_of_mem_set hx with h' | rfl
 ·exact h x h'
 ·exact hy
theorem mem_appL {α : Type} {l r : List α} {P : α -> Prop} (h : ∀ x ∈ l, P x) (h' : ∀ x ∈ r, P x) : ∀ x ∈ l ++ r, P x := fun x hx => (List.mem_append.1 hx).elim (h x) (h' x)
theorem mem_oneL {α : Type} {y : α} {P : α -> Prop} (h : P y) : ∀ x ∈ [y], P x := fun x hx => by rw [List.mem_singleton.1 hx]; exact h
theorem values_lp_wp {bs : List Int} (hb : Bytes bs) {d : List tDecl} (hd : d.length <= 7) : ∀ (m : Nat) (x : Int), x + m = d.length -> 0 <= x -> ∀ (acc : List tBits) (p : Int), (acc.length : Int) = x -> (∀ b ∈ acc, DBits b /\ 1 <= b.2.length) -> Pos bs p -> ∀ R : Nat -> List tBits -> List Int -> Int -> Prop,
  (∀ v q, v.length = d.length -> (∀ b ∈ v, DBits b /\ 1 <= b.2.length) -> Pos bs q -> Ev (fun n => R n v bs q)) -> Ev (fun n => Z68.l3 n d x acc bs p (R n))
 | 0, x, hx, h0, acc, p, hl, ha, hp, R, hR => by
  refine Ev.succ ?_
  simp only [Z68.l3, Z68.l3.b]
  exact Ev.neg (by simp; omega) (hR acc p (by omega) ha hp).shift
 | m + 1, x, hx, h0, acc, p, hl, ha, hp, R, hR => by
  refine Ev.succ ?_
  simp only [Z68.l3, Z68.l3.b]
  refine Ev.pos (by simp; omega) (Ev.grd (by simp; omega) ?_)
  have hm : ∀ t : Int, 1 <= (if (if 4096 < t then 4096 else t) > 1 then (if 4096 < t then 4096 else t) else 1) /\ (if (if 4096 < t then 4096 else t) > 1 then (if 4096 < t then 4096 else t) else 1) <= 4096 := fun t => by
   split <;> split <;> omega
  have hmm := hm (rd d x.toNat).2
  generalize (if (if 4096 < (rd d x.toNat).2 then 4096 else (rd d x.toNat).2) > 1 then (if 4096 < (rd d x.toNat).2 then 4096 else (rd d x.toNat).2) else 1) = w at hmm ⊢
  refine bits_wp hb hp hmm.1 hmm.2 fun ws q h1 h2 hq => Ev.grd (by simp; omega) ?_
  rw [wrap64 (by omega) (by omega)]
  exact values_lp_wp hb hd m (x + 1) (by omega) (by omega) (acc ++ [(w, ws)]) q (by simp; omega) (mem_appL ha (mem_oneL ⟨⟨⟨by show _ <= w; omega, by show w < _; omega⟩, h2, by show (ws.length : Int) <= _; omega⟩, by show 1 <= ws.length; omega⟩)) hq (fun n => R (n + 1)) fun v q h3 h4 h5 => (hR v q h3 h4 h5).shift
theorem values_wp {bs : List Int} {p : Int} {d : List tDecl} {R : Nat -> List tBits -> List Int -> Int -> Prop} (hb : Bytes bs) (hp : Pos bs p) (h1 : 1 <= d.length) (h7 : d.length <= 7) (h : ∀ v q, DVals v -> Pos bs q -> Ev (fun n => R n v bs q)) :
  Ev (fun n => Z68.c n bs p d (R n)) := by
 refine Ev.succ ?_
 simp only [Z68.c, Z68.w, and_self]
 refine values_lp_wp hb h7 d.length 0 (by omega) (by omega) [] p rfl (fun b hb => by cases hb) hp (fun n y41 y42 y43 => Z59.c n y42 y43 40 _) fun v q hl hv hq => ?_
 have hv1 : ∀ b ∈ v, DBits b := fun b hb => (hv b hb).1
 refine below_wp hb hq (by omega) fun r q1 _ _ hq1 => Ev.ite (fun _ => below_wp hb hq1 (by omega) fun i q2 i1 i2 hq2 => ?_) fun _ => Ev.ite (fun _ => ?_) fun _ => Ev.ite (fun _ => oddBits_wp hb hq1 fun w ws q2 hw hq2 => ?_) fun _ => ?_
 ·have hi := rd_memL (P := fun b : tBits => DBits b /\ 1 <= b.2.length) hv (i := i.toNat) (by omega)
  refine Ev.grd (by simp; omega) (word_wp hb hq2 fun y q3 y1 y2 hq3 => Ev.grd (by simp; omega) (h _ _ ⟨by simp; omega, mem_setL (y := ((rd v i.toNat).1, List.set (rd v i.toNat).2 0 y)) hv1 ⟨hi.1.1, hi.1.2.1.set y1 y2, by simpa using hi.1.2.2⟩⟩ hq3).shift)
 ·refine Ev.grd (by simp; omega) (h _ _ ⟨by simp; omega, fun b hb => hv1 b (List.mem_of_mem_take (List.mem_of_mem_drop hb))⟩ hq1).shift
 ·refine Ev.grd (by simp; omega) (h _ _ ⟨by simp; omega, mem_setL hv1 hw⟩ hq2).shift
 ·exact (h _ _ ⟨by omega, hv1⟩ hq1).shift
end Go.Vsi
end

section
set_option linter.unusedVariables false
set_option linter.unusedSimpArgs false
set_option synthInstance.maxSize 4096
namespace Go.Vsi
theorem sameL_lp {a b : Int} {l l' : List Int} (hl : l.length <= 1099511627776) (hll : l.length = l'.length) : ∀ (ys ys' : List Int) (x : Int), l.drop x.toNat = ys -> l'.drop x.toNat = ys' -> 0 <= x -> ∀ (Kx : Nat -> Prop) (Kr : Nat -> Bool -> Prop),
  (Ev (fun n => Z42.l4 n a l b l' x (Kx n) (Kr n)) ↔ if ys = ys' then Ev Kx else Ev (fun n => Kr n false))
 | [], [], x, h, h', h0, Kx, Kr => by
  have := drop_nil h h0
  refine Ev.suc.trans ?_
  simp (disch := omega) only [Z42.l4, Z42.l4.b, if_neg, decide_eq_true_eq, Ev.s0 Kx, if_true]
 | [], y' :: ys', x, h, h', h0, Kx, Kr => by
  have := drop_nil h h0; have := (drop_cons h' h0).1; omega
 | y :: ys, [], x, h, h', h0, Kx, Kr => by
  have := drop_nil h' h0; have := (drop_cons h h0).1; omega
 | y :: ys, y' :: ys', x, h, h', h0, Kx, Kr => by
  obtain ⟨e1, e2, e3⟩ := drop_cons h h0
  obtain ⟨_, f2, f3⟩ := drop_cons h' h0
  refine Ev.suc.trans ?_
  simp (disch := omega) only [Z42.l4, Z42.l4.b, if_pos, decide_eq_true_eq, Ev.s0 Kx, Ev.s1 Kr, grd_dec2, e2, f2, wrap64, Ev.iteI, Bool.not_eq_true', decide_eq_false_iff_not]
  rw [sameL_lp hl hll ys ys' (x + 1) e3 f3 (by omega), Ev.s0 Kx, Ev.s1 Kr]
  simp only [List.cons.injEq]
  (repeat' split) <;> first | rfl | (exfalso; simp_all; done)
theorem sameL_ev {a b : Int} {l l' : List Int} (hl : l.length <= 1099511627776) (R : Nat -> Bool -> Prop) :
  Ev (fun n => Z42.c n a l b l' (R n)) ↔ Ev (fun n => R n (decide (a = b /\ l = l'))) := by
 refine Ev.suc.trans ?_
 simp (disch := omega) only [Z42.c, Z42.w, Ev.iteI, Bool.not_eq_true', Bool.not_eq_false', decide_eq_true_eq, decide_eq_false_iff_not, Ev.s1 R]
 split
 ·split
  ·rw [decide_eq_false]; rintro ⟨_, e⟩; subst e; omega
  ·rw [sameL_lp hl (by omega) l l' 0 rfl rfl (by omega), Ev.s1 R, Ev.s1 R]
   split
   ·rw [decide_eq_true ⟨‹_›, ‹_›⟩]
   ·rw [decide_eq_false]; simp_all
 ·rw [decide_eq_false]; simp_all
end Go.Vsi
end

section
set_option linter.unusedVariables false
set_option linter.unusedSimpArgs false
set_option synthInstance.maxSize 4096
namespace Go.Vsi
def NodG (n : Nat) (x : tTNode) : Prop := Wd x.2.2.2.2.2.1 /\ x.2.2.2.2.2.1.length <= 4096 /\ x.2.2.2.2.2.2.length <= 3 /\ ∀ k ∈ x.2.2.2.2.2.2, 0 <= k /\ k < (n : Int)
theorem NodG.mono {n m : Nat} {x : tTNode} (h : NodG n x) (hm : n <= m) : NodG m x := ⟨h.1, h.2.1, h.2.2.1, fun k hk => by have := h.2.2.2 k hk; omega⟩
def DTerm (t : List tTNode) : Prop := 1 <= t.length /\ t.length <= 16 /\ ∀ x ∈ t, Wd x.2.2.2.2.2.1 /\ x.2.2.2.2.2.1.length <= 4096 /\ x.2.2.2.2.2.2.length <= 3
theorem copyNode_wp {a b c e f : Int} {w ks : List Int} {R : Nat -> Int -> Int -> Int -> Int -> Int -> List Int -> List Int -> Prop} (hw : w.length <= 4096) (hk : ks.length <= 4096) (h : Ev (fun n => R n a b c e f w ks)) :
  Ev (fun n => Z71.c n a b c e f w ks (R n)) := by
 refine Ev.succ ?_
 simp only [Z71.c, Z71.w, and_self, List.nil_append]
 exact Ev.grd (by simp; omega) (Ev.grd (by simp; omega) h.shift)
theorem prune18_wp {N : List tTNode} {i : Int} {out : List tTNode} {used : List Bool} {to w : List Int} {a b c e f : Int} (hto : to.length <= 1000) : ∀ (m : Nat) (x : Int) (ks : List Int), x + m = ks.length -> 0 <= x -> ks.length <= 1000 -> (∀ k ∈ ks.drop x.toNat, 0 <= k /\ k < (to.length : Int)) ->
  ∀ R : Nat -> List tTNode -> Int -> List tTNode -> List Bool -> List Int -> List Int -> List Int -> Int -> Int -> Int -> Int -> Int -> Prop, (∀ ks', ks'.length = ks.length -> Ev (fun n => R n N i out used to w ks' a b c e f)) ->
   Ev (fun n => Z77.l18 n N i out used to w a b c e f x ks (R n))
 | 0, x, ks, hx, h0, hl, hk, R, hR => by
  refine Ev.succ ?_
  simp only [Z77.l18, Z77.l18.b]
  exact Ev.neg (by simp; omega) (hR ks rfl).shift
 | m + 1, x, ks, hx, h0, hl, hk, R, hR => by
  have hlt : x.toNat < ks.length := by omega
  have hd : ks.drop x.toNat = rd ks x.toNat :: ks.drop (x.toNat + 1) := by
   rw [List.drop_eq_getElem_cons hlt]; simp [rd, List.getD_eq_getElem?_getD, hlt]
  have hin := hk (rd ks x.toNat) (by rw [hd]; exact List.mem_cons_self)
  refine Ev.succ ?_
  simp only [Z77.l18, Z77.l18.b]
  refine Ev.pos (by simp; omega) (Ev.grd (by simp; omega) (Ev.grd (by simp; omega) (Ev.grd (by simp; omega) ?_)))
  rw [wrap64 (by omega) (by omega)]
  exact prune18_wp hto m (x + 1) _ (by simp; omega) (by omega) (by simpa using hl) (fun k hk' => hk k (by
   rw [show (x + 1).toNat = x.toNat + 1 by omega, List.drop_set_of_lt (by omega)] at hk'
   rw [hd]; exact List.mem_cons_of_mem _ hk')) (fun n => R (n + 1)) fun ks' h' => (hR ks' (by simpa using h')).shift
theorem prune8_wp {N : List tTNode} {i : Int} {to : List Int} {root : Nat} (h0 : 0 <= i) (hi : i < (N.length : Int)) (hN : N.length <= 1000) (hx : NodG N.length (rd N i.toNat)) : ∀ (m : Nat) (k : Int), k + m = (rd N i.toNat).2.2.2.2.2.2.length -> 0 <= k -> ∀ used : List Bool, used.length = N.length -> rd used root = true ->
  ∀ R : Nat -> List tTNode -> Int -> List Bool -> List Int -> Prop, (∀ u : List Bool, u.length = N.length -> rd u root = true -> Ev (fun n => R n N i u to)) -> Ev (fun n => Z77.l8 n N i to k used (R n))
 | 0, k, hk, hk0, used, hu, hr, R, hR => by
  refine Ev.succ ?_
  simp only [Z77.l8, Z77.l8.b]
  refine Ev.grd (by simp; omega) (Ev.ite (fun _ => Ev.grd (by simp; omega) (Ev.neg (by simp; omega) (hR used hu hr).shift)) fun _ => (hR used hu hr).shift)
 | m + 1, k, hk, hk0, used, hu, hr, R, hR => by
  have hkk := rd_memL (P := fun z : Int => 0 <= z /\ z < (N.length : Int)) hx.2.2.2 (i := k.toNat) (by omega)
  refine Ev.succ ?_
  simp only [Z77.l8, Z77.l8.b, Z77.j1]
  refine Ev.grd (by simp; omega) (Ev.ite (fun _ => Ev.grd (by simp; omega) (Ev.pos (by simp; omega) (Ev.grd (by simp; omega) (Ev.grd (by simp; omega) (Ev.grd (by simp; omega) ?_))))) fun _ => (hR used hu hr).shift)
  have h3 := hx.2.2.1
  rw [wrap64 (by omega) (by omega)]
  refine prune8_wp h0 hi hN hx m (k + 1) (by omega) (by omega) _ (by simpa using hu) ?_ (fun n => R (n + 1)) fun u h1 h2 => (hR u h1 h2).shift
  generalize (rd (rd N i.toNat).2.2.2.2.2.2 k.toNat).toNat = j
  by_cases hj : j = root
  ·subst hj
   by_cases hl : j < used.length
   ·exact rd_set hl
   ·rw [List.set_eq_of_length_le (by omega)]; exact hr
  ·simpa [rd, List.getD_eq_getElem?_getD, List.getElem?_set_ne hj] using hr
theorem prune5_wp {N : List tTNode} {to : List Int} {root : Nat} (hN : N.length <= 1000) (hx : ∀ x ∈ N, NodG N.length x) : ∀ (m : Nat) (i : Int), i + 1 = m -> m <= N.length -> ∀ used : List Bool, used.length = N.length -> rd used root = true ->
  ∀ R : Nat -> List tTNode -> List Bool -> List Int -> Prop, (∀ u : List Bool, u.length = N.length -> rd u root = true -> Ev (fun n => R n N u to)) -> Ev (fun n => Z77.l5 n N i used to (R n))
 | 0, i, hi, hm, used, hu, hr, R, hR => by
  refine Ev.succ ?_
  simp only [Z77.l5, Z77.l5.b]
  exact Ev.neg (by simp; omega) (hR used hu hr).shift
 | m + 1, i, hi, hm, used, hu, hr, R, hR => by
  refine Ev.succ ?_
  simp only [Z77.l5, Z77.l5.b]
  refine Ev.pos (by simp; omega) (prune8_wp (by omega) (by omega) hN (rd_memL hx (by omega)) (rd N i.toNat).2.2.2.2.2.2.length 0 (by omega) (by omega) used hu hr (fun n y56 y57 y58 y59 => Z77.l5 n y56 (IntKind.wrap .i64 (y57 - 1)) y58 y59 (R (n + 1))) fun u h1 h2 => ?_)
  rw [wrap64 (by omega) (by omega)]
  exact prune5_wp hN hx m (i - 1) (by omega) (by omega) u h1 h2 (fun n => R (n + 1)) fun u h3 h4 => (hR u h3 h4).shift
def OutG (x : tTNode) : Prop := Wd x.2.2.2.2.2.1 /\ x.2.2.2.2.2.1.length <= 4096 /\ x.2.2.2.2.2.2.length <= 3
theorem prune13_wp {N : List tTNode} {used : List Bool} {root : Nat} (hN : N.length <= 1000) (hx : ∀ x ∈ N, NodG N.length x) (hu : used.length = N.length) (hr : rd used root = true) : ∀ (m : Nat) (i : Int), i + m = N.length -> 0 <= i -> ∀ (out : List tTNode) (to : List Int), to.length = N.length -> (∀ x ∈ out, OutG x) -> (out.length : Int) <= i -> (root < i -> 1 <= out.length) ->
  ∀ R : Nat -> List tTNode -> Prop, (∀ t : List tTNode, t.length <= N.length -> (∀ x ∈ t, OutG x) -> (root < N.length -> 1 <= t.length) -> Ev (fun n => R n t)) -> Ev (fun n => Z77.l13 n N i out used to (R n))
 | 0, i, hi, h0, out, to, ht, ho, hl, h1, R, hR => by
  refine Ev.succ ?_
  simp only [Z77.l13, Z77.l13.b]
  exact Ev.neg (by simp; omega) (hR out (by omega) ho fun h => h1 (by omega)).shift
 | m + 1, i, hi, h0, out, to, ht, ho, hl, h1, R, hR => by
  have hg := rd_memL hx (i := i.toNat) (by omega)
  refine Ev.succ ?_
  simp only [Z77.l13, Z77.l13.b]
  refine Ev.pos (by simp; omega) (Ev.grd (by simp; omega) (Ev.ite (fun hn => ?_) fun hn => Ev.grd (by simp; omega) ?_))
  ·rw [wrap64 (by omega) (by omega)]
   refine prune13_wp hN hx hu hr m (i + 1) (by omega) (by omega) out to ht ho (by omega) (fun h => ?_) (fun n => R (n + 1)) fun t a b c => (hR t a b c).shift
   by_cases he : root < i
   ·exact h1 he
   ·have : root = i.toNat := by omega
    rw [<- this, hr] at hn; simp at hn
  ·refine copyNode_wp (R := fun n r214 r215 r216 r217 r218 r219 r220 => Z77.l18 n N i out used to r219 r214 r215 r216 r217 r218 0 r220 _) hg.2.1 (by have := hg.2.2.1; omega) ?_
   refine prune18_wp (by omega) (rd N i.toNat).2.2.2.2.2.2.length 0 (rd N i.toNat).2.2.2.2.2.2 (by omega) (by omega) (by have := hg.2.2.1; omega) (by rw [ht]; exact hg.2.2.2) (fun n y233 y234 y235 y236 y237 y238 y239 y240 y241 y242 y243 y244 => _) fun ks hks => ?_
   rw [wrap64 (x := i + 1) (by omega) (by omega)]
   refine Ev.grd (by simp; omega) (Ev.grd (by simp; omega) ?_)
   exact prune13_wp hN hx hu hr m (i + 1) (by omega) (by omega) _ _ (by simpa using ht) (mem_appL ho (mem_oneL (y := (_, _, _, _, _, _, ks)) ⟨hg.1, hg.2.1, by have := hg.2.2.1; show ks.length <= 3; omega⟩)) (by simp; omega) (fun _ => by simp) (fun n => R (n + 1)) fun t a b c => (hR t a b c).shift
theorem prune_wp {N : List tTNode} {root : Int} {R : Nat -> List tTNode -> Prop} (hN : N.length <= 1000) (hx : ∀ x ∈ N, NodG N.length x) (h0 : 0 <= root) (h1 : root < (N.length : Int))
  (h : ∀ t : List tTNode, t.length <= N.length -> (∀ x ∈ t, OutG x) -> 1 <= t.length -> Ev (fun n => R n t)) : Ev (fun n => Z77.c n N root (R n)) := by
 refine Ev.succ ?_
 simp only [Z77.c, Z77.w, Int.toNat_natCast]
 rw [wrap64 (by omega) (by omega)]
 refine Ev.grd (by simp; omega) (Ev.grd (by simp; omega) (Ev.grd (by simp; omega) ?_))
 refine prune5_wp (root := root.toNat) hN hx N.length _ (by omega) (by omega) _ (by simp) (rd_set (by simp; omega)) (fun n y63 y64 y65 => Z77.l13 n y63 0 [] y64 y65 (fun y248 => R (n + 1) y248)) fun u hu hr => ?_
 exact prune13_wp hN hx hu hr N.length 0 (by omega) (by omega) [] _ (by simp) (fun x hx => by cases hx) (by simp) (fun h => by omega) (fun n => R (n + 1)) fun t a b c => (h t a b (c (by omega))).shift
theorem fit_wp {t : List tTNode} {at' wide want : Int} {R : Nat -> List tTNode -> Prop} (ht : t.length <= 1000) (hx : ∀ x ∈ t, OutG x) (h : ∀ t' : List tTNode, t.length <= t'.length -> t'.length <= t.length + 1 -> (∀ x ∈ t', OutG x) -> Ev (fun n => R n t')) :
  Ev (fun n => Z72.c n t at' wide want (R n)) := by
 refine Ev.succ ?_
 simp only [Z72.c, Z72.w]
 refine Ev.ite (fun _ => Ev.grd (by simp; omega) (h _ (by simp) (by simp) (mem_appL hx (mem_oneL ⟨Wd.nil, by simp, by simp⟩))).shift) fun _ => Ev.ite (fun _ => Ev.grd (by simp; omega) (h _ (by simp) (by simp) (mem_appL hx (mem_oneL ⟨Wd.nil, by simp, by simp⟩))).shift) fun _ => (h t (by omega) (by omega) hx).shift
theorem q34_wp {d : List tDecl} {want top wide count op : Int} {flag : Bool} {N z : List tTNode} {ks w : List Int} {bs : List Int} {p a b c e f : Int} {R : Nat -> List tDecl -> Int -> Int -> Int -> Int -> List tTNode -> List Int -> List Int -> List tTNode -> List Int -> Int -> Int -> Int -> Int -> Int -> Int -> Prop} (hb : Bytes bs) (hp : Pos bs p)
  (h1 : 1 <= wide) (h2 : wide <= 200) (h : ∀ wide' c' q, 1 <= wide' -> wide' <= 1000 -> Pos bs q -> Ev (fun n => R n d want top wide' count N ks w z bs q a b c' e f)) :
  Ev (fun n => Z74.q34 n d want top wide count op flag N ks w z bs p a b c e f (R n)) := by
 refine Ev.succ ?_
 simp only [Z74.q34, Z74.q34.b, Z74.j0]
 have k9 : Ev (fun n => Z59.c n bs p 9 fun r108 r109 r110 => R (n + 1) d want top wide count N ks w z r109 r110 a b r108 e f) := below_wp hb hp (by omega) fun r q r1 r2 hq => (h _ _ q h1 (by omega) hq).shift
 have k3 : Ev (fun n => Z59.c n bs p 3 fun r111 r112 r113 => R (n + 1) d want top (IntKind.wrap .i64 (wide * (IntKind.wrap .i64 (1 + r111)))) count N ks w z r112 r113 a b (IntKind.wrap .i64 (1 + r111)) e f) := below_wp hb hp (by omega) fun r q r1 r2 hq => by
  have e1 : r = 0 \/ r = 1 \/ r = 2 := by omega
  have e2 : IntKind.wrap .i64 (1 + r) = 1 + r := wrap64 (by omega) (by omega)
  have e3 : 1 <= wide * (1 + r) /\ wide * (1 + r) <= 1000 := by rcases e1 with rfl | rfl | rfl <;> omega
  rw [e2, wrap64 (x := wide * (1 + r)) (by omega) (by omega)]
  exact (h _ _ q e3.1 e3.2 hq).shift
 have k0 : Ev (fun n => R (n + 1) d want top wide count N ks w z bs p a b c e f) := (h _ _ p h1 (by omega) hp).shift
 refine Ev.ite (fun _ => below_wp hb hp (by omega) fun r q r1 r2 hq => ?_) fun _ => Ev.ite (fun _ => by simpa using k9) fun _ => Ev.ite (fun _ => k9) fun _ => Ev.ite (fun _ => k3) fun _ => k0
 rw [wrap64 (by omega) (by omega)]
 exact (h _ _ q (by omega) (by omega) hq).shift
end Go.Vsi
end

section
set_option linter.unusedVariables false
set_option linter.unusedSimpArgs false
set_option synthInstance.maxSize 4096
namespace Go.Vsi
theorem NodG.app {N : List tTNode} {x : tTNode} (hN : ∀ y ∈ N, NodG N.length y) (hx : NodG (N.length + 1) x) : ∀ y ∈ N ++ [x], NodG (N ++ [x]).length y := by
 rw [List.length_append, List.length_singleton]
 exact mem_appL (fun y hy => (hN y hy).mono (by omega)) (mem_oneL hx)
theorem NodG.of {n : Nat} {op v a b w : Int} {ws ks : List Int} (hw : Wd ws) (hl : ws.length <= 4096) (hk : ks.length <= 3) (h : ∀ k ∈ ks, 0 <= k /\ k < (n : Int)) : NodG n (op, v, a, b, w, ws, ks) := ⟨hw, hl, hk, h⟩
theorem grow_lp_wp {bs : List Int} (hb : Bytes bs) {d : List tDecl} (hd : DDecls d) {want : Int} {z : List tTNode} : ∀ (m : Nat) (count top wide : Int) (N : List tTNode) (p : Int), count = m -> m <= 7 -> N.length + 2 * m <= 14 -> (∀ x ∈ N, NodG N.length x) ->
  ((top = -1 /\ N = [] /\ 1 <= m) \/ (0 <= top /\ top < (N.length : Int) /\ 1 <= wide /\ wide <= 200)) -> Pos bs p -> ∀ R : Nat -> List tDecl -> Int -> Int -> List tTNode -> List tTNode -> List Int -> Int -> Prop,
  (∀ top' N' q, N'.length <= 14 -> (∀ x ∈ N', NodG N'.length x) -> 0 <= top' -> top' < (N'.length : Int) -> Pos bs q -> Ev (fun n => R n d want top' N' z bs q)) -> Ev (fun n => Z74.l5 n d want top wide count N z bs p (R n))
 | 0, count, top, wide, N, p, hc, hm, hl, hN, hI, hp, R, hR => by
  refine Ev.succ ?_
  simp only [Z74.l5, Z74.l5.b]
  refine Ev.neg (by first | (simp; done) | (simp; omega)) ?_
  rcases hI with ⟨_, _, h⟩ | ⟨h1, h2, _⟩
  ·omega
  ·exact (hR top N p (by omega) hN h1 h2 hp).shift
 | m + 1, count, top, wide, N, p, hc, hm, hl, hN, hI, hp, R, hR => by
  obtain ⟨d1, d2, d3⟩ := hd
  have e : IntKind.wrap .i64 (count - 1) = (m : Int) := by rw [wrap64] <;> omega
  have e2 : ∀ L : tTNode, IntKind.wrap .i64 (((N ++ [L]).length : Int) - 1) = (N.length : Int) := fun L => by rw [wrap64] <;> simp <;> omega
  have e3 : ∀ L x : tTNode, IntKind.wrap .i64 ((((N ++ [L]) ++ [x]).length : Int) - 1) = (N.length : Int) + 1 := fun L x => by rw [wrap64] <;> simp <;> omega
  have again : ∀ (tp wd : Int) (N' : List tTNode) (q : Int), N'.length + 2 * m <= 14 -> (∀ x ∈ N', NodG N'.length x) -> 0 <= tp -> tp < (N'.length : Int) -> 1 <= wd -> wd <= 200 -> Pos bs q -> Ev (fun n => Z74.l5 n d want tp wd m N' z bs q (R (n + 1))) := fun tp wd N' q h1 h2 h3 h4 h5 h6 h7 =>
   grow_lp_wp hb ⟨d1, d2, d3⟩ m m tp wd N' q rfl (by omega) h1 h2 (.inr ⟨h3, h4, h5, h6⟩) h7 (fun n => R (n + 1)) fun t' N'' q' k1 k2 k3 k4 k5 => (hR t' N'' q' k1 k2 k3 k4 k5).shift
  have j : ∀ (wd : Int) (x : tTNode) (N' : List tTNode) (tp q : Int), 1 <= wd -> N'.length <= N.length + 1 -> N.length <= N'.length -> (∀ x ∈ N', NodG N'.length x) -> NodG (N'.length + 1) x -> tp = (N'.length : Int) -> 0 <= top -> top < (N.length : Int) -> Pos bs q ->
    Ev (fun n => if wd > 200 then R (n + 1) d want top N' z bs q else grd (decide (N'.length + [x].length <= 790660046940)) (Z74.l5 n d want tp wd m (N' ++ [x]) z bs q (R (n + 1)))) := fun wd x N' tp q h1 h2 h3 h4 h5 h6 h7 h8 h9 => by
   refine Ev.ite (fun _ => (hR top N' q (by omega) h4 h7 (by omega) h9).shift) fun hw => Ev.grd (by first | (simp; done) | (simp; omega)) (again tp wd _ q (by first | (simp; done) | (simp; omega)) (NodG.app h4 h5) (by omega) (by first | (simp; done) | (simp; omega)) h1 (by omega) h9)
  have kd0 : ∀ n : Nat, ∀ k ∈ ([] : List Int), 0 <= k /\ k < (n : Int) := fun n k hk => by cases hk
  refine Ev.succ ?_
  simp only [Z74.l5, Z74.l5.b, Z74.j13, Z74.j14, Z74.j15, Z74.j16, e, e2, e3, decide_eq_true_eq]
  refine Ev.pos (by omega) (below_wp hb hp (by omega) fun v q v1 v2 hq => Ev.grd (by first | (simp; done) | (simp; omega)) (once_wp hb hq (by omega) fun o q1 hq1 => ?_))
  have hdv := rd_memL (P := fun x : tDecl => 1 <= x.2 /\ x.2 <= 200) d3 (i := v.toNat) (by omega)
  have n0 : (1 : Int) <= 1 := by omega
  refine Ev.ite (fun _ => below_wp hb hq1 (by omega) fun r q2 r1 r2 hq2 => ?_) fun _ => Ev.ite (fun ht => ?_) fun ht => ?_
  ·
   have er : IntKind.wrap .i64 (1 + r) = 1 + r := wrap64 (by omega) (by omega)
   simp only [er]
   refine bits_wp hb hq2 (by omega) (by omega) fun ws q3 hws hwd hq3 => ?_
   have hL : ∀ n : Nat, NodG n (2, 0, 0, 0, 1 + r, ws, []) := fun n => NodG.of hwd (by omega) (by simp) (kd0 n)
   refine Ev.ite (fun ht => ?_) fun ht => ?_
   ·refine Ev.grd (by first | (simp; done) | (simp; omega)) (again _ _ _ _ (by first | (simp; done) | (simp; omega)) (NodG.app hN (hL _)) (by omega) (by first | (simp; done) | (simp; omega)) (by omega) (by omega) hq3)
   ·obtain ⟨h1, h2, h3, h4⟩ : 0 <= top /\ top < (N.length : Int) /\ 1 <= wide /\ wide <= 200 := hI.resolve_left fun h => by omega
    have hNL := NodG.app hN (hL (N.length + 1))
    have k1 : ∀ n : Nat, N.length < n -> ∀ k ∈ [top], 0 <= k /\ k < (n : Int) := fun n hn k hk => by rw [List.mem_singleton.1 hk]; omega
    have k2 : ∀ n : Nat, N.length < n -> ∀ k ∈ [(N.length : Int), top], 0 <= k /\ k < (n : Int) := fun n hn k hk => by simp at hk; omega
    have k2' : ∀ n : Nat, N.length < n -> ∀ k ∈ [top, (N.length : Int)], 0 <= k /\ k < (n : Int) := fun n hn k hk => by simp at hk; omega
    have k3 : ∀ n : Nat, N.length < n -> ∀ k ∈ [(N.length : Int), top] ++ [top], 0 <= k /\ k < (n : Int) := fun n hn k hk => by simp at hk; omega
    have k3' : ∀ n : Nat, N.length < n -> ∀ k ∈ [top, (N.length : Int)] ++ [top], 0 <= k /\ k < (n : Int) := fun n hn k hk => by simp at hk; omega
    have hl1 : ∀ L : tTNode, (N ++ [L]).length = N.length + 1 := fun L => by simp
    refine near_wp hb hq3 ⟨by omega, by omega⟩ ⟨by omega, by omega⟩ (by omega) fun op q4 _ _ hq4 => Ev.ite (fun _ => Ev.grd (by first | (simp; done) | (simp; omega)) (once_wp hb hq4 (by omega) fun o1 q5 hq5 => Ev.ite (fun _ => once_wp hb hq5 (by omega) fun o2 q6 hq6 => Ev.ite (fun _ => Ev.grd (by simp) ?_) fun _ => ?_) fun _ => once_wp hb hq5 (by omega) fun o2 q6 hq6 => Ev.ite (fun _ => Ev.grd (by simp) ?_) fun _ => ?_)) fun _ => Ev.ite (fun _ => ?_) fun _ => Ev.ite (fun _ => ?_) fun _ => ?_
    ·exact j _ _ _ _ _ (by simp (disch := omega) only [wrap64]; omega) (by simp) (by simp) hNL (NodG.of Wd.nil (by simp) (by simp) (k3 _ (by first | (simp; done) | (simp; omega)))) (by simp) h1 h2 hq6
    ·exact j _ _ _ _ _ (by simp (disch := omega) only [wrap64]; omega) (by simp) (by simp) hNL (NodG.of Wd.nil (by simp) (by simp) (k2 _ (by first | (simp; done) | (simp; omega)))) (by simp) h1 h2 hq6
    ·exact j _ _ _ _ _ (by simp (disch := omega) only [wrap64]; omega) (by simp) (by simp) hNL (NodG.of Wd.nil (by simp) (by simp) (k3' _ (by first | (simp; done) | (simp; omega)))) (by simp) h1 h2 hq6
    ·exact j _ _ _ _ _ (by simp (disch := omega) only [wrap64]; omega) (by simp) (by simp) hNL (NodG.of Wd.nil (by simp) (by simp) (k2' _ (by first | (simp; done) | (simp; omega)))) (by simp) h1 h2 hq6
    ·rw [wrap64 (x := wide - 1) (by omega) (by omega)]
     refine near_wp hb hq4 ⟨by omega, by omega⟩ ⟨by omega, by omega⟩ (by omega) fun A q5 _ hA hq5 => near_wp hb hq5 ⟨by omega, by omega⟩ ⟨by omega, by omega⟩ (by omega) fun B q6 _ hB hq6 => ?_
     exact j _ _ _ _ _ (by simp (disch := omega) only [wrap64]; omega) (by simp) (by simp) hN (NodG.of Wd.nil (by simp) (by simp) (k1 _ (by omega))) (by simp) h1 h2 hq6
    ·refine q34_wp hb hq4 h3 h4 fun wd' c' q5 w1 w2 hq5 => ?_
     simp only [e, e2]; exact j _ _ _ _ _ (by omega) (by simp) (by simp) hN (NodG.of Wd.nil (by simp) (by simp) (k1 _ (by omega))) rfl h1 h2 hq5
    ·refine q34_wp hb hq4 h3 h4 fun wd' c' q5 w1 w2 hq5 => ?_
     simp only [e, e2]; exact j _ _ _ _ _ (by omega) (by simp) (by simp) hN (NodG.of Wd.nil (by simp) (by simp) (k1 _ (by omega))) rfl h1 h2 hq5
  ·refine Ev.grd (by first | (simp; done) | (simp; omega)) (again _ _ _ _ (by first | (simp; done) | (simp; omega)) (NodG.app hN (NodG.of Wd.nil (by simp) (by simp) (kd0 _))) (by omega) (by first | (simp; done) | (simp; omega)) (by omega) (by omega) hq1)
  ·
   have hL : ∀ n : Nat, NodG n (1, v, 0, 0, 0, [], []) := fun n => NodG.of Wd.nil (by simp) (by simp) (kd0 n)
   obtain ⟨h1, h2, h3, h4⟩ : 0 <= top /\ top < (N.length : Int) /\ 1 <= wide /\ wide <= 200 := hI.resolve_left fun h => by omega
   have hNL := NodG.app hN (hL (N.length + 1))
   have k1 : ∀ n : Nat, N.length < n -> ∀ k ∈ [top], 0 <= k /\ k < (n : Int) := fun n hn k hk => by rw [List.mem_singleton.1 hk]; omega
   have k2 : ∀ n : Nat, N.length < n -> ∀ k ∈ [(N.length : Int), top], 0 <= k /\ k < (n : Int) := fun n hn k hk => by simp at hk; omega
   have k2' : ∀ n : Nat, N.length < n -> ∀ k ∈ [top, (N.length : Int)], 0 <= k /\ k < (n : Int) := fun n hn k hk => by simp at hk; omega
   have k3 : ∀ n : Nat, N.length < n -> ∀ k ∈ [(N.length : Int), top] ++ [top], 0 <= k /\ k < (n : Int) := fun n hn k hk => by simp at hk; omega
   have k3' : ∀ n : Nat, N.length < n -> ∀ k ∈ [top, (N.length : Int)] ++ [top], 0 <= k /\ k < (n : Int) := fun n hn k hk => by simp at hk; omega
   refine near_wp hb hq1 ⟨by omega, by omega⟩ ⟨by omega, by omega⟩ (by omega) fun op q4 _ _ hq4 => Ev.ite (fun _ => Ev.grd (by first | (simp; done) | (simp; omega)) (once_wp hb hq4 (by omega) fun o1 q5 hq5 => Ev.ite (fun _ => once_wp hb hq5 (by omega) fun o2 q6 hq6 => Ev.ite (fun _ => Ev.grd (by simp) ?_) fun _ => ?_) fun _ => once_wp hb hq5 (by omega) fun o2 q6 hq6 => Ev.ite (fun _ => Ev.grd (by simp) ?_) fun _ => ?_)) fun _ => Ev.ite (fun _ => ?_) fun _ => Ev.ite (fun _ => ?_) fun _ => ?_
   ·exact j _ _ _ _ _ (by simp (disch := omega) only [wrap64]; omega) (by simp) (by simp) hNL (NodG.of Wd.nil (by simp) (by simp) (k3 _ (by first | (simp; done) | (simp; omega)))) (by simp) h1 h2 hq6
   ·exact j _ _ _ _ _ (by simp (disch := omega) only [wrap64]; omega) (by simp) (by simp) hNL (NodG.of Wd.nil (by simp) (by simp) (k2 _ (by first | (simp; done) | (simp; omega)))) (by simp) h1 h2 hq6
   ·exact j _ _ _ _ _ (by simp (disch := omega) only [wrap64]; omega) (by simp) (by simp) hNL (NodG.of Wd.nil (by simp) (by simp) (k3' _ (by first | (simp; done) | (simp; omega)))) (by simp) h1 h2 hq6
   ·exact j _ _ _ _ _ (by simp (disch := omega) only [wrap64]; omega) (by simp) (by simp) hNL (NodG.of Wd.nil (by simp) (by simp) (k2' _ (by first | (simp; done) | (simp; omega)))) (by simp) h1 h2 hq6
   ·rw [wrap64 (x := wide - 1) (by omega) (by omega)]
    refine near_wp hb hq4 ⟨by omega, by omega⟩ ⟨by omega, by omega⟩ (by omega) fun A q5 _ hA hq5 => near_wp hb hq5 ⟨by omega, by omega⟩ ⟨by omega, by omega⟩ (by omega) fun B q6 _ hB hq6 => ?_
    exact j _ _ _ _ _ (by simp (disch := omega) only [wrap64]; omega) (by simp) (by simp) hN (NodG.of Wd.nil (by simp) (by simp) (k1 _ (by omega))) (by simp) h1 h2 hq6
   ·refine q34_wp hb hq4 h3 h4 fun wd' c' q5 w1 w2 hq5 => ?_
    simp only [e, e2]; exact j _ _ _ _ _ (by omega) (by simp) (by simp) hN (NodG.of Wd.nil (by simp) (by simp) (k1 _ (by omega))) rfl h1 h2 hq5
   ·refine q34_wp hb hq4 h3 h4 fun wd' c' q5 w1 w2 hq5 => ?_
    simp only [e, e2]; exact j _ _ _ _ _ (by omega) (by simp) (by simp) hN (NodG.of Wd.nil (by simp) (by simp) (k1 _ (by omega))) rfl h1 h2 hq5
theorem grow_wp {bs : List Int} {p want : Int} {d : List tDecl} {R : Nat -> List tTNode -> List Int -> Int -> Prop} (hb : Bytes bs) (hp : Pos bs p) (hd : DDecls d) (h : ∀ t q, DTerm t -> Pos bs q -> Ev (fun n => R n t bs q)) :
  Ev (fun n => Z74.c n bs p d want (R n)) := by
 have hl := hb.2
 obtain ⟨d1, d2, d3⟩ := hd
 refine Ev.succ ?_
 simp only [Z74.c, Z74.w]
 rw [tdivP (by omega), wrap64 (x := (bs.length : Int) / 12) (by omega) (by omega), wrap64 (x := 2 + (bs.length : Int) / 12) (by omega) (by omega)]
 refine below_wp hb hp (by split <;> omega) fun r q h1 h2 hq => ?_
 have hr : r <= 6 := by split at h2 <;> omega
 rw [wrap64 (x := 1 + r) (by omega) (by omega)]
 refine grow_lp_wp hb ⟨d1, d2, d3⟩ (1 + r).toNat (1 + r) (-1) 0 [] q (by omega) (by omega) (by first | (simp; done) | (simp; omega)) (fun x hx => by cases hx) (.inl ⟨rfl, rfl, by omega⟩) hq (fun n y1565 y1566 y1567 y1568 y1569 y1570 y1571 => Z77.c n y1568 y1567 _) fun top N q1 n1 n2 n3 n4 hq1 => ?_
 refine prune_wp (by omega) n2 n3 n4 fun t t1 t2 t3 => Ev.ite (fun _ => ?_) fun _ => (h t q1 ⟨t3, by omega, t2⟩ hq1).shift
 rw [widthOfS_ev (d := d) (t := t) (by omega) (fun x hx => ⟨(t2 x hx).1, by have := (t2 x hx).2.2; omega⟩)]
 exact fit_wp (by omega) t2 fun t' f1 f2 f3 => (h t' q1 ⟨by omega, by omega, f3⟩ hq1).shift
end Go.Vsi
end

section
set_option linter.unusedVariables false
set_option linter.unusedSimpArgs false
set_option synthInstance.maxSize 4096
namespace Go.Vsi
def OutG4 (x : tTNode) : Prop := Wd x.2.2.2.2.2.1 /\ x.2.2.2.2.2.1.length <= 4096 /\ x.2.2.2.2.2.2.length <= 4
def DT (t : List tTNode) : Prop := t.length <= 402 /\ ∀ x ∈ t, OutG4 x
theorem OutG.four {x : tTNode} (h : OutG x) : OutG4 x := ⟨h.1, h.2.1, by have := h.2.2; omega⟩
theorem DT.wd {t : List tTNode} (h : DT t) : ∀ x ∈ t, Wd x.2.2.2.2.2.1 /\ x.2.2.2.2.2.2.length <= 1099511627776 := fun x hx => ⟨(h.2 x hx).1, by have := (h.2 x hx).2.2; omega⟩
theorem OutG4.of {op v a b w : Int} {ws ks : List Int} (hw : Wd ws) (hl : ws.length <= 4096) (hk : ks.length <= 4) : OutG4 (op, v, a, b, w, ws, ks) := ⟨hw, hl, hk⟩
theorem odd17_wp {bs : List Int} (hb : Bytes bs) {z : List tTNode} : ∀ (m : Nat) (N : List tTNode) (p : Int), N.length + m = 402 -> (∀ x ∈ N, OutG4 x) -> Pos bs p -> ∀ R : Nat -> List tTNode -> List tTNode -> List Int -> Int -> Prop,
  (∀ N' q, DT N' -> Pos bs q -> Ev (fun n => R n z N' bs q)) -> Ev (fun n => Z65.l17 n z N bs p (R n))
 | 0, N, p, hm, hN, hp, R, hR => by
  refine Ev.succ ?_
  simp only [Z65.l17, Z65.l17.b, and_self]
  refine below_wp hb hp (by omega) fun r q r1 r2 hq => ?_
  rw [wrap64 (by omega) (by omega)]
  exact Ev.neg (by simp; omega) (hR N q ⟨by omega, hN⟩ hq).shift
 | m + 1, N, p, hm, hN, hp, R, hR => by
  refine Ev.succ ?_
  simp only [Z65.l17, Z65.l17.b, Z65.j1, and_self]
  refine below_wp hb hp (by omega) fun r q r1 r2 hq => Ev.ite (fun _ => Ev.grd (by simp; omega) ?_) fun _ => (hR N q ⟨by omega, hN⟩ hq).shift
  exact odd17_wp hb m _ q (by simp; omega) (mem_appL hN (mem_oneL (OutG4.of Wd.nil (by simp) (by simp)))) hq (fun n => R (n + 1)) fun N' q' h1 h2 => (hR N' q' h1 h2).shift
theorem odd21_wp {bs : List Int} {d : List tDecl} (hd : d.length <= 7) {z : List tTNode} {p : Int} (hp : Pos bs p) : ∀ (m : Nat) (x : Int) (N : List tTNode), x + m = 40 -> N.length + 2 * m <= 400 -> (∀ x ∈ N, OutG4 x) -> ∀ R : Nat -> List tTNode -> List tTNode -> List Int -> Int -> Prop,
  (∀ N', DT N' -> Ev (fun n => R n z N' bs p)) -> Ev (fun n => Z65.l21 n d z bs p x N (R n))
 | 0, x, N, hm, hl, hN, R, hR => by
  refine Ev.succ ?_
  simp only [Z65.l21, Z65.l21.b]
  exact Ev.neg (by simp; omega) (hR N ⟨by omega, hN⟩).shift
 | m + 1, x, N, hm, hl, hN, R, hR => by
  have hw := fun R => widthOfS_ev (d := d) (t := N) (by omega) (fun x hx => ⟨(hN x hx).1, by have := (hN x hx).2.2; omega⟩) R
  refine Ev.succ ?_
  simp only [Z65.l21, Z65.l21.b, Z65.j5]
  refine Ev.pos (by simp; omega) ?_
  rw [hw]
  refine Ev.ite (fun _ => Ev.ite (fun _ => (hR N ⟨by omega, hN⟩).shift) fun _ => Ev.grd (by simp; omega) ?_) fun _ => (hR N ⟨by omega, hN⟩).shift
  rw [wrap64 (x := x + 1) (by omega) (by omega)]
  refine odd21_wp hd hp m (x + 1) _ (by omega) (by simp; omega) (mem_appL hN fun y hy => ?_) (fun n => R (n + 1)) fun N' h1 => (hR N' h1).shift
  simp only [List.mem_cons, List.not_mem_nil, or_false] at hy
  rcases hy with rfl | rfl
  ·exact OutG4.of Wd.nil (by simp) (by simp)
  ·exact OutG4.of Wd.nil (by simp) (by simp)
theorem oddTerm_wp {bs : List Int} {p want : Int} {d : List tDecl} {R : Nat -> List tTNode -> List Int -> Int -> Prop} (hb : Bytes bs) (hp : Pos bs p) (hd : DDecls d) (h : ∀ t q, DT t -> Pos bs q -> Ev (fun n => R n t bs q)) :
  Ev (fun n => Z65.c n bs p d want (R n)) := by
 have hd2 := hd.2.1
 have q1 : ∀ (t z : List tTNode) (q : Int), DT t -> Pos bs q -> Ev (fun n => Z65.q27 n t z bs q (fun y1 y2 y3 => R (n + 1) y1 y2 y3)) := fun t z q ht hq => by
  refine Ev.succ ?_; simp only [Z65.q27, Z65.q27.b]; exact (h t q ht hq).shift.shift
 have q2 : ∀ (t z : List tTNode) (q : Int), DT t -> Pos bs q -> Ev (fun n => Z65.q27_1 n t z bs q (fun y1 y2 y3 => R (n + 1) y1 y2 y3)) := fun t z q ht hq => by
  refine Ev.succ ?_; simp only [Z65.q27_1, Z65.q27_1.b]; exact (h t q ht hq).shift.shift
 have q3 : ∀ (t z : List tTNode) (q : Int), DT t -> Pos bs q -> Ev (fun n => Z65.q27_2 n z t bs q (fun y1 y2 y3 => R (n + 1) y1 y2 y3)) := fun t z q ht hq => by
  refine Ev.succ ?_; simp only [Z65.q27_2, Z65.q27_2.b]; exact (h t q ht hq).shift.shift
 refine Ev.succ ?_
 simp only [Z65.c, Z65.w, and_self]
 refine grow_wp hb hp hd fun t q ht hq => below_wp hb hq (by have := ht.1; omega) fun i q5 i1 i2 hq5 => below_wp hb hq5 (by omega) fun r q6 _ _ hq6 => ?_
 obtain ⟨t1, t2, t3⟩ := ht
 have hx := rd_memL (P := OutG) t3 (i := i.toNat) (by omega)
 have hT : ∀ y ∈ t, OutG4 y := fun y hy => OutG.four (t3 y hy)
 have hs : ∀ y : tTNode, OutG4 y -> DT (List.set t i.toNat y) := fun y hy => ⟨by simp; omega, mem_setL hT hy⟩
 have h4 : OutG4 (rd t i.toNat) := OutG.four hx
 have hg : (decide (0 <= i) && decide (i < (t.length : Int))) = true := by simp; omega
 refine Ev.ite (fun _ => ?_) fun _ => Ev.ite (fun _ => ?_) fun _ => Ev.ite (fun _ => ?_) fun _ => Ev.ite (fun _ => ?_) fun _ => Ev.ite (fun _ => ?_) fun _ => Ev.ite (fun _ => ?_) fun _ => Ev.ite (fun _ => ?_) fun _ => Ev.ite (fun _ => ?_) fun _ => q1 _ _ _ ⟨by omega, hT⟩ hq6
 ·exact off_wp hb hq6 ⟨by omega, by omega⟩ ⟨by omega, by omega⟩ (by omega) fun v q7 _ hq7 => Ev.grd hg (q1 _ _ _ (hs _ ⟨h4.1, h4.2.1, h4.2.2⟩) hq7)
 ·exact off_wp hb hq6 ⟨by omega, by omega⟩ ⟨by omega, by omega⟩ (by omega) fun v q7 _ hq7 => Ev.grd hg (q1 _ _ _ (hs _ ⟨h4.1, h4.2.1, h4.2.2⟩) hq7)
 ·exact off_wp hb hq6 ⟨by omega, by omega⟩ ⟨by omega, by omega⟩ (by omega) fun v q7 _ hq7 => Ev.grd hg (q1 _ _ _ (hs _ ⟨h4.1, h4.2.1, h4.2.2⟩) hq7)
 ·exact off_wp hb hq6 ⟨by omega, by omega⟩ ⟨by omega, by omega⟩ (by omega) fun v q7 _ hq7 => Ev.grd hg (q1 _ _ _ (hs _ ⟨h4.1, h4.2.1, h4.2.2⟩) hq7)
 ·have key : ∀ (v q7 : Int), Pos bs q7 -> Ev (fun n => Z65.q27 n (List.set t i.toNat ((rd t i.toNat).1, (rd t i.toNat).2.1, (rd t i.toNat).2.2.1, (rd t i.toNat).2.2.2.1, (rd t i.toNat).2.2.2.2.1, (rd t i.toNat).2.2.2.2.2.1, (rd t i.toNat).2.2.2.2.2.2 ++ [v])) [] bs q7 (fun y1 y2 y3 => R (n + 1) y1 y2 y3)) := fun v q7 hq7 =>
   q1 _ _ _ (hs _ (OutG4.of h4.1 h4.2.1 (by have := hx.2.2; simp; omega))) hq7
  have hk : ∀ v : Int, decide ((rd t i.toNat).2.2.2.2.2.2.length + ([v] : List Int).length <= 7818749353073) = true := fun v => by have := hx.2.2; simp; omega
  simp only [hg, hk, decide_true, grd_true, and_self]
  exact off_wp hb hq6 ⟨by omega, by omega⟩ ⟨by omega, by omega⟩ (by omega) fun v q7 _ hq7 => key v q7 hq7
 ·exact Ev.grd (by simp; omega) (q2 _ _ _ ⟨by simp; omega, mem_appL hT (mem_oneL (OutG4.of Wd.nil (by simp) (by simp)))⟩ hq6)
 ·exact odd17_wp hb (402 - t.length) t q6 (by omega) hT hq6 (fun n y389 y390 y391 y392 => Z65.q27_2 n y389 y390 y391 y392 (fun y397 y398 y399 => R (n + 1) y397 y398 y399)) fun N' q7 hN hq7 => q3 _ _ _ hN hq7
 ·exact odd21_wp (by omega) hq6 40 0 t (by omega) (by omega) hT (fun n y389 y390 y391 y392 => Z65.q27_2 n y389 y390 y391 y392 (fun y397 y398 y399 => R (n + 1) y397 y398 y399)) fun N' hN => q3 _ _ _ hN hq6
def DL (l : tLiteral) : Prop := DT l.2.2.1 /\ DT l.2.2.2
theorem DL.of {i : Int} {e : Bool} {s t : List tTNode} (hs : DT s) (ht : DT t) : DL (i, e, s, t) := ⟨hs, ht⟩
end Go.Vsi
end

section
set_option linter.unusedVariables false
set_option linter.unusedSimpArgs false
set_option synthInstance.maxSize 4096
namespace Go.Vsi
theorem bytes_gd {code : List Int} (hc : Gd (.sl 0 (.int .u8)) code) (h : ¬ (code.length : Int) > 1048576) : Bytes code := by
 refine ⟨fun x hx => ?_, by omega⟩
 have := hc.2 x hx
 have h1 : (0 : Int) <= x := this.1
 have h2 : x <= (255 : Int) := this.2
 omega
theorem DVals.wd {v : List tBits} (h : DVals v) : ∀ z ∈ v, Wd z.2 := fun z hz => (h.2 z hz).2.1
end Go.Vsi
end

section
set_option linter.unusedVariables false
set_option linter.unusedSimpArgs false
set_option synthInstance.maxSize 4096
namespace Go.Vsi
theorem put_bw {P B : List Bool} {N : Nat} (h1 : 1 <= B.length) (h2 : P.length + B.length <= N) (h3 : N <= 4096) {a b : Int} (R : Nat -> Int -> List Int -> Prop) :
  Ev (fun n => Z4.c n a (W (pk N fun i => P.getD i false)) P.length b (W (wl B)) (R n)) ↔ Ev (fun n => R n a (W (pk N fun i => (P ++ B).getD i false))) := by
 have ho := wl_ok (l := B) h1 (by omega)
 have hl := ho.len
 have hp := pk_len N fun i => P.getD i false
 obtain ⟨out, o1, o2, o3, k⟩ := bput_ev (out := pk N fun i => P.getD i false) ho.words (pk_below _ _) P.length (a := a) (by omega) (fun k hk => by omega) (by omega) (b := b)
 rw [k]
 have e : out = pk N fun i => (P ++ B).getD i false := by
  refine pk_of ⟨by omega, by omega, by omega, o2, fun i hi => ?_⟩ fun i hi => ?_
  ·by_cases hi' : i < 64 * (pk N fun i => P.getD i false).length
   ·rw [o3 i hi', pk_bit, decide_eq_false (by omega), Bool.false_and, Bool.false_or, bit_wl, List.getD_eq_getElem?_getD, List.getElem?_eq_none (by omega)]
    simp
   ·exact bit_out (by omega)
  ·rw [o3 i (by omega), pk_bit, decide_eq_true hi, Bool.true_and, bit_wl]
   simp only [List.getD_eq_getElem?_getD]
   by_cases hip : i < P.length
   ·rw [decide_eq_false (by omega), Bool.false_and, Bool.or_false, List.getElem?_append_left hip]
   ·rw [decide_eq_true (by omega), Bool.true_and, List.getElem?_eq_none (by omega), List.getElem?_append_right (by omega)]; rfl
 rw [e]
theorem cut_bw {d : List tDecl} {vals : List tBits} (hv : ValR d vals) {i a w : Nat} (h1 : 1 <= w) (h2 : i < d.length) (h3 : ((a + w : Nat) : Int) <= (rd d i).2) (R : Nat -> Int -> List Int -> Prop) :
  Ev (fun n => Z2.c n (rd vals i).1 (rd vals i).2 a w (R n)) ↔ Ev (fun n => R n (w : Int) (W (wl (bvl vals (Sg.v i a w).bits)))) := by
 obtain ⟨q1, q2⟩ := hv.2 i (by rw [hv.1]; exact h2)
 obtain ⟨u, ws, e, ho, _, _⟩ := q1.of
 have hu : (u : Int) = (rd d i).2 := by rw [<- q2, e]
 have ew : cutW ws a w = wl (bvl vals (Sg.v i a w).bits) := by
  rw [cutW]
  refine pk_wl (by rw [bvl_len, Sg.bits_len]; rfl) fun k hk => ?_
  simp only [bvl, Sg.bits, List.map_map, List.getD_eq_getElem?_getD, List.getElem?_map, List.getElem?_range hk, Option.map_some, Option.getD_some, Function.comp]
  show bit ws (a + k) = bit (toN (rd vals i).2) (a + k)
  rw [e, toN_W]
 have := cut_ev ho (low := a) (v := w) h1 (by omega) R
 rw [ew] at this
 rw [e]; exact this
theorem flatE_lp {d : List tDecl} {vals : List tBits} (hv : ValR d vals) (hvl : vals.length <= 60) {G : List tSeg} (hG : G.length <= 2000) {N : Nat} (hN : N <= 4096) {z : List Int} {y a : Int} : ∀ (ys : List Sg) (x : Int) (P : List Bt), G.drop x.toNat = ys.map cvS -> 0 <= x -> (∀ s ∈ ys, SOk s /\ SIn d s) -> P.length + (ys.flatMap Sg.bits).length <= N ->
  ∀ Kx : Nat -> List Int -> List Int -> Int -> Int -> Prop, (Ev (fun n => Z11.l6 n vals G G.length z y a P.length x (W (pk N fun i => (bvl vals P).getD i false)) (Kx n)) ↔ Ev (fun n => Kx n (W (pk N fun i => (bvl vals (P ++ ys.flatMap Sg.bits)).getD i false)) z y a))
 | [], x, P, h, h0, hs, hl, Kx => by
  have := drop_nil (l := G) h h0
  refine Ev.suc.trans ?_
  simp (disch := omega) only [Z11.l6, Z11.l6.b, if_neg, decide_eq_true_eq, List.flatMap_nil, List.append_nil, Ev.s4 Kx]
 | s :: ys, x, P, h, h0, hs, hl, Kx => by
  obtain ⟨e1, e2, e3⟩ := drop_cons (l := G) (y := cvS s) (ys := ys.map cvS) h h0
  obtain ⟨s1, s2⟩ := hs s List.mem_cons_self
  have sp := s1.pos
  have sl := s.bits_len
  rw [List.flatMap_cons, List.length_append] at hl
  have ih := flatE_lp hv hvl hG hN (z := z) (y := y) (a := a) ys (x + 1) (P ++ s.bits) e3 (by omega) (fun t ht => hs t (List.mem_cons_of_mem _ ht)) (by rw [List.length_append]; omega) (fun n => Kx (n + 1))
  rw [Ev.s4 Kx, List.append_assoc, <- List.flatMap_cons, bvl_app, List.length_append, sl] at ih
  have pb := fun (b : Int) R => put_bw (P := bvl vals P) (B := bvl vals s.bits) (N := N) (by rw [bvl_len]; omega) (by rw [bvl_len, bvl_len]; omega) hN (a := a) (b := b) R
  rw [bvl_len] at pb
  have wat : IntKind.wrap .i64 ((P.length : Int) + (s.wid : Int)) = ((P.length + s.wid : Nat) : Int) := by rw [wrap64 (by omega) (by omega)]; omega
  refine Ev.suc.trans ?_
  simp (disch := omega) only [Z11.l6, Z11.l6.b, if_pos, decide_eq_true_eq, grd_dec2, e2, wrap64 (x := x + 1), and_self, cvS_wid, wat, Ev.iteI]
  match s, s1, s2, pb, ih with
  | .c l, s1, s2, pb, ih =>
   have eb : bvl vals (Sg.c l).bits = l := by simp [bvl, Sg.bits, Function.comp_def, bvB]
   rw [eb] at pb
   rw [if_pos (show (cvS (.c l)).1 = -1 from rfl)]
   simp only [cvS]
   rw [pb, <- ih, eb]
  | .v i k w, s1, s2, pb, ih =>
   have ct := fun R => cut_bw hv (i := i) (a := k) (w := w) s1.1 s2.1 s2.2 R
   have h2 := s2.1
   rw [if_neg (show ¬ (cvS (.v i k w)).1 = -1 by simp only [cvS]; omega)]
   have hvl' := hv.1
   simp only [grd_dec2 (show 0 <= (cvS (.v i k w)).1 /\ (cvS (.v i k w)).1 < (vals.length : Int) from ⟨by simp only [cvS]; omega, by simp only [cvS]; omega⟩)]
   simp only [cvS, Int.toNat_natCast, Sg.wid] at ih ⊢
   rw [ct, pb, <- ih]
theorem flatEval_ev {d : List tDecl} {vals : List tBits} {L : List Bt} (hd : declsOk d = true) (hw : ∀ b ∈ vals, Wd b.2) (hL : KOk L) (hb : ∀ b ∈ L, BIn d b) (hl : (cf L).length <= 2000) (R : Nat -> Int -> List Int -> Bool -> Prop) :
  Ev (fun n => Z11.c n d vals (cf L) (R n)) ↔ Ev (fun n => if valsOk d vals = true then R n (bw vals L).1 (bw vals L).2 true else R n 0 [] false) := by
 have hdl := (DWide.of hd).1
 have hf := form_flatOk hd hL hb hl
 rw [flatOkB, hd, Bool.true_and] at hf
 refine Ev.suc.trans ?_
 simp only [Z11.c, Z11.w, Z11.j0, valsOk_ev (show d.length <= 1099511627776 by omega), flatOkI_ev hd, Ev.iteI, Bool.not_eq_false', Bool.not_eq_true', hf, Bool.true_eq_false, if_false, Ev.s3 R]
 by_cases h : valsOk d vals = true
 ·rw [if_pos h, if_pos h]
  have hv := (valsOk_R hw h).2
  have h2 := hL.2.2
  obtain ⟨n1, n2⟩ := adds_no (d := d) (r := []) hb ⟨trivial, fun s hs => (by cases hs)⟩
  have ho := form_ok hL.1
  have e : (form L).reverse.flatMap Sg.bits = L := bits_form L
  have wd := fun R => wideF_ev hL.1 h2 R
  have lp := fun Kx => flatE_lp hv (by rw [hv.1]; exact hdl) (G := cf L) (by omega) (N := L.length) h2 (z := []) (y := 0) (a := (L.length : Int)) (form L).reverse 0 [] rfl (by omega) (fun s hs => ⟨ho s (List.mem_reverse.1 hs), n2 s (List.mem_reverse.1 hs)⟩) (by rw [e]; simp) Kx
  rw [e, List.nil_append] at lp
  have zr : W (List.replicate (((L.length : Int) + 63) / 64).toNat 0) = W (pk L.length fun i => (bvl vals []).getD i false) := by
   congr 1
   refine pk_of ⟨by have := hL.2.1; omega, by omega, by simp; omega, Below.rep (by decide), fun i hi => bit_rep _ _⟩ fun i hi => by rw [bit_rep]; simp [bvl]
  simp only [List.length_nil, Int.natCast_zero] at lp
  rw [show cf L = cvl (form L) from rfl] at lp ⊢
  rw [wd, zero_ev (by omega) (by omega), zr, lp]
  have ew : (pk L.length fun i => (bvl vals L).getD i false) = wl (bvl vals L) := pk_wl (bvl_len vals L) fun i hi => rfl
  rw [ew]
  exact Ev.s3 R _ _ _
 ·rw [if_neg h, if_neg h]
theorem flatGo_in {d : List tDecl} : ∀ {ys : List tTNode} {wide : List Int} {used : List Bool} {acc a : List (List Bt)} {r : List Int × List Bool}, WOk wide -> AccF wide acc -> (∀ l ∈ acc, (∀ b ∈ l, BIn d b) /\ (cf l).length <= 2000) -> widthsGo d ys wide used = some r -> flatGo d ys acc = some a -> ∀ l ∈ a, (∀ b ∈ l, BIn d b) /\ (cf l).length <= 2000
 | [], wide, used, acc, a, r, hw, ha, hi, h, hf => by rw [flatGo] at hf; cases hf; exact hi
 | x :: ys, wide, used, acc, a, r, hw, ha, hi, h, hf => by
  rw [widthsGo] at h
  cases hs : stepW d x wide with
  | none => rw [hs] at h; cases h
  | some w =>
   rw [hs] at h
   obtain ⟨g1, g2, g3, g4, g5, _⟩ := step_F hw ha hs
   rw [flatGo] at hf
   split at hf
   ·cases hf
   ·rename_i hlen
    have hin := apply_in g1 g3 (fun l hl => ⟨g2 l hl, by
     obtain ⟨k, hk, rfl⟩ := List.mem_map.1 hl
     rw [kidsIn, List.all_eq_true] at g5
     have h5 := g5 k hk
     rw [decide_eq_true_eq] at h5
     exact (hi _ (rd_memN (by have := ha.1; omega))).1⟩)
    exact flatGo_in (hw.app (stepW_ok hs)) (ha.app (applyF_ok g1 g4 g3 g2)) (fun l hl => by
     rcases List.mem_append.1 hl with hl | hl
     ·exact hi l hl
     ·rw [List.mem_singleton.1 hl]; exact ⟨hin, by omega⟩) h hf
theorem flatten_some {d : List tDecl} {t : List tTNode} (h : (flattenOf d t).2 = true) : ∃ L : List Bt, (flattenOf d t).1 = cf L /\ KOk L /\ (∀ b ∈ L, BIn d b) /\ (cf L).length <= 2000 /\ declsOk d = true /\ ¬ widthI d t < 0 /\
  ∀ vals, ValR d vals -> (∀ x ∈ t, Wd x.2.2.2.2.2.1) -> evalB vals t = bw vals L := by
 rw [flattenOf] at h ⊢
 by_cases hw : widthOf d t < 0
 ·rw [if_pos hw] at h; cases h
 ·rw [if_neg hw] at h ⊢
  have hd : declsOk d = true := by
   rw [widthOf] at hw
   split at hw
   ·assumption
   ·exact absurd (by decide) hw
  have hwi : ¬ widthI d t < 0 := by rw [widthOf, if_pos hd] at hw; exact hw
  obtain ⟨r, h1, h2, h3, h4, h5⟩ := widthI_go hwi
  have a0 : AccF [] [] := ⟨rfl, fun i hi => absurd hi (Nat.not_lt_zero _)⟩
  have w0 : WOk [] := fun w hw => by cases hw
  unfold flatB at h ⊢
  cases e : flatGo d t [] with
  | none => rw [e] at h; cases h
  | some a =>
   have al := flatGo_len e
   rw [List.length_nil, Nat.zero_add] at al
   have ao := flatGo_ok w0 a0 h1 e
   have hk := (ao.2 (t.length - 1) (by omega)).1
   have hi := flatGo_in w0 a0 (fun l hl => by cases hl) h1 e (rd a (t.length - 1)) (rd_memN (by omega))
   refine ⟨rd a (t.length - 1), ?_, hk, hi.1, hi.2, hd, hwi, fun vals hv hy => ?_⟩
   ·show lastF a = _
    rw [lastF, al]
   ·have hev := (evalGo_bw hv w0 hy a0 (fun l hl => by cases hl) h1 e).1
    rw [evalB]
    rw [List.map_nil] at hev
    rw [hev]
    simp [rd, List.getD_eq_getElem?_getD, show t.length - 1 < a.length by omega]
theorem drawEval_wp {bs : List Int} {R : Nat -> List tDecl -> List tBits -> List tTNode -> Prop} (hb : Bytes bs) (h : ∀ d v t, DDecls d -> DVals v -> DT t -> Ev (fun n => R n d v t)) :
  Ev (fun n => Z50.c n bs (R n)) := by
 refine Ev.succ ?_
 simp only [Z50.c, Z50.w]
 exact open_wp (decls_wp hb ⟨by omega, by omega⟩ fun d q hd hq => values_wp hb hq hd.1 hd.2.1 fun v q1 hv hq1 => oddTerm_wp hb hq1 hd fun t q2 ht _ => (h d v t hd hv ht).shift)
theorem evalFlat_law {code : List Int} (hc : Gd (.sl 0 (.int .u8)) code) (K : Bool -> Prop) : True /\ (K true -> Ev (fun n => laws_FnEvalFlat.c n code K)) := by
 refine ⟨trivial, fun hK => ?_⟩
 refine Ev.succ ?_
 simp only [laws_FnEvalFlat.c, laws_FnEvalFlat.w]
 refine big_wp (Ev.ite (fun _ => Ev.const hK) fun hb => ?_)
 have hB := bytes_gd hc (by simpa using hb)
 refine drawEval_wp hB fun d v t hd hv ht => ?_
 have hd2 := hd.2.1
 have hwt : ∀ x ∈ t, Wd x.2.2.2.2.2.1 := fun x hx => (ht.wd x hx).1
 have s1 := fun R => flattenOfS_ev (d := d) (t := t) (by omega) ht.wd R
 have s2 := fun R => flattenOf_ev (d := d) (t := t) (by omega) hwt R
 rw [s1, s2]
 simp only [beq_self_eq_true, Bool.not_true, Bool.false_eq_true, if_false]
 by_cases h : (flattenOf d t).2 = true
 ·obtain ⟨L, e1, hL, hin, hl, hdo, hwi, hev⟩ := flatten_some h
  rw [h, e1]
  simp only [Bool.not_true, Bool.false_eq_true, if_false]
  have s3 := fun R => evalOf_ev (d := d) (vals := v) (t := t) (by omega) hv.wd hwt R
  rw [s3, flatEval_ev hdo hv.wd hL hin hl]
  by_cases hvo : valsOk d v = true
  ·have hvr := (valsOk_R hv.wd hvo).2
   have ee : evalOf d v t = (bw v L, true) := by rw [evalOf, if_pos ⟨hvo, hwi⟩, hev v hvr hwt]
   rw [ee]
   simp only [hvo, if_true]
   rw [flatOkB_ev, form_flatOk hdo hL hin hl]
   refine Ev.pos rfl (Ev.pos rfl ?_)
   have hbl : (bw v L).2.length <= 1099511627776 := by
    have := (wl_ok (l := bvl v L) (by rw [bvl_len]; exact hL.2.1) (by rw [bvl_len]; exact hL.2.2)).len
    rw [bvl_len] at this
    have h2 := hL.2.2
    show (W (wl (bvl v L))).length <= _
    rw [W_len]; omega
   rw [sameL_ev hbl]
   exact Ev.const (by simpa using hK)
  ·have ee : evalOf d v t = ((0, []), false) := by rw [evalOf, if_neg fun h => hvo h.1]
   rw [ee]
   simp only [if_neg hvo]
   rw [flatOkB_ev, form_flatOk hdo hL hin hl]
   refine Ev.pos rfl (Ev.pos rfl ?_)
   rw [sameL_ev (by simp)]
   exact Ev.const (by simpa using hK)
 ·have h' := Bool.eq_false_iff.2 h
  rw [h']
  exact Ev.pos rfl (Ev.const hK)
end Go.Vsi
end
