/- Texts of the proof, joined: XGarT XBld V10 V11 V12 V13 V14 XLive V15 V16 V17 V18 XSz XFld V19 -/
import Derived.Lib.Join
import Derived.Test.YthehggmdcmpjeaaDoorRows
import Derived.Test.YthehggmdcmpjeaaDoorB5
set_option linter.unusedVariables false
set_option linter.unusedSimpArgs false
namespace Go.G14
open Go.Lw

theorem jn0 (s : List UInt8) : Lib.join [] s = [] := by simp [Lib.join]
theorem jn1 (y s : List UInt8) : Lib.join [y] s = y := by simp [Lib.join]
theorem jn2 (y z s : List UInt8) (ys : List (List UInt8)) : Lib.join (y :: z :: ys) s = y ++ s ++ Lib.join (z :: ys) s := by simp [Lib.join, List.intercalate]
def wGarment : List UInt8 := [103, 97, 114, 109, 101, 110, 116]
def wPiece : List UInt8 := [112, 105, 101, 99, 101]
def wLeft : List UInt8 := [108, 101, 102, 116]
def wTile : List UInt8 := [116, 105, 108, 101]
def wRight : List UInt8 := [114, 105, 103, 104, 116]
def rowT (r : List Stitch) : List UInt8 := if r.length = 0 then [45] else shortS r
def barsT (c : RowL) : List UInt8 := Lib.join (c.map rowT) [32, 124, 32]
def rowsT (word : List UInt8) (c : RowL) : List UInt8 := if c.length = 0 then [] else word ++ [32] ++ barsT c ++ [10]
def numT (n : Int) : List UInt8 := itoaS n.toNat
def headT (p : Pc) : List UInt8 := wPiece ++ [32] ++ p.nm ++ ([32] ++ numT p.ct) ++ ([32] ++ numT p.ba) ++ ([32] ++ numT p.st) ++ ([32] ++ numT p.up) ++ [10]
def pieceT (p : Pc) : List UInt8 := headT p ++ rowsT wLeft p.mot.L ++ rowsT wTile p.mot.T ++ rowsT wRight p.mot.R
def textG (nm : List UInt8) (ps : List Pc) : List UInt8 := wGarment ++ [32] ++ nm ++ [10] ++ (ps.map pieceT).flatten
theorem large_of {c : RowL} (h : largeB c = false) : c.length ≤ 31 ∧ ∀ r ∈ c, r.length ≤ 16 := by
  unfold largeB at h
  rw [Bool.or_eq_false_iff, decide_eq_false_iff_not] at h
  refine ⟨by omega, fun r hr => ?_⟩
  have := List.any_eq_false.1 h.2 r hr
  rw [decide_eq_true_eq] at this; omega
theorem mot_of {m : Mot} (h : motE m = 0) : largeB m.L = false ∧ largeB m.T = false ∧ largeB m.R = false ∧ (m.L.length = 0 ∨ m.L.length = m.T.length) ∧ (m.R.length = 0 ∨ m.R.length = m.T.length) ∧ goodB m.L = true ∧ goodB m.T = true ∧ goodB m.R = true ∧ 1 ≤ m.T.length := by
  have ht := mot_tile h
  unfold motE at h
  split at h
  · omega
  split at h
  · omega
  split at h
  · omega
  · rename_i h1 h2 h3
    refine ⟨?_, ?_, ?_, by omega, by omega, ?_, ?_, ?_, ht.1⟩
    · cases e : largeB m.L; rfl; exact absurd (.inl e) h1
    · cases e : largeB m.T; rfl; exact absurd (.inr (.inl e)) h1
    · cases e : largeB m.R; rfl; exact absurd (.inr (.inr e)) h1
    · cases e : goodB m.L; exact absurd (.inr (.inl e)) h3; rfl
    · cases e : goodB m.T; exact absurd (.inr (.inr (.inl e))) h3; rfl
    · cases e : goodB m.R; exact absurd (.inr (.inr (.inr e))) h3; rfl
theorem rowT_len {r : List Stitch} (h : r.length ≤ 16) : 1 ≤ (rowT r).length ∧ (rowT r).length ≤ 192 ∨ (rowT r).length ≤ 192 := by
  right
  unfold rowT
  split
  · simp
  · have := short_len (xs := r) (by omega) h; omega
theorem rowT_le {r : List Stitch} (h : r.length ≤ 16) : (rowT r).length ≤ 192 := by
  have := rowT_len h; omega
theorem join_le (sep : List UInt8) (k : Nat) : ∀ ys : List (List UInt8), (∀ y ∈ ys, y.length ≤ k) → (Lib.join ys sep).length ≤ ys.length * (k + sep.length)
  | [], _ => by simp [jn0]
  | [y], h => by simp only [jn1, List.length_singleton]; have := h y (by simp); omega
  | y :: z :: ys, h => by
    have h1 := h y (by simp)
    have h2 := join_le sep k (z :: ys) (fun x hx => h x (by simp [hx]))
    simp only [jn2, List.length_append, List.length_cons] at h2 ⊢
    rw [Nat.add_mul]; omega
theorem bars_le {c : RowL} (h : largeB c = false) : (barsT c).length ≤ 31 * 195 := by
  obtain ⟨h1, h2⟩ := large_of h
  have := join_le [32, 124, 32] 192 (c.map rowT) (fun y hy => by obtain ⟨r, hr, rfl⟩ := List.mem_map.1 hy; exact rowT_le (h2 r hr))
  unfold barsT
  rw [List.length_map] at this
  have h3 : c.length * (192 + 3) ≤ 31 * 195 := Nat.mul_le_mul_right _ h1
  simp only [List.length_cons, List.length_nil] at this
  omega
theorem rows_le {w : List UInt8} {c : RowL} (h : largeB c = false) (hw : w.length ≤ 7) : (rowsT w c).length ≤ 7000 := by
  have := bars_le h
  unfold rowsT
  split
  · simp
  · simp only [List.length_append, List.length_cons, List.length_nil]; omega
/-! The texts step by step. -/
def gT (nm : List UInt8) (ps : List Pc) (k : Nat) : List UInt8 := wGarment ++ [32] ++ nm ++ [10] ++ ((ps.take k).map pieceT).flatten
theorem gT_all (nm : List UInt8) (ps : List Pc) : gT nm ps ps.length = textG nm ps := by unfold gT textG; rw [List.take_length]
theorem gT_succ {nm : List UInt8} {ps : List Pc} {k : Nat} {p : Pc} (h : ps[k]? = some p) : gT nm ps (k + 1) = gT nm ps k ++ pieceT p := by
  unfold gT; rw [List.take_add_one, h]; simp
def numsT (p : Pc) (z : Nat) : List UInt8 := ([p.ct, p.ba, p.st, p.up].take z).flatMap fun n => [32] ++ numT n
theorem nums_succ (p : Pc) {z : Nat} {n : Int} (h : [p.ct, p.ba, p.st, p.up][z]? = some n) : numsT p (z + 1) = numsT p z ++ ([32] ++ numT n) := by
  unfold numsT; rw [List.take_add_one, h]; simp
theorem nums_all (p : Pc) (x : List UInt8) : x ++ (wPiece ++ [32] ++ p.nm) ++ numsT p 4 ++ [10] = x ++ headT p := by
  simp [numsT, headT]
theorem num_le : ∀ n, n < 100 → (itoaS n).length ≤ 2 := by decide +kernel
theorem numT_le {n : Int} (h : n < 100) : (numT n).length ≤ 2 := num_le _ (by omega)
theorem numsT_le {p : Pc} (h : rightB p = true) (z : Nat) : (numsT p z).length ≤ 12 := by
  have hr := right_of h
  have h1 := numT_le (n := p.ct) (by omega); have h2 := numT_le (n := p.ba) (by omega); have h3 := numT_le (n := p.st) (by omega); have h4 := numT_le (n := p.up) (by omega)
  unfold numsT
  match z with
  | 0 => simp
  | 1 => simp; omega
  | 2 => simp; omega
  | 3 => simp; omega
  | z + 4 => simp; omega
theorem name_le {l : List UInt8} (h : nameB l = true) : l.length ≤ 16 := by
  unfold nameB at h
  rw [Bool.and_eq_true, decide_eq_true_eq] at h; omega
theorem headT_le {p : Pc} (h : rightB p = true) : (headT p).length ≤ 40 := by
  have h1 := nums_all p []
  have h2 := numsT_le h 4
  have h3 := name_le (right_of h).1
  have h4 := congrArg List.length h1
  simp only [List.length_append, List.length_cons, List.length_nil, wPiece] at h4
  omega
theorem pieceT_le {p : Pc} (h : rightB p = true) (hm : motE p.mot = 0) : (pieceT p).length ≤ 21100 := by
  have h1 := headT_le h
  obtain ⟨a, b, c, _⟩ := mot_of hm
  have h2 := rows_le (w := wLeft) a (by simp [wLeft]); have h3 := rows_le (w := wTile) b (by simp [wTile]); have h4 := rows_le (w := wRight) c (by simp [wRight])
  unfold pieceT
  simp only [List.length_append]; omega
theorem flatT_le {α : Type} {f : α → List UInt8} {b : Nat} : ∀ {l : List α}, (∀ x ∈ l, (f x).length ≤ b) → ((l.map f).flatten).length ≤ l.length * b
  | [], _ => by simp
  | x :: xs, h => by
    have h1 := h x (by simp)
    have ih := flatT_le (f := f) (b := b) (l := xs) fun y hy => h y (by simp [hy])
    rw [List.map_cons, List.flatten_cons, List.length_append, List.length_cons, Nat.add_mul]; omega
theorem gT_le {nm : List UInt8} {ps : List Pc} (h : garE nm ps = 0) (k : Nat) : (gT nm ps k).length ≤ 170000 := by
  obtain ⟨h8, _, hn, hr, hm, _⟩ := gar_of h
  have h1 := name_le hn
  have h2 := flatT_le (f := pieceT) (b := 21100) (l := ps.take k) fun p hp => pieceT_le (hr p (List.mem_of_mem_take hp)) (hm p (List.mem_of_mem_take hp))
  have h3 : (ps.take k).length ≤ 8 := by rw [List.length_take]; omega
  have h4 := Nat.mul_le_mul_right 21100 h3
  unfold gT
  simp only [List.length_append, List.length_cons, List.length_nil, wGarment]; omega
def garText (nm : List UInt8) (ps : List Pc) : List UInt8 := if garE nm ps = 0 then textG nm ps else []
/-- A list that is filled from the front. -/
def stg {α : Type} (l : List α) (e : α) (i : Nat) : List α := l.take i ++ List.replicate (l.length - i) e
theorem stg_zero {α : Type} (l : List α) (e : α) : stg l e 0 = List.replicate l.length e := by simp [stg]
theorem stg_all {α : Type} {l : List α} {e : α} {n : Nat} (h : l.length ≤ n) : stg l e n = l := by
  unfold stg; rw [List.take_of_length_le h, show l.length - n = 0 by omega]; simp
theorem stg_len {α : Type} (l : List α) (e : α) (i : Nat) : (stg l e i).length = l.length := by unfold stg; rw [List.length_append, List.length_take, List.length_replicate]; omega
theorem stg_set {α : Type} {l : List α} {e x : α} {i : Nat} (h : l[i]? = some x) : (stg l e i).set i x = stg l e (i + 1) := by
  have hi := (List.getElem?_eq_some_iff.1 h).1
  unfold stg
  have hl : (l.take i).length = i := by rw [List.length_take]; omega
  rw [List.set_append_right _ _ (by omega), hl, Nat.sub_self, show l.length - i = (l.length - (i + 1)) + 1 by omega, List.replicate_succ, List.set_cons_zero, List.take_add_one, h, List.append_assoc]; rfl
theorem row_at {c : RowL} {i : Nat} {r : List Stitch} {x : List UInt8} (hr : c.getD i [] = r) (hi : i < c.length) (hx : rowT r = x) : (c.map rowT)[i]? = some x := by
  subst hr hx
  rw [List.getElem?_map, List.getElem?_eq_getElem hi, List.getD, List.getElem?_eq_getElem hi]; rfl
theorem good_at {c : RowL} {i : Nat} {r : List Stitch} (h : goodB c = true) (hr : c.getD i [] = r) (hi : i < c.length) : r.all okB = true := by
  subst hr
  exact List.all_eq_true.1 h _ (getD_memS hi)
theorem large_at {c : RowL} {i : Nat} {r : List Stitch} (h : largeB c = false) (hr : c.getD i [] = r) (hi : i < c.length) : r.length ≤ 16 := by
  subst hr
  exact (large_of h).2 _ (getD_memS hi)
theorem rowT_0 {r : List Stitch} (h : r.length = 0) : rowT r = [45] := if_pos h
theorem rowT_1 {r : List Stitch} (h : ¬ r.length = 0) : rowT r = shortS r := if_neg h
theorem gT_zero (nm : List UInt8) (ps : List Pc) : gT nm ps 0 = [] ++ ([103, 97, 114, 109, 101, 110, 116, 32] ++ nm ++ [10]) := by simp [gT, wGarment]
theorem gT_step {nm : List UInt8} {ps : List Pc} {k : Nat} {p : Pc} (h : ps[k]? = some p) :
    gT nm ps k ++ (wPiece ++ [32] ++ p.nm) ++ numsT p 4 ++ [10] ++ rowsT wLeft p.mot.L ++ rowsT wTile p.mot.T ++ rowsT wRight p.mot.R = gT nm ps (k + 1) := by
  rw [nums_all, gT_succ h, pieceT]; simp only [List.append_assoc]
abbrev numL (p : Pc) : List Int := [p.ct, p.ba, p.st, p.up]
theorem num_at (p : Pc) {z : Nat} (hz : z < 4) : (numL p)[z]? = some ((numL p).getD z 0) := by
  match z, hz with
  | 0, _ => rfl
  | 1, _ => rfl
  | 2, _ => rfl
  | 3, _ => rfl
theorem num_cell (p : Pc) {z : Nat} (hz : z < 4) : ([.int .i64 p.ct, .int .i64 p.ba, .int .i64 p.st, .int .i64 p.up] : List Value)[((z : Int)).toNat]? = some (.int .i64 ((numL p).getD z 0)) := by
  rw [Int.toNat_natCast]
  match z, hz with
  | 0, _ => rfl
  | 1, _ => rfl
  | 2, _ => rfl
  | 3, _ => rfl
theorem num_rng {p : Pc} (h : rightB p = true) {z : Nat} (hz : z < 4) : 0 ≤ (numL p).getD z 0 ∧ (numL p).getD z 0 < 100 := by
  have hr := right_of h
  match z, hz with
  | 0, _ => show 0 ≤ p.ct ∧ p.ct < 100; omega
  | 1, _ => show 0 ≤ p.ba ∧ p.ba < 100; omega
  | 2, _ => show 0 ≤ p.st ∧ p.st < 100; omega
  | 3, _ => show 0 ≤ p.up ∧ p.up < 100; omega
end Go.G14
namespace Go.Lw
open Go.RowKit
/-- The block b holds a builder whose text is l. -/
def Bld (T e b : Nat) (l : List UInt8) (w : World) : Prop := Lib.IsBuilder T e b b (Lib.byteCells l) w
theorem Bld.ext {T e b : Nat} {l : List UInt8} {w w' : World} (h : Bld T e b l w) (hf : Fr [] w w') : Bld T e b l w' := isB_fr h hf
theorem Bld.lt {T e b : Nat} {l : List UInt8} {w : World} (h : Bld T e b l w) : b < w.heap.size := h.elim Lib.BuilderAt.lt Lib.BuilderAt.lt
theorem Bld.new {T e b : Nat} {w : World} (h : Blk w b T [.pointer none, .slice none 0 0]) : Bld T e b [] w := .inl ⟨Nat.le_refl _, .slice none 0 0, h, ⟨rfl, .inl ⟨rfl, rfl⟩⟩, by simp [Value.ownBlock]⟩
theorem below_frS {w w' : World} {B : Nat} (h : Below B w w') : ∃ S : List Nat, (∀ k ∈ S, B ≤ k) ∧ Fr S w w' :=
  ⟨(List.range w.heap.size).filter (fun k => decide (B ≤ k)), fun k hk => by simpa using (List.mem_filter.1 hk).2, ⟨h.os, h.tape, h.output, h.size, fun k hk hn => h.block k (by
    rcases Nat.lt_or_ge k B with h' | h'
    · exact h'
    · exact absurd (List.mem_filter.2 ⟨List.mem_range.2 hk, by simpa using h'⟩) hn)⟩⟩
/-- What a builder writes: its own block, and bytes. -/
theorem bld_frame {w0 w1 w2 w3 : World} {b e : Nat} {v : Value} {n : Nat} {xs : List Value} (h1 : Fr [b] w0 w1) (hown : w1.ownsRow b e 1 v n xs) (h2 : Fr v.ownBlock.toList w1 w2) (h3 : Fr [b] w2 w3) :
    ∃ S : List Nat, (∀ k ∈ S, b ≤ k) ∧ (∀ k ∈ S, ∀ T cs, Blk w0 k T cs → k = b ∨ T = e) ∧ Fr S w0 w3 := by
  refine ⟨b :: v.ownBlock.toList, ?_, ?_, ?_⟩
  · intro k hk
    rcases List.mem_cons.1 hk with rfl | hk
    · exact Nat.le_refl _
    · exact own_ge hown k hk
  · intro k hk T cs hb
    by_cases e1 : k = b
    · exact .inl e1
    right
    have hk' : k ∈ v.ownBlock.toList := by
      rcases List.mem_cons.1 hk with h | h
      · exact absurd h e1
      · exact h
    have hb1 : Blk w1 k T cs := hb.fr h1 (by simpa using e1)
    obtain ⟨-, ⟨rfl, -⟩ | ⟨g, cap, cur, rfl, h2, hg, -⟩⟩ := hown
    · simp [Value.ownBlock] at hk'
    · obtain rfl : k = g := by simpa [Value.ownBlock] using hk'
      have hb2 : w1.heap[k]? = some (.cells cs.toArray T (0, 0)) := hb1
      rw [hg] at hb2
      cases hb2; rfl
  · refine ⟨by rw [h3.os, h2.os, h1.os], by rw [h3.tape, h2.tape, h1.tape], by rw [h3.output, h2.output, h1.output], Nat.le_trans h1.size (Nat.le_trans h2.size h3.size), fun k hk hn => ?_⟩
    have hn1 : k ∉ [b] := fun e => hn (by simp at e; simp [e])
    have hn2 : k ∉ v.ownBlock.toList := fun e => hn (List.mem_cons_of_mem _ e)
    rw [h3.block k (Nat.lt_of_lt_of_le hk (Nat.le_trans h1.size h2.size)) hn1, h2.block k (Nat.lt_of_lt_of_le hk h1.size) hn2, h1.block k hk hn1]
end Go.Lw
namespace Go.Proofs.YthehggmdcmpjeaaDoor
open Go.Lw Go.G14
theorem co56 : CallOf Tryd.prog 56 := CallOf.mk' Tryd.func56 (by kernel_rfl) (by kernel_rfl)
theorem co57 : CallOf Tryd.prog 57 := CallOf.mk' Tryd.func57 (by kernel_rfl) (by kernel_rfl)
theorem join_ok (v : Value) (ys : List (List UInt8)) (sep : List UInt8) (base T : Nat) (w0 : World) (hO : Lw.Own Enc.str T base w0 v ys) (hne : ys ≠ []) (hl : (Lib.join ys sep).length ≤ 1000000) (hl2 : ys.length ≤ 1000000) : Rets Tryd.prog 57 #[v, S sep] w0 fun r w' => r = S (Lib.join ys sep) ∧ Fr [] w0 w' := by
  rcases hO with ⟨_, e⟩ | ⟨g, cap, cur, rfl, hb, hg, h1, h2, h3, h4⟩
  · exact absurd e hne
  have hm : (ys.map (fun y => (⟨y.toArray⟩ : ByteArray))).map (·.data.toList) = ys := by rw [List.map_map]; simp [Function.comp_def]
  have hO : Lw.Own Enc.str T base w0 (.slice (some ⟨g, 0, none⟩) ys.length cap) ys := .inr ⟨g, cap, cur, rfl, hb, hg, h1, h2, h3, h4⟩
  have hj := Tryd.strings_Join g 0 cap (ys.map (fun y => (⟨y.toArray⟩ : ByteArray))) ⟨sep.toArray⟩ w0 (fun j x hx => by
      rw [List.getElem?_map, Option.map_eq_some_iff] at hx
      obtain ⟨y, hy, rfl⟩ := hx
      obtain ⟨A, c, e, _, _, hA⟩ := hO.sl
      cases e
      obtain ⟨ad, e1, hc⟩ := hA j y hy
      cases e1
      have := hc 0 (S y) rfl
      rw [lit_add, lit_add, Nat.add_zero, show Enc.str.sz = 1 from rfl, Nat.mul_one] at this
      exact this) ((Array.getElem?_eq_some_iff.1 hg).1) (by simp; omega) (by simp; omega) (by rw [hm]; simp; omega)
  rw [hm, List.length_map] at hj
  refine Calls.mono hj ?_
  rintro e w' ⟨rfl, hb⟩
  exact ⟨_, rfl, by simp [S], Fr.of_below hb⟩
theorem inum_ok (n : Int) (w0 : World) (h0 : 0 ≤ n) (h1 : n < 100) : Rets Tryd.prog 32 #[.int .i64 n] w0 fun v w' => v = S (numT n) ∧ w0 = w' := by
  obtain ⟨k, rfl⟩ := Int.eq_ofNat_of_zero_le h0
  exact itoa_ok k w0 (by omega)
theorem shortg_ok (u : Value) (xs : List Stitch) (w0 : World) (hu : Sl encSt w0 u xs) (hy : Sym w0) (hok : xs.all okB = true) (h1 : 1 ≤ xs.length) (h16 : xs.length ≤ 16) : Rets Tryd.prog 56 #[u] w0 fun v w' => v = .tuple #[S (shortS xs), .int .i64 0] ∧ Fr [] w0 w' := by
  have := shorten_ok u xs w0 hu hy
  rwa [shorten_good hok h1 h16] at this
set_option maxHeartbeats 1000000 in
theorem grows_ok (word : List UInt8) (v : Value) (c : RowL) (w0 : World) (hs : Sll encSt w0 v c) (hy : Sym w0) (hL : largeB c = false) (hg : goodB c = true) (hw : word.length ≤ 7) : Rets Tryd.prog 33 #[S word, .agg #[v]] w0 fun r w' => r = S (rowsT word c) ∧ Fr [] w0 w' := by
 have hlg := large_of hL
 obtain ⟨rs, hrs, hqr, hrm⟩ := Sll.opn hs
 have hrc : rs.length = c.length := by rw [← hrm, List.length_map]
 obtain ⟨A, cp, rfl, hcc, hM, hA⟩ := id hrs
 clear hA
 unfold maxLen at hM
 have hgd := fun i (hi : i < rs.length) => gd_rows hrm hi
 refine we [(0, S word), (1, .agg #[.slice A rs.length cp])] Tryd.func33 rfl Tryd.ntmps33 rfl (.cons rfl (.cons rfl .nil)) ?_
 have hs0 := hs
 have hrs0 := hrs
 have hqr0 := hqr
 have hy0 := hy
 refine sr (bx rfl rfl rfl (fun g3 w1 hg3 hb3 q1 z1 => ?_))
 refine asg rfl rfl (nn (sq (sr (fad rfl fa47_0 rfl (s_loadB rfl hb3 rfl na45 rfl (lnS rfl Tryd.underlying45 rfl (eq' rfl rfl rfl (nn ?_))))))))
 refine cd rfl (fun c0 => ?_) (fun c0 => ?_)
 · refine sr (asg rfl rfl (nn (rt (tr (r1 Tryd.results33 rfl ?_)))))
   exact ⟨_, rfl, by rw [rowsT, if_pos (by omega)]; rfl, q1⟩
 · refine sk (tn (sr (fad rfl fa47_0 rfl (s_loadB rfl hb3 rfl na45 rfl (lnS rfl Tryd.underlying45 rfl ?_)))))
   refine s_makeSlice (m := rs.length) (c := rs.length) (([] : List UInt8)) rfl rfl el96 zv9 rfl (Nat.le_refl _) (by omega) (by unfold maxLen; omega) rfl (fun g15 w2 hg15 hoT q2 z2 => ?_)
   replace hoT : Lw.Own Enc.str 9 g15 w2 (.slice (some ⟨g15, 0, none⟩) rs.length rs.length) (stg (c.map rowT) [] 0) := by rw [stg_zero, List.length_map, ← hrc]; exact hoT
   refine asg rfl rfl (nn (sq (sr (fad rfl fa47_0 rfl ?_))))
   replace hb3 := hb3.ext q2
   refine s_loadB rfl hb3 rfl na45 rfl (lnS rfl Tryd.underlying45 rfl (mv rfl rfl (nn (bl ?_))))
   refine lpK (ι := Nat) [(0, _), (5, _), (17, _), (18, _)] (fun i => [(19, .int .i64 (i : Int))]) (fun i w' => Fr [g15] w2 w' ∧ i ≤ rs.length ∧ Lw.Own Enc.str 9 g15 w' (.slice (some ⟨g15, 0, none⟩) rs.length rs.length) (stg (c.map rowT) [] i)) (fun i => rs.length - i) 0 (.cons rfl (.cons rfl (.cons rfl (.cons rfl (.cons rfl .nil))))) ⟨Fr.refl _ _, ⟨Nat.zero_le _, hoT⟩⟩ ?_
   rintro i w3 ⟨q3, ⟨hi, hoT⟩⟩
   have z3 := q3.size
   refine kpC [(0, _), (5, _), (17, _), (18, _), (19, _)] (.cons rfl (.cons rfl (.cons rfl (.cons rfl (.cons rfl .nil))))) ?_
   refine sr (lt' rfl rfl rfl (nn (sq ?_)))
   refine cd rfl (fun c1 => ?_) (fun c1 => ?_)
   · replace hqr := hqr0.ext ((q1.next q2).step q3 (by first | (simp; done) | (simp; omega)))
     have hgi := hgd i (by omega)
     have hri := good_at hg hgi (by omega)
     have hrl := large_at hL hgi (by omega)
     have hjl := sl_len (hqr (rs.getD i rq0) (getD_memS (by omega)))
     refine sk (tn (sq (bl (sr (mv rfl rfl ?_)))))
     replace hrs := hrs0.ext ((q1.next q2).step q3 (by first | (simp; done) | (simp; omega)))
     refine s_idxL (rq0) rfl hrs rfl er45 (by omega) (by omega) nat_of rfl (fun ad22 hc22 => ?_)
     refine s_loadC0 rfl (hc22 _ hrs) na61 rfl (asg rfl rfl (asg rfl rfl (nn (sr (mv rfl rfl (mv rfl rfl ?_))))))
     refine s_ixs (p := i) ([45]) rfl hoT rfl rfl (by intro e; cases e) el96 sz9 rfl (by omega) (by first | omega | (simp only [List.length_append, List.length_replicate, stg_len, List.length_map, List.length_nil]; omega)) (by omega) rfl rfl (fun w4 hoT q4 z4 => ?_)
     replace q4 : Fr [g15] _ _ := q4
     refine nn (sr (mv rfl rfl (lnS rfl Tryd.underlying61 rfl (gt' rfl rfl rfl (nn ?_)))))
     refine cd rfl (fun c2 => ?_) (fun c2 => ?_)
     · refine rg (mv rfl rfl (mv rfl rfl (mv rfl rfl ?_)))
       replace hqr := hqr0.ext (((q1.next q2).step q3 (by first | (simp; done) | (simp; omega))).step q4 (by first | (simp; done) | (simp; omega)))
       replace hy := hy0.ext (((q1.next q2).step q3 (by first | (simp; done) | (simp; omega))).step q4 (by first | (simp; done) | (simp; omega)))
       refine cl (ev1 rfl) co56 (shortg_ok _ (rs.getD i rq0).2 _ (hqr _ (getD_memS (by omega))) hy hri (by omega) hrl) rfl ?_
       rintro _ w5 ⟨rfl, q5⟩
       have z5 := q5.size
       refine mv rfl rfl (xt rfl rfl rfl (xt rfl rfl rfl ?_))
       replace hoT := hoT.ext q5
       refine s_ixs (p := i) ((shortS (rs.getD i rq0).2)) rfl hoT rfl rfl (by intro e; cases e) el96 sz9 rfl (by omega) (by first | omega | (simp only [List.length_append, List.length_replicate, List.length_set, stg_len, List.length_map, List.length_nil]; omega)) (by omega) rfl rfl (fun w6 hoT q6 z6 => ?_)
       replace q6 : Fr [g15] _ _ := q6
       refine kpL [(0, _), (5, _), (17, _), (18, _), (19, _)] (.cons rfl (.cons rfl (.cons rfl (.cons rfl (.cons rfl .nil))))) (nl (bn' (tn (rg (s_add rfl rfl (wi6 (by omega)) rfl (mv rfl rfl (nl ?_)))))))
       exact lpE (i + 1) (.cons rfl (.cons rfl (.cons rfl (.cons rfl (.cons rfl .nil))))) ⟨(((((Fr.refl [g15] _).step q3 (by first | (simp; done) | (simp; omega))).step q4 (by first | (simp; done) | (simp; omega))).next q5).step q6 (by first | (simp; done) | (simp; omega))), ⟨by omega, by first | (rw [List.set_set, stg_set (row_at hgi (by omega) (rowT_1 (by omega)))] at hoT; exact hoT) | (rw [stg_set (row_at hgi (by omega) (rowT_0 (by omega)))] at hoT; exact hoT)⟩⟩ (by omega)
     · refine sk (bn' (tn (rg (s_add rfl rfl (wi6 (by omega)) rfl (mv rfl rfl (nl ?_))))))
       exact lpE (i + 1) (.cons rfl (.cons rfl (.cons rfl (.cons rfl (.cons rfl .nil))))) ⟨(((Fr.refl [g15] _).step q3 (by first | (simp; done) | (simp; omega))).step q4 (by first | (simp; done) | (simp; omega))), ⟨by omega, by first | (rw [List.set_set, stg_set (row_at hgi (by omega) (rowT_1 (by omega)))] at hoT; exact hoT) | (rw [stg_set (row_at hgi (by omega) (rowT_0 (by omega)))] at hoT; exact hoT)⟩⟩ (by omega)
   · obtain rfl : i = rs.length := by omega
     rw [stg_all (by rw [List.length_map]; omega)] at hoT
     refine ex (te (te (xh (tn (sr (mv rfl rfl (s_adds rfl rfl (by have := bars_le hL; unfold barsT at this; simp only [List.length_append, List.length_cons, List.length_nil]; omega) rfl (mv rfl rfl ?_))))))))
     refine cl (ev2 rfl rfl) co57 (join_ok _ (c.map rowT) [32, 124, 32] _ _ _ hoT (fun e => by have := congrArg List.length e; rw [List.length_map, List.length_nil] at this; omega) (by have := bars_le hL; unfold barsT at this; omega) (by rw [List.length_map]; omega)) rfl ?_
     rintro _ w7 ⟨rfl, q7⟩
     have z7 := q7.size
     refine s_adds rfl rfl (by have := bars_le hL; unfold barsT at this; simp only [List.length_append, List.length_cons, List.length_nil]; omega) rfl (s_adds rfl rfl (by have := bars_le hL; unfold barsT at this; simp only [List.length_append, List.length_cons, List.length_nil]; omega) rfl (asg rfl rfl (kpL [(4, _)] (.cons rfl .nil) (nn (rt (r1 Tryd.results33 rfl ?_))))))
     exact ⟨_, rfl, by rw [rowsT, if_neg (by omega)]; rfl, (((q1.next q2).step q3 (by first | (simp; done) | (simp; omega))).next q7)⟩
end Go.Proofs.YthehggmdcmpjeaaDoor
namespace Go.Proofs.YthehggmdcmpjeaaDoor
open Go.Lw Go.G14
theorem co54 : CallOf Tryd.prog 54 := CallOf.mk' Tryd.func54 (by kernel_rfl) (by kernel_rfl)
theorem fa78_0 : FieldAt Tryd.prog 78 0 0 := fun _ _ => by kernel_rfl
theorem fa78_1 : FieldAt Tryd.prog 78 1 1 := fun _ _ => by kernel_rfl
theorem na75 : NotAgg Tryd.prog 75 := fun _ => by kernel_rfl
theorem sz75 : SizeOf Tryd.prog 75 1 := fun _ => by kernel_rfl
theorem sz76 : SizeOf Tryd.prog 76 1 := fun _ => by kernel_rfl
theorem infoBd : ∃ j, Tryd.prog.info? 78 = some j ∧ j.size = 2 := Option.map_eq_some_iff.1 (show (Tryd.prog.info? 78).map (·.size) = some 2 by kernel_rfl)
theorem infoBy : (Tryd.prog.info? 5).map (fun i => (i.zero, i.size, i.bytes)) = some (some (.int .u8 0), 1, 1) := by kernel_rfl
theorem liesBd : liesAt Tryd.prog Tryd.prog.depth 78 (2 / Tryd.prog.cellsOf 78) 0 78 1 = true := by kernel_rfl
theorem noEscape (u : Value) (w : World) : (callFunc 74 #[u]).run Tryd.prog w = .ok (.value u) w := by
  rw [run_callFunc_extern Tryd.func74 (by kernel_rfl) (by kernel_rfl) (by kernel_rfl) (e := Extern.AbiNoEscape.same) (by kernel_rfl), Lib.run_noEscape]; rfl
theorem copycheck_ok (B b : Nat) (bs : List Value) (w0 : World) (hI : Lib.IsBuilder 78 5 B b bs w0) : Rets Tryd.prog 54 #[.pointer (some ⟨b, 0, none⟩)] w0 fun v w' => Lib.BuilderAt 78 5 B b (.pointer (some ⟨b, 0, none⟩)) bs w' ∧ RowKit.Below B w0 w' ∧ Fr [b] w0 w' := by
  obtain ⟨po, hpo, hAt⟩ : ∃ po, (po = none ∨ po = some ⟨b, 0, none⟩) ∧ Lib.BuilderAt 78 5 B b (.pointer po) bs w0 := hI.elim (fun h => ⟨none, .inl rfl, h⟩) (fun h => ⟨_, .inr rfl, h⟩)
  have hsh := hAt.shape
  obtain ⟨j, hj, hj2⟩ := infoBd
  obtain ⟨hB, v, hbk, hown, hne⟩ := hAt
  have hbl : Blk w0 b 78 [.pointer po, v] := hbk
  refine enter [(0, .pointer (some ⟨b, 0, none⟩))] Tryd.func54 rfl Tryd.ntmps54 rfl (.cons rfl .nil) ?_
  intro a h
  refine wp_seq ?_
  refine wp_region_lit ?_
  refine st_move h rfl rfl ?_; clear h a; intro a h
  refine st_nilCheck h rfl rfl ?_; clear h a; intro a h
  refine st_fieldAddr h rfl fa78_0 rfl ?_; clear h a; intro a h
  refine st_loadB h rfl hbl rfl na75 rfl ?_; clear h a; intro a h
  refine st_eqnilP h rfl Tryd.underlying75 rfl ?_; clear h a; intro a h
  replace h : Ag a 20 [(0, _), (6, _)] := h.sub (.cons rfl (.cons rfl .nil))
  refine wpList_nil (norm_then ?_)
  first | refine cond_dec h rfl (fun c0 => ?_) (fun c0 => ?_) | refine cond_ndec h rfl (fun c0 => ?_) (fun c0 => ?_) | refine cond_split h rfl (fun c0 => ?_) (fun c0 => ?_)
  · obtain rfl : po = none := by cases po with | none => rfl | some x => cases c0
    refine wp_region_lit ?_
    refine st_move h rfl rfl ?_; clear h a; intro a h
    refine st_move h rfl rfl ?_; clear h a; intro a h
    refine st_toUnsafe h rfl Tryd.underlying75 Tryd.underlying133 hj (by omega) hsh Nat.zero_lt_two rfl ?_; clear h a; intro a h
    refine st_same h rfl noEscape rfl ?_; clear h a; intro a h
    refine st_fromUnsafe h rfl Tryd.underlying133 Tryd.underlying75 hj hsh liesBd rfl ?_; clear h a; intro a h
    refine st_nilCheck h rfl rfl ?_; clear h a; intro a h
    refine st_fieldAddr h rfl fa78_0 rfl ?_; clear h a; intro a h
    refine st_storeB h rfl rfl hbl rfl rfl rfl sz75 ?_; clear h a; intro w1 hbn hq hz a h
    replace h : Ag a 20 [] := h.sub .nil
    refine wpList_nil ?_
    refine ret0n h Tryd.results54  ?_
    exact ⟨_, rfl, bAt_mk hB hbn hown hq hne, below_of_fr hq (by simpa using hB) (Nat.le_trans hB (Nat.le_of_lt hbl.lt)), hq⟩
  · obtain rfl : po = some ⟨b, 0, none⟩ := hpo.resolve_left (fun e => by rw [e] at c0; cases c0)
    refine wp_seq ?_
    refine wp_region_lit ?_
    refine st_move h rfl rfl ?_; clear h a; intro a h
    refine st_nilCheck h rfl rfl ?_; clear h a; intro a h
    refine st_fieldAddr h rfl fa78_0 rfl ?_; clear h a; intro a h
    refine st_loadB h rfl hbl rfl na75 rfl ?_; clear h a; intro a h
    refine st_move h rfl rfl ?_; clear h a; intro a h
    refine st_neSameP h rfl rfl Tryd.underlying75 hj rfl ?_; clear h a; intro a h
    replace h : Ag a 20 [(19, _)] := h.sub (.cons rfl .nil)
    refine wpList_nil (norm_then ?_)
    refine cond_false h rfl ?_
    refine wp_skip ?_
    refine ret0n h Tryd.results54  ?_
    exact ⟨_, rfl, ⟨hB, v, hbk, hown, hne⟩, RowKit.Below.refl _ _, Fr.refl _ _⟩
theorem bws_ok (b : Nat) (l s : List UInt8) (w0 : World) (hI : Bld 78 5 b l w0) (hM : l.length + s.length ≤ 16777216) : Rets Tryd.prog 31 #[.pointer (some ⟨b, 0, none⟩), S s] w0 fun v w' => Bld 78 5 b (l ++ s) w' ∧ ∃ S, (∀ k ∈ S, b ≤ k) ∧ (∀ k ∈ S, ∀ T cs, Blk w0 k T cs → k = b ∨ T = 5) ∧ Fr S w0 w' := by
  have hI' := hI
  replace hI : Lib.IsBuilder 78 5 b b (Lib.byteCells l) w0 := hI'
  refine enter [(0, .pointer (some ⟨b, 0, none⟩)), (1, S s)] Tryd.func31 rfl Tryd.ntmps31 rfl (.cons rfl (.cons rfl .nil)) ?_
  intro a h
  refine wp_seq ?_
  refine wp_region_lit ?_
  refine st_assign h rfl rfl ?_; clear h a; intro a h
  refine st_assign h rfl rfl ?_; clear h a; intro a h
  replace h : Ag a 19 [(0, _), (1, _)] := h.sub (.cons rfl (.cons rfl .nil))
  refine wpList_nil (norm_then ?_)
  refine wp_seq ?_
  refine wp_region_lit ?_
  refine st_move h rfl rfl ?_; clear h a; intro a h
  refine st_call h (evs_cons rfl evs_nil) co54 (copycheck_ok _ _ _ _ hI) rfl ?_; clear h a; rintro _ w1 ⟨hAt, hq1, hqf⟩ a h
  obtain ⟨hB, v, hbk, hown, hne⟩ := hAt
  have hbl : Blk w1 b 78 [.pointer (some ⟨b, 0, none⟩), v] := hbk
  have hbz := hbl.lt
  rw [Lib.byteCells_length] at hown
  replace h : Ag a 19 [(0, _), (1, _)] := h.sub (.cons rfl (.cons rfl .nil))
  refine wpList_nil (norm_then ?_)
  refine wp_seq ?_
  refine wp_region_lit ?_
  refine st_move h rfl rfl ?_; clear h a; intro a h
  refine st_move h rfl rfl ?_; clear h a; intro a h
  refine st_nilCheck h rfl rfl ?_; clear h a; intro a h
  refine st_fieldAddr h rfl fa78_1 rfl ?_; clear h a; intro a h
  refine st_loadB h rfl hbl rfl na76 rfl ?_; clear h a; intro a h
  refine st_move h rfl rfl ?_; clear h a; intro a h
  refine st_appendStr h rfl rfl Tryd.underlying76 Tryd.underlying9 infoBy hown (by unfold maxLen; omega) (by omega) (by omega) rfl ?_; clear h a; intro v2 w2 hown2 hgr a h
  have hfg := fr_grown hgr
  have hbl2 := hbl.fr hfg (by simpa using hne)
  have hgz := hfg.size
  refine st_nilCheck h rfl rfl ?_; clear h a; intro a h
  refine st_fieldAddr h rfl fa78_1 rfl ?_; clear h a; intro a h
  refine st_storeB h rfl rfl hbl2 rfl (own_one hown2).1 (own_one hown2).2 sz76 ?_; clear h a; intro w3 hbn hq hz a h
  replace h : Ag a 19 [(1, _)] := h.sub (.cons rfl .nil)
  refine wpList_nil (norm_then ?_)
  refine wp_seq ?_
  refine wp_region_lit ?_
  refine st_move h rfl rfl ?_; clear h a; intro a h
  refine st_len h rfl Tryd.underlying9 rfl ?_; clear h a; intro a h
  refine st_assign h rfl rfl ?_; clear h a; intro a h
  refine st_assign h rfl rfl ?_; clear h a; intro a h
  replace h : Ag a 19 [(4, _), (5, _)] := h.sub (.cons rfl (.cons rfl .nil))
  refine wpList_nil (norm_then ?_)
  refine wp_ret ?_
  refine ret2 h Tryd.results31 rfl rfl ?_
  exact ⟨_, rfl, .inr (bAt_mk hB hbn (row_str hown2) hq (Lib.ownBlock_ne hown2 hbl2 (by decide))), bld_frame hqf hown hfg hq⟩
theorem bst_ok (b : Nat) (l : List UInt8) (w0 : World) (hI : Bld 78 5 b l w0) : Rets Tryd.prog 34 #[.pointer (some ⟨b, 0, none⟩)] w0 fun v w' => v = S l ∧ ∃ S, (∀ k ∈ S, b ≤ k) ∧ Fr S w0 w' := by
  refine Calls.mono (Tryd.Builder_String_any b b l w0 hI (Nat.le_of_lt hI.lt)) ?_
  rintro e w' ⟨rfl, hb⟩
  exact ⟨_, rfl, rfl, below_frS hb⟩
end Go.Proofs.YthehggmdcmpjeaaDoor
namespace Go.Proofs.YthehggmdcmpjeaaDoor
open Go.Lw Go.G14
theorem bo83 : BuildAt Tryd.prog 83 [(0, 1), (1, 1), (2, 1), (3, 1)] [(.int .i64 0), (.int .i64 0), (.int .i64 0), (.int .i64 0)] := BuildAt.array (sz := 1) Tryd.underlying83 (fun _ => by kernel_rfl) (fun _ => by kernel_rfl) (fun i q h => by match i, h with | 0, h => simpa using h.symm | 1, h => simpa using h.symm | 2, h => simpa using h.symm | 3, h => simpa using h.symm | (k + 4), h => simp at h)
theorem co31 : CallOf Tryd.prog 31 := CallOf.mk' Tryd.func31 (by kernel_rfl) (by kernel_rfl)
theorem co33 : CallOf Tryd.prog 33 := CallOf.mk' Tryd.func33 (by kernel_rfl) (by kernel_rfl)
theorem co34 : CallOf Tryd.prog 34 := CallOf.mk' Tryd.func34 (by kernel_rfl) (by kernel_rfl)
theorem zv78 (w : World) : (zeroValue 78).run Tryd.prog w = .ok (.agg #[(.pointer none), (.slice none 0 0)]) w := by kernel_rfl
set_option maxHeartbeats 2000000 in
theorem gtext_ok (nm : List UInt8) (v : Value) (qs : List PQ) (w0 : World) (hs : Sl encPq w0 v qs) (hq : PcsQ w0 qs) (hy : Sym w0) : Rets Tryd.prog 13 #[.agg #[S nm, v]] w0 fun r w' => r = S (garText nm (pcs qs)) ∧ Fr [] w0 w' := by
 obtain ⟨A, c, rfl, hcc, hM, hA⟩ := id hs
 clear hA
 unfold maxLen at hM
 refine we [(0, .agg #[S nm, .slice A qs.length c])] Tryd.func13 rfl Tryd.ntmps13 rfl (.cons rfl .nil) ?_
 have hs0 := hs
 have hq0 := hq
 have hy0 := hy
 refine sr (bx rfl rfl rfl (fun g1 w1 hg1 hb1 q1 z1 => ?_))
 refine asg rfl rfl (nn (sq (sr (s_loadBA rfl hb1 ag24 rfl ?_))))
 replace hs := hs0.ext q1
 replace hq := hq0.ext q1
 refine cl (ev1 rfl) co10 (gcheck_ok nm _ qs _ hs hq) rfl ?_
 rintro _ w2 ⟨rfl, q2⟩
 have z2 := q2.size
 refine ne' rfl rfl rfl (nn ?_)
 refine cd rfl (fun c0 => ?_) (fun c0 => ?_)
 · refine sr (asg rfl rfl (nn (rt (tr (r1 Tryd.results13 rfl ?_)))))
   exact ⟨_, rfl, by rw [garText, if_neg c0]; rfl, (q1.next q2)⟩
 · have hg0 : garE nm (pcs qs) = 0 := Classical.not_not.1 c0
   have hga := gar_of hg0
   have hnl := name_le hga.2.2.1
   rw [pcs_len] at hga
   refine sk (tn (sr (al zv78 rfl rfl (fun g3 w3 hg3 hb3 q3 z3 => ?_))))
   have hB : Bld 78 5 g3 [] w3 := Bld.new hb3
   have hB0 := hB
   have hlt3 := hB.lt
   refine nn (sr (fad rfl fa24_0 rfl ?_))
   replace hb1 := hb1.ext (q2.next q3)
   refine s_loadB rfl hb1 rfl na9 rfl (s_adds rfl rfl (by simp only [List.length_append, List.length_cons, List.length_nil]; omega) rfl (s_adds rfl rfl (by simp only [List.length_append, List.length_cons, List.length_nil]; omega) rfl ?_))
   refine cl (ev2 rfl rfl) co31 (bws_ok _ _ _ _ hB (by simp only [List.length_append, List.length_cons, List.length_nil, wGarment, wPiece]; omega)) rfl ?_
   rintro _ w4 ⟨hB, Sx, hS4, hTx, q4⟩
   replace hb1 := hb1.fr q4 (fun hk => by have := hS4 g1 hk; omega)
   have z4 := q4.size
   have hB0 := hB
   refine nn (sq (sr (fad rfl fa24_1 rfl (s_loadB rfl hb1 rfl na22 rfl (lnS rfl Tryd.underlying22 rfl (mv rfl rfl (nn (bl ?_))))))))
   refine lpK (ι := Nat) [(3, _), (17, _), (18, _)] (fun k => [(19, .int .i64 (k : Int))]) (fun k w' => Fr [] w0 w' ∧ k ≤ qs.length ∧ Bld 78 5 g3 (gT nm (pcs qs) k) w') (fun k => qs.length - k) 0 (.cons rfl (.cons rfl (.cons rfl (.cons rfl .nil)))) ⟨(((q1.next q2).next q3).step q4 (fun k hk hlt => by have := hS4 k hk; first | (exfalso; omega) | (simp; omega))), ⟨Nat.zero_le _, by rw [gT_zero]; exact hB⟩⟩ ?_
   rintro k w5 ⟨q5, ⟨hk, hB⟩⟩
   have z5 := q5.size
   have hB0 := hB
   refine kpC [(3, _), (17, _), (18, _), (19, _)] (.cons rfl (.cons rfl (.cons rfl (.cons rfl .nil)))) ?_
   have hlt3 := hB.lt
   refine sr (lt' rfl rfl rfl (nn (sq ?_)))
   refine cd rfl (fun c1 => ?_) (fun c1 => ?_)
   · have hgl := gT_le hg0 k
     have hpr := hga.2.2.2.1 _ (pcs_mem (show k < qs.length by omega))
     have hpm := hga.2.2.2.2.1 _ (pcs_mem (show k < qs.length by omega))
     have hmo := mot_of hpm
     have hpn := name_le (right_of hpr).1
     have hr1 := rows_le (w := wLeft) hmo.1 (by decide)
     have hr2 := rows_le (w := wTile) hmo.2.1 (by decide)
     have hr3 := rows_le (w := wRight) hmo.2.2.1 (by decide)
     have hn4 := numsT_le hpr 4
     refine sk (tn (sq (bl (sr ?_))))
     replace hs := hs0.ext q5
     refine s_idxL (pq0) rfl hs rfl el22 (by omega) (by omega) nat_of rfl (fun ad21 hc21 => ?_)
     refine s_loadA rfl (hc21 _ hs) ag51 rfl (al zv51 rfl rfl (fun g5 w6 hg5 hb5 q6 z6 => ?_))
     refine s_storeBA rfl rfl hb5 rfl (by first | (simp [Value.oneCell', S]; done) | exact Enc.one _ _) sz51 (fun w7 hb5 q7 z7 => ?_)
     refine nn (sr (fad rfl fa51_0 rfl (s_loadB rfl hb5 rfl na9 rfl (s_adds rfl rfl (by simp only [List.length_append, List.length_cons, List.length_nil]; omega) rfl ?_))))
     replace hB := hB0.ext (q6.step q7 (by first | (simp; done) | (simp; omega)))
     refine cl (ev2 rfl rfl) co31 (bws_ok _ _ _ _ hB (by simp only [List.length_append, List.length_cons, List.length_nil, wGarment, wPiece]; omega)) rfl ?_
     rintro _ w8 ⟨hB, Sx, hS8, hTx, q8⟩
     replace hb5 := hb5.fr q8 (fun hk => by rcases hTx g5 hk _ _ hb5 with e | e; omega; exact absurd e (by decide))
     have z8 := q8.size
     have hB0 := hB
     refine nn (sq (sr (fad rfl fa51_5 rfl (s_loadB rfl hb5 rfl na3 rfl (fad rfl fa51_2 rfl (s_loadB rfl hb5 rfl na3 rfl (fad rfl fa51_3 rfl (s_loadB rfl hb5 rfl na3 rfl (fad rfl fa51_4 rfl (s_loadB rfl hb5 rfl na3 rfl (s_lit (cs := [_, _, _, _]) (ev4 rfl rfl rfl rfl) bo83 (pok_cons rfl rfl rfl (pok_cons rfl rfl rfl (pok_cons rfl rfl rfl (pok_cons rfl rfl rfl pok_nil)))) rfl rfl ?_)))))))))))
     refine mv rfl rfl (kpL [(3, _), (5, _), (17, _), (18, _), (19, _), (35, _), (36, _)] (.cons rfl (.cons rfl (.cons rfl (.cons rfl (.cons rfl (.cons rfl (.cons rfl .nil))))))) (nn (bl ?_)))
     refine lpK (ι := Nat) [(3, _), (5, _), (17, _), (18, _), (19, _), (35, _)] (fun z => [(36, .int .i64 (z : Int))]) (fun z w' => Fr [] w0 w' ∧ z ≤ 4 ∧ Blk w' g5 51 [S (qs.getD k pq0).p.nm, slv (qs.getD k pq0).l, slv (qs.getD k pq0).t, slv (qs.getD k pq0).r, .int .i64 (qs.getD k pq0).p.ba, .int .i64 (qs.getD k pq0).p.st, .int .i64 (qs.getD k pq0).p.up, .int .i64 (qs.getD k pq0).p.ct] ∧ Bld 78 5 g3 (gT nm (pcs qs) k ++ (wPiece ++ [32] ++ (qs.getD k pq0).p.nm) ++ numsT (qs.getD k pq0).p z) w') (fun z => 4 - z) 0 (.cons rfl (.cons rfl (.cons rfl (.cons rfl (.cons rfl (.cons rfl (.cons rfl .nil))))))) ⟨(((q5.next q6).step q7 (by first | (simp; done) | (simp; omega))).step q8 (fun k hk hlt => by have := hS8 k hk; first | (exfalso; omega) | (simp; omega))), ⟨Nat.zero_le _, ⟨hb5, by rw [show numsT (qs.getD k pq0).p 0 = [] from rfl, List.append_nil]; exact hB⟩⟩⟩ ?_
     rintro z w9 ⟨q9, ⟨hz, ⟨hb5, hB⟩⟩⟩
     have z9 := q9.size
     have lt_hb5 := hb5.lt
     have hB0 := hB
     refine kpC [(3, _), (5, _), (17, _), (18, _), (19, _), (35, _), (36, _)] (.cons rfl (.cons rfl (.cons rfl (.cons rfl (.cons rfl (.cons rfl (.cons rfl .nil))))))) ?_
     have hlt3 := hB.lt
     refine sr (lt' rfl rfl rfl (nn (sq ?_)))
     refine cd rfl (fun c2 => ?_) (fun c2 => ?_)
     · have hnr := num_rng hpr (z := z) (by omega)
       have hnz := numsT_le hpr z
       have hnt := numT_le hnr.2
       refine sk (tn (sq (bl (sr ?_))))
       refine s_ixv (v := .int .i64 ((numL (qs.getD k pq0).p).getD z 0)) rfl rfl Tryd.underlying83 sz3 na3 (by omega) (by omega) (num_cell _ (by omega)) rfl ?_
       refine asg rfl rfl (nn (rg (mv rfl rfl ?_)))
       refine cl (ev1 rfl) co32 (inum_ok _ _ hnr.1 hnr.2) rfl ?_
       rintro _ _ ⟨rfl, rfl⟩
       refine s_adds rfl rfl (by simp only [List.length_append, List.length_cons, List.length_nil]; omega) rfl ?_
       refine cl (ev2 rfl rfl) co31 (bws_ok _ _ _ _ hB (by simp only [List.length_append, List.length_cons, List.length_nil, wGarment, wPiece]; omega)) rfl ?_
       rintro _ w10 ⟨hB, Sx, hS10, hTx, q10⟩
       replace hb5 := hb5.fr q10 (fun hk => by rcases hTx g5 hk _ _ hb5 with e | e; omega; exact absurd e (by decide))
       have z10 := q10.size
       have hB0 := hB
       refine nl (bn' (tn (rg (s_add rfl rfl (wi6 (by omega)) rfl (mv rfl rfl (nl ?_))))))
       exact lpE (z + 1) (.cons rfl (.cons rfl (.cons rfl (.cons rfl (.cons rfl (.cons rfl (.cons rfl .nil))))))) ⟨(q9.step q10 (fun k hk hlt => by have := hS10 k hk; first | (exfalso; omega) | (simp; omega))), ⟨by omega, ⟨hb5, by rw [nums_succ _ (num_at _ (by omega)), ← List.append_assoc]; exact hB⟩⟩⟩ (by omega)
     · obtain rfl : z = 4 := by omega
       refine ex (te (te (xh (tn (sr ?_)))))
       refine cl (ev2 rfl rfl) co31 (bws_ok _ _ _ _ hB (by simp only [List.length_append, List.length_cons, List.length_nil, wGarment, wPiece]; omega)) rfl ?_
       rintro _ w11 ⟨hB, Sx, hS11, hTx, q11⟩
       replace hb5 := hb5.fr q11 (fun hk => by rcases hTx g5 hk _ _ hb5 with e | e; omega; exact absurd e (by decide))
       have z11 := q11.size
       have hB0 := hB
       refine nn (sr (fad rfl fa51_1 rfl (s_fad2 rfl fa49_0 rfl (s_loadBP (vs := [_]) rfl hb5 ag47 rfl rfl ?_))))
       replace hq := hq0.ext (q9.step q11 (fun k hk hlt => by have := hS11 k hk; first | (exfalso; omega) | (simp; omega)))
       replace hy := hy0.ext (q9.step q11 (fun k hk hlt => by have := hS11 k hk; first | (exfalso; omega) | (simp; omega)))
       refine cl (ev2 rfl rfl) co33 (grows_ok wLeft _ _ _ (hq.at (show k < qs.length by omega)).L hy hmo.1 hmo.2.2.2.2.2.1 (by decide)) rfl ?_
       rintro _ w12 ⟨rfl, q12⟩
       have z12 := q12.size
       replace hb5 := hb5.ext q12
       replace hB := hB0.ext q12
       refine cl (ev2 rfl rfl) co31 (bws_ok _ _ _ _ hB (by simp only [List.length_append, List.length_cons, List.length_nil, wGarment, wPiece]; omega)) rfl ?_
       rintro _ w13 ⟨hB, Sx, hS13, hTx, q13⟩
       replace hb5 := hb5.fr q13 (fun hk => by rcases hTx g5 hk _ _ hb5 with e | e; omega; exact absurd e (by decide))
       have z13 := q13.size
       have hB0 := hB
       refine nn (sr (fad rfl fa51_1 rfl (s_fad2 rfl fa49_1 rfl (s_loadBP (vs := [_]) rfl hb5 ag47 rfl rfl ?_))))
       replace hq := hq0.ext (((q9.step q11 (fun k hk hlt => by have := hS11 k hk; first | (exfalso; omega) | (simp; omega))).next q12).step q13 (fun k hk hlt => by have := hS13 k hk; first | (exfalso; omega) | (simp; omega)))
       replace hy := hy0.ext (((q9.step q11 (fun k hk hlt => by have := hS11 k hk; first | (exfalso; omega) | (simp; omega))).next q12).step q13 (fun k hk hlt => by have := hS13 k hk; first | (exfalso; omega) | (simp; omega)))
       refine cl (ev2 rfl rfl) co33 (grows_ok wTile _ _ _ (hq.at (show k < qs.length by omega)).T hy hmo.2.1 hmo.2.2.2.2.2.2.1 (by decide)) rfl ?_
       rintro _ w14 ⟨rfl, q14⟩
       have z14 := q14.size
       replace hb5 := hb5.ext q14
       replace hB := hB0.ext q14
       refine cl (ev2 rfl rfl) co31 (bws_ok _ _ _ _ hB (by simp only [List.length_append, List.length_cons, List.length_nil, wGarment, wPiece]; omega)) rfl ?_
       rintro _ w15 ⟨hB, Sx, hS15, hTx, q15⟩
       replace hb5 := hb5.fr q15 (fun hk => by rcases hTx g5 hk _ _ hb5 with e | e; omega; exact absurd e (by decide))
       have z15 := q15.size
       have hB0 := hB
       refine nn (rg (fad rfl fa51_1 rfl (s_fad2 rfl fa49_2 rfl (s_loadBP (vs := [_]) rfl hb5 ag47 rfl rfl ?_))))
       replace hq := hq0.ext (((((q9.step q11 (fun k hk hlt => by have := hS11 k hk; first | (exfalso; omega) | (simp; omega))).next q12).step q13 (fun k hk hlt => by have := hS13 k hk; first | (exfalso; omega) | (simp; omega))).next q14).step q15 (fun k hk hlt => by have := hS15 k hk; first | (exfalso; omega) | (simp; omega)))
       replace hy := hy0.ext (((((q9.step q11 (fun k hk hlt => by have := hS11 k hk; first | (exfalso; omega) | (simp; omega))).next q12).step q13 (fun k hk hlt => by have := hS13 k hk; first | (exfalso; omega) | (simp; omega))).next q14).step q15 (fun k hk hlt => by have := hS15 k hk; first | (exfalso; omega) | (simp; omega)))
       refine cl (ev2 rfl rfl) co33 (grows_ok wRight _ _ _ (hq.at (show k < qs.length by omega)).R hy hmo.2.2.1 hmo.2.2.2.2.2.2.2.1 (by decide)) rfl ?_
       rintro _ w16 ⟨rfl, q16⟩
       have z16 := q16.size
       replace hb5 := hb5.ext q16
       replace hB := hB0.ext q16
       refine cl (ev2 rfl rfl) co31 (bws_ok _ _ _ _ hB (by simp only [List.length_append, List.length_cons, List.length_nil, wGarment, wPiece]; omega)) rfl ?_
       rintro _ w17 ⟨hB, Sx, hS17, hTx, q17⟩
       replace hb5 := hb5.fr q17 (fun hk => by rcases hTx g5 hk _ _ hb5 with e | e; omega; exact absurd e (by decide))
       have z17 := q17.size
       have hB0 := hB
       refine kpL [(3, _), (17, _), (18, _), (19, _)] (.cons rfl (.cons rfl (.cons rfl (.cons rfl .nil)))) (nl (bn' (tn (rg (s_add rfl rfl (wi6 (by omega)) rfl (mv rfl rfl (nl ?_)))))))
       exact lpE (k + 1) (.cons rfl (.cons rfl (.cons rfl (.cons rfl .nil)))) ⟨(((((((q9.step q11 (fun k hk hlt => by have := hS11 k hk; first | (exfalso; omega) | (simp; omega))).next q12).step q13 (fun k hk hlt => by have := hS13 k hk; first | (exfalso; omega) | (simp; omega))).next q14).step q15 (fun k hk hlt => by have := hS15 k hk; first | (exfalso; omega) | (simp; omega))).next q16).step q17 (fun k hk hlt => by have := hS17 k hk; first | (exfalso; omega) | (simp; omega))), ⟨by omega, by rw [← gT_step (pcs_some (by omega))]; exact hB⟩⟩ (by omega)
   · obtain rfl : k = qs.length := by omega
     rw [← pcs_len qs, gT_all] at hB
     refine ex (te (te (xh (tn (sr ?_)))))
     refine cl (ev1 rfl) co34 (bst_ok _ _ _ hB) rfl ?_
     rintro _ w18 ⟨rfl, Sx, hS18, q18⟩
     have z18 := q18.size
     refine asg rfl rfl (kpL [(2, _)] (.cons rfl .nil) (nn (rt (r1 Tryd.results13 rfl ?_))))
     exact ⟨_, rfl, by rw [garText, if_pos hg0], (q5.step q18 (fun k hk hlt => by have := hS18 k hk; first | (exfalso; omega) | (simp; omega)))⟩
end Go.Proofs.YthehggmdcmpjeaaDoor
namespace Go.Proofs.YthehggmdcmpjeaaDoor
open Go.Lw Go.G14
end Go.Proofs.YthehggmdcmpjeaaDoor
namespace Go.Proofs.YthehggmdcmpjeaaDoor
open Go.Lw Go.G14
theorem el118 : ElemOf Tryd.prog 118 87 Enc.u8 1 := ElemOf.mk' (z := (.int .u8 0)) Tryd.underlying118 (by kernel_rfl) rfl
theorem sz49 : SizeOf Tryd.prog 49 3 := fun _ => by kernel_rfl
theorem zv49 (w : World) : (zeroValue 49).run Tryd.prog w = .ok (.agg #[(.slice none 0 0), (.slice none 0 0), (.slice none 0 0)]) w := by kernel_rfl
theorem words_ok (v : Value) (ks : List Int) (w0 : World) (hs : Sl Enc.u8 w0 v ks) (hl : ks.length ≤ 100) : Rets Tryd.prog 35 #[v] w0 fun r w' => ∃ X, r = .agg #[X] ∧ OwR 61 100 w0.heap.size w' X [ks.map wrdS] ∧ Fr [] w0 w' := by
 obtain ⟨A, c, rfl, hcc, hM, hA⟩ := id hs
 clear hA
 unfold maxLen at hM
 refine we [(0, .slice A ks.length c)] Tryd.func35 rfl Tryd.ntmps35 rfl (.cons rfl .nil) ?_
 have hs0 := hs
 refine sr (al zv47 rfl rfl (fun g2 w1 hg2 hb2 q1 z1 => ?_))
 refine nn (sr (asg rfl rfl (nn (sq (sr (asg rfl rfl (nn (bl ?_))))))))
 skip
 have hb20 := hb2
 skip
 refine lpK (ι := Nat × Value) [(0, _), (2, _)] (fun p => [(4, .int .i64 (p.1 : Int)), (3, p.2)]) (fun p w' => Fr [] w1 w' ∧ p.1 ≤ ks.length ∧ Lw.Own encSt 100 (g2 + 1) w' p.2 ((ks.take p.1).map wrdS)) (fun p => ks.length - p.1) (0, .slice none 0 0) (.cons rfl (.cons rfl (.cons rfl (.cons rfl .nil)))) ⟨(Fr.refl _ _), ⟨Nat.zero_le _, Own.nil _⟩⟩ ?_
 rintro ⟨i, vR⟩ w2 ⟨q2, ⟨hi, hoR⟩⟩
 simp only at hi hoR
 have z2 := q2.size
 refine kpC [(0, _), (2, _), (4, .int .i64 (i : Int)), (3, vR)] (.cons rfl (.cons rfl (.cons rfl (.cons rfl .nil)))) ?_
 refine sq (sr (mv rfl rfl (mv rfl rfl (lnS rfl Tryd.underlying118 rfl (lt' rfl rfl rfl (nn ?_))))))
 refine cd rfl (fun c0 => ?_) (fun c0 => ?_)
 · refine sk (tn (sq (bl (rg (mv rfl rfl (mv rfl rfl (mv rfl rfl ?_)))))))
   replace hs := hs0.ext (q1.next q2)
   refine s_idxL (0) rfl hs rfl el118 (by omega) (by omega) nat_of rfl (fun ad14 hc14 => ?_)
   refine s_loadC0 rfl (hc14 _ hs) na87 rfl (s_lit (cs := [_, _, _, _, _]) (ev2 rfl rfl) bo100 (pok_cons rfl rfl rfl (pok_cons rfl rfl rfl pok_nil)) rfl rfl ?_)
   refine s_bslice ([wrdS (ks.getD i 0)]) (ev1 rfl) rfl rfl rfl el61 (Nat.le_of_ble_eq_true rfl) rfl (fun g17 w3 hg17 ho17 q3 z3 => ?_)
   replace hoR := hoR.ext q3
   have hoo18 := hoR
   refine s_append rfl rfl hoR ho17.sl el61 (by unfold maxLen; simp only [List.length_map, List.length_take, List.length_cons, List.length_nil]; omega) (by simp only [List.length_map, List.length_take, List.length_cons, List.length_nil]; omega) (by omega) rfl (fun v18 w4 hoR q4 hor18 => ?_)
   have z4 := q4.size
   refine asg rfl rfl (kpL [(0, _), (2, _), (3, _), (4, _)] (.cons rfl (.cons rfl (.cons rfl (.cons rfl .nil)))) (nl (bn' (tn (rg (mv rfl rfl (s_add rfl rfl (wi6 (by omega)) rfl (asg rfl rfl (nl ?_)))))))))
   exact lpE ((i + 1, v18)) (.cons rfl (.cons rfl (.cons rfl (.cons rfl .nil)))) ⟨((q2.next q3).step q4 (fun k hk hlt => absurd (hoo18.blk k hk).1 (by omega))), ⟨by simp only; omega, by simp only; rw [take_one ks i 0 (by omega), List.map_append]; exact hoR⟩⟩ (by simp only; omega)
 · obtain rfl : i = ks.length := by omega
   rw [List.take_length] at hoR
   obtain ⟨AR, cR, rfl, _⟩ := hoR.sl.form
   refine ex (te (te (xh (tn (sr (mv rfl rfl (s_bslice ([((AR, (ks.map wrdS).length, cR), ks.map wrdS)]) (ev1 rfl) rfl rfl rfl er45 (Nat.le_of_ble_eq_true rfl) rfl (fun g20 w5 hg20 ho20 q5 z5 => ?_))))))))
   refine s_lit (cs := [_]) (ev1 rfl) bo47 (pok_cons rfl rfl rfl pok_nil) rfl rfl ?_
   replace hb2 := hb20.ext (q2.next q5)
   refine s_storeBA rfl rfl hb2 rfl (by first | (simp [Value.oneCell', S]; done) | exact Enc.one _ _) sz47 (fun w6 hb2 q6 z6 => ?_)
   refine kpL [(2, _)] (.cons rfl .nil) (nn (rt (rC Tryd.results35 rfl hb2 ag47  ?_)))
   replace ho20 := ho20.fr q6 (by first | (simp; done) | (simp; omega) | (simp [blks]; done) | (simp [blks]; omega) | (intro k hk hb; simp at hk; subst hk; have := ho20.blk _ hb; omega))
   replace hoR := (hoR.ext q5).fr q6 (by first | (simp; done) | (simp; omega) | (simp [blks]; done) | (simp [blks]; omega) | (intro k hk hb; simp at hk; subst hk; have := hoR.blk _ hb; omega))
   exact ⟨_, rfl, _, rfl, ⟨_, ho20.low (by omega), fun q hq => by obtain rfl := List.mem_singleton.1 hq; exact hoR.low (by omega), rfl⟩, (((q1.next q2).next q5).step q6 (by first | (simp; done) | (simp; omega)))⟩
end Go.Proofs.YthehggmdcmpjeaaDoor
namespace Go.G14
open Go.Lw
def lvN : List UInt8 := [115, 99, 97, 114, 102]
def lvP : Pc := ⟨[98, 111, 100, 121], ⟨[[1].map wrdS], [[2, 1].map wrdS], []⟩, 2, 1, 3, 2⟩
def lvR : List Stitch := [1, 2, 1, 2, 1].map wrdS
theorem lv_make : makeE lvN [lvP] 0 = 0 := by decide +kernel
theorem lv_n0 : (needL [lvP] 0).getD 0 0 = 50 := by decide +kernel
theorem lv_n1 : (needL [lvP] 0).getD 1 0 = 0 := by decide +kernel
theorem lv_sz : sizesTo lvN [lvP] 10 = [0, 1, 2, 3, 4, 5] := by decide +kernel
theorem lv_ch : chartP 0 lvP = [lvR, lvR, lvR] := by decide +kernel
theorem lv_text : garText lvN [lvP] = [103, 97, 114, 109, 101, 110, 116, 32, 115, 99, 97, 114, 102, 10, 112, 105, 101, 99, 101, 32, 98, 111, 100, 121, 32, 50, 32, 50, 32, 49, 32, 51, 10, 108, 101, 102, 116, 32, 107, 10, 116, 105, 108, 101, 32, 112, 32, 107, 10] := by decide +kernel
theorem lv_gL : rowsR lvP.mot.L := by unfold rowsR; decide
theorem lv_gT : rowsR lvP.mot.T := by unfold rowsR; decide
theorem lv_gR : rowsR lvP.mot.R := by unfold rowsR; decide
theorem lv_pcs {w : World} {l t : SV} (hl : Sll encSt w (slv l) [[1].map wrdS]) (ht : Sll encSt w (slv t) [[2, 1].map wrdS]) : PcsQ w [⟨lvP, l, t, (none, 0, 0)⟩] := fun q hq => by
  obtain rfl := List.mem_singleton.1 hq
  exact ⟨hl, ht, slln w, lv_gL, lv_gT, lv_gR⟩
end Go.G14
namespace Go.Proofs.YthehggmdcmpjeaaDoor
open Go.Lw Go.G14
theorem bo24 : BuildAt Tryd.prog 24 [(0, 1), (1, 1)] [(S []), (.slice none 0 0)] := BuildAt.struct Tryd.underlying24 (fun _ => by kernel_rfl) (fun _ => by kernel_rfl)
theorem bo49 : BuildAt Tryd.prog 49 [(0, 1), (1, 1), (2, 1)] [(.slice none 0 0), (.slice none 0 0), (.slice none 0 0)] := BuildAt.struct Tryd.underlying49 (fun _ => by kernel_rfl) (fun _ => by kernel_rfl)
theorem bo51 : BuildAt Tryd.prog 51 [(0, 1), (1, 3), (4, 1), (5, 1), (6, 1), (7, 1)] [(S []), (.slice none 0 0), (.slice none 0 0), (.slice none 0 0), (.int .i64 0), (.int .i64 0), (.int .i64 0), (.int .i64 0)] := BuildAt.struct Tryd.underlying51 (fun _ => by kernel_rfl) (fun _ => by kernel_rfl)
theorem co9 : CallOf Tryd.prog 9 := CallOf.mk' Tryd.func9 (by kernel_rfl) (by kernel_rfl)
theorem co12 : CallOf Tryd.prog 12 := CallOf.mk' Tryd.func12 (by kernel_rfl) (by kernel_rfl)
theorem co13 : CallOf Tryd.prog 13 := CallOf.mk' Tryd.func13 (by kernel_rfl) (by kernel_rfl)
theorem co19 : CallOf Tryd.prog 19 := CallOf.mk' Tryd.func19 (by kernel_rfl) (by kernel_rfl)
theorem co35 : CallOf Tryd.prog 35 := CallOf.mk' Tryd.func35 (by kernel_rfl) (by kernel_rfl)
theorem fa56_0 : FieldAt Tryd.prog 56 0 0 := fun _ _ => by kernel_rfl
theorem sz24 : SizeOf Tryd.prog 24 2 := fun _ => by kernel_rfl
theorem zv24 (w : World) : (zeroValue 24).run Tryd.prog w = .ok (.agg #[(S []), (.slice none 0 0)]) w := by kernel_rfl
theorem fldC (v : Value) (w : World) : (Instr.field 47 (.agg #[v]) 0).run Tryd.prog w = .ok v w := by kernel_rfl
set_option maxHeartbeats 2000000 in
theorem lives22_ok (w0 : World) (hy : Sym w0) : Rets Tryd.prog 14 #[] w0 fun r w' => r = .bool true ∧ Fr [] w0 w' := by
 refine we [] Tryd.func14 rfl Tryd.ntmps14 rfl .nil ?_
 have hy0 := hy
 refine sr (asg rfl rfl (nn (sr (asg rfl rfl (asg rfl rfl (nn (sr (mv rfl rfl (s_bslice ([1]) (ev1 rfl) rfl rfl rfl el118 (Nat.le_of_ble_eq_true rfl) rfl (fun g11 w1 hg11 ho11 q1 z1 => ?_))))))))))
 refine cl (ev1 rfl) co35 (words_ok _ [1] _ ho11.sl (by decide)) rfl ?_
 rintro _ w2 ⟨X12, rfl, hX, q2⟩
 have z2 := q2.size
 have hX0 := hX
 obtain ⟨A12, c12, rfl, _⟩ := hX.form
 refine mv rfl rfl (mv rfl rfl (s_bslice ([2, 1]) (ev2 rfl rfl) rfl rfl rfl el118 (Nat.le_of_ble_eq_true rfl) rfl (fun g15 w3 hg15 ho15 q3 z3 => ?_)))
 refine cl (ev1 rfl) co35 (words_ok _ [2, 1] _ ho15.sl (by decide)) rfl ?_
 rintro _ w4 ⟨X16, rfl, hZ, q4⟩
 have z4 := q4.size
 have hZ0 := hZ
 obtain ⟨A16, c16, rfl, _⟩ := hZ.form
 refine s_lit (cs := [_, _, _]) (ev2 rfl rfl) bo49 (pok_cons rfl rfl rfl (pok_cons rfl rfl rfl pok_nil)) rfl rfl ?_
 refine s_lit (cs := [_, _, _, _, _, _, _, _]) (evs_cons rfl (evs_cons rfl (evs_cons rfl (evs_cons rfl (evs_cons rfl (evs_cons rfl evs_nil)))))) bo51 (pok_cons rfl rfl rfl (pok_cons rfl rfl rfl (pok_cons rfl rfl rfl (pok_cons rfl rfl rfl (pok_cons rfl rfl rfl (pok_cons rfl rfl rfl pok_nil)))))) rfl rfl ?_
 refine s_bslice ([(⟨lvP, (A12, [[1].map wrdS].length, c12), (A16, [[2, 1].map wrdS].length, c16), (none, 0, 0)⟩ : PQ)]) (ev1 rfl) rfl rfl rfl el22 (Nat.le_of_ble_eq_true rfl) rfl (fun g19 w5 hg19 ho19 q5 z5 => ?_)
 refine s_lit (cs := [_, _]) (ev2 rfl rfl) bo24 (pok_cons rfl rfl rfl (pok_cons rfl rfl rfl pok_nil)) rfl rfl ?_
 refine al zv24 rfl rfl (fun g3 w6 hg3 hb3 q6 z6 => ?_)
 refine s_storeBA rfl rfl hb3 rfl (by first | (simp [Value.oneCell', S]; done) | exact Enc.one _ _) sz24 (fun w7 hb3 q7 z7 => ?_)
 replace hX := hX0.ext ((((q3.next q4).next q5).next q6).step q7 (by first | (simp; done) | (simp; omega)))
 replace hZ := hZ0.ext ((q5.next q6).step q7 (by first | (simp; done) | (simp; omega)))
 have hq : PcsQ w7 [(⟨lvP, (A12, [[1].map wrdS].length, c12), (A16, [[2, 1].map wrdS].length, c16), (none, 0, 0)⟩ : PQ)] := lv_pcs hX.sll hZ.sll
 have hq0 := hq
 refine kpL [(1, _), (2, _), (3, _)] (.cons rfl (.cons rfl (.cons rfl .nil))) (nn (sr (s_loadBA rfl hb3 ag24 rfl ?_)))
 replace ho19 := (ho19.ext q6).fr q7 (by first | (simp; done) | (simp; omega) | (simp [blks]; done) | (simp [blks]; omega) | (intro k hk hb; simp at hk; subst hk; have := ho19.blk _ hb; omega))
 refine cl (ev2 rfl rfl) co8 (gmake_ok lvN _ [(⟨lvP, (A12, [[1].map wrdS].length, c12), (A16, [[2, 1].map wrdS].length, c16), (none, 0, 0)⟩ : PQ)] 0 _ ho19.sl hq) rfl ?_
 rintro _ w8 ⟨V23, its, rfl, hoI, hio, -, hmz, q8⟩
 have z8 := q8.size
 have hoI0 := hoI
 have hio0 := hio
 obtain ⟨⟨A23, rfl⟩, hil, hit⟩ := hmz lv_make
 have hi1 : its.length = 1 := hil
 refine mv rfl rfl (xt rfl rfl rfl (xt rfl rfl rfl (asg rfl rfl (asg rfl rfl (nn (sr ?_))))))
 replace hb3 := hb3.ext q8
 refine s_loadBA rfl hb3 ag24 rfl ?_
 replace ho19 := ho19.ext q8
 replace hq := hq0.ext q8
 refine cl (ev2 rfl rfl) co9 (gneeds_ok lvN _ [(⟨lvP, (A12, [[1].map wrdS].length, c12), (A16, [[2, 1].map wrdS].length, c16), (none, 0, 0)⟩ : PQ)] 0 _ ho19.sl hq) rfl ?_
 rintro _ w9 ⟨V28, rfl, -, hnz, q9⟩
 have z9 := q9.size
 obtain ⟨⟨A28, rfl⟩, hoN⟩ := hnz lv_make
 have hoN0 := hoN
 have hnl : (needL (pcs [(⟨lvP, (A12, [[1].map wrdS].length, c12), (A16, [[2, 1].map wrdS].length, c16), (none, 0, 0)⟩ : PQ)]) 0).length = 6 := needL_len _ _
 refine mv rfl rfl (xt rfl rfl rfl (xt rfl rfl rfl (asg rfl rfl (asg rfl rfl (nn (sr ?_))))))
 replace hb3 := hb3.ext q9
 refine s_loadBA rfl hb3 ag24 rfl ?_
 replace ho19 := ho19.ext q9
 replace hq := hq0.ext (q8.next q9)
 refine cl (ev1 rfl) co12 (sizes_ok lvN _ [(⟨lvP, (A12, [[1].map wrdS].length, c12), (A16, [[2, 1].map wrdS].length, c16), (none, 0, 0)⟩ : PQ)] _ ho19.sl hq) rfl ?_
 rintro _ w10 ⟨A32, rfl, hoS, q10⟩
 have z10 := q10.size
 have hoS0 := hoS
 have hsz : (sizesTo lvN (pcs [(⟨lvP, (A12, [[1].map wrdS].length, c12), (A16, [[2, 1].map wrdS].length, c16), (none, 0, 0)⟩ : PQ)]) 10).length = 6 := congrArg List.length lv_sz
 refine asg rfl rfl (nn (sr (mv rfl rfl (mv rfl rfl (mv rfl rfl (mv rfl rfl (mv rfl rfl (s_bslice ([1, 2, 1, 2, 1]) (evs_cons rfl (evs_cons rfl (evs_cons rfl (evs_cons rfl (evs_cons rfl evs_nil))))) rfl rfl rfl el118 (Nat.le_of_ble_eq_true rfl) rfl (fun g38 w11 hg38 ho38 q11 z11 => ?_)))))))))
 refine cl (ev1 rfl) co35 (words_ok _ [1, 2, 1, 2, 1] _ ho38.sl (by decide)) rfl ?_
 rintro _ w12 ⟨X39, rfl, hW, q12⟩
 have z12 := q12.size
 have hW0 := hW
 obtain ⟨rs, hrs, hqr, hrm⟩ := Sll.opn hW.sll
 obtain ⟨A39, c39, rfl, _⟩ := hrs.form
 have hr1 : rs.length = 1 := by have := congrArg List.length hrm; simpa using this
 have hrl := sl_len (hqr (rs.getD 0 rq0) (getD_memS (by omega)))
 have hrs0 := hrs
 have hqr0 := hqr
 refine s_field rfl (fun w => fldC _ w) rfl ?_
 refine s_idxL (p := 0) (rq0) rfl hrs rfl er45 (by omega) (by omega) rfl rfl (fun ad41 hc41 => ?_)
 refine s_loadC0 rfl (hc41 _ hrs) na61 rfl (asg rfl rfl (kpL [(3, _), (4, _), (5, _), (6, _), (7, _), (8, _), (9, _)] (.cons rfl (.cons rfl (.cons rfl (.cons rfl (.cons rfl (.cons rfl (.cons rfl .nil))))))) (nn (sr ?_))))
 replace hb3 := hb3.ext ((q10.next q11).next q12)
 refine s_loadBA rfl hb3 ag24 rfl ?_
 replace ho19 := ho19.ext ((q10.next q11).next q12)
 replace hq := hq0.ext ((((q8.next q9).next q10).next q11).next q12)
 replace hy := hy0.ext (((((((((((q1.next q2).next q3).next q4).next q5).next q6).step q7 (by first | (simp; done) | (simp; omega))).next q8).next q9).next q10).next q11).next q12)
 refine cl (ev1 rfl) co13 (gtext_ok lvN _ [(⟨lvP, (A12, [[1].map wrdS].length, c12), (A16, [[2, 1].map wrdS].length, c16), (none, 0, 0)⟩ : PQ)] _ ho19.sl hq hy) rfl ?_
 rintro _ w13 ⟨rfl, q13⟩
 have z13 := q13.size
 refine s_eqs rfl rfl rfl (mv rfl rfl ?_)
 refine gs 46 rfl (fun g0 => ?_) (fun hh => absurd (by exact lv_text) hh)
 refine gY rfl (mv rfl rfl (gY rfl (eq' rfl rfl rfl (pkt rfl rfl rfl rfl (mv rfl rfl ?_)))))
 refine gs 50 rfl (fun g1 => ?_) (fun hh => absurd (by exact lv_make) hh)
 refine gY rfl (mv rfl rfl (gY rfl (lnS rfl Tryd.underlying26 rfl (gY rfl (eq' rfl rfl rfl (pkt rfl rfl rfl rfl (mv rfl rfl ?_)))))))
 refine gs 55 rfl (fun g2 => ?_) (fun hh => absurd (by rfl) hh)
 refine gY rfl (mv rfl rfl (gY rfl ?_))
 replace hoI := hoI0.ext ((((q9.next q10).next q11).next q12).next q13)
 refine s_idxL (p := 0) (iq0) rfl hoI.sl rfl el26 (by omega) (by omega) rfl rfl (fun ad57 hc57 => ?_)
 refine gY rfl (fad rfl fa56_0 rfl (gY rfl (s_loadC rfl (hc57 _ hoI.sl) rfl na9 rfl (gY rfl (s_eqs rfl rfl rfl (pkt rfl rfl rfl rfl (mv rfl rfl ?_)))))))
 refine gs 62 rfl (fun g3 => ?_) (fun hh => absurd (by exact (hit 0 Nat.zero_lt_one).1) hh)
 refine gY rfl (mv rfl rfl (gY rfl (s_idxL (p := 0) (iq0) rfl hoI.sl rfl el26 (by omega) (by omega) rfl rfl (fun ad64 hc64 => ?_))))
 refine gY rfl (fad rfl fa56_2 rfl (gY rfl (s_loadC rfl (hc64 _ hoI.sl) rfl na3 rfl (gY rfl (eq' rfl rfl rfl (pkt rfl rfl rfl rfl (mv rfl rfl ?_)))))))
 refine gs 69 rfl (fun g4 => ?_) (fun hh => absurd (by exact (hit 0 Nat.zero_lt_one).2.1) hh)
 refine gY rfl (mv rfl rfl (gY rfl (s_idxL (p := 0) (iq0) rfl hoI.sl rfl el26 (by omega) (by omega) rfl rfl (fun ad71 hc71 => ?_))))
 refine gY rfl (fad rfl fa56_1 rfl (gY rfl (s_loadA rfl (cells_part (vs := [_]) (hc71 _ hoI.sl) rfl) ag47 rfl (gY rfl (mv rfl rfl (gY rfl (mv rfl rfl (gY rfl (mv rfl rfl (gY rfl (s_bslice ([(rs.getD 0 rq0), (rs.getD 0 rq0), (rs.getD 0 rq0)]) (ev3 rfl rfl rfl) rfl rfl rfl er45 (Nat.le_of_ble_eq_true rfl) rfl (fun g77 w14 hg77 ho77 q14 z14 => ?_))))))))))))
 refine gY rfl (s_lit (cs := [_]) (ev1 rfl) bo47 (pok_cons rfl rfl rfl pok_nil) rfl rfl ?_)
 refine gY rfl ?_
 replace hio := hio0.ext (((((q9.next q10).next q11).next q12).next q13).next q14)
 replace hq := hq0.ext ((((((q8.next q9).next q10).next q11).next q12).next q13).next q14)
 replace hqr := hqr0.ext (q13.next q14)
 refine cl (ev2 rfl rfl) co19 (differ2_ok _ _ (its.getD 0 iq0).rows [(rs.getD 0 rq0).2, (rs.getD 0 rq0).2, (rs.getD 0 rq0).2] _ (hio _ (getD_memS (by omega))).sll (sll_of ho77.sl (fun q hq => by have e : q = (rs.getD 0 rq0) := (by simpa using hq); rw [e]; exact hqr _ (getD_memS (by omega))))) rfl ?_
 rintro _ w15 ⟨rfl, q15⟩
 have z15 := q15.size
 refine gY rfl (eq' rfl rfl rfl (pkt rfl rfl rfl rfl (mv rfl rfl ?_)))
 refine gs 82 rfl (fun g5 => ?_) (fun hh => absurd (by rw [if_pos]; exact (hit 0 Nat.zero_lt_one).2.2.trans (lv_ch.trans (by have e : (rs.getD 0 rq0).2 = lvR := (gd_rows hrm (i := 0) (by omega)).symm; rw [e]))) hh)
 refine gY rfl (mv rfl rfl (gY rfl (eq' rfl rfl rfl (pkt rfl rfl rfl rfl (mv rfl rfl ?_)))))
 refine gs 86 rfl (fun g6 => ?_) (fun hh => absurd (by exact lv_make) hh)
 refine gY rfl (mv rfl rfl (gY rfl (lnS rfl Tryd.underlying30 rfl (gY rfl (eq' rfl rfl rfl (pkt rfl rfl rfl rfl (mv rfl rfl ?_)))))))
 refine gs 91 rfl (fun g7 => ?_) (fun hh => absurd (by rfl) hh)
 refine gY rfl (mv rfl rfl (gY rfl ?_))
 replace hoN := hoN0.ext (((((q10.next q11).next q12).next q13).next q14).next q15)
 refine s_idxL (p := 0) (0) rfl hoN.sl rfl el30 (by omega) (by omega) rfl rfl (fun ad93 hc93 => ?_)
 refine gY rfl (s_loadC0 rfl (hc93 _ hoN.sl) na3 rfl (gY rfl (eq' rfl rfl rfl (pkt rfl rfl rfl rfl (mv rfl rfl ?_)))))
 refine gs 97 rfl (fun g8 => ?_) (fun hh => absurd (by exact lv_n0) hh)
 refine gY rfl (mv rfl rfl (gY rfl (s_idxL (p := 1) (0) rfl hoN.sl rfl el30 (by omega) (by omega) rfl rfl (fun ad99 hc99 => ?_))))
 refine gY rfl (s_loadC0 rfl (hc99 _ hoN.sl) na3 rfl (gY rfl (eq' rfl rfl rfl (pkt rfl rfl rfl rfl (mv rfl rfl ?_)))))
 refine gs 103 rfl (fun g9 => ?_) (fun hh => absurd (by exact lv_n1) hh)
 refine gY rfl (mv rfl rfl (gY rfl (lnS rfl Tryd.underlying30 rfl (gY rfl (eq' rfl rfl rfl (pkt rfl rfl rfl rfl (mv rfl rfl ?_)))))))
 refine gs 108 rfl (fun g10 => ?_) (fun hh => absurd (by omega) hh)
 refine gY rfl (mv rfl rfl (gY rfl ?_))
 replace hoS := hoS0.ext ((((q11.next q12).next q13).next q14).next q15)
 refine s_idxL (p := 0) (0) rfl hoS.sl rfl el30 (by omega) (by omega) rfl rfl (fun ad110 hc110 => ?_)
 refine gY rfl (s_loadC0 rfl (hc110 _ hoS.sl) na3 rfl (gY rfl (eq' rfl rfl rfl (pkt rfl rfl rfl rfl (mv rfl rfl ?_)))))
 refine gs 114 rfl (fun g11 => ?_) (fun hh => absurd (by rw [show sizesTo lvN (pcs [(⟨lvP, (A12, [[1].map wrdS].length, c12), (A16, [[2, 1].map wrdS].length, c16), (none, 0, 0)⟩ : PQ)]) 10 = [0, 1, 2, 3, 4, 5] from lv_sz]; rfl) hh)
 refine gY rfl (mv rfl rfl (gY rfl (s_idxL (p := 5) (0) rfl hoS.sl rfl el30 (by omega) (by omega) rfl rfl (fun ad116 hc116 => ?_))))
 refine gY rfl (s_loadC0 rfl (hc116 _ hoS.sl) na3 rfl (gY rfl (eq' rfl rfl rfl (pkt rfl rfl rfl rfl (asg rfl rfl (kpL [(0, _)] (.cons rfl .nil) (nn (rt (r1 Tryd.results14 rfl ?_)))))))))
 exact ⟨_, rfl, by rw [show sizesTo lvN (pcs [(⟨lvP, (A12, [[1].map wrdS].length, c12), (A16, [[2, 1].map wrdS].length, c16), (none, 0, 0)⟩ : PQ)]) 10 = [0, 1, 2, 3, 4, 5] from lv_sz]; rfl, ((((((((((((((q1.next q2).next q3).next q4).next q5).next q6).step q7 (by first | (simp; done) | (simp; omega))).next q8).next q9).next q10).next q11).next q12).next q13).next q14).next q15)⟩
end Go.Proofs.YthehggmdcmpjeaaDoor
namespace Go.Proofs.YthehggmdcmpjeaaDoor
open Go.Lw Go.G14
theorem co11 : CallOf Tryd.prog 11 := CallOf.mk' Tryd.func11 (by kernel_rfl) (by kernel_rfl)
theorem co14 : CallOf Tryd.prog 14 := CallOf.mk' Tryd.func14 (by kernel_rfl) (by kernel_rfl)
end Go.Proofs.YthehggmdcmpjeaaDoor
namespace Go.Proofs.YthehggmdcmpjeaaDoor
open Go.Lw Go.G14
theorem ag91 : AggOf Tryd.prog 91 2 := ⟨fun _ => by kernel_rfl, fun _ => by kernel_rfl⟩
theorem bo91 : BuildAt Tryd.prog 91 [(0, 1), (1, 1)] [(.int .u8 0), (.slice none 0 0)] := BuildAt.struct Tryd.underlying91 (fun _ => by kernel_rfl) (fun _ => by kernel_rfl)
theorem co59 : CallOf Tryd.prog 59 := CallOf.mk' Tryd.func59 (by kernel_rfl) (by kernel_rfl)
theorem co80 : CallOf Tryd.prog 80 := CallOf.mk' Tryd.func80 (by kernel_rfl) (by kernel_rfl)
theorem fa93_0 : FieldAt Tryd.prog 93 0 0 := fun _ _ => by kernel_rfl
theorem fa93_1 : FieldAt Tryd.prog 93 1 1 := fun _ _ => by kernel_rfl
theorem fa93_2 : FieldAt Tryd.prog 93 2 2 := fun _ _ => by kernel_rfl
theorem fa93_3 : FieldAt Tryd.prog 93 3 4 := fun _ _ => by kernel_rfl
theorem fa93_4 : FieldAt Tryd.prog 93 4 6 := fun _ _ => by kernel_rfl
theorem zv76 (w : World) : (zeroValue 76).run Tryd.prog w = .ok (.slice none 0 0) w := by kernel_rfl
theorem mblk_ok (wd : Int) (v : Value) (hs : List SV) (n : Nat) (w0 : World) (hw : 0 ≤ wd ∧ wd ≤ 255) (hv : Sl Enc.sl w0 v hs) (hc : BytesAt w0 hs) (hn : n ≤ 100) : Rets Tryd.prog 59 #[.agg #[.int .u8 wd, v], .int .i64 (n : Int)] w0 fun r w' => ∃ X rows, r = .agg #[X] ∧ OwR 61 100 w0.heap.size w' X rows ∧ goodM rows ∧ Fr [] w0 w' := by
 obtain ⟨A, c, rfl, hcc, hM, hA⟩ := id hv
 clear hA
 unfold maxLen at hM
 refine we [(0, .agg #[.int .u8 wd, .slice A hs.length c]), (1, .int .i64 (n : Int))] Tryd.func59 rfl Tryd.ntmps59 rfl (.cons rfl (.cons rfl .nil)) ?_
 have hv0 := hv
 have hc0 := hc
 refine sr (bx rfl rfl rfl (fun g2 w1 hg2 hb2 q1 z1 => ?_))
 refine al zv47 rfl rfl (fun g4 w2 hg4 hb4 q2 z2 => ?_)
 refine nn (sr (mv rfl rfl ?_))
 refine s_makeSlice (m := n) (c := n) (((none, 0, 0) : SV)) rfl rfl el89 zv76 rfl (Nat.le_refl _) (by omega) (by unfold maxLen; omega) rfl (fun g7 w3 hg7 hoB q3 z3 => ?_)
 refine asg rfl rfl (nn (sr (mv rfl rfl (fad rfl fa91_1 rfl ?_))))
 replace hb2 := hb2.ext (q2.next q3)
 refine s_loadB rfl hb2 rfl na89 rfl ?_
 replace hv := hv0.ext ((q1.next q2).next q3)
 obtain ⟨k, hk⟩ : ∃ k, k = min (n - 0) hs.length := ⟨_, rfl⟩
 refine s_copyP (p := 0) (k := k) (m := n) (cap := n) (by rw [Nat.zero_mul, lit_add]; rfl) rfl hoB hv (Nat.zero_le _) hk el89 rfl (fun w4 hoB q4 z4 => ?_)
 replace hoB : Lw.Own Enc.sl 76 g7 w4 (.slice (some ⟨g7, 0, none⟩) n n) (hs.take k ++ List.replicate (n - k) (none, 0, 0)) := by simpa using hoB
 refine nn (sr (fad rfl fa91_0 rfl ?_))
 replace hb2 := hb2.fr q4 (by first | (simp; done) | (simp; omega) | (simp [blks]; done) | (simp [blks]; omega))
 refine s_loadB rfl hb2 rfl na5 rfl (s_rem rfl rfl (by omega) (by first | exact IntWalk.rem_in _ _ (by omega) | rfl) rfl (mv rfl rfl (s_lit (cs := [_, _]) (ev2 rfl rfl) bo91 (pok_cons rfl rfl rfl (pok_cons rfl rfl rfl pok_nil)) rfl rfl ?_)))
 replace hc := hc0.ext (((q1.next q2).next q3).step q4 (by first | (simp; done) | (simp; omega)))
 refine cl (ev1 rfl) co80 (cof_ok (wd % 4) _ _ (by omega) ⟨_, hoB.sl, bytes_copy hc⟩) rfl ?_
 rintro _ w5 ⟨X17, rows, rfl, ⟨ps, hRO, hrp⟩, -, hgr, q5⟩
 have z5 := q5.size
 obtain ⟨OA, oc, rfl, _⟩ := hRO.out.sl.form
 have hOw := owr_of hRO
 rw [hrp] at hOw
 have hOw0 := hOw
 replace hb4 := ((hb4.ext q3).fr q4 (by first | (simp; done) | (simp; omega) | (simp [blks]; done) | (simp [blks]; omega))).ext q5
 refine s_storeBA rfl rfl hb4 rfl (by first | (simp [Value.oneCell', S]; done) | exact Enc.one _ _) sz47 (fun w6 hb4 q6 z6 => ?_)
 refine kpL [(4, _)] (.cons rfl .nil) (nn (rt (rC Tryd.results59 rfl hb4 ag47  ?_)))
 replace hOw := hOw0.fr ((Fr.refl [g4] _).step q6 (by first | (simp; done) | (simp; omega))) (by intro k hk; simp at hk; omega)
 exact ⟨_, rfl, _, rows, rfl, hOw.low (by omega), hgr, (((((q1.next q2).next q3).step q4 (by first | (simp; done) | (simp; omega))).next q5).step q6 (by first | (simp; done) | (simp; omega)))⟩
set_option maxHeartbeats 1000000 in
theorem mof_ok (q : QD) (w0 : World) (hq : QAt w0 q) : Rets Tryd.prog 38 #[.agg #[.int .u8 q.ht, .int .u8 q.ed, .int .u8 q.lw, slv q.l, .int .u8 q.tw, slv q.t, .int .u8 q.rw, slv q.r]] w0 fun r w' => ∃ l t r' m, r = .agg #[slv l, slv t, slv r'] ∧ MotO 61 100 w0.heap.size w' (slv l) (slv t) (slv r') m ∧ Fr [] w0 w' := by
 obtain ⟨n, hn⟩ : ∃ n : Nat, (n : Int) = 1 + 2 * (q.ht % 3) := ⟨(1 + 2 * (q.ht % 3)).toNat, by have := hq.rg.1; omega⟩
 have hrg := hq.rg
 obtain ⟨hsl, hl1, hl2⟩ := hq.l
 obtain ⟨hst, ht1, ht2⟩ := hq.t
 obtain ⟨hsr, hr1, hr2⟩ := hq.r
 refine we [(0, .agg #[.int .u8 q.ht, .int .u8 q.ed, .int .u8 q.lw, slv q.l, .int .u8 q.tw, slv q.t, .int .u8 q.rw, slv q.r])] Tryd.func38 rfl Tryd.ntmps38 rfl (.cons rfl .nil) ?_
 have hl10 := hl1
 have hl20 := hl2
 have ht10 := ht1
 have ht20 := ht2
 have hr10 := hr1
 have hr20 := hr2
 refine sr (bx rfl rfl rfl (fun g1 w1 hg1 hb1 q1 z1 => ?_))
 refine al zv49 rfl rfl (fun g2 w2 hg2 hb2 q2 z2 => ?_)
 refine nn ?_
 refine jn (ι := Unit) [(1, _), (2, _)] (fun _j => [(3, .int .i64 (n : Int))]) (fun _j w' => Fr [] w2 w') (.cons rfl (.cons rfl .nil)) ?_ ?_
 · refine rg (fad rfl fa93_0 rfl ?_)
   replace hb1 := hb1.ext q2
   refine s_loadB rfl hb1 rfl na5 rfl (s_rem rfl rfl (by omega) (by first | exact IntWalk.rem_in _ _ (by omega) | rfl) rfl (s_conv rfl (us Tryd.underlying5) Tryd.underlying3 (wi6 (by omega)) rfl (s_mul rfl rfl (wi6 (by omega)) rfl (s_add rfl rfl (wi6 (by omega)) rfl (asg rfl rfl (kpL [(1, _), (2, _), (3, _)] (.cons rfl (.cons rfl (.cons rfl .nil))) (nl ?_)))))))
   exact jE (()) (.cons rfl (.cons rfl (.cons (congrArg (fun z => some (Value.int .i64 z)) hn.symm) .nil))) (Fr.refl _ _)
 · rintro _j w3 q3
   have z3 := q3.size
   refine kpC [(1, _), (2, _), (3, _)] (.cons rfl (.cons rfl (.cons rfl .nil))) ?_
   refine sr (fad rfl fa93_3 rfl ?_)
   replace hb1 := hb1.ext (q2.next q3)
   refine s_loadBP (vs := [_, _]) rfl hb1 ag91 rfl rfl (mv rfl rfl ?_)
   replace ht1 := ht10.ext ((q1.next q2).next q3)
   replace ht2 := ht20.ext ((q1.next q2).next q3)
   refine cl (ev2 rfl rfl) co59 (mblk_ok q.tw _ hst n _ hq.rg.2.2.2.1 ht1 ht2 (by omega)) rfl ?_
   rintro _ w4 ⟨Y14, rY, rfl, hY, gY, q4⟩
   have z4 := q4.size
   have hY0 := hY
   obtain ⟨AY, cY, rfl, _⟩ := hY.form
   refine s_lit (cs := [_, _, _]) (ev1 rfl) bo49 (pok_cons rfl rfl rfl pok_nil) rfl rfl ?_
   refine al zv49 rfl rfl (fun g4 w5 hg4 hb4 q5 z5 => ?_)
   refine s_storeBA rfl rfl hb4 rfl (by first | (simp [Value.oneCell', S]; done) | exact Enc.one _ _) sz49 (fun w6 hb4 q6 z6 => ?_)
   refine nn (sq (sr (fad rfl fa93_1 rfl ?_)))
   replace hb1 := (hb1.ext (q4.next q5)).fr q6 (by first | (simp; done) | (simp; omega) | (simp [blks]; done) | (simp [blks]; omega))
   refine s_loadB rfl hb1 rfl na5 rfl (s_rem rfl rfl (by omega) (by first | exact IntWalk.rem_in _ _ (by omega) | rfl) rfl (eq' rfl rfl rfl (nn ?_)))
   refine cd rfl (fun c0 => ?_) (fun c0 => ?_)
   · refine rg (fad rfl fa93_2 rfl (s_loadBP (vs := [_, _]) rfl hb1 ag91 rfl rfl (mv rfl rfl ?_)))
     replace hl1 := hl10.ext (((((q1.next q2).next q3).next q4).next q5).step q6 (by first | (simp; done) | (simp; omega)))
     replace hl2 := hl20.ext (((((q1.next q2).next q3).next q4).next q5).step q6 (by first | (simp; done) | (simp; omega)))
     refine cl (ev2 rfl rfl) co59 (mblk_ok q.lw _ hsl n _ hq.rg.2.2.1 hl1 hl2 (by omega)) rfl ?_
     rintro _ w7 ⟨X23, rX, rfl, hX, gX, q7⟩
     have z7 := q7.size
     have hX0 := hX
     obtain ⟨AX, cX, rfl, _⟩ := hX.form
     refine fad rfl fa49_0 rfl ?_
     replace hb4 := hb4.ext q7
     refine s_storeBP (cs' := [_, _, _]) rfl rfl hb4 rfl (by first | (simp [Value.oneCell', S]; done) | exact Enc.one _ _) sz47 rfl (fun w8 hb4 q8 z8 => ?_)
     refine kpL [(1, _), (2, _), (3, _), (4, _)] (.cons rfl (.cons rfl (.cons rfl (.cons rfl .nil)))) (nl (tn (sq (sr (fad rfl fa93_1 rfl ?_)))))
     replace hb1 := (hb1.ext q7).fr q8 (by first | (simp; done) | (simp; omega) | (simp [blks]; done) | (simp [blks]; omega))
     refine s_loadB rfl hb1 rfl na5 rfl (s_quo rfl rfl (by omega) (by first | exact IntWalk.u8_quo _ _ (by omega) | rfl) rfl (s_rem rfl rfl (by omega) (by first | exact IntWalk.rem_in _ _ (by omega) | rfl) rfl (eq' rfl rfl rfl (nn ?_))))
     refine cd rfl (fun c1 => ?_) (fun c1 => ?_)
     · refine rg (fad rfl fa93_4 rfl (s_loadBP (vs := [_, _]) rfl hb1 ag91 rfl rfl (mv rfl rfl ?_)))
       replace hr1 := hr10.ext (((((((q1.next q2).next q3).next q4).next q5).step q6 (by first | (simp; done) | (simp; omega))).next q7).step q8 (by first | (simp; done) | (simp; omega)))
       replace hr2 := hr20.ext (((((((q1.next q2).next q3).next q4).next q5).step q6 (by first | (simp; done) | (simp; omega))).next q7).step q8 (by first | (simp; done) | (simp; omega)))
       refine cl (ev2 rfl rfl) co59 (mblk_ok q.rw _ hsr n _ hq.rg.2.2.2.2.1 hr1 hr2 (by omega)) rfl ?_
       rintro _ w9 ⟨Z33, rZ, rfl, hZ, gZ, q9⟩
       have z9 := q9.size
       have hZ0 := hZ
       obtain ⟨AZ, cZ, rfl, _⟩ := hZ.form
       refine fad rfl fa49_2 rfl ?_
       replace hb4 := hb4.ext q9
       refine s_storeBP (cs' := [_, _, _]) rfl rfl hb4 rfl (by first | (simp [Value.oneCell', S]; done) | exact Enc.one _ _) sz47 rfl (fun w10 hb4 q10 z10 => ?_)
       refine kpL [(2, _), (4, _)] (.cons rfl (.cons rfl .nil)) (nl (tn (sr (s_loadBA rfl hb4 ag49 rfl ?_))))
       replace hb2 := (((((hb2.ext ((q3.next q4).next q5)).fr q6 (by first | (simp; done) | (simp; omega) | (simp [blks]; done) | (simp [blks]; omega))).ext q7).fr q8 (by first | (simp; done) | (simp; omega) | (simp [blks]; done) | (simp [blks]; omega))).ext q9).fr q10 (by first | (simp; done) | (simp; omega) | (simp [blks]; done) | (simp [blks]; omega))
       refine s_storeBA rfl rfl hb2 rfl (by first | (simp [Value.oneCell', S]; done) | exact Enc.one _ _) sz49 (fun w11 hb2 q11 z11 => ?_)
       refine nn (rt (rC Tryd.results38 rfl hb2 ag49  ?_))
       replace hX := hX0.fr (((((Fr.refl [g4, g2] _).step q8 (by first | (simp; done) | (simp; omega))).next q9).step q10 (by first | (simp; done) | (simp; omega))).step q11 (by first | (simp; done) | (simp; omega))) (by intro k hk; simp at hk; omega)
       replace hY := hY0.fr ((((((((Fr.refl [g2] _).next q5).step q6 (by first | (simp; done) | (simp; omega))).next q7).step q8 (by first | (simp; done) | (simp; omega))).next q9).step q10 (by first | (simp; done) | (simp; omega))).step q11 (by first | (simp; done) | (simp; omega))) (by intro k hk; simp at hk; omega)
       replace hZ := hZ0.fr (((Fr.refl [g4, g2] _).step q10 (by first | (simp; done) | (simp; omega))).step q11 (by first | (simp; done) | (simp; omega))) (by intro k hk; simp at hk; omega)
       first | exact ⟨_, rfl, ((AX, rX.length, cX)), (AY, rY.length, cY), ((AZ, rZ.length, cZ)), ⟨rX, rY, rZ⟩, rfl, ⟨hX.low (by omega), hY.low (by omega), hZ.low (by omega), gX, gY, gZ⟩, ((((((((((q1.next q2).next q3).next q4).next q5).step q6 (by first | (simp; done) | (simp; omega))).next q7).step q8 (by first | (simp; done) | (simp; omega))).next q9).step q10 (by first | (simp; done) | (simp; omega))).step q11 (by first | (simp; done) | (simp; omega)))⟩ | exact ⟨_, rfl, ((AX, rX.length, cX)), (AY, rY.length, cY), ((none, 0, 0)), ⟨rX, rY, []⟩, rfl, ⟨hX.low (by omega), hY.low (by omega), OwR.nil _, gX, gY, good_nil⟩, ((((((((((q1.next q2).next q3).next q4).next q5).step q6 (by first | (simp; done) | (simp; omega))).next q7).step q8 (by first | (simp; done) | (simp; omega))).next q9).step q10 (by first | (simp; done) | (simp; omega))).step q11 (by first | (simp; done) | (simp; omega)))⟩ | exact ⟨_, rfl, ((none, 0, 0)), (AY, rY.length, cY), ((AZ, rZ.length, cZ)), ⟨[], rY, rZ⟩, rfl, ⟨OwR.nil _, hY.low (by omega), hZ.low (by omega), good_nil, gY, gZ⟩, ((((((((((q1.next q2).next q3).next q4).next q5).step q6 (by first | (simp; done) | (simp; omega))).next q7).step q8 (by first | (simp; done) | (simp; omega))).next q9).step q10 (by first | (simp; done) | (simp; omega))).step q11 (by first | (simp; done) | (simp; omega)))⟩ | exact ⟨_, rfl, ((none, 0, 0)), (AY, rY.length, cY), ((none, 0, 0)), ⟨[], rY, []⟩, rfl, ⟨OwR.nil _, hY.low (by omega), OwR.nil _, good_nil, gY, good_nil⟩, ((((((((((q1.next q2).next q3).next q4).next q5).step q6 (by first | (simp; done) | (simp; omega))).next q7).step q8 (by first | (simp; done) | (simp; omega))).next q9).step q10 (by first | (simp; done) | (simp; omega))).step q11 (by first | (simp; done) | (simp; omega)))⟩
     · refine sk (tn (sr (s_loadBA rfl hb4 ag49 rfl ?_)))
       replace hb2 := (((hb2.ext ((q3.next q4).next q5)).fr q6 (by first | (simp; done) | (simp; omega) | (simp [blks]; done) | (simp [blks]; omega))).ext q7).fr q8 (by first | (simp; done) | (simp; omega) | (simp [blks]; done) | (simp [blks]; omega))
       refine s_storeBA rfl rfl hb2 rfl (by first | (simp [Value.oneCell', S]; done) | exact Enc.one _ _) sz49 (fun w12 hb2 q12 z12 => ?_)
       refine nn (rt (rC Tryd.results38 rfl hb2 ag49  ?_))
       replace hX := hX0.fr (((Fr.refl [g4, g2] _).step q8 (by first | (simp; done) | (simp; omega))).step q12 (by first | (simp; done) | (simp; omega))) (by intro k hk; simp at hk; omega)
       replace hY := hY0.fr ((((((Fr.refl [g2] _).next q5).step q6 (by first | (simp; done) | (simp; omega))).next q7).step q8 (by first | (simp; done) | (simp; omega))).step q12 (by first | (simp; done) | (simp; omega))) (by intro k hk; simp at hk; omega)
       first | exact ⟨_, rfl, ((AX, rX.length, cX)), (AY, rY.length, cY), ((AZ, rZ.length, cZ)), ⟨rX, rY, rZ⟩, rfl, ⟨hX.low (by omega), hY.low (by omega), hZ.low (by omega), gX, gY, gZ⟩, ((((((((q1.next q2).next q3).next q4).next q5).step q6 (by first | (simp; done) | (simp; omega))).next q7).step q8 (by first | (simp; done) | (simp; omega))).step q12 (by first | (simp; done) | (simp; omega)))⟩ | exact ⟨_, rfl, ((AX, rX.length, cX)), (AY, rY.length, cY), ((none, 0, 0)), ⟨rX, rY, []⟩, rfl, ⟨hX.low (by omega), hY.low (by omega), OwR.nil _, gX, gY, good_nil⟩, ((((((((q1.next q2).next q3).next q4).next q5).step q6 (by first | (simp; done) | (simp; omega))).next q7).step q8 (by first | (simp; done) | (simp; omega))).step q12 (by first | (simp; done) | (simp; omega)))⟩ | exact ⟨_, rfl, ((none, 0, 0)), (AY, rY.length, cY), ((AZ, rZ.length, cZ)), ⟨[], rY, rZ⟩, rfl, ⟨OwR.nil _, hY.low (by omega), hZ.low (by omega), good_nil, gY, gZ⟩, ((((((((q1.next q2).next q3).next q4).next q5).step q6 (by first | (simp; done) | (simp; omega))).next q7).step q8 (by first | (simp; done) | (simp; omega))).step q12 (by first | (simp; done) | (simp; omega)))⟩ | exact ⟨_, rfl, ((none, 0, 0)), (AY, rY.length, cY), ((none, 0, 0)), ⟨[], rY, []⟩, rfl, ⟨OwR.nil _, hY.low (by omega), OwR.nil _, good_nil, gY, good_nil⟩, ((((((((q1.next q2).next q3).next q4).next q5).step q6 (by first | (simp; done) | (simp; omega))).next q7).step q8 (by first | (simp; done) | (simp; omega))).step q12 (by first | (simp; done) | (simp; omega)))⟩
   · refine sk (tn (sq (sr (fad rfl fa93_1 rfl (s_loadB rfl hb1 rfl na5 rfl (s_quo rfl rfl (by omega) (by first | exact IntWalk.u8_quo _ _ (by omega) | rfl) rfl (s_rem rfl rfl (by omega) (by first | exact IntWalk.rem_in _ _ (by omega) | rfl) rfl (eq' rfl rfl rfl (nn ?_)))))))))
     refine cd rfl (fun c1 => ?_) (fun c1 => ?_)
     · refine rg (fad rfl fa93_4 rfl (s_loadBP (vs := [_, _]) rfl hb1 ag91 rfl rfl (mv rfl rfl ?_)))
       replace hr1 := hr10.ext (((((q1.next q2).next q3).next q4).next q5).step q6 (by first | (simp; done) | (simp; omega)))
       replace hr2 := hr20.ext (((((q1.next q2).next q3).next q4).next q5).step q6 (by first | (simp; done) | (simp; omega)))
       refine cl (ev2 rfl rfl) co59 (mblk_ok q.rw _ hsr n _ hq.rg.2.2.2.2.1 hr1 hr2 (by omega)) rfl ?_
       rintro _ w13 ⟨Z33, rZ, rfl, hZ, gZ, q13⟩
       have z13 := q13.size
       have hZ0 := hZ
       obtain ⟨AZ, cZ, rfl, _⟩ := hZ.form
       refine fad rfl fa49_2 rfl ?_
       replace hb4 := hb4.ext q13
       refine s_storeBP (cs' := [_, _, _]) rfl rfl hb4 rfl (by first | (simp [Value.oneCell', S]; done) | exact Enc.one _ _) sz47 rfl (fun w14 hb4 q14 z14 => ?_)
       refine kpL [(2, _), (4, _)] (.cons rfl (.cons rfl .nil)) (nl (tn (sr (s_loadBA rfl hb4 ag49 rfl ?_))))
       replace hb2 := (((hb2.ext ((q3.next q4).next q5)).fr q6 (by first | (simp; done) | (simp; omega) | (simp [blks]; done) | (simp [blks]; omega))).ext q13).fr q14 (by first | (simp; done) | (simp; omega) | (simp [blks]; done) | (simp [blks]; omega))
       refine s_storeBA rfl rfl hb2 rfl (by first | (simp [Value.oneCell', S]; done) | exact Enc.one _ _) sz49 (fun w15 hb2 q15 z15 => ?_)
       refine nn (rt (rC Tryd.results38 rfl hb2 ag49  ?_))
       replace hY := hY0.fr ((((((Fr.refl [g2] _).next q5).step q6 (by first | (simp; done) | (simp; omega))).next q13).step q14 (by first | (simp; done) | (simp; omega))).step q15 (by first | (simp; done) | (simp; omega))) (by intro k hk; simp at hk; omega)
       replace hZ := hZ0.fr (((Fr.refl [g4, g2] _).step q14 (by first | (simp; done) | (simp; omega))).step q15 (by first | (simp; done) | (simp; omega))) (by intro k hk; simp at hk; omega)
       first | exact ⟨_, rfl, ((AX, rX.length, cX)), (AY, rY.length, cY), ((AZ, rZ.length, cZ)), ⟨rX, rY, rZ⟩, rfl, ⟨hX.low (by omega), hY.low (by omega), hZ.low (by omega), gX, gY, gZ⟩, ((((((((q1.next q2).next q3).next q4).next q5).step q6 (by first | (simp; done) | (simp; omega))).next q13).step q14 (by first | (simp; done) | (simp; omega))).step q15 (by first | (simp; done) | (simp; omega)))⟩ | exact ⟨_, rfl, ((AX, rX.length, cX)), (AY, rY.length, cY), ((none, 0, 0)), ⟨rX, rY, []⟩, rfl, ⟨hX.low (by omega), hY.low (by omega), OwR.nil _, gX, gY, good_nil⟩, ((((((((q1.next q2).next q3).next q4).next q5).step q6 (by first | (simp; done) | (simp; omega))).next q13).step q14 (by first | (simp; done) | (simp; omega))).step q15 (by first | (simp; done) | (simp; omega)))⟩ | exact ⟨_, rfl, ((none, 0, 0)), (AY, rY.length, cY), ((AZ, rZ.length, cZ)), ⟨[], rY, rZ⟩, rfl, ⟨OwR.nil _, hY.low (by omega), hZ.low (by omega), good_nil, gY, gZ⟩, ((((((((q1.next q2).next q3).next q4).next q5).step q6 (by first | (simp; done) | (simp; omega))).next q13).step q14 (by first | (simp; done) | (simp; omega))).step q15 (by first | (simp; done) | (simp; omega)))⟩ | exact ⟨_, rfl, ((none, 0, 0)), (AY, rY.length, cY), ((none, 0, 0)), ⟨[], rY, []⟩, rfl, ⟨OwR.nil _, hY.low (by omega), OwR.nil _, good_nil, gY, good_nil⟩, ((((((((q1.next q2).next q3).next q4).next q5).step q6 (by first | (simp; done) | (simp; omega))).next q13).step q14 (by first | (simp; done) | (simp; omega))).step q15 (by first | (simp; done) | (simp; omega)))⟩
     · refine sk (tn (sr (s_loadBA rfl hb4 ag49 rfl ?_)))
       replace hb2 := (hb2.ext ((q3.next q4).next q5)).fr q6 (by first | (simp; done) | (simp; omega) | (simp [blks]; done) | (simp [blks]; omega))
       refine s_storeBA rfl rfl hb2 rfl (by first | (simp [Value.oneCell', S]; done) | exact Enc.one _ _) sz49 (fun w16 hb2 q16 z16 => ?_)
       refine nn (rt (rC Tryd.results38 rfl hb2 ag49  ?_))
       replace hY := hY0.fr ((((Fr.refl [g2] _).next q5).step q6 (by first | (simp; done) | (simp; omega))).step q16 (by first | (simp; done) | (simp; omega))) (by intro k hk; simp at hk; omega)
       first | exact ⟨_, rfl, ((AX, rX.length, cX)), (AY, rY.length, cY), ((AZ, rZ.length, cZ)), ⟨rX, rY, rZ⟩, rfl, ⟨hX.low (by omega), hY.low (by omega), hZ.low (by omega), gX, gY, gZ⟩, ((((((q1.next q2).next q3).next q4).next q5).step q6 (by first | (simp; done) | (simp; omega))).step q16 (by first | (simp; done) | (simp; omega)))⟩ | exact ⟨_, rfl, ((AX, rX.length, cX)), (AY, rY.length, cY), ((none, 0, 0)), ⟨rX, rY, []⟩, rfl, ⟨hX.low (by omega), hY.low (by omega), OwR.nil _, gX, gY, good_nil⟩, ((((((q1.next q2).next q3).next q4).next q5).step q6 (by first | (simp; done) | (simp; omega))).step q16 (by first | (simp; done) | (simp; omega)))⟩ | exact ⟨_, rfl, ((none, 0, 0)), (AY, rY.length, cY), ((AZ, rZ.length, cZ)), ⟨[], rY, rZ⟩, rfl, ⟨OwR.nil _, hY.low (by omega), hZ.low (by omega), good_nil, gY, gZ⟩, ((((((q1.next q2).next q3).next q4).next q5).step q6 (by first | (simp; done) | (simp; omega))).step q16 (by first | (simp; done) | (simp; omega)))⟩ | exact ⟨_, rfl, ((none, 0, 0)), (AY, rY.length, cY), ((none, 0, 0)), ⟨[], rY, []⟩, rfl, ⟨OwR.nil _, hY.low (by omega), OwR.nil _, good_nil, gY, good_nil⟩, ((((((q1.next q2).next q3).next q4).next q5).step q6 (by first | (simp; done) | (simp; omega))).step q16 (by first | (simp; done) | (simp; omega)))⟩
end Go.Proofs.YthehggmdcmpjeaaDoor
namespace Go.Proofs.YthehggmdcmpjeaaDoor
open Go.Lw Go.G14
theorem ag93 : AggOf Tryd.prog 93 8 := ⟨fun _ => by kernel_rfl, fun _ => by kernel_rfl⟩
theorem ag95 : AggOf Tryd.prog 95 12 := ⟨fun _ => by kernel_rfl, fun _ => by kernel_rfl⟩
theorem co38 : CallOf Tryd.prog 38 := CallOf.mk' Tryd.func38 (by kernel_rfl) (by kernel_rfl)
theorem el41 : ElemOf Tryd.prog 41 95 encQd 112 := ElemOf.mk' (z := (.agg #[(.int .u8 0), (.int .u8 0), (.int .u8 0), (.slice none 0 0), (.int .u8 0), (.slice none 0 0), (.int .u8 0), (.slice none 0 0), (.int .u8 0), (.int .u8 0), (.int .u8 0), (.int .u8 0)])) Tryd.underlying41 (by kernel_rfl) rfl
theorem fa43_0 : FieldAt Tryd.prog 43 0 0 := fun _ _ => by kernel_rfl
theorem fa43_1 : FieldAt Tryd.prog 43 1 1 := fun _ _ => by kernel_rfl
theorem fa95_0 : FieldAt Tryd.prog 95 0 0 := fun _ _ => by kernel_rfl
theorem fa95_1 : FieldAt Tryd.prog 95 1 8 := fun _ _ => by kernel_rfl
theorem fa95_2 : FieldAt Tryd.prog 95 2 9 := fun _ _ => by kernel_rfl
theorem fa95_3 : FieldAt Tryd.prog 95 3 10 := fun _ _ => by kernel_rfl
theorem fa95_4 : FieldAt Tryd.prog 95 4 11 := fun _ _ => by kernel_rfl
theorem na41 : NotAgg Tryd.prog 41 := fun _ => by kernel_rfl
theorem sz22 : SizeOf Tryd.prog 22 1 := fun _ => by kernel_rfl
theorem sz95 : SizeOf Tryd.prog 95 12 := fun _ => by kernel_rfl
theorem zv95 (w : World) : (zeroValue 95).run Tryd.prog w = .ok (.agg #[(.int .u8 0), (.int .u8 0), (.int .u8 0), (.slice none 0 0), (.int .u8 0), (.slice none 0 0), (.int .u8 0), (.slice none 0 0), (.int .u8 0), (.int .u8 0), (.int .u8 0), (.int .u8 0)]) w := by kernel_rfl
set_option maxHeartbeats 4000000 in
theorem gof_ok (nb : Int) (v : Value) (ys : List QD) (w0 : World) (hnb : 0 ≤ nb ∧ nb ≤ 255) (hs : Sl encQd w0 v ys) (hqy : QsAt w0 ys) : Rets Tryd.prog 16 #[.agg #[.int .u8 nb, v]] w0 fun r w' => ∃ nm V qs, r = .agg #[S nm, V] ∧ Lw.Own encPq 51 w0.heap.size w' V qs ∧ PcsO 61 100 w0.heap.size w' qs ∧ Fr [] w0 w' := by
 obtain ⟨A, c, rfl, hcc, hM, hA⟩ := id hs
 clear hA
 unfold maxLen at hM
 have hlit : ([97, 98, 99, 100, 101, 102, 103, 104, 105, 106, 107, 108, 109, 110, 111, 112] : List UInt8).length = 16 := rfl
 have hofn : ofN.length = 4 := rfl
 refine we [(0, .agg #[.int .u8 nb, .slice A ys.length c])] Tryd.func16 rfl Tryd.ntmps16 rfl (.cons rfl .nil) ?_
 have hs0 := hs
 have hqy0 := hqy
 refine sr (bx rfl rfl rfl (fun g1 w1 hg1 hb1 q1 z1 => ?_))
 refine al zv24 rfl rfl (fun g2 w2 hg2 hb2 q2 z2 => ?_)
 refine nn (sr (fad rfl fa43_0 rfl ?_))
 replace hb1 := hb1.ext q2
 refine s_loadB rfl hb1 rfl na5 rfl (s_rem rfl rfl (by omega) (by first | exact IntWalk.rem_in _ _ (by omega) | rfl) rfl (s_add rfl rfl (wi8 (by omega)) rfl (s_ss_h rfl rfl Tryd.underlying9 (by omega) (by omega) nat_of rfl (s_lit (cs := [_, _]) (ev1 rfl) bo24 (pok_cons rfl rfl rfl pok_nil) rfl rfl ?_))))
 refine al zv24 rfl rfl (fun g3 w3 hg3 hb3 q3 z3 => ?_)
 refine s_storeBA rfl rfl hb3 rfl (by first | (simp [Value.oneCell', S]; done) | exact Enc.one _ _) sz24 (fun w4 hb3 q4 z4 => ?_)
 refine kpL [(1, _), (2, _), (3, _)] (.cons rfl (.cons rfl (.cons rfl .nil))) (nn (sq (sr (asg rfl rfl (nn (bl ?_))))))
 replace hb1 := (hb1.ext q3).fr q4 (by first | (simp; done) | (simp; omega) | (simp [blks]; done) | (simp [blks]; omega))
 replace hb2 := (hb2.ext q3).fr q4 (by first | (simp; done) | (simp; omega) | (simp [blks]; done) | (simp [blks]; omega))
 refine lpK (ι := Nat × Value × List PQ) [(1, _), (2, _), (3, _)] (fun p => [(4, .int .i64 (p.1 : Int))]) (fun p w' => Fr [] w0 w' ∧ (p.1 ≤ 4 ∧ p.2.2.length = p.1) ∧ Blk w' g1 43 [.int .u8 nb, .slice A ys.length c] ∧ Blk w' g2 24 [S [], .slice none 0 0] ∧ Blk w' g3 24 [S ((([97, 98, 99, 100, 101, 102, 103, 104, 105, 106, 107, 108, 109, 110, 111, 112] : List UInt8)).take (1 + (nb % 16)).toNat), p.2.1] ∧ Lw.Own encPq 51 (g3 + 1) w' p.2.1 p.2.2 ∧ PcsO 61 100 (g3 + 1) w' p.2.2) (fun p => 4 - p.1) (0, .slice none 0 0, []) (.cons rfl (.cons rfl (.cons rfl (.cons rfl .nil)))) ⟨(((q1.next q2).next q3).step q4 (by first | (simp; done) | (simp; omega))), ⟨⟨Nat.zero_le _, rfl⟩, hb1, hb2, hb3, Own.nil _, PcsO.nil⟩⟩ ?_
 rintro ⟨i, vP, qs⟩ w5 ⟨q5, ⟨⟨hi, hpl⟩, hb1, hb2, hb3, hoP, hpo⟩⟩
 simp only at hi hpl hb1 hb2 hb3 hoP hpo
 have z5 := q5.size
 have lt_hb1 := hb1.lt
 have lt_hb2 := hb2.lt
 have lt_hb3 := hb3.lt
 refine kpC [(1, _), (2, _), (3, _), (4, .int .i64 (i : Int))] (.cons rfl (.cons rfl (.cons rfl (.cons rfl .nil)))) ?_
 refine sq (sq ?_)
 refine rbo (r := 24) (L' := [(1, _), (2, _), (3, _), (4, _)]) (((((i : Int) < (ys.length : Int)) ∧ ((i : Int) < 4)) ∨ ((i : Int) = 0))) (.cons rfl (.cons rfl (.cons rfl (.cons rfl .nil)))) ?_ ?_
 · refine mv rfl rfl (fad rfl fa43_1 rfl (s_loadB rfl hb1 rfl na41 rfl (lnS rfl Tryd.underlying41 rfl (lt' rfl rfl rfl (mv rfl rfl ?_)))))
   refine gs 17 rfl (fun g0 => ?_) (fun g0 => ?_)
   · refine gY rfl (mv rfl rfl (gY rfl (lt' rfl rfl rfl (pkt rfl rfl rfl rfl (mv rfl rfl ?_)))))
     refine gs 21 rfl (fun g1 => ?_) (fun g1 => ?_)
     · exact gN rfl rfl rfl (gN rfl rfl rfl (pkt rfl rfl rfl rfl (rbe rfl (by first | exact bt (by omega) | exact bf (by omega) | exact bi (by omega) | exact bn (by omega) | (simp_all; done) | (simp_all; omega)) (.cons rfl (.cons rfl (.cons rfl (.cons rfl .nil)))))))
     · exact gY rfl (mv rfl rfl (gY rfl (eq' rfl rfl rfl (pkf rfl rfl rfl rfl (rbe rfl (by first | exact bt (by omega) | exact bf (by omega) | exact bi (by omega) | exact bn (by omega) | (simp_all; done) | (simp_all; omega)) (.cons rfl (.cons rfl (.cons rfl (.cons rfl .nil)))))))))
   · exact gN rfl rfl rfl (gN rfl rfl rfl (pkf rfl rfl rfl rfl (mv rfl rfl (gY rfl (mv rfl rfl (gY rfl (eq' rfl rfl rfl (pkf rfl rfl rfl rfl (rbe rfl (by first | exact bt (by omega) | exact bf (by omega) | exact bi (by omega) | exact bn (by omega) | (simp_all; done) | (simp_all; omega)) (.cons rfl (.cons rfl (.cons rfl (.cons rfl .nil)))))))))))))
 · refine tn ?_
   refine cd rfl (fun c0 => ?_) (fun c0 => ?_)
   · refine sk (tn (sq (bl (sr (al zv95 rfl rfl (fun g5 w6 hg5 hb5 q6 z6 => ?_))))))
     have hz5 := hb5
     refine nn ?_
     refine jn (ι := QD) [(1, _), (2, _), (3, _), (4, _), (5, _)] (fun qd => []) (fun qd w' => Fr [g5] w6 w' ∧ Blk w' g5 95 [.int .u8 qd.ht, .int .u8 qd.ed, .int .u8 qd.lw, slv qd.l, .int .u8 qd.tw, slv qd.t, .int .u8 qd.rw, slv qd.r, .int .u8 qd.ba, .int .u8 qd.st, .int .u8 qd.up, .int .u8 qd.ct] ∧ QAt w' qd ∧ ((0 ≤ qd.ba ∧ qd.ba ≤ 255) ∧ (0 ≤ qd.st ∧ qd.st ≤ 255) ∧ (0 ≤ qd.up ∧ qd.up ≤ 255) ∧ (0 ≤ qd.ct ∧ qd.ct ≤ 255))) (.cons rfl (.cons rfl (.cons rfl (.cons rfl (.cons rfl .nil))))) ?_ ?_
     · refine sr (mv rfl rfl (fad rfl fa43_1 rfl ?_))
       replace hb1 := hb1.ext q6
       refine s_loadB rfl hb1 rfl na41 rfl (lnS rfl Tryd.underlying41 rfl (lt' rfl rfl rfl (nn ?_)))
       refine cd rfl (fun c1 => ?_) (fun c1 => ?_)
       · refine rg (fad rfl fa43_1 rfl (s_loadB rfl hb1 rfl na41 rfl (mv rfl rfl ?_)))
         replace hs := hs0.ext (q5.next q6)
         refine s_idxL (qd0) rfl hs rfl el41 (by omega) (by omega) nat_of rfl (fun ad35 hc35 => ?_)
         refine s_loadA rfl (hc35 _ hs) ag95 rfl (s_storeBA rfl rfl hb5 rfl (by first | (simp [Value.oneCell', S]; done) | exact Enc.one _ _) sz95 (fun w7 hb5 q7 z7 => ?_))
         refine kpL [(1, _), (2, _), (3, _), (4, _), (5, _)] (.cons rfl (.cons rfl (.cons rfl (.cons rfl (.cons rfl .nil))))) (nl ?_)
         replace hqy := hqy0.ext ((q5.next q6).step q7 (by first | (simp; done) | (simp; omega)))
         exact jE ((ys.getD i qd0)) (.cons rfl (.cons rfl (.cons rfl (.cons rfl (.cons rfl .nil))))) ⟨((Fr.refl [g5] _).step q7 (by first | (simp; done) | (simp; omega))), ⟨hb5, hqy _ (getD_memS (by omega)), (hqy _ (getD_memS (by omega))).rg.2.2.2.2.2⟩⟩
       · refine sk ?_
         exact jE (qd0) (.cons rfl (.cons rfl (.cons rfl (.cons rfl (.cons rfl .nil))))) ⟨(Fr.refl _ _), ⟨hb5, QAt.zero _, by simp [qd0]⟩⟩
     · rintro qd w8 ⟨q8, ⟨hb5, hqd, hrg⟩⟩
       have z8 := q8.size
       have lt_hb5 := hb5.lt
       have hqd0 := hqd
       refine kpC [(1, _), (2, _), (3, _), (4, _), (5, _)] (.cons rfl (.cons rfl (.cons rfl (.cons rfl (.cons rfl .nil))))) ?_
       replace hb1 := (hb1.ext q6).fr q8 (by first | (simp; done) | (simp; omega) | (simp [blks]; done) | (simp [blks]; omega))
       replace hb2 := (hb2.ext q6).fr q8 (by first | (simp; done) | (simp; omega) | (simp [blks]; done) | (simp [blks]; omega))
       replace hb3 := (hb3.ext q6).fr q8 (by first | (simp; done) | (simp; omega) | (simp [blks]; done) | (simp [blks]; omega))
       replace hoP := (hoP.ext q6).fr q8 (by intro k hk hb; simp at hk; subst hk; have := hoP.blk _ hb; omega)
       replace hpo := (hpo.ext q6).fr q8 (by intro k hk; simp at hk; subst hk; first | exact .inl (by omega) | exact .inr ⟨_, _, hz5, by decide, by decide⟩)
       intro a h
       refine region_heldP (some 30) (fun wb w' => Fr [] wb w') hmix ?_; intro w9 hq
       have z9 := hq.size
       replace hb1 := hb1.ext hq
       replace hb2 := hb2.ext hq
       replace hb3 := hb3.ext hq
       replace hoP := hoP.ext hq
       replace hpo := hpo.ext hq
       replace hb5 := hb5.ext hq
       replace hqd := hqd.ext hq
       have q9 := hq
       clear hq; have hC : Fr [] w9 w9 := Fr.refl _ _
       have hb1_b := hb1
       have hb2_b := hb2
       have hb3_b := hb3
       have hoP_b := hoP
       have hpo_b := hpo
       have hb5_b := hb5
       have hqd_b := hqd
       refine hd_fieldAddr 0 (by kernel_rfl) (by kernel_rfl) (by kernel_rfl) hC h wn rfl fa24_1 rfl rfl ?_; clear h a; intro a h
       refine hd_loadB 1 (by kernel_rfl) (by kernel_rfl) (by kernel_rfl) hC h wn rfl (fun _ hw => hb3_b.ext hw) rfl na22 rfl rfl ?_; clear h a; intro a h
       refine hd_move 3 (by kernel_rfl) (by kernel_rfl) (by kernel_rfl) hC h wn rfl rfl rfl ?_; clear h a; intro a h
       refine hd_fieldAddr 6 (by kernel_rfl) (by kernel_rfl) (by kernel_rfl) hC h wn rfl fa95_0 rfl rfl ?_; clear h a; intro a h
       refine hd_loadBP (vs := [_, _, _, _, _, _, _, _]) 7 (by kernel_rfl) (by kernel_rfl) (by kernel_rfl) hC h wn rfl (fun _ hw => (hb5_b.ext hw)) ag93 rfl rfl rfl ?_; clear h a; intro a h
       refine hd_fieldAddr 9 (by kernel_rfl) (by kernel_rfl) (by kernel_rfl) hC h wn rfl fa95_1 rfl rfl ?_; clear h a; intro a h
       refine hd_loadB 10 (by kernel_rfl) (by kernel_rfl) (by kernel_rfl) hC h wn rfl (fun _ hw => hb5_b.ext hw) rfl na5 rfl rfl ?_; clear h a; intro a h
       refine hd_rem 11 (by kernel_rfl) (by kernel_rfl) (by kernel_rfl) hC h wn rfl rfl (by omega) (by first | exact IntWalk.rem_in _ _ (by omega) | rfl) rfl rfl ?_; clear h a; intro a h
       refine hd_conv 12 (by kernel_rfl) (by kernel_rfl) (by kernel_rfl) hC h wn rfl (by rw [Tryd.underlying5]; rfl) Tryd.underlying3 (by first | exact IntWalk.i64_in _ (by omega) | rfl) rfl rfl ?_; clear h a; intro a h
       refine hd_add 13 (by kernel_rfl) (by kernel_rfl) (by kernel_rfl) hC h wn rfl rfl (by first | exact IntWalk.i64_in _ (by omega) | rfl) rfl rfl ?_; clear h a; intro a h
       refine hd_fieldAddr 14 (by kernel_rfl) (by kernel_rfl) (by kernel_rfl) hC h wn rfl fa95_2 rfl rfl ?_; clear h a; intro a h
       refine hd_loadB 15 (by kernel_rfl) (by kernel_rfl) (by kernel_rfl) hC h wn rfl (fun _ hw => hb5_b.ext hw) rfl na5 rfl rfl ?_; clear h a; intro a h
       refine hd_rem 16 (by kernel_rfl) (by kernel_rfl) (by kernel_rfl) hC h wn rfl rfl (by omega) (by first | exact IntWalk.rem_in _ _ (by omega) | rfl) rfl rfl ?_; clear h a; intro a h
       refine hd_conv 17 (by kernel_rfl) (by kernel_rfl) (by kernel_rfl) hC h wn rfl (by rw [Tryd.underlying5]; rfl) Tryd.underlying3 (by first | exact IntWalk.i64_in _ (by omega) | rfl) rfl rfl ?_; clear h a; intro a h
       refine hd_fieldAddr 18 (by kernel_rfl) (by kernel_rfl) (by kernel_rfl) hC h wn rfl fa95_3 rfl rfl ?_; clear h a; intro a h
       refine hd_loadB 19 (by kernel_rfl) (by kernel_rfl) (by kernel_rfl) hC h wn rfl (fun _ hw => hb5_b.ext hw) rfl na5 rfl rfl ?_; clear h a; intro a h
       refine hd_rem 20 (by kernel_rfl) (by kernel_rfl) (by kernel_rfl) hC h wn rfl rfl (by omega) (by first | exact IntWalk.rem_in _ _ (by omega) | rfl) rfl rfl ?_; clear h a; intro a h
       refine hd_conv 21 (by kernel_rfl) (by kernel_rfl) (by kernel_rfl) hC h wn rfl (by rw [Tryd.underlying5]; rfl) Tryd.underlying3 (by first | exact IntWalk.i64_in _ (by omega) | rfl) rfl rfl ?_; clear h a; intro a h
       refine hd_add 22 (by kernel_rfl) (by kernel_rfl) (by kernel_rfl) hC h wn rfl rfl (by first | exact IntWalk.i64_in _ (by omega) | rfl) rfl rfl ?_; clear h a; intro a h
       refine hd_fieldAddr 23 (by kernel_rfl) (by kernel_rfl) (by kernel_rfl) hC h wn rfl fa95_4 rfl rfl ?_; clear h a; intro a h
       refine hd_loadB 24 (by kernel_rfl) (by kernel_rfl) (by kernel_rfl) hC h wn rfl (fun _ hw => hb5_b.ext hw) rfl na5 rfl rfl ?_; clear h a; intro a h
       refine hd_rem 25 (by kernel_rfl) (by kernel_rfl) (by kernel_rfl) hC h wn rfl rfl (by omega) (by first | exact IntWalk.rem_in _ _ (by omega) | rfl) rfl rfl ?_; clear h a; intro a h
       refine hd_conv 26 (by kernel_rfl) (by kernel_rfl) (by kernel_rfl) hC h wn rfl (by rw [Tryd.underlying5]; rfl) Tryd.underlying3 (by first | exact IntWalk.i64_in _ (by omega) | rfl) rfl rfl ?_; clear h a; intro a h
       refine hd_add 27 (by kernel_rfl) (by kernel_rfl) (by kernel_rfl) hC h wn rfl rfl (by first | exact IntWalk.i64_in _ (by omega) | rfl) rfl rfl ?_; clear h a; intro a h
       refine hd_two 2 8 (by kernel_rfl) rfl rfl ?_ ?_
       · refine id ?_
         refine st_bslice (ofN) h (evs_cons rfl (evs_cons rfl (evs_cons rfl (evs_cons rfl evs_nil)))) rfl rfl rfl el96 (Nat.le_of_ble_eq_true rfl) rfl ?_; clear h a; intro g_39 w10 hg ho39 hq hz a h
         have hn__39 : g1 < g_39 := by have := hb1.lt; omega
         have hn__39 : g2 < g_39 := by have := hb2.lt; omega
         have hn__39 : g3 < g_39 := by have := hb3.lt; omega
         have hn__39 : g5 < g_39 := by have := hb5.lt; omega
         have z10 := hq.size
         replace hb1 := hb1.ext hq
         replace hb2 := hb2.ext hq
         replace hb3 := hb3.ext hq
         replace hoP := hoP.ext hq
         replace hpo := hpo.ext hq
         replace hb5 := hb5.ext hq
         replace hqd := hqd.ext hq
         replace hC := hC.next hq
         have q10 := hq
         clear hq
         refine hd_next hC ?_
         refine hd_two 4 8 (by kernel_rfl) rfl rfl ?_ ?_
         · refine id ?_
           refine st_idxL (p := i) ([]) h rfl ho39.sl rfl el96 (by omega) (by omega) (by omega) rfl ?_; clear h a; intro ad41 hc41 a h
           refine hd_next hC ?_
           refine hd_two 5 8 (by kernel_rfl) rfl rfl ?_ ?_
           · refine id ?_
             refine st_loadC0 h rfl (hc41 _ ho39.sl) na9 rfl ?_; clear h a; intro a h
             refine hd_next hC ?_
             refine hd_one 8 (by kernel_rfl) rfl ?_
             refine st_call h (evs_cons rfl evs_nil) co38 (mof_ok qd _ hqd) rfl ?_; clear h a; rintro _ w11 ⟨ml, mt, mr, mm, rfl, hM, hq⟩ a h
             have z11 := hq.size
             replace hb1 := hb1.ext hq
             replace hb2 := hb2.ext hq
             replace hb3 := hb3.ext hq
             replace hoP := hoP.ext hq
             replace hpo := hpo.ext hq
             replace hb5 := hb5.ext hq
             replace hqd := hqd.ext hq
             replace ho39 := ho39.ext hq
             replace hC := hC.next hq
             have q11 := hq
             clear hq
             refine hd_next hC ?_
             refine hd_lit (cs := [_, _, _, _, _, _, _, _]) 28 (by kernel_rfl) (by kernel_rfl) (by kernel_rfl) hC h wn (evs_cons rfl (evs_cons rfl (evs_cons rfl (evs_cons rfl (evs_cons rfl (evs_cons rfl evs_nil)))))) bo51 (pok_cons rfl rfl rfl (pok_cons rfl rfl rfl (pok_cons rfl rfl rfl (pok_cons rfl rfl rfl (pok_cons rfl rfl rfl (pok_cons rfl rfl rfl pok_nil)))))) rfl rfl rfl ?_; clear h a; intro a h
             refine hd_one 29 (by kernel_rfl) rfl ?_
             refine st_bslice ([(⟨⟨ofN.getD i [], mm, 1 + qd.ba % 4, qd.st % 5, 1 + qd.up % 5, 1 + qd.ct % 9⟩, ml, mt, mr⟩ : PQ)]) h (evs_cons rfl evs_nil) rfl rfl rfl el22 (Nat.le_of_ble_eq_true rfl) rfl ?_; clear h a; intro g_66 w12 hg ho66 hq hz a h
             have hn__66 : g1 < g_66 := by have := hb1.lt; omega
             have hn__66 : g2 < g_66 := by have := hb2.lt; omega
             have hn__66 : g3 < g_66 := by have := hb3.lt; omega
             have hn__66 : g5 < g_66 := by have := hb5.lt; omega
             have z12 := hq.size
             replace hb1 := hb1.ext hq
             replace hb2 := hb2.ext hq
             replace hb3 := hb3.ext hq
             replace hoP := hoP.ext hq
             replace hpo := hpo.ext hq
             replace hb5 := hb5.ext hq
             replace hqd := hqd.ext hq
             replace ho39 := ho39.ext hq
             replace hM := hM.ext hq
             replace hC := hC.next hq
             have q12 := hq
             clear hq
             refine hd_next hC ?_
             refine hd_one 30 (by kernel_rfl) rfl ?_
             have hoo67 := hoP
             refine st_append h rfl rfl hoP ho66.sl el22 (by unfold maxLen; simp only [List.length_cons, List.length_nil]; omega) (by simp only [List.length_cons, List.length_nil]; omega) (by omega) rfl ?_; clear h a; intro v67 w13 hoP hq hor67 a h
             replace hpo := (hpo.snoc (q := (⟨⟨ofN.getD i [], mm, 1 + qd.ba % 4, qd.st % 5, 1 + qd.up % 5, 1 + qd.ct % 9⟩, ml, mt, mr⟩ : PQ)) (hM.low (by omega)))
             obtain ⟨AP, cP, rfl, _⟩ := hoP.sl.form
             have z13 := hq.size
             replace hb1 := hb1.fr hq (fun hk => by have := (hoo67.blk _ hk).1; omega)
             replace hb2 := hb2.fr hq (fun hk => by have := (hoo67.blk _ hk).1; omega)
             replace hb3 := hb3.fr hq (fun hk => by have := (hoo67.blk _ hk).1; omega)
             replace hpo := hpo.fr hq (own_apart hoo67 (by decide) (by decide))
             have q13 := hq
             clear hq
             refine hd_past (by kernel_rfl) ?_
             refine hd_one 31 (by kernel_rfl) rfl ?_
             refine st_fieldAddr h rfl fa24_1 rfl ?_; clear h a; intro a h
             refine hd_past (by kernel_rfl) ?_
             refine hd_one 32 (by kernel_rfl) rfl ?_
             refine st_storeB h rfl rfl hb3 rfl rfl rfl sz22 ?_; clear h a; intro w14 hbn hq hz a h
             have z14 := hq.size
             replace hb1 := hb1.fr hq (by first | (simp; done) | (simp; omega) | (simp [blks]; done) | (simp [blks]; omega))
             replace hb2 := hb2.fr hq (by first | (simp; done) | (simp; omega) | (simp [blks]; done) | (simp [blks]; omega))
             replace hpo := hpo.fr hq (by intro k hk; simp at hk; subst hk; first | exact .inl (by omega) | exact .inr ⟨_, _, hz5, by decide, by decide⟩)
             replace hoP := hoP.fr hq (by intro k hk hb; simp at hk; subst hk; have := hoP.blk _ hb; omega)
             have q14 := hq
             clear hb3 hq hz; have hb3 : Blk w14 g3 _ [_, _] := hbn; clear hbn
             refine hd_past (by kernel_rfl) ?_
             refine hd_end (by kernel_rfl) ?_
             clear hC hb1_b hb2_b hb3_b hoP_b hpo_b hb5_b hqd_b
             refine bk (h.sub (L' := [(1, _), (2, _), (3, _), (4, _)]) (.cons rfl (.cons rfl (.cons rfl (.cons rfl .nil))))) ?_; clear h a
             refine bn' (tn (rg (mv rfl rfl (s_add rfl rfl (wi6 (by omega)) rfl (asg rfl rfl (nl ?_))))))
             exact lpE ((i + 1, _, qs ++ [(⟨⟨ofN.getD i [], mm, 1 + qd.ba % 4, qd.st % 5, 1 + qd.up % 5, 1 + qd.ct % 9⟩, ml, mt, mr⟩ : PQ)])) (.cons rfl (.cons rfl (.cons rfl (.cons rfl .nil)))) ⟨((((((((q5.next q6).step q8 (by first | (simp; done) | (simp; omega))).next q9).next q10).next q11).next q12).step q13 (fun k hk hlt => absurd (hoo67.blk k hk).1 (by omega))).step q14 (by first | (simp; done) | (simp; omega))), ⟨⟨by simp only; omega, by simp only [List.length_append, List.length_cons, List.length_nil]; omega⟩, hb1, hb2, hb3, hoP, hpo⟩⟩ (by simp only; omega)
           · refine id ?_
             refine st_call h (evs_cons rfl evs_nil) co38 (mof_ok qd _ hqd) rfl ?_; clear h a; rintro _ w15 ⟨ml, mt, mr, mm, rfl, hM, hq⟩ a h
             have z15 := hq.size
             replace hb1 := hb1.ext hq
             replace hb2 := hb2.ext hq
             replace hb3 := hb3.ext hq
             replace hoP := hoP.ext hq
             replace hpo := hpo.ext hq
             replace hb5 := hb5.ext hq
             replace hqd := hqd.ext hq
             replace ho39 := ho39.ext hq
             replace hC := hC.next hq
             have q15 := hq
             clear hq
             refine hd_next hC ?_
             refine hd_one 5 (by kernel_rfl) rfl ?_
             refine st_loadC0 h rfl (hc41 _ ho39.sl) na9 rfl ?_; clear h a; intro a h
             refine hd_next hC ?_
             refine hd_lit (cs := [_, _, _, _, _, _, _, _]) 28 (by kernel_rfl) (by kernel_rfl) (by kernel_rfl) hC h wn (evs_cons rfl (evs_cons rfl (evs_cons rfl (evs_cons rfl (evs_cons rfl (evs_cons rfl evs_nil)))))) bo51 (pok_cons rfl rfl rfl (pok_cons rfl rfl rfl (pok_cons rfl rfl rfl (pok_cons rfl rfl rfl (pok_cons rfl rfl rfl (pok_cons rfl rfl rfl pok_nil)))))) rfl rfl rfl ?_; clear h a; intro a h
             refine hd_one 29 (by kernel_rfl) rfl ?_
             refine st_bslice ([(⟨⟨ofN.getD i [], mm, 1 + qd.ba % 4, qd.st % 5, 1 + qd.up % 5, 1 + qd.ct % 9⟩, ml, mt, mr⟩ : PQ)]) h (evs_cons rfl evs_nil) rfl rfl rfl el22 (Nat.le_of_ble_eq_true rfl) rfl ?_; clear h a; intro g_66 w16 hg ho66 hq hz a h
             have hn__66 : g1 < g_66 := by have := hb1.lt; omega
             have hn__66 : g2 < g_66 := by have := hb2.lt; omega
             have hn__66 : g3 < g_66 := by have := hb3.lt; omega
             have hn__66 : g5 < g_66 := by have := hb5.lt; omega
             have z16 := hq.size
             replace hb1 := hb1.ext hq
             replace hb2 := hb2.ext hq
             replace hb3 := hb3.ext hq
             replace hoP := hoP.ext hq
             replace hpo := hpo.ext hq
             replace hb5 := hb5.ext hq
             replace hqd := hqd.ext hq
             replace ho39 := ho39.ext hq
             replace hM := hM.ext hq
             replace hC := hC.next hq
             have q16 := hq
             clear hq
             refine hd_next hC ?_
             refine hd_one 30 (by kernel_rfl) rfl ?_
             have hoo67 := hoP
             refine st_append h rfl rfl hoP ho66.sl el22 (by unfold maxLen; simp only [List.length_cons, List.length_nil]; omega) (by simp only [List.length_cons, List.length_nil]; omega) (by omega) rfl ?_; clear h a; intro v67 w17 hoP hq hor67 a h
             replace hpo := (hpo.snoc (q := (⟨⟨ofN.getD i [], mm, 1 + qd.ba % 4, qd.st % 5, 1 + qd.up % 5, 1 + qd.ct % 9⟩, ml, mt, mr⟩ : PQ)) (hM.low (by omega)))
             obtain ⟨AP, cP, rfl, _⟩ := hoP.sl.form
             have z17 := hq.size
             replace hb1 := hb1.fr hq (fun hk => by have := (hoo67.blk _ hk).1; omega)
             replace hb2 := hb2.fr hq (fun hk => by have := (hoo67.blk _ hk).1; omega)
             replace hb3 := hb3.fr hq (fun hk => by have := (hoo67.blk _ hk).1; omega)
             replace hpo := hpo.fr hq (own_apart hoo67 (by decide) (by decide))
             have q17 := hq
             clear hq
             refine hd_past (by kernel_rfl) ?_
             refine hd_one 31 (by kernel_rfl) rfl ?_
             refine st_fieldAddr h rfl fa24_1 rfl ?_; clear h a; intro a h
             refine hd_past (by kernel_rfl) ?_
             refine hd_one 32 (by kernel_rfl) rfl ?_
             refine st_storeB h rfl rfl hb3 rfl rfl rfl sz22 ?_; clear h a; intro w18 hbn hq hz a h
             have z18 := hq.size
             replace hb1 := hb1.fr hq (by first | (simp; done) | (simp; omega) | (simp [blks]; done) | (simp [blks]; omega))
             replace hb2 := hb2.fr hq (by first | (simp; done) | (simp; omega) | (simp [blks]; done) | (simp [blks]; omega))
             replace hpo := hpo.fr hq (by intro k hk; simp at hk; subst hk; first | exact .inl (by omega) | exact .inr ⟨_, _, hz5, by decide, by decide⟩)
             replace hoP := hoP.fr hq (by intro k hk hb; simp at hk; subst hk; have := hoP.blk _ hb; omega)
             have q18 := hq
             clear hb3 hq hz; have hb3 : Blk w18 g3 _ [_, _] := hbn; clear hbn
             refine hd_past (by kernel_rfl) ?_
             refine hd_end (by kernel_rfl) ?_
             clear hC hb1_b hb2_b hb3_b hoP_b hpo_b hb5_b hqd_b
             refine bk (h.sub (L' := [(1, _), (2, _), (3, _), (4, _)]) (.cons rfl (.cons rfl (.cons rfl (.cons rfl .nil))))) ?_; clear h a
             refine bn' (tn (rg (mv rfl rfl (s_add rfl rfl (wi6 (by omega)) rfl (asg rfl rfl (nl ?_))))))
             exact lpE ((i + 1, _, qs ++ [(⟨⟨ofN.getD i [], mm, 1 + qd.ba % 4, qd.st % 5, 1 + qd.up % 5, 1 + qd.ct % 9⟩, ml, mt, mr⟩ : PQ)])) (.cons rfl (.cons rfl (.cons rfl (.cons rfl .nil)))) ⟨((((((((q5.next q6).step q8 (by first | (simp; done) | (simp; omega))).next q9).next q10).next q15).next q16).step q17 (fun k hk hlt => absurd (hoo67.blk k hk).1 (by omega))).step q18 (by first | (simp; done) | (simp; omega))), ⟨⟨by simp only; omega, by simp only [List.length_append, List.length_cons, List.length_nil]; omega⟩, hb1, hb2, hb3, hoP, hpo⟩⟩ (by simp only; omega)
         · refine id ?_
           refine st_call h (evs_cons rfl evs_nil) co38 (mof_ok qd _ hqd) rfl ?_; clear h a; rintro _ w19 ⟨ml, mt, mr, mm, rfl, hM, hq⟩ a h
           have z19 := hq.size
           replace hb1 := hb1.ext hq
           replace hb2 := hb2.ext hq
           replace hb3 := hb3.ext hq
           replace hoP := hoP.ext hq
           replace hpo := hpo.ext hq
           replace hb5 := hb5.ext hq
           replace hqd := hqd.ext hq
           replace ho39 := ho39.ext hq
           replace hC := hC.next hq
           have q19 := hq
           clear hq
           refine hd_next hC ?_
           refine hd_one 4 (by kernel_rfl) rfl ?_
           refine st_idxL (p := i) ([]) h rfl ho39.sl rfl el96 (by omega) (by omega) (by omega) rfl ?_; clear h a; intro ad41 hc41 a h
           refine hd_next hC ?_
           refine hd_one 5 (by kernel_rfl) rfl ?_
           refine st_loadC0 h rfl (hc41 _ ho39.sl) na9 rfl ?_; clear h a; intro a h
           refine hd_next hC ?_
           refine hd_lit (cs := [_, _, _, _, _, _, _, _]) 28 (by kernel_rfl) (by kernel_rfl) (by kernel_rfl) hC h wn (evs_cons rfl (evs_cons rfl (evs_cons rfl (evs_cons rfl (evs_cons rfl (evs_cons rfl evs_nil)))))) bo51 (pok_cons rfl rfl rfl (pok_cons rfl rfl rfl (pok_cons rfl rfl rfl (pok_cons rfl rfl rfl (pok_cons rfl rfl rfl (pok_cons rfl rfl rfl pok_nil)))))) rfl rfl rfl ?_; clear h a; intro a h
           refine hd_one 29 (by kernel_rfl) rfl ?_
           refine st_bslice ([(⟨⟨ofN.getD i [], mm, 1 + qd.ba % 4, qd.st % 5, 1 + qd.up % 5, 1 + qd.ct % 9⟩, ml, mt, mr⟩ : PQ)]) h (evs_cons rfl evs_nil) rfl rfl rfl el22 (Nat.le_of_ble_eq_true rfl) rfl ?_; clear h a; intro g_66 w20 hg ho66 hq hz a h
           have hn__66 : g1 < g_66 := by have := hb1.lt; omega
           have hn__66 : g2 < g_66 := by have := hb2.lt; omega
           have hn__66 : g3 < g_66 := by have := hb3.lt; omega
           have hn__66 : g5 < g_66 := by have := hb5.lt; omega
           have z20 := hq.size
           replace hb1 := hb1.ext hq
           replace hb2 := hb2.ext hq
           replace hb3 := hb3.ext hq
           replace hoP := hoP.ext hq
           replace hpo := hpo.ext hq
           replace hb5 := hb5.ext hq
           replace hqd := hqd.ext hq
           replace ho39 := ho39.ext hq
           replace hM := hM.ext hq
           replace hC := hC.next hq
           have q20 := hq
           clear hq
           refine hd_next hC ?_
           refine hd_one 30 (by kernel_rfl) rfl ?_
           have hoo67 := hoP
           refine st_append h rfl rfl hoP ho66.sl el22 (by unfold maxLen; simp only [List.length_cons, List.length_nil]; omega) (by simp only [List.length_cons, List.length_nil]; omega) (by omega) rfl ?_; clear h a; intro v67 w21 hoP hq hor67 a h
           replace hpo := (hpo.snoc (q := (⟨⟨ofN.getD i [], mm, 1 + qd.ba % 4, qd.st % 5, 1 + qd.up % 5, 1 + qd.ct % 9⟩, ml, mt, mr⟩ : PQ)) (hM.low (by omega)))
           obtain ⟨AP, cP, rfl, _⟩ := hoP.sl.form
           have z21 := hq.size
           replace hb1 := hb1.fr hq (fun hk => by have := (hoo67.blk _ hk).1; omega)
           replace hb2 := hb2.fr hq (fun hk => by have := (hoo67.blk _ hk).1; omega)
           replace hb3 := hb3.fr hq (fun hk => by have := (hoo67.blk _ hk).1; omega)
           replace hpo := hpo.fr hq (own_apart hoo67 (by decide) (by decide))
           have q21 := hq
           clear hq
           refine hd_past (by kernel_rfl) ?_
           refine hd_one 31 (by kernel_rfl) rfl ?_
           refine st_fieldAddr h rfl fa24_1 rfl ?_; clear h a; intro a h
           refine hd_past (by kernel_rfl) ?_
           refine hd_one 32 (by kernel_rfl) rfl ?_
           refine st_storeB h rfl rfl hb3 rfl rfl rfl sz22 ?_; clear h a; intro w22 hbn hq hz a h
           have z22 := hq.size
           replace hb1 := hb1.fr hq (by first | (simp; done) | (simp; omega) | (simp [blks]; done) | (simp [blks]; omega))
           replace hb2 := hb2.fr hq (by first | (simp; done) | (simp; omega) | (simp [blks]; done) | (simp [blks]; omega))
           replace hpo := hpo.fr hq (by intro k hk; simp at hk; subst hk; first | exact .inl (by omega) | exact .inr ⟨_, _, hz5, by decide, by decide⟩)
           replace hoP := hoP.fr hq (by intro k hk hb; simp at hk; subst hk; have := hoP.blk _ hb; omega)
           have q22 := hq
           clear hb3 hq hz; have hb3 : Blk w22 g3 _ [_, _] := hbn; clear hbn
           refine hd_past (by kernel_rfl) ?_
           refine hd_end (by kernel_rfl) ?_
           clear hC hb1_b hb2_b hb3_b hoP_b hpo_b hb5_b hqd_b
           refine bk (h.sub (L' := [(1, _), (2, _), (3, _), (4, _)]) (.cons rfl (.cons rfl (.cons rfl (.cons rfl .nil))))) ?_; clear h a
           refine bn' (tn (rg (mv rfl rfl (s_add rfl rfl (wi6 (by omega)) rfl (asg rfl rfl (nl ?_))))))
           exact lpE ((i + 1, _, qs ++ [(⟨⟨ofN.getD i [], mm, 1 + qd.ba % 4, qd.st % 5, 1 + qd.up % 5, 1 + qd.ct % 9⟩, ml, mt, mr⟩ : PQ)])) (.cons rfl (.cons rfl (.cons rfl (.cons rfl .nil)))) ⟨((((((((q5.next q6).step q8 (by first | (simp; done) | (simp; omega))).next q9).next q10).next q19).next q20).step q21 (fun k hk hlt => absurd (hoo67.blk k hk).1 (by omega))).step q22 (by first | (simp; done) | (simp; omega))), ⟨⟨by simp only; omega, by simp only [List.length_append, List.length_cons, List.length_nil]; omega⟩, hb1, hb2, hb3, hoP, hpo⟩⟩ (by simp only; omega)
       · refine id ?_
         refine st_call h (evs_cons rfl evs_nil) co38 (mof_ok qd _ hqd) rfl ?_; clear h a; rintro _ w23 ⟨ml, mt, mr, mm, rfl, hM, hq⟩ a h
         have z23 := hq.size
         replace hb1 := hb1.ext hq
         replace hb2 := hb2.ext hq
         replace hb3 := hb3.ext hq
         replace hoP := hoP.ext hq
         replace hpo := hpo.ext hq
         replace hb5 := hb5.ext hq
         replace hqd := hqd.ext hq
         replace hC := hC.next hq
         have q23 := hq
         clear hq
         refine hd_next hC ?_
         refine hd_one 2 (by kernel_rfl) rfl ?_
         refine st_bslice (ofN) h (evs_cons rfl (evs_cons rfl (evs_cons rfl (evs_cons rfl evs_nil)))) rfl rfl rfl el96 (Nat.le_of_ble_eq_true rfl) rfl ?_; clear h a; intro g_39 w24 hg ho39 hq hz a h
         have hn__39 : g1 < g_39 := by have := hb1.lt; omega
         have hn__39 : g2 < g_39 := by have := hb2.lt; omega
         have hn__39 : g3 < g_39 := by have := hb3.lt; omega
         have hn__39 : g5 < g_39 := by have := hb5.lt; omega
         have z24 := hq.size
         replace hb1 := hb1.ext hq
         replace hb2 := hb2.ext hq
         replace hb3 := hb3.ext hq
         replace hoP := hoP.ext hq
         replace hpo := hpo.ext hq
         replace hb5 := hb5.ext hq
         replace hqd := hqd.ext hq
         replace hM := hM.ext hq
         replace hC := hC.next hq
         have q24 := hq
         clear hq
         refine hd_next hC ?_
         refine hd_one 4 (by kernel_rfl) rfl ?_
         refine st_idxL (p := i) ([]) h rfl ho39.sl rfl el96 (by omega) (by omega) (by omega) rfl ?_; clear h a; intro ad41 hc41 a h
         refine hd_next hC ?_
         refine hd_one 5 (by kernel_rfl) rfl ?_
         refine st_loadC0 h rfl (hc41 _ ho39.sl) na9 rfl ?_; clear h a; intro a h
         refine hd_next hC ?_
         refine hd_lit (cs := [_, _, _, _, _, _, _, _]) 28 (by kernel_rfl) (by kernel_rfl) (by kernel_rfl) hC h wn (evs_cons rfl (evs_cons rfl (evs_cons rfl (evs_cons rfl (evs_cons rfl (evs_cons rfl evs_nil)))))) bo51 (pok_cons rfl rfl rfl (pok_cons rfl rfl rfl (pok_cons rfl rfl rfl (pok_cons rfl rfl rfl (pok_cons rfl rfl rfl (pok_cons rfl rfl rfl pok_nil)))))) rfl rfl rfl ?_; clear h a; intro a h
         refine hd_one 29 (by kernel_rfl) rfl ?_
         refine st_bslice ([(⟨⟨ofN.getD i [], mm, 1 + qd.ba % 4, qd.st % 5, 1 + qd.up % 5, 1 + qd.ct % 9⟩, ml, mt, mr⟩ : PQ)]) h (evs_cons rfl evs_nil) rfl rfl rfl el22 (Nat.le_of_ble_eq_true rfl) rfl ?_; clear h a; intro g_66 w25 hg ho66 hq hz a h
         have hn__66 : g1 < g_66 := by have := hb1.lt; omega
         have hn__66 : g2 < g_66 := by have := hb2.lt; omega
         have hn__66 : g3 < g_66 := by have := hb3.lt; omega
         have hn__66 : g5 < g_66 := by have := hb5.lt; omega
         have z25 := hq.size
         replace hb1 := hb1.ext hq
         replace hb2 := hb2.ext hq
         replace hb3 := hb3.ext hq
         replace hoP := hoP.ext hq
         replace hpo := hpo.ext hq
         replace hb5 := hb5.ext hq
         replace hqd := hqd.ext hq
         replace hM := hM.ext hq
         replace ho39 := ho39.ext hq
         replace hC := hC.next hq
         have q25 := hq
         clear hq
         refine hd_next hC ?_
         refine hd_one 30 (by kernel_rfl) rfl ?_
         have hoo67 := hoP
         refine st_append h rfl rfl hoP ho66.sl el22 (by unfold maxLen; simp only [List.length_cons, List.length_nil]; omega) (by simp only [List.length_cons, List.length_nil]; omega) (by omega) rfl ?_; clear h a; intro v67 w26 hoP hq hor67 a h
         replace hpo := (hpo.snoc (q := (⟨⟨ofN.getD i [], mm, 1 + qd.ba % 4, qd.st % 5, 1 + qd.up % 5, 1 + qd.ct % 9⟩, ml, mt, mr⟩ : PQ)) (hM.low (by omega)))
         obtain ⟨AP, cP, rfl, _⟩ := hoP.sl.form
         have z26 := hq.size
         replace hb1 := hb1.fr hq (fun hk => by have := (hoo67.blk _ hk).1; omega)
         replace hb2 := hb2.fr hq (fun hk => by have := (hoo67.blk _ hk).1; omega)
         replace hb3 := hb3.fr hq (fun hk => by have := (hoo67.blk _ hk).1; omega)
         replace hpo := hpo.fr hq (own_apart hoo67 (by decide) (by decide))
         have q26 := hq
         clear hq
         refine hd_past (by kernel_rfl) ?_
         refine hd_one 31 (by kernel_rfl) rfl ?_
         refine st_fieldAddr h rfl fa24_1 rfl ?_; clear h a; intro a h
         refine hd_past (by kernel_rfl) ?_
         refine hd_one 32 (by kernel_rfl) rfl ?_
         refine st_storeB h rfl rfl hb3 rfl rfl rfl sz22 ?_; clear h a; intro w27 hbn hq hz a h
         have z27 := hq.size
         replace hb1 := hb1.fr hq (by first | (simp; done) | (simp; omega) | (simp [blks]; done) | (simp [blks]; omega))
         replace hb2 := hb2.fr hq (by first | (simp; done) | (simp; omega) | (simp [blks]; done) | (simp [blks]; omega))
         replace hpo := hpo.fr hq (by intro k hk; simp at hk; subst hk; first | exact .inl (by omega) | exact .inr ⟨_, _, hz5, by decide, by decide⟩)
         replace hoP := hoP.fr hq (by intro k hk hb; simp at hk; subst hk; have := hoP.blk _ hb; omega)
         have q27 := hq
         clear hb3 hq hz; have hb3 : Blk w27 g3 _ [_, _] := hbn; clear hbn
         refine hd_past (by kernel_rfl) ?_
         refine hd_end (by kernel_rfl) ?_
         clear hC hb1_b hb2_b hb3_b hoP_b hpo_b hb5_b hqd_b
         refine bk (h.sub (L' := [(1, _), (2, _), (3, _), (4, _)]) (.cons rfl (.cons rfl (.cons rfl (.cons rfl .nil))))) ?_; clear h a
         refine bn' (tn (rg (mv rfl rfl (s_add rfl rfl (wi6 (by omega)) rfl (asg rfl rfl (nl ?_))))))
         exact lpE ((i + 1, _, qs ++ [(⟨⟨ofN.getD i [], mm, 1 + qd.ba % 4, qd.st % 5, 1 + qd.up % 5, 1 + qd.ct % 9⟩, ml, mt, mr⟩ : PQ)])) (.cons rfl (.cons rfl (.cons rfl (.cons rfl .nil)))) ⟨((((((((q5.next q6).step q8 (by first | (simp; done) | (simp; omega))).next q9).next q23).next q24).next q25).step q26 (fun k hk hlt => absurd (hoo67.blk k hk).1 (by omega))).step q27 (by first | (simp; done) | (simp; omega))), ⟨⟨by simp only; omega, by simp only [List.length_append, List.length_cons, List.length_nil]; omega⟩, hb1, hb2, hb3, hoP, hpo⟩⟩ (by simp only; omega)
   · obtain ⟨AP, cP, rfl, _⟩ := hoP.sl.form
     refine ex (te (te (xh (tn (sr (s_loadBA rfl hb3 ag24 rfl ?_))))))
     refine s_storeBA (vs := [S ((([97, 98, 99, 100, 101, 102, 103, 104, 105, 106, 107, 108, 109, 110, 111, 112] : List UInt8)).take (1 + (nb % 16)).toNat), .slice AP qs.length cP]) rfl rfl hb2 rfl (by simp [Value.oneCell', S]) sz24 (fun w28 hb2 q28 z28 => ?_)
     refine nn (rt (rC Tryd.results16 rfl hb2 ag24  ?_))
     replace hoP := hoP.fr q28 (by intro k hk hb; simp at hk; subst hk; have := hoP.blk _ hb; omega)
     replace hpo := hpo.fr q28 (by intro k hk; simp at hk; subst hk; first | exact .inl (by omega) | exact .inr ⟨_, _, hz5, by decide, by decide⟩)
     exact ⟨_, rfl, _, _, qs, rfl, hoP.low (by omega), hpo.low (by omega), (q5.step q28 (by first | (simp; done) | (simp; omega)))⟩
end Go.Proofs.YthehggmdcmpjeaaDoor
namespace Go.G14
open Go.Lw
def z0 (q : PQ) : PQ := ⟨⟨q.p.nm, q.p.mot, q.p.ba, 0, q.p.up, q.p.ct⟩, q.l, q.t, q.r⟩
def zst (qs : List PQ) (i : Nat) : List PQ := (qs.take i).map z0 ++ qs.drop i
theorem zst_zero (qs : List PQ) : zst qs 0 = qs := by simp [zst]
theorem zst_all (qs : List PQ) : zst qs qs.length = qs.map z0 := by simp [zst]
theorem zst_len {qs : List PQ} {i : Nat} (h : i ≤ qs.length) : (zst qs i).length = qs.length := by
  unfold zst; rw [List.length_append, List.length_map, List.length_take, List.length_drop]; omega
theorem zst_at {qs : List PQ} {i : Nat} (h : i < qs.length) : (zst qs i)[i]? = some (qs.getD i pq0) := by
  unfold zst
  have hl : ((qs.take i).map z0).length = i := by rw [List.length_map, List.length_take]; omega
  rw [List.getElem?_append_right (by omega), hl, Nat.sub_self, List.getElem?_drop, Nat.add_zero, List.getElem?_eq_getElem h, List.getD, List.getElem?_eq_getElem h]; rfl
theorem zst_set {qs : List PQ} {i : Nat} (h : i < qs.length) : (zst qs i).set i (z0 (qs.getD i pq0)) = zst qs (i + 1) := by
  unfold zst
  have hl : ((qs.take i).map z0).length = i := by rw [List.length_map, List.length_take]; omega
  rw [List.set_append_right _ _ (by omega), hl, Nat.sub_self, take_one qs i pq0 h, List.map_append, List.append_assoc]
  congr 1
  rw [List.drop_eq_getElem_cons h]; rfl
theorem pcso_z {R0 T0 N : Nat} {w : World} {qs : List PQ} (h : PcsO R0 T0 N w qs) (i : Nat) : PcsO R0 T0 N w (zst qs i) := fun q hq => by
  rcases List.mem_append.1 hq with hq | hq
  · obtain ⟨q', hq', rfl⟩ := List.mem_map.1 hq
    exact h q' (List.mem_of_mem_take hq')
  · exact h q (List.mem_of_mem_drop hq)
theorem z0_st (qs : List PQ) : ∀ p ∈ pcs (qs.map z0), p.st = 0 := fun p hp => by
  obtain ⟨q, hq, rfl⟩ := List.mem_map.1 hp
  obtain ⟨q', _, rfl⟩ := List.mem_map.1 hq
  rfl
theorem sz_pre {nm : List UInt8} {ps : List Pc} {i : Nat} (h : makeE nm ps (i : Int) = 0) : ∀ n, i < n → ∃ rest, sizesTo nm ps n = sizesTo nm ps i ++ (i : Int) :: rest
  | 0, hn => absurd hn (Nat.not_lt_zero i)
  | n + 1, hn => by
    by_cases e : i = n
    · subst e; exact ⟨[], sizes_yes h⟩
    · obtain ⟨rest, hr⟩ := sz_pre h n (by omega)
      by_cases e2 : makeE nm ps (n : Int) = 0
      · exact ⟨rest ++ [(n : Int)], by rw [sizes_yes e2, hr]; simp⟩
      · exact ⟨rest, by rw [sizes_no e2, hr]⟩
theorem sz_at {nm : List UInt8} {ps : List Pc} {i : Nat} (h : makeE nm ps (i : Int) = 0) (hi : i < 10) : (sizesTo nm ps i).length < (sizesTo nm ps 10).length ∧ (sizesTo nm ps 10).getD (sizesTo nm ps i).length 0 = (i : Int) := by
  obtain ⟨rest, hr⟩ := sz_pre h 10 hi
  rw [hr]
  refine ⟨by rw [List.length_append, List.length_cons]; omega, ?_⟩
  rw [List.getD, List.getElem?_append_right (by omega), Nat.sub_self]; rfl
theorem tiles_fix {p : Pc} (h : p.st = 0) (s s' : Int) : tiles p s = tiles p s' := by unfold tiles; rw [h, Int.mul_zero, Int.mul_zero]
theorem charts_fix (s s' : Int) : ∀ {ps : List Pc}, (∀ p ∈ ps, p.st = 0) → chartsE s ps = chartsE s' ps
  | [], _ => rfl
  | p :: ps, h => by
    have ih := charts_fix s s' (ps := ps) fun q hq => h q (by simp [hq])
    unfold chartsE
    rw [tiles_fix (h p (by simp)) s s', ih]
theorem make_fix {nm : List UInt8} {ps : List Pc} (h : ∀ p ∈ ps, p.st = 0) {s s' : Int} (h1 : 0 ≤ s ∧ s ≤ 9) (h2 : 0 ≤ s' ∧ s' ≤ 9) : makeE nm ps s = makeE nm ps s' := by
  unfold makeE
  rw [if_neg (c := s < 0 ∨ 9 < s) (by omega), if_neg (c := s' < 0 ∨ 9 < s') (by omega), charts_fix s s' h]
theorem need_fix {ps : List Pc} (h : ∀ p ∈ ps, p.st = 0) (s s' : Int) : needL ps s = needL ps s' := by
  unfold needL needY
  refine List.map_congr_left fun y _ => ?_
  congr 1
  refine List.map_congr_left fun p hp => ?_
  unfold chartP
  rw [tiles_fix (h p hp) s s']
theorem sz_len0 {nm : List UInt8} {ps : List Pc} (h : ∀ p ∈ ps, p.st = 0) : ∀ n, n ≤ 10 → (sizesTo nm ps n).length = if makeE nm ps 0 = 0 then n else 0
  | 0, _ => by simp [sizesTo]
  | n + 1, hn => by
    have ih := sz_len0 (nm := nm) h n (by omega)
    have e := make_fix (nm := nm) h (s := (n : Int)) (s' := 0) (by omega) (by omega)
    by_cases c : makeE nm ps 0 = 0
    · rw [sizes_yes (by rw [e]; exact c), List.length_append, ih, if_pos c, if_pos c]; rfl
    · rw [sizes_no (by rw [e]; exact c), ih, if_neg c, if_neg c]
theorem sz_all {nm : List UInt8} {ps : List Pc} (h : ∀ p ∈ ps, p.st = 0) : (sizesTo nm ps 10).length = 0 ∨ (sizesTo nm ps 10).length = 10 := by
  rw [sz_len0 h 10 (by omega)]; split
  · exact .inr rfl
  · exact .inl rfl
def lastOk (ps : List Pc) (n : Nat) (l : List Int) : Prop := l = [] ∨ ∃ s : Nat, s < n ∧ l = needL ps (s : Int)
theorem last_len {ps : List Pc} {n : Nat} {l : List Int} (h : lastOk ps n l) : l.length ≤ 6 := by
  rcases h with rfl | ⟨s, _, rfl⟩
  · simp
  · rw [needL_len]; omega
theorem last_up {ps : List Pc} {n m : Nat} {l : List Int} (h : lastOk ps n l) (hn : n ≤ m) : lastOk ps m l := h.imp id fun ⟨s, h1, h2⟩ => ⟨s, by omega, h2⟩
theorem need_get (ps : List Pc) (s : Int) {y : Nat} (hy : y < 6) : (needL ps s).getD y 0 = needY ps s ((y + 1 : Nat) : Int) := tab_get (fun y : Nat => needY ps s ((y + 1 : Nat) : Int)) hy
theorem last_le {nm : List UInt8} {ps : List Pc} {n : Nat} {l : List Int} (h : lastOk ps n l) (hg : makeE nm ps (n : Int) = 0) {y : Nat} (hy : y < l.length) : l.getD y 0 ≤ (needL ps (n : Int)).getD y 0 := by
  rcases h with rfl | ⟨s, h1, rfl⟩
  · simp at hy
  · rw [needL_len] at hy
    rw [need_get _ _ hy, need_get _ _ hy]
    exact need_mono (make_of hg).1 (by omega) (by omega) _
theorem last_eq {ps : List Pc} {n : Nat} {l : List Int} (h : lastOk ps n l) (hst : ∀ p ∈ ps, p.st = 0) {y : Nat} (hy : y < l.length) : l.getD y 0 = (needL ps (n : Int)).getD y 0 := by
  rcases h with rfl | ⟨s, h1, rfl⟩
  · simp at hy
  · rw [need_fix hst (s : Int) (n : Int)]
theorem own_blk {α : Type} {E : Enc α} {T N : Nat} {w : World} {A : Option Addr} {m c : Nat} {ys : List α} (h : Lw.Own E T N w (.slice A m c) ys) (h1 : 0 < ys.length) : ∃ g cs, A = some ⟨g, 0, none⟩ ∧ N ≤ g ∧ Blk w g T cs := by
  rcases h with ⟨_, rfl⟩ | ⟨g, cap, cur, e, hN, hg, _⟩
  · simp at h1
  · cases e; exact ⟨g, cur.toList, rfl, hN, hg⟩
theorem blk_ne {w : World} {g g' T T' : Nat} {cs cs' : List Value} (h : Blk w g T cs) (h' : Blk w g' T' cs') (e : T ≠ T') : g ≠ g' := fun hg => by
  subst hg
  have h1 : w.heap[g]? = some (.cells cs.toArray T (0, 0)) := h
  have h2 : w.heap[g]? = some (.cells cs'.toArray T' (0, 0)) := h'
  rw [h1] at h2; cases h2; exact e rfl
end Go.G14
namespace Go.Lw
open Go.RowKit
theorem flat_setF {α : Type} {E : Enc α} {ys : List α} {i f : Nat} {z y : α} {v : Value} (hy : ys[i]? = some y) (hf : f < E.sz) (hz : (E.enc y).set f v = E.enc z) (rest : List Value) :
    (ys.flatMap E.enc ++ rest).set (i * E.sz + f) v = (ys.set i z).flatMap E.enc ++ rest := by
  have hi := (List.getElem?_eq_some_iff.1 hy).1
  have e1 : ys.set i y = ys := by
    apply List.ext_getElem?
    intro k
    rw [List.getElem?_set]
    by_cases e : i = k
    · subst e; rw [if_pos rfl, if_pos hi, hy]
    · rw [if_neg e]
  have h1 := flat_set (E := E) ys y rest i hi
  have h2 := flat_set (E := E) ys z rest i hi
  rw [e1] at h1
  rw [← h2]
  conv => lhs; rw [← h1]
  have hl : ((ys.flatMap E.enc ++ rest).take (i * E.sz)).length = i * E.sz := by
    rw [List.length_take, List.length_append, E.flat_len]
    have : i * E.sz + E.sz ≤ ys.length * E.sz := by rw [← Nat.succ_mul]; exact Nat.mul_le_mul_right _ hi
    omega
  rw [List.append_assoc, List.set_append_right _ _ (by omega), hl, Nat.add_sub_cancel_left, List.set_append_left _ _ (by rw [E.len]; exact hf), hz, List.append_assoc]
section
variable {P : Program} {a : Act} {n : Nat} {L : List (Nat × Value)} {ds : List Nat} {w : World} {Q : Exit → Act → World → Prop} {ops : Array Oper} {rest : List Oper} {d : Nat} {ty t T : TypeId} {pos : String} {after : Array Edge} {x y : Operand} {v : Value}
theorem st_storeF {α : Type} {E : Enc α} {base g m c i f : Nat} {ys : List α} (u z : α) (h : AgM ds a n L) (hx : ev L x = some (.pointer (some ((⟨g, 0, none⟩ : Addr).add (i * E.sz + f))))) (hy : ev L y = some v) (ho : Own E T base w (.slice (some ⟨g, 0, none⟩) m c) ys) (hi : ys[i]? = some u) (hf : f < E.sz)
    (hz : (E.enc u).set f v = E.enc z) (h1 : v.oneCell' = true) (hc : v.cells = #[v]) (hs : SizeOf P t 1)
    (q : ∀ w', Own E T base w' (.slice (some ⟨g, 0, none⟩) m c) (ys.set i z) → Fr [g] w w' → w'.heap.size = w.heap.size → ∀ a, AgM ds a n L → wpList P ops Q rest a w') : wpList P ops Q (⟨none, .store t x y, ty, pos, after, none⟩ :: rest) a w := by
  rcases ho with ⟨e, _⟩ | ⟨g', cap, cur, e, hb, hg, r1, r2, r3, r4⟩
  · cases e
  cases e
  have hil := (List.getElem?_eq_some_iff.1 hi).1
  have h5 : i * E.sz + E.sz ≤ ys.length * E.sz := by rw [← Nat.succ_mul]; exact Nat.mul_le_mul_right _ hil
  have hcs : ys.length * E.sz ≤ cur.size := Nat.le_trans (Nat.mul_le_mul_right _ r1) r3
  have hbk : Blk w g T cur.toList := hg
  have hcur : cur.toList = ys.flatMap E.enc ++ cur.toList.drop (ys.length * E.sz) := by rw [← r4, List.take_append_drop]
  refine st_storeB h hx hy hbk (by rw [Nat.blt_eq, Array.length_toList]; omega) h1 hc hs fun w' k1 k2 k3 a h => q w' ?_ k2 k3 a h
  have e1 : cur.toList.set (i * E.sz + f) v = (ys.set i z).flatMap E.enc ++ cur.toList.drop (ys.length * E.sz) := by
    conv => lhs; rw [hcur]
    exact flat_setF hi hf hz _
  rw [e1] at k1
  refine .inr ⟨g, c, _, by rw [List.length_set], hb, k1, by rw [List.length_set]; exact r1, r2, ?_, ?_⟩
  · simp only [List.size_toArray, List.length_append, E.flat_len, List.length_set, List.length_drop, Array.length_toList]; omega
  · rw [List.length_set, show ys.length * E.sz = ((ys.set i z).flatMap E.enc).length by rw [E.flat_len, List.length_set]]
    exact List.take_left
theorem s_storeF {α : Type} {E : Enc α} {base g m c i f : Nat} {ys : List α} (u z : α) (hx : ev L x = some (.pointer (some ((⟨g, 0, none⟩ : Addr).add (i * E.sz + f))))) (hy : ev L y = some v) (ho : Own E T base w (.slice (some ⟨g, 0, none⟩) m c) ys) (hi : ys[i]? = some u) (hf : f < E.sz)
    (hz : (E.enc u).set f v = E.enc z) (h1 : v.oneCell' = true) (hc : v.cells = #[v]) (hs : SizeOf P t 1)
    (q : ∀ w', Own E T base w' (.slice (some ⟨g, 0, none⟩) m c) (ys.set i z) → Fr [g] w w' → w'.heap.size = w.heap.size → WL P ops Q rest n ds w' L) : WL P ops Q (⟨none, .store t x y, ty, pos, after, none⟩ :: rest) n ds w L := fun _ h => st_storeF u z h hx hy ho hi hf hz h1 hc hs q
end
end Go.Lw
namespace Go.Proofs.YthehggmdcmpjeaaDoor
open Go.Lw Go.G14
theorem ag43 : AggOf Tryd.prog 43 2 := ⟨fun _ => by kernel_rfl, fun _ => by kernel_rfl⟩
theorem co16 : CallOf Tryd.prog 16 := CallOf.mk' Tryd.func16 (by kernel_rfl) (by kernel_rfl)
set_option maxHeartbeats 2000000 in
theorem law_sizes (nb : Int) (v : Value) (ys : List QD) (b : Bool) (w0 : World) (hnb : 0 ≤ nb ∧ nb ≤ 255) (hs : Sl encQd w0 v ys) (hqy : QsAt w0 ys) (hy : Sym w0) : Rets Tryd.prog 4 #[.agg #[.int .u8 nb, v], .bool b] w0 fun r w' => r = .bool true ∧ Fr [] w0 w' := by
 obtain ⟨A, c, rfl, hcc, hM, hA⟩ := id hs
 clear hA
 unfold maxLen at hM
 refine we [(0, .agg #[.int .u8 nb, .slice A ys.length c]), (1, .bool b)] Tryd.func4 rfl Tryd.ntmps4 rfl (.cons rfl (.cons rfl .nil)) ?_
 have hs0 := hs
 have hqy0 := hqy
 have hy0 := hy
 refine sr (bx rfl rfl rfl (fun g2 w1 hg2 hb2 q1 z1 => ?_))
 refine asg rfl rfl (nn (sr (s_loadBA rfl hb2 ag43 rfl ?_)))
 replace hs := hs0.ext q1
 replace hqy := hqy0.ext q1
 refine cl (ev1 rfl) co16 (gof_ok nb _ ys _ hnb hs hqy) rfl ?_
 rintro _ w2 ⟨nm, V, qs, rfl, hoP, hpo, q2⟩
 have z2 := q2.size
 have hoP0 := hoP
 have hpo0 := hpo
 obtain ⟨AP, cP, rfl, _⟩ := hoP.sl.form
 have hqM := hoP.sl.len_le
 unfold maxLen at hqM
 refine al zv24 rfl rfl (fun g5 w3 hg5 hb5 q3 z3 => ?_)
 refine s_storeBA rfl rfl hb5 rfl (by first | (simp [Value.oneCell', S]; done) | exact Enc.one _ _) sz24 (fun w4 hb5 q4 z4 => ?_)
 refine nn (sq (sr (asg rfl rfl (nn (bl ?_)))))
 replace hb2 := (hb2.ext (q2.next q3)).fr q4 (by first | (simp; done) | (simp; omega) | (simp [blks]; done) | (simp [blks]; omega))
 replace hoP := hoP0.ext (q3.step q4 (by first | (simp; done) | (simp; omega)))
 replace hpo := hpo0.ext (q3.step q4 (by first | (simp; done) | (simp; omega)))
 refine lpK (ι := Nat) [(1, _), (5, _)] (fun i => [(6, .int .i64 (i : Int))]) (fun i w' => Fr [] w0 w' ∧ i ≤ qs.length ∧ Blk w' g2 43 [.int .u8 nb, .slice A ys.length c] ∧ Blk w' g5 24 [S nm, .slice AP qs.length cP] ∧ Lw.Own encPq 51 w0.heap.size w' (.slice AP qs.length cP) (zst qs i) ∧ PcsO 61 100 w0.heap.size w' qs) (fun i => qs.length - i) 0 (.cons rfl (.cons rfl (.cons rfl .nil))) ⟨(((q1.next q2).next q3).step q4 (by first | (simp; done) | (simp; omega))), ⟨Nat.zero_le _, ⟨hb2, hb5, by rw [zst_zero]; exact hoP.low (by omega), hpo.low (by omega)⟩⟩⟩ ?_
 rintro i w5 ⟨q5, ⟨hi, ⟨hb2, hb5, hoP, hpo⟩⟩⟩
 have z5 := q5.size
 have lt_hb2 := hb2.lt
 have lt_hb5 := hb5.lt
 refine kpC [(1, _), (5, _), (6, _)] (.cons rfl (.cons rfl (.cons rfl .nil))) ?_
 refine sq (sq ?_)
 refine rbo (r := 25) (L' := [(1, _), (5, _), (6, _)]) ((((i : Int) < (qs.length : Int)) ∧ b = true)) (.cons rfl (.cons rfl (.cons rfl .nil))) ?_ ?_
 · refine mv rfl rfl (fad rfl fa24_1 rfl (s_loadB rfl hb5 rfl na22 rfl (lnS rfl Tryd.underlying22 rfl (lt' rfl rfl rfl (mv rfl rfl ?_)))))
   refine gs 23 rfl (fun g0 => ?_) (fun g0 => ?_)
   · exact gY rfl (mv rfl rfl (pkt rfl rfl rfl rfl (rbe rfl (by first | exact bt (by omega) | exact bf (by omega) | exact bi (by omega) | exact bn (by omega) | (simp_all; done) | (simp_all; omega)) (.cons rfl (.cons rfl (.cons rfl .nil))))))
   · exact gN rfl rfl rfl (pkf rfl rfl rfl rfl (rbe rfl (by first | exact bt (by omega) | exact bf (by omega) | exact bi (by omega) | exact bn (by omega) | (simp_all; done) | (simp_all; omega)) (.cons rfl (.cons rfl (.cons rfl .nil)))))
 · refine tn ?_
   refine cd rfl (fun c0 => ?_) (fun c0 => ?_)
   · refine sk (tn (sq (bl (rg (fad rfl fa24_1 rfl (s_loadB rfl hb5 rfl na22 rfl (mv rfl rfl ?_)))))))
     have hzl := zst_len (qs := qs) (i := i) (by omega)
     obtain ⟨gP, csP, rfl, hgN, hzP⟩ := own_blk hoP (by omega)
     have hnP2 := blk_ne hzP hb2 (by decide)
     have hnP5 := blk_ne hzP hb5 (by decide)
     refine s_idxS (p := i) (E := encPq) rfl rfl el22 (by omega) (by omega) (by omega) rfl ?_
     refine s_fad2 rfl fa51_3 rfl ?_
     refine s_storeF (E := encPq) (i := i) (f := 5) (qs.getD i pq0) (z0 (qs.getD i pq0)) rfl rfl hoP (zst_at (by omega)) (by decide) rfl rfl rfl sz3 (fun w6 hoP q6 z6 => ?_)
     rw [zst_set (by omega)] at hoP
     refine kpL [(1, _), (5, _), (6, _)] (.cons rfl (.cons rfl (.cons rfl .nil))) (nl (bn' (tn (rg (mv rfl rfl (s_add rfl rfl (wi6 (by omega)) rfl (asg rfl rfl (nl ?_))))))))
     replace hb2 := hb2.fr q6 (by first | (simp; done) | (simp; omega) | (simp [blks]; done) | (simp [blks]; omega))
     replace hb5 := hb5.fr q6 (by first | (simp; done) | (simp; omega) | (simp [blks]; done) | (simp [blks]; omega))
     replace hpo := hpo.fr q6 (by intro k hk; simp at hk; subst hk; first | exact .inl (by omega) | exact .inr ⟨_, _, hzP, by decide, by decide⟩)
     exact lpE (i + 1) (.cons rfl (.cons rfl (.cons rfl .nil))) ⟨(q5.step q6 (by first | (simp; done) | (simp; omega))), ⟨by omega, ⟨hb2, hb5, hoP, hpo⟩⟩⟩ (by omega)
   · have hst : b = true → ∀ p ∈ pcs (zst qs i), p.st = 0 := fun hb => by
       have hi2 : i = qs.length := by
         have : ¬ (i < qs.length) := fun h => c0 ⟨by omega, hb⟩
         omega
       rw [hi2, zst_all]; exact z0_st qs
     have hpz := pcso_z hpo i
     have hoQ := hoP
     obtain ⟨QF, hQF⟩ : ∃ Q, Q = zst qs i := ⟨_, rfl⟩
     rw [← hQF] at hst hpz hoQ
     have hpz0 := hpz
     have hoQ0 := hoQ
     refine ex (te (te (xh (tn (sr (s_loadBA rfl hb5 ag24 rfl ?_))))))
     refine cl (ev1 rfl) co12 (sizes_ok nm _ QF _ hoQ.sl hpz.q) rfl ?_
     rintro _ w7 ⟨A34, rfl, hoS, q7⟩
     have z7 := q7.size
     have hoS0 := hoS
     have hs10 := sizes_len nm (pcs QF) 10
     refine asg rfl rfl (nn (sr (asg rfl rfl (nn (sr (asg rfl rfl (nn (sq (sr (asg rfl rfl (nn ?_)))))))))))
     refine bl ?_
     refine lpK (ι := Nat × Value × List Int) [(1, _), (5, _), (7, _)] (fun p => [(10, .int .i64 (p.1 : Int)), (8, .int .i64 ((sizesTo nm (pcs QF) p.1).length : Int)), (9, p.2.1)]) (fun p w' => Fr [] w7 w' ∧ p.1 ≤ 10 ∧ Sl Enc.i64 w' p.2.1 p.2.2 ∧ lastOk (pcs QF) p.1 p.2.2) (fun p => 10 - p.1) (0, .slice none 0 0, []) (.cons rfl (.cons rfl (.cons rfl (.cons rfl (.cons rfl (.cons rfl .nil)))))) ⟨Fr.refl _ _, ⟨Nat.zero_le _, Sl.nil _, .inl rfl⟩⟩ ?_
     rintro ⟨size, vL, lt⟩ w8 ⟨q8, ⟨hi, hL, hlo⟩⟩
     simp only at hi hL hlo
     have z8 := q8.size
     have hL0 := hL
     refine kpC [(1, _), (5, _), (7, _), (10, .int .i64 (size : Int)), (8, .int .i64 ((sizesTo nm (pcs QF) size).length : Int)), (9, vL)] (.cons rfl (.cons rfl (.cons rfl (.cons rfl (.cons rfl (.cons rfl .nil)))))) ?_
     obtain ⟨AL, cL, rfl, _⟩ := hL.form
     have hll := last_len hlo
     have hsl := sizes_len nm (pcs QF) size
     refine sq (sr (mv rfl rfl (le' rfl rfl rfl (nn ?_))))
     refine cd rfl (fun c1 => ?_) (fun c1 => ?_)
     · refine sk (tn (sq (bl (sr ?_))))
       replace hb5 := hb5.ext (q7.next q8)
       refine s_loadBA rfl hb5 ag24 rfl (mv rfl rfl ?_)
       replace hoQ := hoQ0.ext (q7.next q8)
       replace hpz := hpz0.ext (q7.next q8)
       refine cl (ev2 rfl rfl) co11 (refmake_ok nm _ QF (size : Int) _ hoQ.sl hpz.q) rfl ?_
       rintro _ w9 ⟨V42, cs, rfl, -, -, -, -, q9⟩
       have z9 := q9.size
       refine mv rfl rfl (xt rfl rfl rfl (xt rfl rfl rfl (asg rfl rfl (asg rfl rfl (kpL [(1, _), (5, _), (7, _), (8, _), (9, _), (10, _), (12, _)] (.cons rfl (.cons rfl (.cons rfl (.cons rfl (.cons rfl (.cons rfl (.cons rfl .nil))))))) (nn (sq (sr (mv rfl rfl (ne' rfl rfl rfl (nn ?_)))))))))))
       refine cd rfl (fun c2 => ?_) (fun c2 => ?_)
       · refine ex (te (xh (tn (rg (mv rfl rfl (s_add rfl rfl (wi6 (by omega)) rfl (asg rfl rfl (nl ?_))))))))
         replace hL := hL0.ext q9
         exact lpE ((size + 1, .slice AL lt.length cL, lt)) (.cons rfl (.cons rfl (.cons rfl (.cons rfl (.cons (congrArg (fun z : Nat => some (Value.int .i64 (z : Int))) (by first | (rw [sizes_no (by assumption)]; done) | (rw [sizes_yes hmk, List.length_append]; rfl))) (.cons rfl .nil)))))) ⟨(q8.next q9), ⟨by simp only; omega, hL, last_up hlo (by simp only; omega)⟩⟩ (by simp only; omega)
       · have hmk : makeE nm (pcs QF) (size : Int) = 0 := Classical.not_not.1 c2
         obtain ⟨hs1, hs2⟩ := sz_at hmk (by omega)
         refine sk (tn (sr ?_))
         replace hb5 := hb5.ext q9
         refine s_loadBA rfl hb5 ag24 rfl (mv rfl rfl ?_)
         replace hoQ := hoQ0.ext ((q7.next q8).next q9)
         replace hpz := hpz0.ext ((q7.next q8).next q9)
         refine cl (ev2 rfl rfl) co9 (gneeds_ok nm _ QF (size : Int) _ hoQ.sl hpz.q) rfl ?_
         rintro _ w10 ⟨V50, rfl, -, hnz, q10⟩
         have z10 := q10.size
         obtain ⟨⟨A50, rfl⟩, hoN⟩ := hnz hmk
         have hoN0 := hoN
         have hnl := needL_len (pcs QF) (size : Int)
         refine mv rfl rfl (xt rfl rfl rfl (xt rfl rfl rfl (asg rfl rfl (asg rfl rfl (kpL [(1, _), (5, _), (7, _), (8, _), (9, _), (10, _), (13, _), (14, _)] (.cons rfl (.cons rfl (.cons rfl (.cons rfl (.cons rfl (.cons rfl (.cons rfl (.cons rfl .nil)))))))) (nn (sq (sq ?_))))))))
         refine rbo (r := 73) (L' := [(1, _), (5, _), (7, _), (8, _), (9, _), (10, _), (13, _)]) (((((((sizesTo nm (pcs QF) 10).length : Int) ≤ ((sizesTo nm (pcs QF) size).length : Int)) ∨ (((sizesTo nm (pcs QF) 10).getD (sizesTo nm (pcs QF) size).length 0) ≠ (size : Int))) ∨ ((makeE nm (pcs QF) (size : Int)) ≠ 0)) ∨ (6 ≠ 6))) (.cons rfl (.cons rfl (.cons rfl (.cons rfl (.cons rfl (.cons rfl (.cons rfl .nil))))))) ?_ ?_
         · refine mv rfl rfl (mv rfl rfl (lnS rfl Tryd.underlying30 rfl (ge' rfl rfl rfl (mv rfl rfl ?_))))
           refine gs 57 rfl (fun g1 => ?_) (fun g1 => ?_)
           · refine gN rfl rfl rfl (gN rfl rfl rfl (gN rfl rfl rfl (gN rfl rfl rfl (gN rfl rfl rfl (gN rfl rfl rfl (pkt rfl rfl rfl rfl (mv rfl rfl (gN rfl rfl rfl (gN rfl rfl rfl (pkt rfl rfl rfl rfl (mv rfl rfl ?_)))))))))))
             exact gN rfl rfl rfl (gN rfl rfl rfl (gN rfl rfl rfl (pkt rfl rfl rfl rfl (rbe rfl (by first | exact bt (by omega) | exact bf (by omega) | exact bi (by omega) | exact bn (by omega) | (simp_all; done) | (simp_all; omega)) (.cons rfl (.cons rfl (.cons rfl (.cons rfl (.cons rfl (.cons rfl (.cons rfl .nil)))))))))))
           · refine gY rfl (mv rfl rfl (gY rfl (mv rfl rfl (gY rfl ?_))))
             replace hoS := hoS0.ext ((q8.next q9).next q10)
             refine s_idxL (p := (sizesTo nm (pcs QF) size).length) (0) rfl hoS.sl rfl el30 (by omega) (by omega) (by omega) rfl (fun ad60 hc60 => ?_)
             refine gY rfl (s_loadC0 rfl (hc60 _ hoS.sl) na3 rfl (gY rfl (mv rfl rfl (gY rfl (ne' rfl rfl rfl (pkf rfl rfl rfl rfl (mv rfl rfl ?_)))))))
             refine gs 65 rfl (fun g2 => ?_) (fun g2 => ?_)
             · exact gN rfl rfl rfl (gN rfl rfl rfl (pkt rfl rfl rfl rfl (mv rfl rfl (gN rfl rfl rfl (gN rfl rfl rfl (gN rfl rfl rfl (pkt rfl rfl rfl rfl (rbe rfl (by first | exact bt (by omega) | exact bf (by omega) | exact bi (by omega) | exact bn (by omega) | (simp_all; done) | (simp_all; omega)) (.cons rfl (.cons rfl (.cons rfl (.cons rfl (.cons rfl (.cons rfl (.cons rfl .nil)))))))))))))))
             · refine gY rfl (mv rfl rfl (gY rfl (ne' rfl rfl rfl (pkf rfl rfl rfl rfl (mv rfl rfl ?_)))))
               refine gs 69 rfl (fun g3 => ?_) (fun g3 => ?_)
               · exact gN rfl rfl rfl (gN rfl rfl rfl (gN rfl rfl rfl (pkt rfl rfl rfl rfl (rbe rfl (by first | exact bt (by omega) | exact bf (by omega) | exact bi (by omega) | exact bn (by omega) | (simp_all; done) | (simp_all; omega)) (.cons rfl (.cons rfl (.cons rfl (.cons rfl (.cons rfl (.cons rfl (.cons rfl .nil)))))))))))
               · exact gY rfl (mv rfl rfl (gY rfl (lnS rfl Tryd.underlying30 rfl (gY rfl (ne' rfl rfl rfl (pkf rfl rfl rfl rfl (rbe rfl (by first | exact bt (by omega) | exact bf (by omega) | exact bi (by omega) | exact bn (by omega) | (simp_all; done) | (simp_all; omega)) (.cons rfl (.cons rfl (.cons rfl (.cons rfl (.cons rfl (.cons rfl (.cons rfl .nil))))))))))))))
         · refine tn ?_
           refine cd rfl (fun c3 => ?_) (fun c3 => ?_)
           · exfalso
             omega
           · refine sk (tn (sq (sr (asg rfl rfl (nn (bl ?_))))))
             refine lpK (ι := Nat) [(1, _), (5, _), (7, _), (8, _), (9, _), (10, _), (13, _)] (fun y => [(15, .int .i64 (y : Int))]) (fun y w' => Fr [] w10 w' ∧ y ≤ lt.length) (fun y => lt.length - y) 0 (.cons rfl (.cons rfl (.cons rfl (.cons rfl (.cons rfl (.cons rfl (.cons rfl (.cons rfl .nil)))))))) ⟨Fr.refl _ _, Nat.zero_le _⟩ ?_
             rintro y w11 ⟨q11, hy⟩
             have z11 := q11.size
             refine kpC [(1, _), (5, _), (7, _), (8, _), (9, _), (10, _), (13, _), (15, _)] (.cons rfl (.cons rfl (.cons rfl (.cons rfl (.cons rfl (.cons rfl (.cons rfl (.cons rfl .nil)))))))) ?_
             refine sq (sr (mv rfl rfl (mv rfl rfl (lnS rfl Tryd.underlying30 rfl (lt' rfl rfl rfl (nn ?_))))))
             refine cd rfl (fun c4 => ?_) (fun c4 => ?_)
             · have hle := last_le hlo hmk (y := y) (by omega)
               have heq : b = true → _ := fun hb => last_eq hlo (hst hb) (y := y) (by omega)
               refine sk (tn (sq (bl (sq ?_))))
               replace hL := hL0.ext ((q9.next q10).next q11)
               replace hoN := hoN0.ext q11
               intro a h
               have qh20 := Fr.refl [] w11
               refine region_held (fun wb w' => Fr [] wb w') hmix ?_; intro w12 hq
               have z12 := hq.size
               replace hL := hL.ext hq
               replace hoN := hoN.ext hq
               replace qh20 := qh20.next hq
               have hsz := hq.size; clear hq; have hC : Fr [] w12 w12 := Fr.refl _ _
               have hL_b := hL
               have hoN_b := hoN
               refine hd_move 0 (by kernel_rfl) (by kernel_rfl) (by kernel_rfl) hC h wn rfl rfl rfl ?_; clear h a; intro a h
               refine hd_move 1 (by kernel_rfl) (by kernel_rfl) (by kernel_rfl) hC h wn rfl rfl rfl ?_; clear h a; intro a h
               refine hd_idxL (p := y) (0) 2 (by kernel_rfl) (by kernel_rfl) (by kernel_rfl) hC h wn rfl hoN.sl rfl el30 (by omega) (by omega) (by omega) rfl rfl ?_; clear h a; intro ad82 hc82 a h
               refine hd_loadC0 3 (by kernel_rfl) (by kernel_rfl) (by kernel_rfl) hC h wn rfl (fun _ hw => hc82 _ (hoN_b.sl.ext hw)) na3 rfl rfl ?_; clear h a; intro a h
               refine hd_move 4 (by kernel_rfl) (by kernel_rfl) (by kernel_rfl) hC h wn rfl rfl rfl ?_; clear h a; intro a h
               refine hd_move 5 (by kernel_rfl) (by kernel_rfl) (by kernel_rfl) hC h wn rfl rfl rfl ?_; clear h a; intro a h
               refine hd_idxL (p := y) (0) 6 (by kernel_rfl) (by kernel_rfl) (by kernel_rfl) hC h wn rfl hL rfl el30 (by omega) (by omega) (by omega) rfl rfl ?_; clear h a; intro ad86 hc86 a h
               refine hd_loadC0 7 (by kernel_rfl) (by kernel_rfl) (by kernel_rfl) hC h wn rfl (fun _ hw => hc86 _ (hL_b.ext hw)) na3 rfl rfl ?_; clear h a; intro a h
               refine hd_lt 8 (by kernel_rfl) (by kernel_rfl) (by kernel_rfl) hC h wn rfl rfl rfl rfl ?_; clear h a; intro a h
               refine hd_move 9 (by kernel_rfl) (by kernel_rfl) (by kernel_rfl) hC h wn rfl rfl rfl ?_; clear h a; intro a h
               refine guard_dec (D := 89) h rfl (fun hh => absurd hh (by omega)) ?_
               clear h; intro g4 h
               refine hd_move 10 (by kernel_rfl) (by kernel_rfl) (by kernel_rfl) hC h (wy rfl) rfl rfl rfl ?_; clear h a; intro a h
               refine hd_move 11 (by kernel_rfl) (by kernel_rfl) (by kernel_rfl) hC h (wy rfl) rfl rfl rfl ?_; clear h a; intro a h
               first | refine guard_dec (D := 91) h rfl ?_ ?_ | refine guard_ndec (D := 91) h rfl ?_ ?_ | refine guard_any (D := 91) h rfl ?_ ?_
               · clear h; intro g5 h
                 refine hd_move 12 (by kernel_rfl) (by kernel_rfl) (by kernel_rfl) hC h (wy rfl) rfl rfl rfl ?_; clear h a; intro a h
                 refine hd_move 13 (by kernel_rfl) (by kernel_rfl) (by kernel_rfl) hC h (wy rfl) rfl rfl rfl ?_; clear h a; intro a h
                 refine hd_idxL (p := y) (0) 14 (by kernel_rfl) (by kernel_rfl) (by kernel_rfl) hC h (wy rfl) rfl hoN.sl rfl el30 (by omega) (by omega) (by omega) rfl rfl ?_; clear h a; intro ad94 hc94 a h
                 refine hd_loadC0 15 (by kernel_rfl) (by kernel_rfl) (by kernel_rfl) hC h (wy rfl) rfl (fun _ hw => hc94 _ (hoN_b.sl.ext hw)) na3 rfl rfl ?_; clear h a; intro a h
                 refine hd_move 16 (by kernel_rfl) (by kernel_rfl) (by kernel_rfl) hC h (wy rfl) rfl rfl rfl ?_; clear h a; intro a h
                 refine hd_move 17 (by kernel_rfl) (by kernel_rfl) (by kernel_rfl) hC h (wy rfl) rfl rfl rfl ?_; clear h a; intro a h
                 refine hd_idxL (p := y) (0) 18 (by kernel_rfl) (by kernel_rfl) (by kernel_rfl) hC h (wy rfl) rfl hL rfl el30 (by omega) (by omega) (by omega) rfl rfl ?_; clear h a; intro ad98 hc98 a h
                 refine hd_loadC0 19 (by kernel_rfl) (by kernel_rfl) (by kernel_rfl) hC h (wy rfl) rfl (fun _ hw => hc98 _ (hL_b.ext hw)) na3 rfl rfl ?_; clear h a; intro a h
                 refine hd_ne 20 (by kernel_rfl) (by kernel_rfl) (by kernel_rfl) hC h (wy rfl) rfl rfl rfl rfl ?_; clear h a; intro a h
                 refine hd_one 21 (by kernel_rfl) rfl ?_
                 refine gd_yes h rfl rfl rfl rfl rfl rfl ?_
                 refine st_pick_t h rfl rfl rfl rfl ?_; clear h a; intro a h
                 refine hd_next hC ?_
                 refine hd_one 22 (by kernel_rfl) rfl ?_
                 refine st_pick_f h rfl rfl rfl rfl ?_; clear h a; intro a h
                 refine hd_next hC ?_
                 refine hd_end (by kernel_rfl) ?_
                 clear hC hL_b hoN_b
                 have z12 := qh20.size
                 refine bk (h.sub (L' := [(1, _), (5, _), (7, _), (8, _), (9, _), (10, _), (13, _), (15, _), (102, _)]) (.cons rfl (.cons rfl (.cons rfl (.cons rfl (.cons rfl (.cons rfl (.cons rfl (.cons rfl (.cons rfl .nil)))))))))) ?_; clear h a
                 refine tn ?_
                 refine cd rfl (fun c5 => ?_) (fun c5 => ?_)
                 · first | (exact absurd (heq (by assumption)).symm c5) | (exfalso; have := heq (by assumption); omega) | (exfalso; simp at c5; omega) | (exfalso; rcases c5 with h | ⟨h1, h2⟩; omega; have := heq h1; omega)
                 · refine sk (bn' (tn (rg (mv rfl rfl (s_add rfl rfl (wi6 (by omega)) rfl (asg rfl rfl (nl ?_)))))))
                   exact lpE (y + 1) (.cons rfl (.cons rfl (.cons rfl (.cons rfl (.cons rfl (.cons rfl (.cons rfl (.cons rfl .nil)))))))) ⟨(q11.next qh20), by omega⟩ (by omega)
               · clear h; intro g5 h
                 refine hd_gn 12 (by kernel_rfl) (by kernel_rfl) (by kernel_rfl) hC h rfl rfl rfl rfl ?_; clear h a; intro a h
                 refine hd_gn 13 (by kernel_rfl) (by kernel_rfl) (by kernel_rfl) hC h rfl rfl rfl rfl ?_; clear h a; intro a h
                 refine hd_gn 14 (by kernel_rfl) (by kernel_rfl) (by kernel_rfl) hC h rfl rfl rfl rfl ?_; clear h a; intro a h
                 refine hd_gn 15 (by kernel_rfl) (by kernel_rfl) (by kernel_rfl) hC h rfl rfl rfl rfl ?_; clear h a; intro a h
                 refine hd_gn 16 (by kernel_rfl) (by kernel_rfl) (by kernel_rfl) hC h rfl rfl rfl rfl ?_; clear h a; intro a h
                 refine hd_gn 17 (by kernel_rfl) (by kernel_rfl) (by kernel_rfl) hC h rfl rfl rfl rfl ?_; clear h a; intro a h
                 refine hd_gn 18 (by kernel_rfl) (by kernel_rfl) (by kernel_rfl) hC h rfl rfl rfl rfl ?_; clear h a; intro a h
                 refine hd_gn 19 (by kernel_rfl) (by kernel_rfl) (by kernel_rfl) hC h rfl rfl rfl rfl ?_; clear h a; intro a h
                 refine hd_gn 20 (by kernel_rfl) (by kernel_rfl) (by kernel_rfl) hC h rfl rfl rfl rfl ?_; clear h a; intro a h
                 refine hd_one 21 (by kernel_rfl) rfl ?_
                 refine gd_yes h rfl rfl rfl rfl rfl rfl ?_
                 refine st_pick_f h rfl rfl rfl rfl ?_; clear h a; intro a h
                 refine hd_next hC ?_
                 refine hd_one 22 (by kernel_rfl) rfl ?_
                 refine st_pick_f h rfl rfl rfl rfl ?_; clear h a; intro a h
                 refine hd_next hC ?_
                 refine hd_end (by kernel_rfl) ?_
                 clear hC hL_b hoN_b
                 have z12 := qh20.size
                 refine bk (h.sub (L' := [(1, _), (5, _), (7, _), (8, _), (9, _), (10, _), (13, _), (15, _), (102, _)]) (.cons rfl (.cons rfl (.cons rfl (.cons rfl (.cons rfl (.cons rfl (.cons rfl (.cons rfl (.cons rfl .nil)))))))))) ?_; clear h a
                 refine tn (cf rfl (sk (bn' (tn (rg (mv rfl rfl (s_add rfl rfl (wi6 (by omega)) rfl (asg rfl rfl (nl ?_)))))))))
                 exact lpE (y + 1) (.cons rfl (.cons rfl (.cons rfl (.cons rfl (.cons rfl (.cons rfl (.cons rfl (.cons rfl .nil)))))))) ⟨(q11.next qh20), by omega⟩ (by omega)
             · obtain rfl : y = lt.length := by omega
               refine ex (te (te (xh (tn (sr (mv rfl rfl (asg rfl rfl (nn (rg (mv rfl rfl (s_add rfl rfl (wi6 (by omega)) rfl ?_)))))))))))
               refine asg rfl rfl (nl (bn' (tn (rg (mv rfl rfl (s_add rfl rfl (wi6 (by omega)) rfl (asg rfl rfl (nl ?_))))))))
               replace hoN := hoN0.ext q11
               exact lpE ((size + 1, .slice A50 6 6, (needL (pcs QF) (size : Int)))) (.cons rfl (.cons rfl (.cons rfl (.cons rfl (.cons (congrArg (fun z : Nat => some (Value.int .i64 (z : Int))) (by first | (rw [sizes_no (by assumption)]; done) | (rw [sizes_yes hmk, List.length_append]; rfl))) (.cons rfl .nil)))))) ⟨(((q8.next q9).next q10).next q11), ⟨by simp only; omega, hoN.sl, .inr ⟨size, Nat.lt_succ_self _, rfl⟩⟩⟩ (by simp only; omega)
     · obtain rfl : size = 10 := by omega
       refine ex (te (te (xh (tn (sr (mv rfl rfl (mv rfl rfl (lnS rfl Tryd.underlying30 rfl (eq' rfl rfl rfl (mv rfl rfl ?_))))))))))
       refine gs 110 rfl (fun g6 => ?_) (fun hh => absurd (by rfl) hh)
       refine gY rfl (mv rfl rfl (gY rfl (s_capS rfl Tryd.underlying30 rfl (gY rfl (mv rfl rfl (gY rfl (lnS rfl Tryd.underlying30 rfl (gY rfl (eq' rfl rfl rfl (pkt rfl rfl rfl rfl (mv rfl rfl ?_)))))))))))
       refine gs 117 rfl (fun g7 => ?_) (fun hh => absurd (by rfl) hh)
       refine gY rfl (mv rfl rfl (gY rfl (nt' rfl rfl (gY rfl (mv rfl rfl ?_)))))
       refine gs 120 rfl (fun g8 => ?_) (fun g8 => ?_)
       · refine gN rfl rfl rfl (gN rfl rfl rfl (gY rfl (pkt rfl rfl rfl rfl (gY rfl (mv rfl rfl (gN rfl rfl rfl (gN rfl rfl rfl (gY rfl (pkt rfl rfl rfl rfl (pkt rfl rfl rfl rfl (mv rfl rfl ?_)))))))))))
         refine gY rfl ?_
         replace hy := hy0.ext ((q5.next q7).next q8)
         refine cl evs_nil co14 (lives22_ok _ hy) rfl ?_
         rintro _ w13 ⟨rfl, q13⟩
         have z13 := q13.size
         refine pkt rfl rfl rfl rfl (asg rfl rfl (kpL [(4, _)] (.cons rfl .nil) (nn (rt (r1 Tryd.results4 rfl ?_)))))
         exact ⟨_, rfl, rfl, (((q5.next q7).next q8).next q13)⟩
       · refine gY rfl (mv rfl rfl (gY rfl (eq' rfl rfl rfl (gY rfl (pkf rfl rfl rfl rfl (gY rfl (mv rfl rfl ?_)))))))
         refine gs 124 rfl (fun g9 => ?_) (fun g9 => ?_)
         · refine gN rfl rfl rfl (gN rfl rfl rfl (gY rfl (pkt rfl rfl rfl rfl (pkt rfl rfl rfl rfl (mv rfl rfl (gY rfl ?_))))))
           replace hy := hy0.ext ((q5.next q7).next q8)
           refine cl evs_nil co14 (lives22_ok _ hy) rfl ?_
           rintro _ w14 ⟨rfl, q14⟩
           have z14 := q14.size
           refine pkt rfl rfl rfl rfl (asg rfl rfl (kpL [(4, _)] (.cons rfl .nil) (nn (rt (r1 Tryd.results4 rfl ?_)))))
           exact ⟨_, rfl, rfl, (((q5.next q7).next q8).next q14)⟩
         · refine gY rfl (mv rfl rfl (gY rfl (eq' rfl rfl rfl (gY rfl (pkf rfl rfl rfl rfl (pkt rfl rfl rfl rfl (mv rfl rfl ?_)))))))
           refine gs 129 rfl (fun g10 => ?_) (fun hh => absurd (by rcases sz_all (nm := nm) (hst (by first | assumption | (simp_all; done))) with e | e <;> omega) hh)
           refine gY rfl ?_
           replace hy := hy0.ext ((q5.next q7).next q8)
           refine cl evs_nil co14 (lives22_ok _ hy) rfl ?_
           rintro _ w15 ⟨rfl, q15⟩
           have z15 := q15.size
           refine pkt rfl rfl rfl rfl (asg rfl rfl (kpL [(4, _)] (.cons rfl .nil) (nn (rt (r1 Tryd.results4 rfl ?_)))))
           exact ⟨_, rfl, rfl, (((q5.next q7).next q8).next q15)⟩
end Go.Proofs.YthehggmdcmpjeaaDoor
