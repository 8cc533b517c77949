import Derived.Test.YtlipahfkfhcniaaDoorE
namespace Go.Proofs.YtlipahfkfhcniaaDoor
open Go.RowKit
structure SlV where
  a : Option Addr
  len : Nat
  cap : Nat
def SlV.v (s : SlV) : Value := .slice s.a s.len s.cap
def SlV.nil : SlV := ⟨none, 0, 0⟩
structure Ent where
  sum : ByteArray
  key : ByteArray
  root : Int
  nod : SlV
  tab : SlV
  err : Int
def entV (x : Ent) : List Value := [.string x.sum, .string x.key, .int .i64 x.root, .slice x.nod.a x.nod.len x.nod.cap, .slice x.tab.a x.tab.len x.tab.cap, .int .i64 x.err]
def flat (l : List Ent) : List Value := l.flatMap entV
theorem flat_nil : flat [] = [] := rfl
theorem flat_cons (x : Ent) (l : List Ent) : flat (x :: l) = entV x ++ flat l := rfl
theorem flat_append (l m : List Ent) : flat (l ++ m) = flat l ++ flat m := by simp [flat]
theorem flat_length (l : List Ent) : (flat l).length = l.length * 6 := by
  induction l with
  | nil => rfl
  | cons x l ih => rw [flat_cons, List.length_append, ih]; simp [entV]; omega
theorem flat_get (l : List Ent) : ∀ (i j : Nat) (x : Ent), l[i]? = some x → j < 6 → (flat l)[i * 6 + j]? = (entV x)[j]? := by
  induction l with
  | nil => intro i j x h; simp at h
  | cons y l ih =>
    intro i j x h hj
    have he : (entV y).length = 6 := rfl
    cases i with
    | zero =>
      simp at h; subst h
      rw [flat_cons, List.getElem?_append_left (by rw [he]; omega)]; simp
    | succ i =>
      simp at h
      rw [flat_cons, List.getElem?_append_right (by rw [he]; omega), he, show (i + 1) * 6 + j - 6 = i * 6 + j by omega]
      exact ih i j x h hj
def Rd (w : World) (v : Value) (l : List Ent) : Prop :=
  (v = .slice none 0 0 ∧ l = []) ∨ ∃ b off cap, v = .slice (some ⟨b, off, none⟩) l.length cap ∧ l.length ≤ cap ∧ w.rangeAt b off (flat l)
theorem rangeAt_below {w w' : World} {b o : Nat} {cs : List Value} (h : w.rangeAt b o cs) (hb : Below w.heap.size w w') : w'.rangeAt b o cs := fun j v hj => by
  have h1 := h j v hj
  exact (hb.cell (p := ⟨b, o + j, none⟩) (World.block_lt_of_cell? w _ h1)).trans h1
theorem Rd.below {w w' : World} {v : Value} {l : List Ent} (h : Rd w v l) (hb : Below w.heap.size w w') : Rd w' v l := by
  rcases h with h | ⟨b, off, cap, h1, h2, h3⟩
  · exact .inl h
  · exact .inr ⟨b, off, cap, h1, h2, rangeAt_below h3 hb⟩
theorem rangeAt_elem {w : World} {b off : Nat} {l : List Ent} (h : w.rangeAt b off (flat l)) (i : Nat) (x : Ent) (hx : l[i]? = some x) : w.rangeAt b (off + i * 6) (entV x) := fun j v hj => by
  have hj6 : j < 6 := by
    have := (List.getElem?_eq_some_iff.1 hj).1
    exact this
  rw [Nat.add_assoc]
  exact h (i * 6 + j) v (by rw [flat_get l i j x hx hj6]; exact hj)

def eqB (a b : ByteArray) : Bool := a.toList == b.toList
/-- Put's predicate -/
theorem isKey_any (x : Ent) (kb : Nat) (key : ByteArray) (w : World) (hk : w.cell? ⟨kb, 0, none⟩ = some (.string key)) :
    Calls Tryd.prog 12 #[.agg (entV x).toArray, .pointer (some ⟨kb, 0, none⟩)] w fun e w' => e = .returned (.bool (eqB x.key key)) ∧ Below w.heap.size w w' := by
  have hl := World.block_lt_of_cell? w _ hk
  simp only at hl
  unfold entV
  go_enter Tryd.func12, Tryd.ntmps12
  go_wp2
  go_ret
  exact ⟨rfl, (Below.refl _ _).alloc (Nat.le_refl _) _⟩
/-- Get's predicate -/
theorem isHit_any (x : Ent) (sb kb : Nat) (sum key : ByteArray) (w : World) (hs : w.cell? ⟨sb, 0, none⟩ = some (.string sum)) (hk : w.cell? ⟨kb, 0, none⟩ = some (.string key)) :
    Calls Tryd.prog 16 #[.agg (entV x).toArray, .pointer (some ⟨sb, 0, none⟩), .pointer (some ⟨kb, 0, none⟩)] w fun e w' => e = .returned (.bool (eqB x.sum sum && eqB x.key key)) ∧ Below w.heap.size w w' := by
  have hl := World.block_lt_of_cell? w _ hk
  have hl2 := World.block_lt_of_cell? w _ hs
  simp only at hl hl2
  unfold entV
  cases hb : eqB x.sum sum with
  | true =>
    have hb' : (x.sum.toList == sum.toList) = true := hb
    clear hb
    go_enter Tryd.func16, Tryd.ntmps16
    go_wp2
    go_ret
    exact ⟨rfl, (Below.refl _ _).alloc (Nat.le_refl _) _⟩
  | false =>
    have hb' : (x.sum.toList == sum.toList) = false := hb
    clear hb
    go_enter Tryd.func16, Tryd.ntmps16
    go_wp2
    go_ret
    exact ⟨rfl, (Below.refl _ _).alloc (Nat.le_refl _) _⟩
/-- how a predicate over entries answers, in every later world -/
def PredE (B : Nat) (g : FuncId) (lb : Array Value) (p : Ent → Bool) (w : World) : Prop :=
  ∀ (x : Ent) (W : World), Below B w W → Calls Tryd.prog g (#[.agg (entV x).toArray] ++ lb) W fun e W' => e = .returned (.bool (p x)) ∧ Below W.heap.size W W'
def idxL (p : Ent → Bool) : List Ent → Nat → Int
  | [], _ => -1
  | x :: r, k => if p x then (k : Int) else idxL p r (k + 1)
theorem idxL_skip (p : Ent → Bool) (l : List Ent) : ∀ (n k : Nat), (∀ i x, i < n → l[i]? = some x → p x = false) → n ≤ l.length → idxL p l k = idxL p (l.drop n) (k + n) := by
  induction l with
  | nil => intro n k _ h; simp at h; subst h; rfl
  | cons y r ih =>
    intro n k h hn
    cases n with
    | zero => rfl
    | succ n =>
      have h0 := h 0 y (by omega) rfl
      simp only [idxL, h0, List.drop_succ_cons]
      rw [if_neg (by simp), ih n (k + 1) (fun i x hi hx => h (i + 1) x (by omega) (by simpa using hx)) (by simpa using hn)]
      congr 1; omega
set_option maxHeartbeats 1000000 in
theorem index_any (g : FuncId) (lb : Array Value) (p : Ent → Bool) (l : List Ent) (v : Value) (w : World) (B : Nat) (hB : B ≤ w.heap.size) (hl : l.length ≤ 1000000) (hv : Rd w v l)
    (heg : ∀ (a : Array Value) (W : World), Sem.run Tryd.prog (callFunc g a) W = .ok (.enter g a) W) (hp : PredE B g lb p w) :
    Calls Tryd.prog 15 #[v, .func (.func g) #[] lb] w fun e w' => e = .returned (.int .i64 (idxL p l 0)) ∧ Below w.heap.size w w' := by
  have HP := Lib.hid hp
  clear hp
  rcases hv with ⟨rfl, rfl⟩ | ⟨b, off, cap, rfl, hcap, hr⟩
  · go_enter Tryd.func15, Tryd.ntmps15
    go_wp2
    go_loopg [8] 0 (fun gn t wr => t = .int .i64 0 ∧ wr = w)
    case atStart => exact ⟨rfl, rfl⟩
    case round =>
      obtain ⟨rfl, rfl⟩ := hrel
      go_wp2
      go_ret
      exact ⟨rfl, Below.refl _ _⟩
  · have HR := Lib.hid hr
    clear hr
    generalize hn : l.length = n at *
    have HN := Lib.hid hn
    clear hn
    go_enter Tryd.func15, Tryd.ntmps15
    go_wp2
    go_loopg [8] n (fun gn t wr => ∃ k : Nat, k + gn = n ∧ t = .int .i64 k ∧ (∀ i x, i < k → l[i]? = some x → p x = false) ∧ Below w.heap.size w wr)
    case atStart => exact ⟨0, by omega, rfl, fun i x h => absurd h (by omega), Below.refl _ _⟩
    case round =>
      obtain ⟨k, hk, rfl, hno, hbel⟩ := hrel
      have HK := Lib.hid hk
      have HNO := Lib.hid hno
      clear hk hno
      by_cases hlt : k < n
      · have hx : l[k]? = some (l[k]'(by rw [HN.out]; exact hlt)) := List.getElem?_eq_getElem _
        generalize l[k]'(by rw [HN.out]; exact hlt) = x at hx
        have HX := Lib.hid hx
        clear hx
        have hrx := rangeAt_elem (rangeAt_below HR.out hbel) k x HX.out
        go_wp2_with (refine wpList_load_mid rfl 45 _ rfl b (off + k * 6) rfl (entV x) _ hrx Tryd.underlying45 rfl (by kernel_rfl) ?_)
        clear hrx
        refine (HP.out x wr (hbel.mono hB)).mono ?_
        rintro e w1 ⟨rfl, hb1⟩
        have hbel1 := hbel.trans (hb1.mono hbel.size)
        cases hpx : p x with
        | true =>
          have HPX := Lib.hid hpx
          clear hpx
          go_wp2
          go_ret
          have e : idxL p l 0 = (k : Int) := by
            rw [idxL_skip p l k 0 HNO.out (by rw [HN.out]; omega), Nat.zero_add]
            have h2 := HX.out
            have hd : l.drop k = x :: l.drop (k + 1) := by
              obtain ⟨h3, h4⟩ := List.getElem?_eq_some_iff.1 h2
              rw [← h4]; exact List.drop_eq_getElem_cons h3
            rw [hd]; unfold idxL; rw [if_pos HPX.out]
          exact ⟨by rw [e]; rfl, hbel1⟩
        | false =>
          have HPX := Lib.hid hpx
          clear hpx
          go_wp2
          have hkk := HK.out
          go_roundg (n - 1 - k)
          case rel =>
            refine ⟨k + 1, by omega, by go_num, fun i y hi hy => ?_, hbel1⟩
            by_cases hik : i < k
            · exact HNO.out i y hik hy
            · obtain rfl : i = k := by omega
              have h2 := HX.out
              rw [hy] at h2
              obtain rfl := Option.some.inj h2
              exact HPX.out
          case measure => omega
      · have hkk := HK.out
        obtain rfl : k = n := by omega
        go_wp2
        go_ret
        have e : idxL p l 0 = -1 := by
          rw [idxL_skip p l k 0 HNO.out (by rw [HN.out]; omega), List.drop_of_length_le (by rw [HN.out]; omega)]
          rfl
        exact ⟨by rw [e]; rfl, hbel⟩
theorem idxL_spec (p : Ent → Bool) (l : List Ent) : ∀ k : Nat, (idxL p l k = -1 ∧ ∀ x ∈ l, p x = false) ∨ ∃ i x, idxL p l k = ((k + i : Nat) : Int) ∧ l[i]? = some x ∧ p x = true ∧ ∀ y ∈ l.take i, p y = false := by
  induction l with
  | nil => intro k; left; exact ⟨rfl, by simp⟩
  | cons y r ih =>
    intro k
    cases hy : p y with
    | true => right; exact ⟨0, y, by simp [idxL, hy], rfl, hy, by simp⟩
    | false =>
      rcases ih (k + 1) with ⟨h1, h2⟩ | ⟨i, x, h1, h2, h3, h4⟩
      · left
        refine ⟨by simp [idxL, hy, h1], ?_⟩
        intro x hx
        rcases List.mem_cons.1 hx with rfl | hx
        · exact hy
        · exact h2 x hx
      · right
        refine ⟨i + 1, x, by simp only [idxL, hy]; rw [if_neg (by simp), h1]; congr 1; omega, by simpa using h2, h3, ?_⟩
        intro z hz
        rcases List.mem_cons.1 (by simpa using hz) with rfl | hz
        · exact hy
        · exact h4 z hz
theorem flat_set (L : List Ent) (i : Nat) (x : Ent) (hi : i < L.length) : (flat L).take (i * 6) ++ entV x ++ (flat L).drop (i * 6 + 6) = flat (L.set i x) := by
  induction L generalizing i with
  | nil => simp at hi
  | cons y r ih =>
    cases i with
    | zero => simp [flat_cons, entV]
    | succ i =>
      have h := ih i (by simpa using hi)
      have he : (entV y).length = 6 := rfl
      rw [List.set_cons_succ, flat_cons, flat_cons, ← h]
      rw [List.take_append, List.take_of_length_le (by rw [he]; omega), he, List.drop_append, List.drop_of_length_le (by rw [he]; omega), he]
      rw [show (i + 1) * 6 - 6 = i * 6 by omega, show (i + 1) * 6 + 6 - 6 = i * 6 + 6 by omega]
      simp
theorem flat_take (L : List Ent) (i : Nat) : (flat L).take (i * 6) = flat (L.take i) := by
  induction L generalizing i with
  | nil => simp [flat]
  | cons y r ih =>
    cases i with
    | zero => simp [flat]
    | succ i =>
      have he : (entV y).length = 6 := rfl
      rw [List.take_succ_cons, flat_cons, flat_cons, List.take_append, List.take_of_length_le (by rw [he]; omega), he, show (i + 1) * 6 - 6 = i * 6 by omega, ih]
theorem ownsRow_cut {w : World} {base : Nat} {e : TypeId} {size n cap g : Nat} {xs : List Value} (h : w.ownsRow base e size (.slice (some ⟨g, 0, none⟩) n cap) n xs) (i : Nat) (hi : i ≤ n) :
    w.ownsRow base e size (.slice (some ⟨g, 0, none⟩) i cap) i (xs.take (i * size)) := by
  obtain ⟨hx, h2⟩ := h
  have him : i * size ≤ n * size := Nat.mul_le_mul_right _ hi
  rcases h2 with ⟨h2, _⟩ | ⟨g', cap', cur, hv, hb, hg, hn, hm, hcs, htake⟩
  · cases h2
  · simp at hv
    obtain ⟨rfl, rfl⟩ := hv
    refine ⟨by rw [List.length_take, hx]; omega, .inr ⟨g, cap, cur, rfl, hb, hg, by omega, hm, hcs, ?_⟩⟩
    rw [← htake, List.take_take, Nat.min_eq_left him]
/-- what DeleteFunc's loop keeps -/
def DelInv (p : Ent → Bool) (l : List Ent) (base g cap : Nat) (w wr : World) (i j : Nat) : Prop :=
  ∃ L : List Ent, L.length = l.length ∧ wr.ownsRow base 45 6 (.slice (some ⟨g, 0, none⟩) l.length cap) l.length (flat L) ∧ L.take i = (l.take j).filter (fun x => !p x) ∧ L.drop j = l.drop j ∧ Below base w wr
theorem ownsRow_rangeAt {w : World} {base : Nat} {e : TypeId} {size n cap g : Nat} {xs : List Value} (h : w.ownsRow base e size (.slice (some ⟨g, 0, none⟩) n cap) n xs) : w.rangeAt g 0 xs := fun j v hj => by
  have := h.cells (g := g) rfl j v hj
  have hadd : (⟨g, 0, none⟩ : Addr).add j = ⟨g, 0 + j, none⟩ := by unfold Addr.add; split <;> simp_all
  rw [hadd] at this; exact this
theorem take_snoc_ent (l : List Ent) (j : Nat) (x : Ent) (h : l[j]? = some x) : l.take (j + 1) = l.take j ++ [x] := by
  obtain ⟨h1, h2⟩ := List.getElem?_eq_some_iff.1 h
  rw [List.take_succ_eq_append_getElem h1, h2]
theorem del_take (L l : List Ent) (p : Ent → Bool) (i j : Nat) (x : Ent) (hL : L.length = l.length) (hx : l[j]? = some x) (hij : i < j) (h : L.take i = (l.take j).filter (fun x => !p x)) :
    (L.set i x).take (i + 1) = if p x then (L.set i x).take (i + 1) else (l.take (j + 1)).filter (fun x => !p x) := by
  cases hp : p x with
  | true => simp
  | false =>
    have hj : j < l.length := (List.getElem?_eq_some_iff.1 hx).1
    rw [if_neg (by simp), take_snoc_ent l j x hx, List.filter_append, ← h]
    rw [take_snoc_ent (L.set i x) i x (by simp [List.getElem?_set]; omega), List.take_set_of_le (by omega)]
    simp [hp]
def z45 : Array Value := #[.string ⟨#[]⟩, .string ⟨#[]⟩, .int .i64 0, .slice none 0 0, .slice none 0 0, .int .i64 0]
theorem box45 (wr : World) (x : Ent) : (wr.alloc (.cells z45 45)).setRow wr.heap.size (entV x).toArray = wr.alloc (.cells (entV x).toArray 45) := World.setRow_alloc_new wr z45 _ 45
set_option maxHeartbeats 2000000 in
theorem delete_any (g0 : FuncId) (lb : Array Value) (p : Ent → Bool) (l : List Ent) (v : Value) (base : Nat) (w : World) (hl : l.length ≤ 1000000) (hv : w.ownsRow base 45 6 v l.length (flat l)) (hbase : base ≤ w.heap.size)
    (heg : ∀ (a : Array Value) (W : World), Sem.run Tryd.prog (callFunc g0 a) W = .ok (.enter g0 a) W) (hp : PredE base g0 lb p w) :
    Calls Tryd.prog 10 #[v, .func (.func g0) #[] lb] w fun e w' => ∃ v', e = .returned v' ∧ w'.ownsRow base 45 6 v' (l.filter (fun x => !p x)).length (flat (l.filter (fun x => !p x))) ∧ Below base w w' := by
  have HP := Lib.hid hp
  clear hp
  rcases idxL_spec p l 0 with ⟨hidx, hall⟩ | ⟨i0, x0, hidx, hx0, hpx0, hall⟩
  · have hf : l.filter (fun x => !p x) = l := List.filter_eq_self.2 (fun x hx => by rw [hall x hx]; rfl)
    have HF := Lib.hid hf
    have HI := Lib.hid hidx
    clear hf hidx
    have hrd : Rd w v l := by
      rcases hv.2 with ⟨h1, h2⟩ | ⟨g, cap, cur, h1, _, _, h4, _⟩
      · exact .inl ⟨h1, List.length_eq_zero_iff.1 h2⟩
      · subst h1; exact .inr ⟨g, 0, cap, rfl, h4, ownsRow_rangeAt hv⟩
    go_enter Tryd.func10, Tryd.ntmps10
    go_wp2_with (go_at_call 15; refine (index_any g0 lb p l v w base hbase hl hrd heg (HP.out)).mono ?_; rw [HI.out]; rintro e w1 ⟨rfl, hb1⟩)
    go_ret
    rw [HF.out]
    refine ⟨v, rfl, ?_, hb1.mono hbase⟩
    exact hv.kept (row := none) ⟨hb1.os, hb1.tape, hb1.output, hb1.size, fun k hk _ => hb1.block k hk⟩ (by cases v.ownBlock <;> simp)
  · have hi0 : i0 < l.length := (List.getElem?_eq_some_iff.1 hx0).1
    have hne : l ≠ [] := by intro h; rw [h] at hi0; simp at hi0
    obtain ⟨g, cap, rfl, hcap, hgb, hgs⟩ : ∃ g cap, v = .slice (some ⟨g, 0, none⟩) l.length cap ∧ l.length ≤ cap ∧ base ≤ g ∧ g < w.heap.size := by
      rcases hv.2 with ⟨h1, h2⟩ | ⟨g, cap, cur, h1, h2, h3, h4, _⟩
      · exact absurd (List.length_eq_zero_iff.1 h2) hne
      · exact ⟨g, cap, h1, h4, h2, lt_of_block h3⟩
    have hrd : Rd w (.slice (some ⟨g, 0, none⟩) l.length cap) l := .inr ⟨g, 0, cap, rfl, hcap, ownsRow_rangeAt hv⟩
    have hpref : l.take i0 = (l.take (i0 + 1)).filter (fun x => !p x) := by
      rw [List.take_succ_eq_append_getElem hi0, List.filter_append]
      have e : l[i0] = x0 := (List.getElem?_eq_some_iff.1 hx0).2
      rw [e, List.filter_eq_self.2 (fun x hx => by rw [hall x hx]; rfl)]
      simp [hpx0]
    have hinv0 : ∀ w1, Below w.heap.size w w1 → DelInv p l base g cap w w1 i0 (i0 + 1) := fun w1 hb1 =>
      ⟨l, rfl, hv.kept (row := none) ⟨hb1.os, hb1.tape, hb1.output, hb1.size, fun k hk _ => hb1.block k hk⟩ (by right; simp [Value.ownBlock]), hpref, rfl, hb1.mono hbase⟩
    have HINV := Lib.hid hinv0
    have HI := Lib.hid hidx
    clear hinv0 hidx hpref hall hx0 hpx0 hne hv
    generalize hn : l.length = n at *
    have HN := Lib.hid hn
    clear hn
    have hneg : (((i0 : Nat) : Int) == -1) = false := by simp
    go_enter Tryd.func10, Tryd.ntmps10
    go_wp2_with (go_at_call 15; refine (index_any g0 lb p l _ w base hbase (by rw [HN.out]; exact hl) hrd heg (HP.out)).mono ?_; rw [HI.out, Nat.zero_add]; rintro e w1 ⟨rfl, hb1⟩)
    have hinv1 := HINV.out w1 hb1
    clear hrd HINV HI hb1
    go_loopg [5, 6] (n - i0 - 1) (fun gn a b wr => ∃ i j : Nat, j + gn = n ∧ a = .int .i64 i ∧ b = .int .i64 j ∧ i < j ∧ DelInv p l base g cap w wr i j)
    case atStart => exact ⟨i0, i0 + 1, by omega, rfl, by go_num, by omega, hinv1⟩
    case round =>
      clear hinv1
      obtain ⟨i, j, hj, rfl, rfl, hij, hinv⟩ := hrel
      have HJ := Lib.hid hj
      clear hj
      by_cases hlt : j < n
      · have hxj : l[j]? = some (l[j]'(by rw [HN.out]; exact hlt)) := List.getElem?_eq_getElem _
        generalize l[j]'(by rw [HN.out]; exact hlt) = x at hxj
        have HX := Lib.hid hxj
        clear hxj
        obtain ⟨L, hL, hown, htk, hdr, hbel⟩ := id hinv
        have hLj : L[j]? = some x := by
          have := congrArg (fun t : List Ent => t[0]?) hdr
          simp only [List.getElem?_drop, Nat.add_zero] at this
          rw [this]; exact HX.out
        have hrx : wr.rangeAt g (j * 6) [.string x.sum, .string x.key, .int .i64 x.root, .slice x.nod.a x.nod.len x.nod.cap, .slice x.tab.a x.tab.len x.tab.cap, .int .i64 x.err] := by
          have := rangeAt_elem (ownsRow_rangeAt hown) j x hLj
          rw [Nat.zero_add] at this
          exact this
        have HD := Lib.hid (And.intro hL (And.intro htk hdr))
        rw [HN.out] at hown
        clear hL htk hdr hLj
        go_wp2_with (refine wpList_load_mid rfl 45 _ rfl g (j * 6) rfl _ _ hrx Tryd.underlying45 rfl (by kernel_rfl) ?_)
        have hbA := hbel.alloc (by have := hbel.size; omega) (.cells (entV x).toArray 45)
        have hOA := hown.alloc (.cells (entV x).toArray 45)
        clear hrx
        refine (HP.out x _ hbA).mono ?_
        rintro e w2 ⟨rfl, hb2⟩
        have hbox2 : w2.heap[wr.heap.size]? = some (.cells (entV x).toArray 45 (0, 0)) := (hb2.block _ (by simp)).trans (Go.heap_alloc_new wr _)
        have hown2 : w2.ownsRow base 45 6 (.slice (some ⟨g, 0, none⟩) n cap) n (flat L) := hOA.kept (row := none) ⟨hb2.os, hb2.tape, hb2.output, hb2.size, fun k hk _ => hb2.block k hk⟩ (by right; simp [Value.ownBlock])
        have hbel2 := hbA.trans (hb2.mono (by simp; have := hbel.size; omega))
        cases hpx : p x with
        | true =>
          have HPX := Lib.hid hpx
          clear hpx
          go_wp2
          have hjj := HJ.out
          go_roundg (n - 1 - j)
          case rel =>
            refine ⟨i, j + 1, by omega, rfl, by go_num, by omega, L, HD.out.1, by rw [HN.out]; exact hown2, ?_, ?_, hbel2⟩
            · have h1 := HD.out.2.1
              rw [take_snoc_ent l j x HX.out, List.filter_append, ← h1]
              simp [HPX.out]
            · have := congrArg (List.drop 1) HD.out.2.2
              simpa [List.drop_drop, Nat.add_comm] using this
          case measure => omega
        | false =>
          have HPX := Lib.hid hpx
          clear hpx
          have hsz : (entV x).toArray.size = 6 := rfl
          have hbox3 : w2.heap[wr.heap.size]? = some (.cells #[.string x.sum, .string x.key, .int .i64 x.root, .slice x.nod.a x.nod.len x.nod.cap, .slice x.tab.a x.tab.len x.tab.cap, .int .i64 x.err] 45 (0, 0)) := hbox2
          have hI : (Tryd.prog.info? 45).map (·.size) = some (entV x).toArray.size := by rw [hsz]; kernel_rfl
          have hOne : (entV x).toArray.all (·.oneCell') = true := by simp [entV, Value.oneCell']
          have hLe : i * 6 + (entV x).toArray.size ≤ n * 6 := by rw [hsz]; omega
          go_wp2_with (first
            | refine wpList_load_row rfl 45 _ rfl wr.heap.size rfl 45 _ (0, 0) _ hbox3 Tryd.underlying45 rfl (by kernel_rfl) ?_
            | refine wpList_store_own rfl 45 (.tmp 33) (.tmp 32) rfl g (i * 6) (entV x).toArray rfl rfl base 45 6 n cap (flat L) hown2 hI hLe hOne ?_)
          intro w3 hown3 hg3
          clear hbox2 hbox3 hI hOne hLe hown2 hOA hown
          have hjj := HJ.out
          have hL := HD.out.1
          have hown4 : w3.ownsRow base 45 6 (.slice (some ⟨g, 0, none⟩) n cap) n (flat (L.set i x)) := by
            rw [← flat_set L i x (by rw [hL, HN.out]; omega), List.append_assoc]; exact hown3
          have hbel3 : Below base w w3 := hbel2.grown hg3 (Nat.le_trans hbase hbel2.size) (by intro k hk; simp at hk; omega)
          clear hown3 hg3 hsz
          go_wp2
          go_roundg (n - 1 - j)
          case rel =>
            refine ⟨i + 1, j + 1, by omega, by go_num, by go_num, by omega, L.set i x, by rw [List.length_set]; exact hL, by rw [HN.out]; exact hown4, ?_, ?_, hbel3⟩
            · rw [del_take L l p i j x hL HX.out (by omega) HD.out.2.1, HPX.out]; rfl
            · rw [List.drop_set_of_lt (by omega)]
              have := congrArg (List.drop 1) HD.out.2.2
              simpa [List.drop_drop, Nat.add_comm] using this
          case measure => omega
      · have hjj := HJ.out
        obtain rfl : j = n := by omega
        clear HJ hjj hlt
        obtain ⟨L, hL, hown, htk, hdr, hbel⟩ := hinv
        rw [HN.out] at hown
        have HT := Lib.hid htk
        clear htk hdr
        have hic : ¬ (cap = i) := by omega
        have hij' : i < j := hij
        obtain ⟨w9, hclr, hown9, hg9⟩ := run_clear_own (P := Tryd.prog) (size := 6) (z := .agg z45) 0 Tryd.underlying24 Tryd.zeroValue45 rfl (by simp [z45, Value.cells, Value.oneCell']) hown i (cap - i) hij
        have hbel9 : Below base w w9 := hbel.grown hg9 (Nat.le_trans hbase hbel.size) (by intro k hk; simp at hk; omega)
        have hcut := ownsRow_cut hown9 i (by omega)
        have hlen : (flat L).length = j * 6 := by rw [flat_length, hL, HN.out]
        have e1 : ((flat L).take (i * 6) ++ (Builtin.zeroCells z45 (j - i)).toList).take (i * 6) = flat (L.take i) := by
          rw [List.take_append_of_le_length (by rw [List.length_take, hlen]; omega), List.take_take, Nat.min_self, flat_take]
        have e2 : l.filter (fun x => !p x) = L.take i := by rw [HT.out, ← HN.out, List.take_length]
        have e3 : (L.take i).length = i := by rw [List.length_take, hL, HN.out]; omega
        have hfin : w9.ownsRow base 45 6 (.slice (some ⟨g, 0, none⟩) i cap) (l.filter (fun x => !p x)).length (flat (l.filter (fun x => !p x))) := by
          rw [e2, e3, ← e1]; exact hcut
        have HFIN := Lib.hid hfin
        clear hfin e1 e2 e3 hlen hcut hown9 hg9 hown hbel hL
        go_wp2
        go_ret
        exact ⟨_, rfl, HFIN.out, hbel9⟩
end Go.Proofs.YtlipahfkfhcniaaDoor
