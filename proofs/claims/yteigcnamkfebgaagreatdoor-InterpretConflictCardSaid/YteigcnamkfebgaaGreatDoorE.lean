import Derived.Test.YteigcnamkfebgaaGreatDoorD
import Derived.WalkSpells
namespace Go.Proofs.YteigcnamkfebgaaGreatDoor
open Go.RowKit
/-- how a predicate over elements answers, in every later world -/
def PredE {E : Type} (Y : Lay E) (B : Nat) (g : FuncId) (lb : Array Value) (p : E → Bool) (w : World) : Prop :=
  ∀ (x : E) (W : World), Below B w W → Calls Tryz.prog g (#[.agg (Y.V x).toArray] ++ lb) W fun e W' => e = .returned (.bool (p x)) ∧ Below W.heap.size W W'
set_option maxRecDepth 100000 in
set_option maxHeartbeats 1000000 in
theorem indexWr_any (g : FuncId) (lb : Array Value) (p : WrD → Bool) (l : List WrD) (v : Value) (w : World) (B : Nat) (hB : B ≤ w.heap.size) (hl : l.length ≤ 1000000) (hv : wrY.Rd w v l)
    (heg : ∀ (a : Array Value) (W : World), Sem.run Tryz.prog (callFunc g a) W = .ok (.enter g a) W) (hp : PredE wrY B g lb p w) :
    Calls Tryz.prog 167 #[v, .func (.func g) #[] lb] w fun e w' => e = .returned (.int .i64 (idxL p l 0)) ∧ Below w.heap.size w w' := by
  have HP := Lib.hid hp
  clear hp
  rcases hv with ⟨rfl, rfl⟩ | ⟨b, off, cap, rfl, hcap, hr⟩
  · go_enter Tryz.func167, Tryz.ntmps167
    go_wp2
    go_loopg [8] 0 (fun gn t wr => t = .int .i64 0 ∧ wr = w)
    case atStart => exact ⟨rfl, rfl⟩
    case round =>
      obtain ⟨rfl, rfl⟩ := hrel
      go_wp2
      go_ret
      exact ⟨rfl, Below.refl _ _⟩
  · have HR := Lib.hid hr
    clear hr
    generalize hn : l.length = n at *
    have HN := Lib.hid hn
    clear hn
    go_enter Tryz.func167, Tryz.ntmps167
    go_wp2
    go_loopg [8] n (fun gn t wr => ∃ k : Nat, k + gn = n ∧ t = .int .i64 k ∧ (∀ i x, i < k → l[i]? = some x → p x = false) ∧ Below w.heap.size w wr)
    case atStart => exact ⟨0, by omega, rfl, fun i x h => absurd h (by omega), Below.refl _ _⟩
    case round =>
      obtain ⟨k, hk, rfl, hno, hbel⟩ := hrel
      have HK := Lib.hid hk
      have HNO := Lib.hid hno
      clear hk hno
      by_cases hlt : k < n
      · have hx : l[k]? = some (l[k]'(by rw [HN.out]; exact hlt)) := List.getElem?_eq_getElem _
        generalize l[k]'(by rw [HN.out]; exact hlt) = x at hx
        have HX := Lib.hid hx
        clear hx
        have hrx := wrY.elem (rangeAt_below HR.out hbel) k x HX.out
        go_wp2_with (refine wpList_load_mid rfl 50 _ rfl b (off + k * 4) rfl (wrV x) _ hrx Tryz.underlying50 rfl (by kernel_rfl) ?_)
        clear hrx
        refine (HP.out x wr (hbel.mono hB)).mono ?_
        rintro e w1 ⟨rfl, hb1⟩
        have hbel1 := hbel.trans (hb1.mono hbel.size)
        cases hpx : p x with
        | true =>
          have HPX := Lib.hid hpx
          clear hpx
          go_wp2
          go_ret
          have e : idxL p l 0 = (k : Int) := by
            rw [idxL_skip p l k 0 HNO.out (by rw [HN.out]; omega), Nat.zero_add]
            have h2 := HX.out
            have hd : l.drop k = x :: l.drop (k + 1) := by
              obtain ⟨h3, h4⟩ := List.getElem?_eq_some_iff.1 h2
              rw [← h4]; exact List.drop_eq_getElem_cons h3
            rw [hd]; unfold idxL; rw [if_pos HPX.out]
          exact ⟨by rw [e]; rfl, hbel1⟩
        | false =>
          have HPX := Lib.hid hpx
          clear hpx
          go_wp2
          have hkk := HK.out
          go_roundg (n - 1 - k)
          case rel =>
            refine ⟨k + 1, by omega, by go_num, fun i y hi hy => ?_, hbel1⟩
            by_cases hik : i < k
            · exact HNO.out i y hik hy
            · obtain rfl : i = k := by omega
              have h2 := HX.out
              rw [hy] at h2
              obtain rfl := Option.some.inj h2
              exact HPX.out
          case measure => omega
      · have hkk := HK.out
        obtain rfl : k = n := by omega
        go_wp2
        go_ret
        have e : idxL p l 0 = -1 := by
          rw [idxL_skip p l k 0 HNO.out (by rw [HN.out]; omega), List.drop_of_length_le (by rw [HN.out]; omega)]
          rfl
        exact ⟨by rw [e]; rfl, hbel⟩
def z50 : Array Value := #[.string ⟨#[]⟩, .int .i64 0, .int .i64 0, .string ⟨#[]⟩]
theorem info50 : (Tryz.prog.info? 50).map (fun i => (i.zero, i.size, i.bytes)) = some (some (.agg z50), 4, 48) := by kernel_rfl
/-- what DeleteFunc's loop keeps -/
def DelInv (p : WrD → Bool) (l : List WrD) (base g cap : Nat) (w wr : World) (i j : Nat) : Prop :=
  ∃ L : List WrD, L.length = l.length ∧ wr.ownsRow base 50 4 (.slice (some ⟨g, 0, none⟩) l.length cap) l.length (wrY.flat L) ∧ L.take i = (l.take j).filter (fun x => !p x) ∧ L.drop j = l.drop j ∧ Below base w wr
theorem del_take (L l : List WrD) (p : WrD → Bool) (i j : Nat) (x   : WrD) (hL : L.length = l.length) (hx : l[j]? = some x) (hij : i < j) (h : L.take i = (l.take j).filter (fun x => !p x)) :
    (L.set i x).take (i + 1) = if p x then (L.set i x).take (i + 1) else (l.take (j + 1)).filter (fun x => !p x) := by
  cases hp : p x with
  | true => simp
  | false =>
    have hj : j < l.length := (List.getElem?_eq_some_iff.1 hx).1
    rw [if_neg (by simp), list_snoc l j x hx, List.filter_append, ← h]
    rw [list_snoc (L.set i x) i x (by simp [List.getElem?_set]; omega), List.take_set_of_le (by omega)]
    simp [hp]
set_option maxRecDepth 100000 in
set_option maxHeartbeats 2000000 in
theorem deleteWr_any (g0 : FuncId) (lb : Array Value) (p : WrD → Bool) (l : List WrD) (v : Value) (base : Nat) (w : World) (hl : l.length ≤ 1000000) (hv : w.ownsRow base 50 4 v l.length (wrY.flat l)) (hbase : base ≤ w.heap.size)
    (heg : ∀ (a : Array Value) (W : World), Sem.run Tryz.prog (callFunc g0 a) W = .ok (.enter g0 a) W) (hp : PredE wrY base g0 lb p w) :
    Calls Tryz.prog 124 #[v, .func (.func g0) #[] lb] w fun e w' => ∃ v', e = .returned v' ∧ w'.ownsRow base 50 4 v' (l.filter (fun x => !p x)).length (wrY.flat (l.filter (fun x => !p x))) ∧ Below base w w' := by
  have HP := Lib.hid hp
  clear hp
  rcases idxL_spec p l 0 with ⟨hidx, hall⟩ | ⟨i0, x0, hidx, hx0, hpx0, hall⟩
  · have hf : l.filter (fun x => !p x) = l := List.filter_eq_self.2 (fun x hx => by rw [hall x hx]; rfl)
    have HF := Lib.hid hf
    have HI := Lib.hid hidx
    clear hf hidx
    have hrd : wrY.Rd w v l := by
      rcases hv.2 with ⟨h1, h2⟩ | ⟨g, cap, cur, h1, _, _, h4, _⟩
      · exact .inl ⟨h1, List.length_eq_zero_iff.1 h2⟩
      · subst h1; exact .inr ⟨g, 0, cap, rfl, h4, ownsRow_rangeAt hv⟩
    go_enter Tryz.func124, Tryz.ntmps124
    go_wp2_with (go_at_call 167; refine (indexWr_any g0 lb p l v w base hbase hl hrd heg (HP.out)).mono ?_; rw [HI.out]; rintro e w1 ⟨rfl, hb1⟩)
    go_ret
    rw [HF.out]
    refine ⟨v, rfl, ?_, hb1.mono hbase⟩
    exact hv.kept (row := none) ⟨hb1.os, hb1.tape, hb1.output, hb1.size, fun k hk _ => hb1.block k hk⟩ (by cases v.ownBlock <;> simp)
  · have hi0 : i0 < l.length := (List.getElem?_eq_some_iff.1 hx0).1
    have hne : l ≠ [] := by intro h; rw [h] at hi0; simp at hi0
    obtain ⟨g, cap, rfl, hcap, hgb, hgs⟩ : ∃ g cap, v = .slice (some ⟨g, 0, none⟩) l.length cap ∧ l.length ≤ cap ∧ base ≤ g ∧ g < w.heap.size := by
      rcases hv.2 with ⟨h1, h2⟩ | ⟨g, cap, cur, h1, h2, h3, h4, _⟩
      · exact absurd (List.length_eq_zero_iff.1 h2) hne
      · exact ⟨g, cap, h1, h4, h2, lt_of_block h3⟩
    have hrd : wrY.Rd w (.slice (some ⟨g, 0, none⟩) l.length cap) l := .inr ⟨g, 0, cap, rfl, hcap, ownsRow_rangeAt hv⟩
    have hpref : l.take i0 = (l.take (i0 + 1)).filter (fun x => !p x) := by
      rw [List.take_succ_eq_append_getElem hi0, List.filter_append]
      have e : l[i0] = x0 := (List.getElem?_eq_some_iff.1 hx0).2
      rw [e, List.filter_eq_self.2 (fun x hx => by rw [hall x hx]; rfl)]
      simp [hpx0]
    have hinv0 : ∀ w1, Below w.heap.size w w1 → DelInv p l base g cap w w1 i0 (i0 + 1) := fun w1 hb1 =>
      ⟨l, rfl, hv.kept (row := none) ⟨hb1.os, hb1.tape, hb1.output, hb1.size, fun k hk _ => hb1.block k hk⟩ (by right; simp [Value.ownBlock]), hpref, rfl, hb1.mono hbase⟩
    have HINV := Lib.hid hinv0
    have HI := Lib.hid hidx
    clear hinv0 hidx hpref hall hx0 hpx0 hne hv
    generalize hn : l.length = n at *
    have HN := Lib.hid hn
    clear hn
    have hneg : (((i0 : Nat) : Int) == -1) = false := by simp
    go_enter Tryz.func124, Tryz.ntmps124
    go_wp2_with (go_at_call 167; refine (indexWr_any g0 lb p l _ w base hbase (by rw [HN.out]; exact hl) hrd heg (HP.out)).mono ?_; rw [HI.out, Nat.zero_add]; rintro e w1 ⟨rfl, hb1⟩)
    have hinv1 := HINV.out w1 hb1
    clear hrd HINV HI hb1
    go_loopg [5, 6] (n - i0 - 1) (fun gn a b wr => ∃ i j : Nat, j + gn = n ∧ a = .int .i64 i ∧ b = .int .i64 j ∧ i < j ∧ DelInv p l base g cap w wr i j)
    case atStart => exact ⟨i0, i0 + 1, by omega, rfl, by go_num, by omega, hinv1⟩
    case round =>
      clear hinv1
      obtain ⟨i, j, hj, rfl, rfl, hij, hinv⟩ := hrel
      have HJ := Lib.hid hj
      clear hj
      by_cases hlt : j < n
      · have hxj : l[j]? = some (l[j]'(by rw [HN.out]; exact hlt)) := List.getElem?_eq_getElem _
        generalize l[j]'(by rw [HN.out]; exact hlt) = x at hxj
        have HX := Lib.hid hxj
        clear hxj
        obtain ⟨L, hL, hown, htk, hdr, hbel⟩ := id hinv
        have hLj : L[j]? = some x := by
          have := congrArg (fun t : List WrD => t[0]?) hdr
          simp only [List.getElem?_drop, Nat.add_zero] at this
          rw [this]; exact HX.out
        have hrx : wr.rangeAt g (j * 4) [.string x.id.a, .int .i64 x.id.n, .int .i64 x.clock, .string x.text] := by
          have := wrY.elem (ownsRow_rangeAt hown) j x hLj
          rw [Nat.zero_add] at this
          exact this
        have HD := Lib.hid (And.intro hL (And.intro htk hdr))
        rw [HN.out] at hown
        clear hL htk hdr hLj
        go_wp2_with (refine wpList_load_mid rfl 50 _ rfl g (j * 4) rfl _ _ hrx Tryz.underlying50 rfl (by kernel_rfl) ?_)
        have hbA := hbel.alloc (by have := hbel.size; omega) (.cells (wrV x).toArray 50)
        have hOA := hown.alloc (.cells (wrV x).toArray 50)
        clear hrx
        refine (HP.out x _ hbA).mono ?_
        rintro e w2 ⟨rfl, hb2⟩
        have hbox2 : w2.heap[wr.heap.size]? = some (.cells (wrV x).toArray 50 (0, 0)) := (hb2.block _ (by simp)).trans (Go.heap_alloc_new wr _)
        have hown2 : w2.ownsRow base 50 4 (.slice (some ⟨g, 0, none⟩) n cap) n (wrY.flat L) := hOA.kept (row := none) ⟨hb2.os, hb2.tape, hb2.output, hb2.size, fun k hk _ => hb2.block k hk⟩ (by right; simp [Value.ownBlock])
        have hbel2 := hbA.trans (hb2.mono (by simp; have := hbel.size; omega))
        cases hpx : p x with
        | true =>
          have HPX := Lib.hid hpx
          clear hpx
          go_wp2
          have hjj := HJ.out
          go_roundg (n - 1 - j)
          case rel =>
            refine ⟨i, j + 1, by omega, rfl, by go_num, by omega, L, HD.out.1, by rw [HN.out]; exact hown2, ?_, ?_, hbel2⟩
            · have h1 := HD.out.2.1
              rw [list_snoc l j x HX.out, List.filter_append, ← h1]
              simp [HPX.out]
            · have := congrArg (List.drop 1) HD.out.2.2
              simpa [List.drop_drop, Nat.add_comm] using this
          case measure => omega
        | false =>
          have HPX := Lib.hid hpx
          clear hpx
          have hsz : (wrV x).toArray.size = 4 := rfl
          have hbox3 : w2.heap[wr.heap.size]? = some (.cells #[.string x.id.a, .int .i64 x.id.n, .int .i64 x.clock, .string x.text] 50 (0, 0)) := hbox2
          have hI : (Tryz.prog.info? 50).map (·.size) = some (wrV x).toArray.size := by rw [hsz]; kernel_rfl
          have hOne : (wrV x).toArray.all (·.oneCell') = true := by simp [wrV, Value.oneCell']
          have hLe : i * 4 + (wrV x).toArray.size ≤ n * 4 := by rw [hsz]; omega
          go_wp2_with (first
            | refine wpList_load_row rfl 50 _ rfl wr.heap.size rfl 50 _ (0, 0) _ hbox3 Tryz.underlying50 rfl (by kernel_rfl) ?_
            | refine wpList_store_own rfl 50 (.tmp 33) (.tmp 32) rfl g (i * 4) (wrV x).toArray rfl rfl base 50 4 n cap (wrY.flat L) hown2 hI hLe hOne ?_)
          intro w3 hown3 hg3
          clear hbox2 hbox3 hI hOne hLe hown2 hOA hown
          have hjj := HJ.out
          have hL := HD.out.1
          have hown4 : w3.ownsRow base 50 4 (.slice (some ⟨g, 0, none⟩) n cap) n (wrY.flat (L.set i x)) := by
            rw [← wrY.flat_set L i x (by rw [hL, HN.out]; omega), List.append_assoc]; exact hown3
          have hbel3 : Below base w w3 := hbel2.grown hg3 (Nat.le_trans hbase hbel2.size) (by intro k hk; simp at hk; omega)
          clear hown3 hg3 hsz
          go_wp2
          go_roundg (n - 1 - j)
          case rel =>
            refine ⟨i + 1, j + 1, by omega, by go_num, by go_num, by omega, L.set i x, by rw [List.length_set]; exact hL, by rw [HN.out]; exact hown4, ?_, ?_, hbel3⟩
            · rw [del_take L l p i j x hL HX.out (by omega) HD.out.2.1, HPX.out]; rfl
            · rw [List.drop_set_of_lt (by omega)]
              have := congrArg (List.drop 1) HD.out.2.2
              simpa [List.drop_drop, Nat.add_comm] using this
          case measure => omega
      · have hjj := HJ.out
        obtain rfl : j = n := by omega
        clear HJ hjj hlt
        obtain ⟨L, hL, hown, htk, hdr, hbel⟩ := hinv
        rw [HN.out] at hown
        have HT := Lib.hid htk
        clear htk hdr
        have hic : ¬ (cap = i) := by omega
        have hij' : i < j := hij
        obtain ⟨w9, hclr, hown9, hg9⟩ := run_clear_own (P := Tryz.prog) (size := 4) (z := .agg z50) 0 Tryz.underlying46 Tryz.zeroValue50 rfl (by simp [z50, Value.cells, Value.oneCell']) hown i (cap - i) hij
        have hbel9 : Below base w w9 := hbel.grown hg9 (Nat.le_trans hbase hbel.size) (by intro k hk; simp at hk; omega)
        have hcut := ownsRow_cut hown9 i (by omega)
        have hlen : (wrY.flat L).length = j * 4 := (wrY.flat_length L).trans (by rw [hL, HN.out]; rfl)
        have e1 : ((wrY.flat L).take (i * 4) ++ (Builtin.zeroCells z50 (j - i)).toList).take (i * 4) = wrY.flat (L.take i) := by
          rw [List.take_append_of_le_length (by rw [List.length_take, hlen]; omega), List.take_take, Nat.min_self]; exact wrY.flat_take L i
        have e2 : l.filter (fun x => !p x) = L.take i := by rw [HT.out, ← HN.out, List.take_length]
        have e3 : (L.take i).length = i := by rw [List.length_take, hL, HN.out]; omega
        have hfin : w9.ownsRow base 50 4 (.slice (some ⟨g, 0, none⟩) i cap) (l.filter (fun x => !p x)).length (wrY.flat (l.filter (fun x => !p x))) := by
          rw [e2, e3, ← e1]; exact hcut
        have HFIN := Lib.hid hfin
        clear hfin e1 e2 e3 hlen hcut hown9 hg9 hown hbel hL
        go_wp2
        go_ret
        exact ⟨_, rfl, HFIN.out, hbel9⟩
set_option maxRecDepth 100000 in
theorem cloneWr_any (l : List WrD) (v : Value) (w : World) (hl : l.length ≤ 1000000) (hv : wrY.Rd w v l) :
    Calls Tryz.prog 29 #[v] w fun e w' => ∃ v', e = .returned v' ∧ w'.ownsRow w.heap.size 50 4 v' l.length (wrY.flat l) ∧ Below w.heap.size w w' := by
  obtain ⟨i0, hi, hz0, hz1, hz2⟩ := info_parts info50
  have hnil : ∀ (a : Option Addr) (n c : Nat), Sem.run Tryz.prog (binOp .eql 46 (.slice a n c) (.slice none 0 0)) w = .ok (.bool a.isNone) w := fun a n c => Lib.run_eql_slice_nil w 46 50 a n c 0 0 Tryz.underlying46
  rcases hv with ⟨rfl, rfl⟩ | ⟨b, off, cap, rfl, hcap, hr⟩
  · go_enter Tryz.func29, Tryz.ntmps29
    go_wp2
    go_ret
    exact ⟨_, rfl, World.ownsRow_nil _ _ _ _, Below.refl _ _⟩
  · have HN := hnil (some ⟨b, off, none⟩) l.length cap
    clear hnil
    have hown0 : (w.alloc (.cells #[] 50)).ownsRow w.heap.size 50 4 (.slice (some ⟨w.heap.size, 0, none⟩) 0 0) 0 [] := World.ownsRow_made w #[] 0 (Nat.le_refl _) (by decide) rfl
    have hr2 := World.rangeAt_alloc hr (.cells #[] 50)
    go_enter Tryz.func29, Tryz.ntmps29
    go_wp2_with (at_builtin; refine wpList_append_own _ rfl _ _ 46 rfl w.heap.size 50 i0 (.agg z50) 4 48 Tryz.underlying46 hi hz0 hz1 hz2 rfl (by decide) (.slice (some ⟨w.heap.size, 0, none⟩) 0 0) 0 [] rfl hown0 ⟨b, off, none⟩ l.length cap (wrY.flat l) rfl (wrY.flat_length l) ?c1 (wrY.flat_one l) ?c3 ?c4 ?c5 ?_)
    case c1 => intro j u hu; rw [Addr.add_mid]; exact hr2 j u hu
    case c3 => unfold maxLen; omega
    case c4 => omega
    case c5 => simp
    intro v1 w1 hown1 hg1 _
    have hb1 : Below w.heap.size w w1 := ((Below.refl _ _).alloc (Nat.le_refl _) _).grown hg1 (by simp) (by intro k hk; simp [Value.ownBlock] at hk; omega)
    clear hr hr2 hown0 HN hg1
    go_wp2
    go_ret
    exact ⟨_, rfl, hown1, hb1⟩
end Go.Proofs.YteigcnamkfebgaaGreatDoor
