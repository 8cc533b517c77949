import Derived.Test.YteigcnamkfebgaaGreatDoorAV
namespace Go.Proofs.YteigcnamkfebgaaGreatDoor
open Go.RowKit
/-! the edits of the examples and of the law, as lists of plain values; the slices of their dependencies are free -/
def annI (n : Int) : IdD := ⟨⟨#[97, 110, 110]⟩, n⟩
def bob1 : IdD := ⟨⟨#[98, 111, 98]⟩, 1⟩
def edAdd (id : IdD) (clock : Int) (deps : SlV) (num value : ByteArray) : EdD := ⟨id, clock, 0, deps, 1, rootI, rootI, false, num, ⟨#[]⟩, ⟨#[]⟩, value, rootI, ⟨#[]⟩⟩
def edSet (id : IdD) (clock : Int) (deps : SlV) (field value : ByteArray) : EdD := ⟨id, clock, 0, deps, 3, annI 1, rootI, false, ⟨#[]⟩, ⟨#[]⟩, field, value, rootI, ⟨#[]⟩⟩
def ed1 : EdD := edAdd (annI 1) 1 SlV.nil ⟨#[]⟩ ⟨#[112, 97, 114, 97, 109]⟩
def edN (s : SlV) : EdD := edSet (annI 2) 2 s ⟨#[110, 97, 109, 101]⟩ ⟨#[119]⟩
def edT (s : SlV) : EdD := edSet (annI 3) 3 s ⟨#[116, 101, 120, 116]⟩ ⟨#[50, 109, 109]⟩
def ed4 (s : SlV) : EdD := edAdd (annI 4) 4 s ⟨#[1]⟩ ⟨#[109, 105, 114, 114, 111, 114]⟩
def EA (s2 s3 s4 : SlV) : List EdP := [⟨ed1, []⟩, ⟨edN s2, [annI 1]⟩, ⟨edT s3, [annI 2]⟩, ⟨ed4 s4, [annI 3]⟩]
def EP (s2 s3 : SlV) (one two : ByteArray) : List EdP := [⟨ed1, []⟩, ⟨edSet (annI 2) 2 s2 ⟨#[116, 101, 120, 116]⟩ one, [annI 1]⟩, ⟨edSet bob1 2 s3 ⟨#[116, 101, 120, 116]⟩ two, [annI 1]⟩]
def EQ (s2 s3 s4 : SlV) (one two fin : ByteArray) : List EdP := [⟨ed1, []⟩, ⟨edSet (annI 2) 2 s2 ⟨#[116, 101, 120, 116]⟩ one, [annI 1]⟩, ⟨edSet bob1 2 s3 ⟨#[116, 101, 120, 116]⟩ two, [annI 1]⟩, ⟨edSet (annI 3) 3 s4 ⟨#[116, 101, 120, 116]⟩ fin, [annI 2, bob1]⟩]
def RA : List RegP := [⟨annI 1, ⟨#[110, 97, 109, 101]⟩, [⟨annI 2, 2, ⟨#[119]⟩⟩]⟩, ⟨annI 1, ⟨#[116, 101, 120, 116]⟩, [⟨annI 3, 3, ⟨#[50, 109, 109]⟩⟩]⟩]
def RP (one two : ByteArray) : List RegP := [⟨annI 1, ⟨#[116, 101, 120, 116]⟩, [⟨annI 2, 2, one⟩, ⟨bob1, 2, two⟩]⟩]
def RQ (fin : ByteArray) : List RegP := [⟨annI 1, ⟨#[116, 101, 120, 116]⟩, [⟨annI 3, 3, fin⟩]⟩]
theorem get4 {E : Type} {a b c d e : E} {k : Nat} (h : [a, b, c, d][k]? = some e) : (k = 0 ∧ e = a) ∨ (k = 1 ∧ e = b) ∨ (k = 2 ∧ e = c) ∨ (k = 3 ∧ e = d) := by
  match k, h with
  | 0, h => simp at h; exact .inl ⟨rfl, h.symm⟩
  | 1, h => simp at h; exact .inr (.inl ⟨rfl, h.symm⟩)
  | 2, h => simp at h; exact .inr (.inr (.inl ⟨rfl, h.symm⟩))
  | 3, h => simp at h; exact .inr (.inr (.inr ⟨rfl, h.symm⟩))
  | k + 4, h => simp at h
theorem get3 {E : Type} {a b c e : E} {k : Nat} (h : [a, b, c][k]? = some e) : (k = 0 ∧ e = a) ∨ (k = 1 ∧ e = b) ∨ (k = 2 ∧ e = c) := by
  match k, h with
  | 0, h => simp at h; exact .inl ⟨rfl, h.symm⟩
  | 1, h => simp at h; exact .inr (.inl ⟨rfl, h.symm⟩)
  | 2, h => simp at h; exact .inr (.inr ⟨rfl, h.symm⟩)
  | k + 3, h => simp at h
/-- a step onto a register that is not there yet -/
theorem StepOk.fresh {R : List RegP} {e : EdP} (h0 : regThere R e.d = false) (h1 : regAt R e.d = R.length) : StepOk R e := fun _ => ⟨fun _ => h1, fun r _ h => by rw [h0] at h; cases h⟩
theorem StepOk.there {R : List RegP} {e : EdP} {r0 : RegP} (h0 : regThere R e.d = true) (h1 : R[regAt R e.d]? = some r0) (h2 : bs (fun x => cmpWr x (newW e.d)) (keptW e.d e.ids r0.w) 0 (keptW e.d e.ids r0.w).length = (keptW e.d e.ids r0.w).length) (h3 : r0.w.length ≤ 100000) : StepOk R e :=
  fun _ => ⟨fun h => by (rw [h0] at h; cases h), fun r hr _ => by rw [h1] at hr; cases hr; exact ⟨h2, h3⟩⟩
theorem StepOk.none {R : List RegP} {e : EdP} (h : e.d.kind = 1) : StepOk R e := fun h3 => by rw [h] at h3; cases h3
theorem apply_alive (s2 s3 s4 : SlV) (v : Value) (w : World) (hE : Edits w v (EA s2 s3 s4)) :
    Calls Tryz.prog 15 #[.agg #[.slice none 0 0, .slice none 0 0], v] w fun e w' => ∃ t1 t2 : SlV, e = .returned (.agg #[.slice t1.a t1.len t1.cap, .slice t2.a t2.len t2.cap]) ∧ tnY.Rd w' t1.v [node1, node4] ∧ RRegs w' t2.v RA ∧ Below w.heap.size w w' := by
  have hR : regRun (EA s2 s3 s4) = RA := by kernel_rfl
  have h := stApply_any (EA s2 s3 s4) v w hE (by simp [EA]) (by simp [EA]) [node1, node4] (by kernel_rfl) (by simp) ?_ ?_ ?_ (by kernel_rfl) (by kernel_rfl) ?_
  · rw [hR] at h; exact h
  · intro k e he
    rcases get4 he with ⟨rfl, rfl⟩ | ⟨rfl, rfl⟩ | ⟨rfl, rfl⟩ | ⟨rfl, rfl⟩
    · exact ⟨.inl rfl, rfl⟩
    · exact ⟨.inr rfl, rfl⟩
    · exact ⟨.inr rfl, rfl⟩
    · exact ⟨.inl rfl, rfl⟩
  · intro k e he w
    rcases get4 he with ⟨rfl, rfl⟩ | ⟨rfl, rfl⟩ | ⟨rfl, rfl⟩ | ⟨rfl, rfl⟩ <;> kernel_rfl
  · intro k e he hk w
    rcases get4 he with ⟨rfl, rfl⟩ | ⟨rfl, rfl⟩ | ⟨rfl, rfl⟩ | ⟨rfl, rfl⟩
    · kernel_rfl
    · cases hk
    · cases hk
    · kernel_rfl
  · intro k e he
    rcases get4 he with ⟨rfl, rfl⟩ | ⟨rfl, rfl⟩ | ⟨rfl, rfl⟩ | ⟨rfl, rfl⟩
    · exact StepOk.none rfl
    · exact StepOk.fresh (by kernel_rfl) (by kernel_rfl)
    · exact StepOk.fresh (by kernel_rfl) (by kernel_rfl)
    · exact StepOk.none rfl
theorem apply_P (s2 s3 : SlV) (one two : ByteArray) (v : Value) (w : World) (hE : Edits w v (EP s2 s3 one two)) :
    Calls Tryz.prog 15 #[.agg #[.slice none 0 0, .slice none 0 0], v] w fun e w' => ∃ t1 t2 : SlV, e = .returned (.agg #[.slice t1.a t1.len t1.cap, .slice t2.a t2.len t2.cap]) ∧ tnY.Rd w' t1.v [node1] ∧ RRegs w' t2.v (RP one two) ∧ Below w.heap.size w w' := by
  have hR : regRun (EP s2 s3 one two) = RP one two := by kernel_rfl
  have h := stApply_any (EP s2 s3 one two) v w hE (by simp [EP]) (by simp [EP]) [node1] (by kernel_rfl) (by simp) ?_ ?_ ?_ (by kernel_rfl) (by kernel_rfl) ?_
  · rw [hR] at h; exact h
  · intro k e he
    rcases get3 he with ⟨rfl, rfl⟩ | ⟨rfl, rfl⟩ | ⟨rfl, rfl⟩
    · exact ⟨.inl rfl, rfl⟩
    · exact ⟨.inr rfl, rfl⟩
    · exact ⟨.inr rfl, rfl⟩
  · intro k e he w
    rcases get3 he with ⟨rfl, rfl⟩ | ⟨rfl, rfl⟩ | ⟨rfl, rfl⟩ <;> kernel_rfl
  · intro k e he hk w
    rcases get3 he with ⟨rfl, rfl⟩ | ⟨rfl, rfl⟩ | ⟨rfl, rfl⟩
    · kernel_rfl
    · cases hk
    · cases hk
  · intro k e he
    rcases get3 he with ⟨rfl, rfl⟩ | ⟨rfl, rfl⟩ | ⟨rfl, rfl⟩
    · exact StepOk.none rfl
    · exact StepOk.fresh (by kernel_rfl) (by kernel_rfl)
    · exact StepOk.there (r0 := ⟨annI 1, ⟨#[116, 101, 120, 116]⟩, [⟨annI 2, 2, one⟩]⟩) (by kernel_rfl) (by kernel_rfl) (by kernel_rfl) (by simp)
theorem apply_Q (s2 s3 s4 : SlV) (one two fin : ByteArray) (v : Value) (w : World) (hE : Edits w v (EQ s2 s3 s4 one two fin)) :
    Calls Tryz.prog 15 #[.agg #[.slice none 0 0, .slice none 0 0], v] w fun e w' => ∃ t1 t2 : SlV, e = .returned (.agg #[.slice t1.a t1.len t1.cap, .slice t2.a t2.len t2.cap]) ∧ tnY.Rd w' t1.v [node1] ∧ RRegs w' t2.v (RQ fin) ∧ Below w.heap.size w w' := by
  have hR : regRun (EQ s2 s3 s4 one two fin) = RQ fin := by kernel_rfl
  have h := stApply_any (EQ s2 s3 s4 one two fin) v w hE (by simp [EQ]) (by simp [EQ]) [node1] (by kernel_rfl) (by simp) ?_ ?_ ?_ (by kernel_rfl) (by kernel_rfl) ?_
  · rw [hR] at h; exact h
  · intro k e he
    rcases get4 he with ⟨rfl, rfl⟩ | ⟨rfl, rfl⟩ | ⟨rfl, rfl⟩ | ⟨rfl, rfl⟩
    · exact ⟨.inl rfl, rfl⟩
    · exact ⟨.inr rfl, rfl⟩
    · exact ⟨.inr rfl, rfl⟩
    · exact ⟨.inr rfl, rfl⟩
  · intro k e he w
    rcases get4 he with ⟨rfl, rfl⟩ | ⟨rfl, rfl⟩ | ⟨rfl, rfl⟩ | ⟨rfl, rfl⟩ <;> kernel_rfl
  · intro k e he hk w
    rcases get4 he with ⟨rfl, rfl⟩ | ⟨rfl, rfl⟩ | ⟨rfl, rfl⟩ | ⟨rfl, rfl⟩
    · kernel_rfl
    · cases hk
    · cases hk
    · cases hk
  · intro k e he
    rcases get4 he with ⟨rfl, rfl⟩ | ⟨rfl, rfl⟩ | ⟨rfl, rfl⟩ | ⟨rfl, rfl⟩
    · exact StepOk.none rfl
    · exact StepOk.fresh (by kernel_rfl) (by kernel_rfl)
    · exact StepOk.there (r0 := ⟨annI 1, ⟨#[116, 101, 120, 116]⟩, [⟨annI 2, 2, one⟩]⟩) (by kernel_rfl) (by kernel_rfl) (by kernel_rfl) (by simp)
    · exact StepOk.there (r0 := ⟨annI 1, ⟨#[116, 101, 120, 116]⟩, [⟨annI 2, 2, one⟩, ⟨bob1, 2, two⟩]⟩) (by kernel_rfl) (by kernel_rfl) (by kernel_rfl) (by simp)
theorem design_alive (t1 t2 : SlV) (w : World) (hn : tnY.Rd w t1.v [node1, node4]) (hr : RRegs w t2.v RA) (KA : KindsAt w) :
    Calls Tryz.prog 11 #[.agg #[.slice t1.a t1.len t1.cap, .slice t2.a t2.len t2.cap]] w fun e w' => ∃ sp sf sc : SlV, e = .returned (.agg #[.slice sp.a sp.len sp.cap, .slice sf.a sf.len sf.cap, .slice sc.a sc.len sc.cap]) ∧ pdY.Rd w' sp.v [⟨⟨#[119]⟩, ⟨#[50, 109, 109]⟩⟩] ∧ feY.Rd w' sf.v [mir4] ∧ RRegs w' sc.v [] ∧ Below w.heap.size w w' := by
  have hc : clash ann1 RA RA.length = [] := by kernel_rfl
  have hp : parOf RA = ⟨⟨#[119]⟩, ⟨#[50, 109, 109]⟩⟩ := by kernel_rfl
  have h := design_any [node1, node4] [ann1, ann4] RA (.inr ⟨rfl, rfl⟩) (fun _ => hc) ?_ (by simp [RA]) (by rw [hc]; simp) t1 t2 w hn hr KA
  · rw [hc, hp] at h
    exact h.mono fun e w' ⟨sp, sf, sc, h1, h2, h3, h4, h5⟩ => ⟨sp, sf, sc, h1, Lay.Rd.of_owns (Y := pdY) h2, h3, h4.read, h5⟩
  · intro r hr
    simp only [RA, List.mem_cons, List.not_mem_nil, or_false] at hr
    rcases hr with rfl | rfl
    · exact ⟨rfl, rfl, by simp⟩
    · exact ⟨rfl, rfl, by simp⟩
theorem design_P (one two : ByteArray) (t1 t2 : SlV) (w : World) (hn : tnY.Rd w t1.v [node1]) (hr : RRegs w t2.v (RP one two)) (KA : KindsAt w) :
    Calls Tryz.prog 11 #[.agg #[.slice t1.a t1.len t1.cap, .slice t2.a t2.len t2.cap]] w fun e w' => ∃ sp sf sc : SlV, e = .returned (.agg #[.slice sp.a sp.len sp.cap, .slice sf.a sf.len sf.cap, .slice sc.a sc.len sc.cap]) ∧ w'.ownsRow w.heap.size 52 2 sp.v 1 (pdY.flat [⟨⟨#[]⟩, two⟩]) ∧ feY.Rd w' sf.v [] ∧ CR w' w.heap.size sc.v (RP one two) ∧ Below w.heap.size w w' := by
  have hc : clash ann1 (RP one two) (RP one two).length = RP one two := by kernel_rfl
  have hp : parOf (RP one two) = ⟨⟨#[]⟩, two⟩ := by kernel_rfl
  have h := design_any [node1] [ann1] (RP one two) (.inl ⟨rfl, rfl⟩) (fun h => by simp at h) ?_ (by simp [RP]) (by rw [hc]; simp [RP]) t1 t2 w hn hr KA
  · rw [hc, hp] at h; exact h
  · intro r hr
    simp only [RP, List.mem_cons, List.not_mem_nil, or_false] at hr
    rcases hr with rfl
    exact ⟨rfl, rfl, by simp⟩
theorem design_Q (fin : ByteArray) (t1 t2 : SlV) (w : World) (hn : tnY.Rd w t1.v [node1]) (hr : RRegs w t2.v (RQ fin)) (KA : KindsAt w) :
    Calls Tryz.prog 11 #[.agg #[.slice t1.a t1.len t1.cap, .slice t2.a t2.len t2.cap]] w fun e w' => ∃ sp sf sc : SlV, e = .returned (.agg #[.slice sp.a sp.len sp.cap, .slice sf.a sf.len sf.cap, .slice sc.a sc.len sc.cap]) ∧ pdY.Rd w' sp.v [⟨⟨#[]⟩, fin⟩] ∧ feY.Rd w' sf.v [] ∧ RRegs w' sc.v [] ∧ Below w.heap.size w w' := by
  have hc : clash ann1 (RQ fin) (RQ fin).length = [] := by kernel_rfl
  have hp : parOf (RQ fin) = ⟨⟨#[]⟩, fin⟩ := by kernel_rfl
  have h := design_any [node1] [ann1] (RQ fin) (.inl ⟨rfl, rfl⟩) (fun h => by simp at h) ?_ (by simp [RQ]) (by rw [hc]; simp) t1 t2 w hn hr KA
  · rw [hc, hp] at h
    exact h.mono fun e w' ⟨sp, sf, sc, h1, h2, h3, h4, h5⟩ => ⟨sp, sf, sc, h1, Lay.Rd.of_owns (Y := pdY) h2, h3, h4.read, h5⟩
  · intro r hr
    simp only [RQ, List.mem_cons, List.not_mem_nil, or_false] at hr
    rcases hr with rfl
    exact ⟨rfl, rfl, by simp⟩
end Go.Proofs.YteigcnamkfebgaaGreatDoor
