import Derived.Test.YteigcnamkfebgaaGreatDoorAS
namespace Go.Proofs.YteigcnamkfebgaaGreatDoor
open Go.RowKit
theorem insSmallR (gf : FuncId) (v : Value) (n : Nat) (w : World) (hn : n ≤ 1) : Calls Tryz.prog 103 #[v, .int .i64 0, .int .i64 n, .func (.func gf) #[] #[]] w fun e w' => e = .returned (.tuple #[]) ∧ w = w' := by
  have hd : decide ((1 : Int) < (n : Int)) = false := by simp; omega
  go_enter Tryz.func103, Tryz.ntmps103
  go_wp2
  refine wp_loop_rounds 1 ?_
  rw [rounds_succ]
  go_wp2
  go_end0
  exact ⟨rfl, rfl⟩
theorem stableSmallR (gf : FuncId) (v : Value) (n : Nat) (w : World) (hn : n ≤ 1) : Calls Tryz.prog 60 #[v, .int .i64 n, .func (.func gf) #[] #[]] w fun e w' => e = .returned (.tuple #[]) ∧ w = w' := by
  have H := Lib.hid (insSmallR gf v n w hn)
  have hd : decide ((20 : Int) ≤ (n : Int)) = false := by simp; omega
  have hd2 : decide ((20 : Int) < (n : Int)) = false := by simp; omega
  go_enter Tryz.func60, Tryz.ntmps60
  go_wp2
  refine wp_loop_rounds 1 ?_
  rw [rounds_succ]
  go_wp2_with fail
  refine (H.out).mono ?_
  rintro e w1 ⟨rfl, rfl⟩
  go_wp2
  refine wp_loop_rounds 1 ?_
  rw [rounds_succ]
  go_wp2
  go_end0
  exact ⟨rfl, rfl⟩
theorem sortSmallR (gf : FuncId) (a : Option Addr) (n c : Nat) (w : World) (hn : n ≤ 1) : Calls Tryz.prog 30 #[.slice a n c, .func (.func gf) #[] #[]] w fun e w' => e = .returned (.tuple #[]) ∧ w = w' := by
  have H := Lib.hid (stableSmallR gf (.slice a n c) n w hn)
  go_enter Tryz.func30, Tryz.ntmps30
  go_wp2_with fail
  refine (H.out).mono ?_
  rintro e w1 ⟨rfl, rfl⟩
  go_wp2
  go_end0
  exact ⟨rfl, rfl⟩
theorem nodeIs_any (x : TnD) (nb : Nat) (n : IdD) (w : World) (hn : w.heap[nb]? = some (.cells #[.string n.a, .int .i64 n.n] 38 (0, 0))) :
    Calls Tryz.prog 27 #[.agg (tnV x).toArray, .pointer (some ⟨nb, 0, none⟩)] w fun e' w' => e' = .returned (.bool (eqId x.node n)) ∧ Below w.heap.size w w' := by
  have l1 := lt_of_block hn
  obtain ⟨k0, k1⟩ := two_cells hn
  have hb : Below w.heap.size w (w.alloc (.cells (tnV x).toArray 55)) := (Below.refl _ _).alloc (Nat.le_refl _) _
  clear hn
  unfold tnV at *
  cases hs : eqS x.node.a n.a with
  | false =>
    have hs' : (x.node.a.toList == n.a.toList) = false := hs
    have HQ := Lib.hid (show eqId x.node n = false by unfold eqId; rw [hs]; rfl)
    clear hs
    go_enter Tryz.func27, Tryz.ntmps27
    go_wp2
    go_ret
    exact ⟨by rw [HQ.out]; rfl, hb⟩
  | true =>
    have hs' : (x.node.a.toList == n.a.toList) = true := hs
    cases hnn : (x.node.n == n.n) with
    | false =>
      have HQ := Lib.hid (show eqId x.node n = false by unfold eqId; rw [hs, hnn]; rfl)
      clear hs
      go_enter Tryz.func27, Tryz.ntmps27
      go_wp2
      go_ret
      exact ⟨by rw [HQ.out]; rfl, hb⟩
    | true =>
      have HQ := Lib.hid (show eqId x.node n = true by unfold eqId; rw [hs, hnn]; rfl)
      clear hs
      go_enter Tryz.func27, Tryz.ntmps27
      go_wp2
      go_ret
      exact ⟨by rw [HQ.out]; rfl, hb⟩
theorem wpList_append_src {P : Program} (w : World) {ops : Array Oper} {rest : List Oper} {o : Oper} {a : Act} {Q : Exit → Act → World → Prop} (hgd : o.guard = none) (s x : Operand) (t : TypeId)
    (ho : o.op = .call { callee := .builtin .append, args := #[s, x], argTypes := #[t, t] }) (base : Nat) (e : TypeId) (i : TypeInfo) (z : Value) (size bytes : Nat) (ht : P.underlying t = some (.slice e)) (hi : P.info? e = some i) (hz : i.zero = some z)
    (hsize : i.size = size) (hby : i.bytes = bytes) (hzs : z.cells.size = size) (hsz : 0 < size) (v : Value) (n : Nat) (xs : List Value) (hs : a.eval s = v) (hown : w.ownsRow base e size v n xs)
    (ao : Option Addr) (m c : Nat) (news : List Value) (hx : a.eval x = .slice ao m c) (hl : news.length = m * size) (hnews : 0 < m → ∃ ad, ao = some ad ∧ ∀ j u, news[j]? = some u → w.cell? (ad.add j) = some u) (h1 : ∀ u ∈ news, u.oneCell' = true)
    (h63 : n + m ≤ maxLen) (hbytes : (n + m) * bytes ≤ 140737488355328) (hbase : base ≤ w.heap.size)
    (h : ∀ v' w', w'.ownsRow base e size v' (n + m) (xs ++ news) → w.grownBy w' v.ownBlock → wpList P ops Q rest (a.put o.dst v') w') : wpList P ops Q (o :: rest) a w := by
  refine wpList_plain hgd fun K hK => ?_
  obtain ⟨v', w', hr, h2, h3⟩ := run_append_src (P := P) w base t o.type e i z size bytes ht hi hz hsize hby hzs hsz v n xs hown ao m c news hl hnews h1 h63 hbytes hbase
  unfold Oper.wp execOp
  simp only [ho, resolve, invoke, builtin, Sem.run_bind, Sem.run_pure, Result.andThen_ok, List.map_toArray, List.map_cons, List.map_nil, hs, hx, hr]
  exact hK _ _ (h v' w' h2 h3)
/-! the table of what is done with a node's kind -/
def kP : ByteArray := ⟨#[112, 97, 114, 97, 109]⟩
def kG : ByteArray := ⟨#[103, 114, 111, 117, 112]⟩
def kM : ByteArray := ⟨#[109, 105, 114, 114, 111, 114]⟩
def kindsTab (rb : Nat) : Array MapEntry := #[⟨.string ⟨#[112, 97, 114, 97, 109]⟩, .func (.func 24) #[.pointer (some ⟨rb, 0, none⟩)] #[], 0⟩, ⟨.string ⟨#[103, 114, 111, 117, 112]⟩, .func (.func 25) #[] #[], 1⟩]
theorem und77 : ∃ e, Tryz.prog.underlying 77 = some (.map 9 e) := by
  cases h : Tryz.prog.underlying 77 with
  | none => have : (Tryz.prog.underlying 77).isSome = true := by kernel_rfl
            rw [h] at this; cases this
  | some d =>
    have hm : (match Tryz.prog.underlying 77 with | some (.map 9 e) => true | _ => false) = true := by kernel_rfl
    rw [h] at hm
    split at hm
    · rename_i e heq; cases heq; exact ⟨_, rfl⟩
    · cases hm
theorem ck9 (s : ByteArray) (em : Bool) (w : World) : (Instr.checkKey em 10000 9 (.string s)).run Tryz.prog w = .ok () w := by cases em <;> kernel_rfl
theorem kmiss0 (w : World) : (Instr.findKey 9 (.string ⟨#[112, 97, 114, 97, 109]⟩) []).run Tryz.prog w = .ok none w := by kernel_rfl
theorem kmiss1 (rb : Nat) (w : World) : (Instr.findKey 9 (.string ⟨#[103, 114, 111, 117, 112]⟩) [⟨.string ⟨#[112, 97, 114, 97, 109]⟩, .func (.func 24) #[.pointer (some ⟨rb, 0, none⟩)] #[], 0⟩]).run Tryz.prog w = .ok none w := by kernel_rfl
theorem khit (rb : Nat) (w : World) : (Instr.findKey 9 (.string ⟨#[112, 97, 114, 97, 109]⟩) (kindsTab rb).toList).run Tryz.prog w = .ok (some (0, .func (.func 24) #[.pointer (some ⟨rb, 0, none⟩)] #[])) w := by kernel_rfl
theorem kmissM (rb : Nat) (w : World) : (Instr.findKey 9 (.string ⟨#[109, 105, 114, 114, 111, 114]⟩) (kindsTab rb).toList).run Tryz.prog w = .ok none w := by kernel_rfl
end Go.Proofs.YteigcnamkfebgaaGreatDoor
