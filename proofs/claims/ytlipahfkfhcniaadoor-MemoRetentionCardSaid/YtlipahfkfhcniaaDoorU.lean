/-
  PROVED HERE: the law MemoRetention returns true for every input, and its argument reads behind the call as it read before. Its conditions: those of the given row and card, nothing more. (The slice of bytes, of any length; the table of package sha3 as the card ties it to the program's text.)
-/
import Derived.Test.YtlipahfkfhcniaaDoorT
import Derived.Test.YtlipahfkfhcniaaDoorCards
import Derived.Test.YtlipahfkfhcniaaDoorTie
import Derived.WalkKit
import Derived.ProofKit
import Derived.OpenShut
import Derived.Deep.DeepHandedRow
import Derived.Deep.Slices
import Derived.Deep.Fields
import Derived.ChangeSame
import Derived.Lib.LaidTab
import Derived.Lib.SmallJoins
namespace Go.Proofs.YtlipahfkfhcniaaDoor
open Go.Joins Go.ChangeShapes Go.WideShapes Go.ChangeAt Go.RowKit Go.Deep
theorem spot_no {w : World} {a : Addr} {v : Value} (h : w.cell? (a.add 0) = some v) : a.spot = none := by
  obtain ⟨b, o, s⟩ := a
  cases s with
  | none => rfl
  | some k =>
    exfalso
    unfold World.cell? at h
    split at h
    · simp [Addr.add] at h
    · cases h
theorem lout : laidOutB Tryd.prog = true := by kernel_rfl
theorem ownK : ownKnob Tryd.prog.godebug = none := by kernel_rfl
theorem gTab : Tryd.prog.globalNamed "voussoir/sha3.words" = some 0 := by kernel_rfl
theorem gTabType : (Tryd.prog.globals[0]?).map (·.type) = some 62 := by kernel_rfl
theorem wordsTab {W : World} (h : laidMetH Tryd.prog Rows.memoRetentionRow.laid W) : Tab W := by
  have ht : Lib.TabIs Tryd.prog W "voussoir/sha3.words" .u64 [1, 32898, 9223372036854808714, 9223372039002292224, 32907, 2147483649, 9223372039002292353, 9223372036854808585, 138, 136, 2147516425, 2147483658, 2147516555, 9223372036854775947, 9223372036854808713, 9223372036854808579, 9223372036854808578, 9223372036854775936, 32778, 9223372039002259466, 9223372039002292353, 9223372036854808704, 2147483649, 9223372039002292232] :=
    Lib.tabIs_of_head (rest := []) gTab gTabType Tryd.underlying62 Tryd.underlying55 (by kernel_rfl) (by kernel_rfl) h
  have e : (arrN .u64 24 wordsF).toList = ([1, 32898, 9223372036854808714, 9223372039002292224, 32907, 2147483649, 9223372039002292353, 9223372036854808585, 138, 136, 2147516425, 2147483658, 2147516555, 9223372036854775947, 9223372036854808713, 9223372036854808579, 9223372036854808578, 9223372036854775936, 32778, 9223372039002259466, 9223372039002292353, 9223372036854808704, 2147483649, 9223372039002292232] : List Int).map (Value.int .u64) := rfl
  intro j v hj
  rw [e] at hj
  have hl := (List.getElem?_eq_some_iff.1 hj).1
  rw [List.length_map] at hl
  rw [Nat.zero_add, ht.cell gTab j hl, ← hj, List.getElem?_map, List.getD, List.getElem?_eq_getElem hl]
  rfl
section
variable {H : Type} {enc : TypeId × Value → H} {W : World} {base : Nat} {spare : Nat → Bool} {held : Bool}
theorem open_bytes {r : Reach} {b0 : Nat} {v : Value} {d : DataW H} {p : List MemPlace} (hv : Value.okWide Tryd.prog W r b0 22 v) (h : DataW.Trod enc Tryd.prog W base spare held 22 v d p) : ∃ ns : List Int, RdB W v ns ∧ ns.length ≤ 9223372036854775807 ∧ ∀ n ∈ ns, 0 ≤ n ∧ n < 256 := by
  obtain ⟨a0, len, cap, rfl⟩ := okWide_slice Tryd.underlying22 hv
  obtain ⟨fuel, hf⟩ := h
  rcases open_ints Tryd.underlying22 Tryd.underlying5 (by kernel_rfl) hf with ⟨hcs, _⟩ | ⟨a, len', cap', zs, hcs, hb, hl, hm, hzl, _, hc, hw⟩
  · simp only [Value.cells, List.cons.injEq, Value.slice.injEq, and_true] at hcs
    obtain ⟨rfl, rfl, rfl⟩ := hcs
    exact ⟨[], ⟨none, 0, rfl, fun h => absurd h (by simp)⟩, by simp, by simp⟩
  · simp only [Value.cells, List.cons.injEq, Value.slice.injEq, and_true] at hcs
    obtain ⟨rfl, rfl, rfl⟩ := hcs
    have hle : len ≤ zs.length := by rw [hzl]; split <;> omega
    have htl : (zs.take len).length = len := by rw [List.length_take]; omega
    refine ⟨zs.take len, ⟨some a, cap, by rw [htl], fun h0 => ?_⟩, by rw [htl]; unfold maxLen at hm; omega, fun n hn => ?_⟩
    · rw [htl] at h0
      have hs : a.spot = none := spot_no (hc 0 (by omega))
      obtain ⟨b, off, s⟩ := a
      simp only at hs
      subst hs
      refine ⟨b, off, rfl, fun j hj => ?_⟩
      rw [htl] at hj
      have := hc j (by omega)
      rw [Addr.add_mid] at this
      rw [this, List.getD, List.getD, List.getElem?_take_of_lt hj]
    · have h1 : (decide ((0 : Int) ≤ n) && decide (n ≤ 255)) = true := hw n (List.mem_of_mem_take hn)
      simp at h1
      omega
end
theorem ret_contract (H : Type) (enc : TypeId × Value → H) (W : World) (base : Nat) (args : Array Value) (ds gs : List (DataW H)) (before : List MemPlace)
    (hval : ∀ (j : Nat) t v, Tryd.f3.params[j]? = some t → args[j]? = some v → Value.okWide Tryd.prog W .any base t v)
    (hW : DataW.Whole enc Tryd.prog Tryd.f3.params.toList Rows.memoRetentionSpec.vars false W args.toList ds gs before) (hL : laidMetH Tryd.prog Rows.memoRetentionRow.laid W) :
    Calls Tryd.prog 3 args W fun e W' => ∃ v, e = .returned v ∧ Rows.memoRetentionSpec.post enc Tryd.prog Tryd.f3 false true false false W args v W' := by
  have hW' := hW
  obtain ⟨p, q, hA0, hV, rfl, hfz, hnd⟩ := hW
  have hA : DataW.TrodAll enc Tryd.prog W 0 (fun _ => true) true Tryd.f3.params.toList args.toList ds p := hA0
  rw [Tryd.params3] at hA hval
  obtain ⟨v0, d0, rfl, rfl, h0⟩ := trodAll_one hA
  obtain ⟨rfl, rfl⟩ := trodVars_none hV
  clear hA0
  simp only [List.append_nil] at hW'
  have hT := wordsTab hL
  have hpos : 0 < W.heap.size := by
    have hw : (arrN .u64 24 wordsF).toList[0]? = some (.int .u64 1) := by rfl
    exact block_lt_of_cell (hT 0 _ hw)
  obtain ⟨ns, hr, hlen, hbyt⟩ := open_bytes (hval 0 22 v0 rfl rfl) h0
  refine (ret_any ns v0 W hr hlen hbyt hT hpos).mono fun e W' ⟨he, hb⟩ => ?_
  subst he
  have hlt : ∀ x ∈ p, x.block < W.heap.size := fun x hx => hW'.lt x (by simpa using hx)
  refine ⟨_, rfl, _, _, _, [], p, [], hW', trodAll_mk1 (shut_bool Tryd.underlying4 _), ?_, rfl, hb.frame _, fun h => by cases h⟩
  exact trodAll_mk1 (Below.trod lout (by kernel_rfl) (of_decide_eq_true (by kernel_rfl)) h0 hb hlt)
/-- A world for the witness: the settled one, the table (block 0) holding what its initialiser lays. -/
noncomputable def laidWorld (os : Os) : World :=
  { World.holding Tryd.prog os ⟨#[], #[], []⟩ with heap := (World.holding Tryd.prog os ⟨#[], #[], []⟩).heap.modify 0 fun
      | .cells _ t frozen => .cells #[.int .u64 1, .int .u64 32898, .int .u64 9223372036854808714, .int .u64 9223372039002292224, .int .u64 32907, .int .u64 2147483649, .int .u64 9223372039002292353, .int .u64 9223372036854808585, .int .u64 138, .int .u64 136, .int .u64 2147516425, .int .u64 2147483658, .int .u64 2147516555, .int .u64 9223372036854775947, .int .u64 9223372036854808713, .int .u64 9223372036854808579, .int .u64 9223372036854808578, .int .u64 9223372036854775936, .int .u64 32778, .int .u64 9223372039002259466, .int .u64 9223372039002292353, .int .u64 9223372036854808704, .int .u64 2147483649, .int .u64 9223372039002292232] t frozen
      | o => o }
def wArgs : Array Value := #[.slice none 0 0]
theorem ret_met (os : Os) : laidMet Tryd.prog Rows.memoRetentionRow.laid ((laidWorld os).forCall (fun _ _ => 0) ⟨#[], wArgs, []⟩).memory :=
  laidMet_of_run' 8 (by kernel_rfl) (by kernel_rfl)
theorem ret_reads (os : Os) {H : Type} (enc : TypeId × Value → H) : ∃ places, DataW.whole enc Tryd.prog ((laidWorld os).forCall (fun _ _ => 0) ⟨#[], wArgs, []⟩).memory Tryd.f3.params.toList Rows.memoRetentionSpec.vars false wArgs.toList 8 = some ([.nil], [], places) :=
  ⟨[], by kernel_rfl⟩
set_option maxRecDepth 100000 in
theorem ret_lifted (os : Os) (started : os.Started) (H : Type) (enc : TypeId × Value → H) (F : Stop.Interp) :
    ReturnsInHanded {} Tryd.checked os 3 .any ((OpenSpec.ofChange Rows.memoRetentionSpec).preRow enc Tryd.prog Tryd.f3 Rows.memoRetentionRow.domain false Rows.memoRetentionRow.laid) (((OpenSpec.ofChange Rows.memoRetentionSpec).at F).post enc Tryd.prog Tryd.f3 false true false false) := by
  obtain ⟨places, hx⟩ := ret_reads os enc
  refine returnsInHanded_of_row (C := Tryd.checked) (s := OpenSpec.ofChange Rows.memoRetentionSpec) ownK started (by kernel_rfl) Tryd.func3
    (witness_row_at (enc := enc) (C := Tryd.checked) false (laidWorld os) wArgs rfl (by kernel_rfl) (by kernel_rfl) (by kernel_rfl)
      (OpenSpec.preRow_of_cond 8 hx (by kernel_rfl) (fun k hk => by cases hk) (by kernel_rfl) (ret_met os))) ?_
  intro W base args ds gs before hval hW _ _ _ hL _ _
  exact ret_contract H enc W base args ds gs before hval hW hL
theorem ret_said : Rows.MemoRetentionSaid :=
  OpenClaim.holds_of_cond 3 Tryd.f3 rfl rfl rfl rfl rfl rfl rfl ⟨rfl, rfl, rfl, rfl, rfl⟩ rfl rfl rfl rfl rfl (by kernel_rfl) Tryd.func3 (by kernel_rfl)
    (of_decide_eq_true (by kernel_rfl)) (by unfold Func.isWrapper; first | (rw [if_pos (by decide +kernel)]; kernel_rfl) | (rw [if_neg (by decide +kernel)]; exact ⟨rfl, rfl⟩))
    (fun os started H enc _ F => by rw [OpenClaim.pre_eq_preRow]; exact ret_lifted os started H enc F)
theorem ret_plain (f : FuncId) (fn : Func) (hf : Tryd.pinned.checked.prog.funcNamed "voussoir/voussoirlaw34.MemoRetention" = some f) (hfn : Tryd.pinned.checked.prog.funcs[f]? = some fn) :
    false = Tryd.pinned.checked.prog.looks [] ∧ ∀ (j : Nat) t, fn.params[j]? = some t → Tryd.pinned.checked.prog.wantsStandIn t = false := by
  obtain rfl : f = 3 := Option.some.inj ((show Tryd.prog.funcNamed "voussoir/voussoirlaw34.MemoRetention" = some 3 by kernel_rfl).symm.trans hf) |>.symm
  obtain rfl : fn = Tryd.f3 := (Option.some.inj (Tryd.func3.symm.trans hfn)).symm
  refine ⟨by kernel_rfl, fun j t ht => ?_⟩
  rw [Tryd.params3] at ht
  have ht : t = 22 := by simpa using Array.mem_of_getElem? ht
  subst ht
  exact (show Tryd.prog.wantsStandIn 22 = false by kernel_rfl)
/-- The card: true for every input, the argument as before. -/
theorem retCard : Rows.MemoRetentionCardSaid :=
  Claim7.holds_tied_plain_at .later [] _ _ _ _ ret_said (fun _ h => by cases h) (by kernel_rfl) (fun _ h => by cases h) memoRetention_row_tie rfl ⟨rfl, rfl⟩ (by kernel_rfl) rfl ret_plain (by kernel_rfl)
end Go.Proofs.YtlipahfkfhcniaaDoor
