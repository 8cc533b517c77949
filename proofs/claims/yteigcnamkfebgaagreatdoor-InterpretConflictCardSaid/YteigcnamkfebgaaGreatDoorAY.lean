import Derived.Test.YteigcnamkfebgaaGreatDoorAX
namespace Go.Proofs.YteigcnamkfebgaaGreatDoor
open Go.RowKit
theorem rd_one {E : Type} {Y : Lay E} {w : World} {s : SlV} {x : E} (h : Y.Rd w s.v [x]) : ∃ b off c, s = ⟨some ⟨b, off, none⟩, 1, c⟩ ∧ w.rangeAt b off (Y.V x) := by
  obtain ⟨a, n, c⟩ := s
  rcases h with ⟨_, h2⟩ | ⟨b, off, cap, h1, _, h3⟩
  · cases h2
  · simp [SlV.v] at h1
    obtain ⟨rfl, rfl, rfl⟩ := h1
    exact ⟨b, off, c, rfl, by simpa [Lay.flat] using h3⟩
theorem id_one {w : World} {base : Nat} {v : Value} {x : IdD} (h : w.ownsRow base 38 2 v 1 (idV x)) : idY.Rd w v [x] :=
  Lay.Rd.of_owns (Y := idY) (l := [x]) (by have h9 : idY.flat [x] = idV x := by simp [Lay.flat]; rfl
                                           rw [h9]; exact h)
theorem edits_EA {w : World} {base b2 b3 b4 : Nat} {v : Value} {s2 s3 s4 : SlV} (h : w.ownsRow base 45 18 v 4 (edY.flat [ed1, edN s2, edT s3, ed4 s4])) (h2 : w.ownsRow b2 38 2 s2.v 1 (idV (annI 1))) (h3 : w.ownsRow b3 38 2 s3.v 1 (idV (annI 2))) (h4 : w.ownsRow b4 38 2 s4.v 1 (idV (annI 3))) : Edits w v (EA s2 s3 s4) := by
  refine ⟨Lay.Rd.of_owns (Y := edY) h, fun e he => ?_⟩
  simp only [EA, List.mem_cons, List.not_mem_nil, or_false] at he
  rcases he with rfl | rfl | rfl | rfl
  · exact ⟨.inl ⟨rfl, rfl⟩, by simp⟩
  · exact ⟨id_one h2, by simp⟩
  · exact ⟨id_one h3, by simp⟩
  · exact ⟨id_one h4, by simp⟩
theorem rregs_nil {w : World} {s : SlV} (h : RRegs w s.v []) : s.len = 0 := by
  obtain ⟨ds, h1, h2, _⟩ := h
  have h3 : regY.Rd w (.slice s.a s.len s.cap) ds := h1
  rw [h3.len, h2]; rfl
set_option maxHeartbeats 6400000 in
set_option maxRecDepth 100000 in
theorem alive_any (w : World) (KA : KindsAt w) : Calls Tryz.prog 7 #[] w fun e w' => e = .returned (.bool true) ∧ Below w.heap.size w w' := by
  have HKA := Lib.hid KA
  clear KA
  go_enter Tryz.func7, Tryz.ntmps7
  go_wp2_with fail
  refine (edits_any w).mono ?_
  rintro e w1 ⟨g, s2, s3, s4, rfl, ho, h2, h3, h4, hb1⟩
  have HED := Lib.hid (edits_EA ho h2 h3 h4)
  have HB1 := Lib.hid hb1
  clear ho h2 h3 h4 hb1
  go_wp2_with fail
  refine (apply_alive s2 s3 s4 _ w1 HED.out).mono ?_
  rintro e w2 ⟨t1, t2, rfl, hn, hr, hb2⟩
  have BL2 := HB1.out.trans (hb2.mono HB1.out.size)
  have HDS := Lib.hid (design_alive t1 t2 w2 hn hr (HKA.out.below BL2))
  have HB2 := Lib.hid BL2
  clear hn hr hb2 BL2
  go_wp2_with fail
  refine HDS.out.mono ?_
  rintro e w3 ⟨sp, sf, sc, rfl, hp, hf, hc, hb3⟩
  obtain ⟨b, off, c, rfl, hp1⟩ := rd_one hp
  obtain ⟨b', off', c', rfl, hf1⟩ := rd_one hf
  have hc0 := rregs_nil hc
  have BL3 := HB2.out.trans (hb3.mono HB2.out.size)
  have BL4 := BL3.alloc BL3.size (.cells #[.slice (some ⟨b, off, none⟩) 1 c, .slice (some ⟨b', off', none⟩) 1 c', .slice sc.a sc.len sc.cap] 34)
  have hp2 : (w3.alloc (.cells #[.slice (some ⟨b, off, none⟩) 1 c, .slice (some ⟨b', off', none⟩) 1 c', .slice sc.a sc.len sc.cap] 34)).rangeAt b off [.string ⟨#[119]⟩, .string ⟨#[50, 109, 109]⟩] := World.rangeAt_alloc hp1 _
  have hf2 : (w3.alloc (.cells #[.slice (some ⟨b, off, none⟩) 1 c, .slice (some ⟨b', off', none⟩) 1 c', .slice sc.a sc.len sc.cap] 34)).rangeAt b' off' (feV mir4) := World.rangeAt_alloc hf1 _
  have p0 : (w3.alloc (.cells #[.slice (some ⟨b, off, none⟩) 1 c, .slice (some ⟨b', off', none⟩) 1 c', .slice sc.a sc.len sc.cap] 34)).cell? ⟨b, off, none⟩ = some (.string ⟨#[119]⟩) := hp2 0 _ rfl
  have p1 : (w3.alloc (.cells #[.slice (some ⟨b, off, none⟩) 1 c, .slice (some ⟨b', off', none⟩) 1 c', .slice sc.a sc.len sc.cap] 34)).cell? ⟨b, off + 1, none⟩ = some (.string ⟨#[50, 109, 109]⟩) := hp2 1 _ rfl
  have f0 : (w3.alloc (.cells #[.slice (some ⟨b, off, none⟩) 1 c, .slice (some ⟨b', off', none⟩) 1 c', .slice sc.a sc.len sc.cap] 34)).cell? ⟨b', off', none⟩ = some (.string ⟨#[97, 110, 110, 46, 52]⟩) := hf2 0 _ rfl
  have f1 : (w3.alloc (.cells #[.slice (some ⟨b, off, none⟩) 1 c, .slice (some ⟨b', off', none⟩) 1 c', .slice sc.a sc.len sc.cap] 34)).cell? ⟨b', off' + 1, none⟩ = some (.int .i64 0) := hf2 1 _ rfl
  rw [hc0] at p0 p1 f0 f1 BL4
  have HB4 := Lib.hid BL4
  simp only [hc0]
  clear hp hf hc hb3 BL3 BL4 hp1 hf1 hf2 hc0 hp2
  go_wp2
  go_ret
  exact ⟨rfl, HB4.out⟩
end Go.Proofs.YteigcnamkfebgaaGreatDoor
