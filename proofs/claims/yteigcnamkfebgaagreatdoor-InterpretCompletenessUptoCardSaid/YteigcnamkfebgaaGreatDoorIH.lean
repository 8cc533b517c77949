import Derived.Test.YteigcnamkfebgaaGreatDoorIA
import Derived.Test.YteigcnamkfebgaaGreatDoorGI
set_option linter.all false
set_option maxHeartbeats 25600000
namespace Go.Proofs.YteigcnamkfebgaaGreatDoor
open Go.RowKit
def slotV (fb:Nat) (o:Nat):Array Value:=if o=2∨o=4 then#[.pointer (some ⟨fb,o,none⟩),.pointer none]else#[.pointer none,.pointer (some ⟨fb,o,none⟩)]
theorem slot_on (fb pb:Nat) (w:World) (hp:w.cell? ⟨pb,0,none⟩=some (.pointer (some ⟨fb,0,none⟩))):Calls Tryz.prog 140 #[.string ⟨#[111,110]⟩,.pointer (some ⟨pb,0,none⟩)] w fun e w'=>e=.returned (.agg (slotV fb 2))∧Below w.heap.size w w':=by
 have R0:(w.alloc (.cells #[.pointer none,.pointer none] 150)).heap[w.heap.size]? =_:=zg _ _ _ rfl;have BL:Below w.heap.size w (w.alloc (.cells #[.pointer none,.pointer none] 150)):=(Below.refl _ w).alloc (Nat.le_refl _) _;have lp:pb < w.heap.size:=block_lt_of_cell hp;go_enter Tryz.func140,Tryz.ntmps140
 go_wp2_with(first
  |(refine wpList_store_row rfl 150 _ _ rfl w.heap.size _ _ R0 rfl rfl (by kernel_rfl) (by rfl) (by simp [Value.oneCell']) ?_;intro w9 h9 h9o _ hb9))
 exact bodyPost_ret (results_cell_row Tryz.results140 _ _ w.heap.size 150 _ (0,0) _ rfl h9 Tryz.underlying150 rfl (by kernel_rfl)) rfl ⟨rfl,BL.trans (hb9 _ (Nat.le_refl _))⟩
theorem slot_and (fb pb:Nat) (w:World) (hp:w.cell? ⟨pb,0,none⟩=some (.pointer (some ⟨fb,0,none⟩))):Calls Tryz.prog 140 #[.string ⟨#[97,110,100]⟩,.pointer (some ⟨pb,0,none⟩)] w fun e w'=>e=.returned (.agg (slotV fb 4))∧Below w.heap.size w w':=by
 have R0:(w.alloc (.cells #[.pointer none,.pointer none] 150)).heap[w.heap.size]? =_:=zg _ _ _ rfl;have BL:Below w.heap.size w (w.alloc (.cells #[.pointer none,.pointer none] 150)):=(Below.refl _ w).alloc (Nat.le_refl _) _;have lp:pb < w.heap.size:=block_lt_of_cell hp;go_enter Tryz.func140,Tryz.ntmps140
 go_wp2_with(first
  |(refine wpList_store_row rfl 150 _ _ rfl w.heap.size _ _ R0 rfl rfl (by kernel_rfl) (by rfl) (by simp [Value.oneCell']) ?_;intro w9 h9 h9o _ hb9))
 exact bodyPost_ret (results_cell_row Tryz.results140 _ _ w.heap.size 150 _ (0,0) _ rfl h9 Tryz.underlying150 rfl (by kernel_rfl)) rfl ⟨rfl,BL.trans (hb9 _ (Nat.le_refl _))⟩
theorem slot_sketch (fb pb:Nat) (w:World) (hp:w.cell? ⟨pb,0,none⟩=some (.pointer (some ⟨fb,0,none⟩))):Calls Tryz.prog 140 #[.string ⟨#[115,107,101,116,99,104]⟩,.pointer (some ⟨pb,0,none⟩)] w fun e w'=>e=.returned (.agg (slotV fb 6))∧Below w.heap.size w w':=by
 have R0:(w.alloc (.cells #[.pointer none,.pointer none] 150)).heap[w.heap.size]? =_:=zg _ _ _ rfl;have BL:Below w.heap.size w (w.alloc (.cells #[.pointer none,.pointer none] 150)):=(Below.refl _ w).alloc (Nat.le_refl _) _;have lp:pb < w.heap.size:=block_lt_of_cell hp;go_enter Tryz.func140,Tryz.ntmps140
 go_wp2_with(first
  |(refine wpList_store_row rfl 150 _ _ rfl w.heap.size _ _ R0 rfl rfl (by kernel_rfl) (by rfl) (by simp [Value.oneCell']) ?_;intro w9 h9 h9o _ hb9))
 exact bodyPost_ret (results_cell_row Tryz.results140 _ _ w.heap.size 150 _ (0,0) _ rfl h9 Tryz.underlying150 rfl (by kernel_rfl)) rfl ⟨rfl,BL.trans (hb9 _ (Nat.le_refl _))⟩
theorem slot_amount (fb pb:Nat) (w:World) (hp:w.cell? ⟨pb,0,none⟩=some (.pointer (some ⟨fb,0,none⟩))):Calls Tryz.prog 140 #[.string ⟨#[97,109,111,117,110,116]⟩,.pointer (some ⟨pb,0,none⟩)] w fun e w'=>e=.returned (.agg (slotV fb 7))∧Below w.heap.size w w':=by
 have R0:(w.alloc (.cells #[.pointer none,.pointer none] 150)).heap[w.heap.size]? =_:=zg _ _ _ rfl;have BL:Below w.heap.size w (w.alloc (.cells #[.pointer none,.pointer none] 150)):=(Below.refl _ w).alloc (Nat.le_refl _) _;have lp:pb < w.heap.size:=block_lt_of_cell hp;go_enter Tryz.func140,Tryz.ntmps140
 go_wp2_with(first
  |(refine wpList_store_row rfl 150 _ _ rfl w.heap.size _ _ R0 rfl rfl (by kernel_rfl) (by rfl) (by simp [Value.oneCell']) ?_;intro w9 h9 h9o _ hb9))
 exact bodyPost_ret (results_cell_row Tryz.results140 _ _ w.heap.size 150 _ (0,0) _ rfl h9 Tryz.underlying150 rfl (by kernel_rfl)) rfl ⟨rfl,BL.trans (hb9 _ (Nat.le_refl _))⟩
theorem slot_count (fb pb:Nat) (w:World) (hp:w.cell? ⟨pb,0,none⟩=some (.pointer (some ⟨fb,0,none⟩))):Calls Tryz.prog 140 #[.string ⟨#[99,111,117,110,116]⟩,.pointer (some ⟨pb,0,none⟩)] w fun e w'=>e=.returned (.agg (slotV fb 8))∧Below w.heap.size w w':=by
 have R0:(w.alloc (.cells #[.pointer none,.pointer none] 150)).heap[w.heap.size]? =_:=zg _ _ _ rfl;have BL:Below w.heap.size w (w.alloc (.cells #[.pointer none,.pointer none] 150)):=(Below.refl _ w).alloc (Nat.le_refl _) _;have lp:pb < w.heap.size:=block_lt_of_cell hp;go_enter Tryz.func140,Tryz.ntmps140
 go_wp2_with(first
  |(refine wpList_store_row rfl 150 _ _ rfl w.heap.size _ _ R0 rfl rfl (by kernel_rfl) (by rfl) (by simp [Value.oneCell']) ?_;intro w9 h9 h9o _ hb9))
 exact bodyPost_ret (results_cell_row Tryz.results140 _ _ w.heap.size 150 _ (0,0) _ rfl h9 Tryz.underlying150 rfl (by kernel_rfl)) rfl ⟨rfl,BL.trans (hb9 _ (Nat.le_refl _))⟩
set_option maxRecDepth 100000 in
theorem slot_x (fb pb:Nat) (w:World) (hp:w.cell? ⟨pb,0,none⟩=some (.pointer (some ⟨fb,0,none⟩))):Calls Tryz.prog 140 #[.string ⟨#[120]⟩,.pointer (some ⟨pb,0,none⟩)] w fun e w'=>e=.returned (.agg (slotV fb 9))∧Below w.heap.size w w':=by
 have R0:(w.alloc (.cells #[.pointer none,.pointer none] 150)).drew.heap[w.heap.size]? =_:=zg _ _ _ rfl;have BL:Below w.heap.size w (w.alloc (.cells #[.pointer none,.pointer none] 150)).drew:=((Below.refl _ w).alloc (Nat.le_refl _) _).drew;have lp:pb < w.heap.size:=block_lt_of_cell hp;have hp1:(w.alloc (.cells #[.pointer none,.pointer none] 150)).drew.cell? ⟨pb,0,none⟩=some (.pointer (some ⟨fb,0,none⟩)):=keep1 (((Below.refl _ w).alloc (Nat.le_refl _) _).drew) hp;go_enter Tryz.func140,Tryz.ntmps140
 go_wp2_with fail
 refine wp_region_held_drew (S:=fun w'=>w'.cell? ⟨pb,0,none⟩=some (.pointer (some ⟨fb,0,none⟩))) (by kernel_rfl) hp1 (fun hH=>?_);refine tk 0 (.pointer (some ⟨fb,0,none⟩)) rfl hH ?_;(try simp only [PU]);refine tk 2 (.string ⟨#[120]⟩) rfl hH ?_;(try simp only [PU]);refine tk 4 (.pointer (some ⟨fb,0,none⟩)) rfl hH ?_;(try simp only [PU]);refine tk 5 (.pointer (some ⟨fb,9,none⟩)) rfl hH ?_;(try simp only [PU]);refine rd 1 rfl (fun K9 hK9=>?_);go_simp;have R0:=zo _ _ (.cells #[.string ⟨#[120]⟩,.string ⟨#[121]⟩,.string ⟨#[122]⟩] 9) _ R0;have BL:=BL.alloc BL.size (.cells #[.string ⟨#[120]⟩,.string ⟨#[121]⟩,.string ⟨#[122]⟩] 9);have hp1:((w.alloc (.cells #[.pointer none,.pointer none] 150)).drew.alloc (.cells #[.string ⟨#[120]⟩,.string ⟨#[121]⟩,.string ⟨#[122]⟩] 9)).cell? ⟨pb,0,none⟩=_:=keep1 ((Below.refl _ _).alloc (Nat.le_refl _) _) hp1;have RX:((w.alloc (.cells #[.pointer none,.pointer none] 150)).drew.alloc (.cells #[.string ⟨#[120]⟩,.string ⟨#[121]⟩,.string ⟨#[122]⟩] 9)).heap[w.heap.size+1]? =_:=zg _ _ _ (by simp);refine hK9.out _ _ hp1 (fun hH=>?_);clear hK9;(try simp only [PU]);refine rd 3 rfl (fun K9 hK9=>?_);go_simp;refine(Tryz.slices_Index_string (w.heap.size+1) 0 3 3 [⟨#[120]⟩,⟨#[121]⟩,⟨#[122]⟩] ⟨#[120]⟩ _ (by simp) (by decide) (fun j hj=>Eq.trans (zc _ _ (0+j) _ _ _ RX) (by match j,hj with|0,_=>rfl|1,_=>rfl|2,_=>rfl))).mono ?_;rintro e w5 ⟨rfl,rfl⟩;have hix:Lib.idxOfS (([⟨#[120]⟩,⟨#[121]⟩,⟨#[122]⟩]:List ByteArray).take 3) ⟨#[120]⟩=0:=by decide
 rw [hix];refine hK9.out _ _ hp1 (fun hH=>?_);clear hK9;(try simp only [PU]);refine tk 6 (.pointer (some ⟨fb,9,none⟩)) rfl hH ?_;(try simp only [PU]);refine tk 7 (.agg #[.pointer none,.pointer (some ⟨fb,9,none⟩)]) rfl hH ?_;(try simp only [PU]);refine rd 8 rfl (fun K9 hK9=>?_);refine step_store_row rfl 150 _ _ rfl w.heap.size _ #[.pointer none,.pointer (some ⟨fb,9,none⟩)] R0 rfl rfl (by kernel_rfl) rfl (by simp [Value.oneCell']) ?_;intro w9 h9 h9o _ hb9;refine hK9.out _ _ ((World.cell?_of_block (h9o pb (by omega))).trans hp1) (fun hH=>?_);clear hK9;(try simp only [PU]);refine wpAnyH_done (by kernel_rfl) ?_ _
 go_wp2_with fail
 exact bodyPost_ret (results_cell_row Tryz.results140 _ _ w.heap.size 150 _ (0,0) _ rfl h9 Tryz.underlying150 rfl (by kernel_rfl)) rfl ⟨rfl,BL.trans (hb9 _ (Nat.le_refl _))⟩
set_option maxRecDepth 100000 in
theorem slot_y (fb pb:Nat) (w:World) (hp:w.cell? ⟨pb,0,none⟩=some (.pointer (some ⟨fb,0,none⟩))):Calls Tryz.prog 140 #[.string ⟨#[121]⟩,.pointer (some ⟨pb,0,none⟩)] w fun e w'=>e=.returned (.agg (slotV fb 10))∧Below w.heap.size w w':=by
 have R0:(w.alloc (.cells #[.pointer none,.pointer none] 150)).drew.heap[w.heap.size]? =_:=zg _ _ _ rfl;have BL:Below w.heap.size w (w.alloc (.cells #[.pointer none,.pointer none] 150)).drew:=((Below.refl _ w).alloc (Nat.le_refl _) _).drew;have lp:pb < w.heap.size:=block_lt_of_cell hp;have hp1:(w.alloc (.cells #[.pointer none,.pointer none] 150)).drew.cell? ⟨pb,0,none⟩=some (.pointer (some ⟨fb,0,none⟩)):=keep1 (((Below.refl _ w).alloc (Nat.le_refl _) _).drew) hp;go_enter Tryz.func140,Tryz.ntmps140
 go_wp2_with fail
 refine wp_region_held_drew (S:=fun w'=>w'.cell? ⟨pb,0,none⟩=some (.pointer (some ⟨fb,0,none⟩))) (by kernel_rfl) hp1 (fun hH=>?_);refine tk 0 (.pointer (some ⟨fb,0,none⟩)) rfl hH ?_;(try simp only [PU]);refine tk 2 (.string ⟨#[121]⟩) rfl hH ?_;(try simp only [PU]);refine tk 4 (.pointer (some ⟨fb,0,none⟩)) rfl hH ?_;(try simp only [PU]);refine tk 5 (.pointer (some ⟨fb,9,none⟩)) rfl hH ?_;(try simp only [PU]);refine rd 1 rfl (fun K9 hK9=>?_);go_simp;have R0:=zo _ _ (.cells #[.string ⟨#[120]⟩,.string ⟨#[121]⟩,.string ⟨#[122]⟩] 9) _ R0;have BL:=BL.alloc BL.size (.cells #[.string ⟨#[120]⟩,.string ⟨#[121]⟩,.string ⟨#[122]⟩] 9);have hp1:((w.alloc (.cells #[.pointer none,.pointer none] 150)).drew.alloc (.cells #[.string ⟨#[120]⟩,.string ⟨#[121]⟩,.string ⟨#[122]⟩] 9)).cell? ⟨pb,0,none⟩=_:=keep1 ((Below.refl _ _).alloc (Nat.le_refl _) _) hp1;have RX:((w.alloc (.cells #[.pointer none,.pointer none] 150)).drew.alloc (.cells #[.string ⟨#[120]⟩,.string ⟨#[121]⟩,.string ⟨#[122]⟩] 9)).heap[w.heap.size+1]? =_:=zg _ _ _ (by simp);refine hK9.out _ _ hp1 (fun hH=>?_);clear hK9;(try simp only [PU]);refine rd 3 rfl (fun K9 hK9=>?_);go_simp;refine(Tryz.slices_Index_string (w.heap.size+1) 0 3 3 [⟨#[120]⟩,⟨#[121]⟩,⟨#[122]⟩] ⟨#[121]⟩ _ (by simp) (by decide) (fun j hj=>Eq.trans (zc _ _ (0+j) _ _ _ RX) (by match j,hj with|0,_=>rfl|1,_=>rfl|2,_=>rfl))).mono ?_;rintro e w5 ⟨rfl,rfl⟩;have hix:Lib.idxOfS (([⟨#[120]⟩,⟨#[121]⟩,⟨#[122]⟩]:List ByteArray).take 3) ⟨#[121]⟩=1:=by decide
 rw [hix];refine hK9.out _ _ hp1 (fun hH=>?_);clear hK9;(try simp only [PU]);refine tk 6 (.pointer (some ⟨fb,10,none⟩)) rfl hH ?_;(try simp only [PU]);refine tk 7 (.agg #[.pointer none,.pointer (some ⟨fb,10,none⟩)]) rfl hH ?_;(try simp only [PU]);refine rd 8 rfl (fun K9 hK9=>?_);refine step_store_row rfl 150 _ _ rfl w.heap.size _ #[.pointer none,.pointer (some ⟨fb,10,none⟩)] R0 rfl rfl (by kernel_rfl) rfl (by simp [Value.oneCell']) ?_;intro w9 h9 h9o _ hb9;refine hK9.out _ _ ((World.cell?_of_block (h9o pb (by omega))).trans hp1) (fun hH=>?_);clear hK9;(try simp only [PU]);refine wpAnyH_done (by kernel_rfl) ?_ _
 go_wp2_with fail
 exact bodyPost_ret (results_cell_row Tryz.results140 _ _ w.heap.size 150 _ (0,0) _ rfl h9 Tryz.underlying150 rfl (by kernel_rfl)) rfl ⟨rfl,BL.trans (hb9 _ (Nat.le_refl _))⟩
set_option maxRecDepth 100000 in
theorem slot_z (fb pb:Nat) (w:World) (hp:w.cell? ⟨pb,0,none⟩=some (.pointer (some ⟨fb,0,none⟩))):Calls Tryz.prog 140 #[.string ⟨#[122]⟩,.pointer (some ⟨pb,0,none⟩)] w fun e w'=>e=.returned (.agg (slotV fb 11))∧Below w.heap.size w w':=by
 have R0:(w.alloc (.cells #[.pointer none,.pointer none] 150)).drew.heap[w.heap.size]? =_:=zg _ _ _ rfl;have BL:Below w.heap.size w (w.alloc (.cells #[.pointer none,.pointer none] 150)).drew:=((Below.refl _ w).alloc (Nat.le_refl _) _).drew;have lp:pb < w.heap.size:=block_lt_of_cell hp;have hp1:(w.alloc (.cells #[.pointer none,.pointer none] 150)).drew.cell? ⟨pb,0,none⟩=some (.pointer (some ⟨fb,0,none⟩)):=keep1 (((Below.refl _ w).alloc (Nat.le_refl _) _).drew) hp;go_enter Tryz.func140,Tryz.ntmps140
 go_wp2_with fail
 refine wp_region_held_drew (S:=fun w'=>w'.cell? ⟨pb,0,none⟩=some (.pointer (some ⟨fb,0,none⟩))) (by kernel_rfl) hp1 (fun hH=>?_);refine tk 0 (.pointer (some ⟨fb,0,none⟩)) rfl hH ?_;(try simp only [PU]);refine tk 2 (.string ⟨#[122]⟩) rfl hH ?_;(try simp only [PU]);refine tk 4 (.pointer (some ⟨fb,0,none⟩)) rfl hH ?_;(try simp only [PU]);refine tk 5 (.pointer (some ⟨fb,9,none⟩)) rfl hH ?_;(try simp only [PU]);refine rd 1 rfl (fun K9 hK9=>?_);go_simp;have R0:=zo _ _ (.cells #[.string ⟨#[120]⟩,.string ⟨#[121]⟩,.string ⟨#[122]⟩] 9) _ R0;have BL:=BL.alloc BL.size (.cells #[.string ⟨#[120]⟩,.string ⟨#[121]⟩,.string ⟨#[122]⟩] 9);have hp1:((w.alloc (.cells #[.pointer none,.pointer none] 150)).drew.alloc (.cells #[.string ⟨#[120]⟩,.string ⟨#[121]⟩,.string ⟨#[122]⟩] 9)).cell? ⟨pb,0,none⟩=_:=keep1 ((Below.refl _ _).alloc (Nat.le_refl _) _) hp1;have RX:((w.alloc (.cells #[.pointer none,.pointer none] 150)).drew.alloc (.cells #[.string ⟨#[120]⟩,.string ⟨#[121]⟩,.string ⟨#[122]⟩] 9)).heap[w.heap.size+1]? =_:=zg _ _ _ (by simp);refine hK9.out _ _ hp1 (fun hH=>?_);clear hK9;(try simp only [PU]);refine rd 3 rfl (fun K9 hK9=>?_);go_simp;refine(Tryz.slices_Index_string (w.heap.size+1) 0 3 3 [⟨#[120]⟩,⟨#[121]⟩,⟨#[122]⟩] ⟨#[122]⟩ _ (by simp) (by decide) (fun j hj=>Eq.trans (zc _ _ (0+j) _ _ _ RX) (by match j,hj with|0,_=>rfl|1,_=>rfl|2,_=>rfl))).mono ?_;rintro e w5 ⟨rfl,rfl⟩;have hix:Lib.idxOfS (([⟨#[120]⟩,⟨#[121]⟩,⟨#[122]⟩]:List ByteArray).take 3) ⟨#[122]⟩=2:=by decide
 rw [hix];refine hK9.out _ _ hp1 (fun hH=>?_);clear hK9;(try simp only [PU]);refine tk 6 (.pointer (some ⟨fb,11,none⟩)) rfl hH ?_;(try simp only [PU]);refine tk 7 (.agg #[.pointer none,.pointer (some ⟨fb,11,none⟩)]) rfl hH ?_;(try simp only [PU]);refine rd 8 rfl (fun K9 hK9=>?_);refine step_store_row rfl 150 _ _ rfl w.heap.size _ #[.pointer none,.pointer (some ⟨fb,11,none⟩)] R0 rfl rfl (by kernel_rfl) rfl (by simp [Value.oneCell']) ?_;intro w9 h9 h9o _ hb9;refine hK9.out _ _ ((World.cell?_of_block (h9o pb (by omega))).trans hp1) (fun hH=>?_);clear hK9;(try simp only [PU]);refine wpAnyH_done (by kernel_rfl) ?_ _
 go_wp2_with fail
 exact bodyPost_ret (results_cell_row Tryz.results140 _ _ w.heap.size 150 _ (0,0) _ rfl h9 Tryz.underlying150 rfl (by kernel_rfl)) rfl ⟨rfl,BL.trans (hb9 _ (Nat.le_refl _))⟩
def RefAt (w:World) (fb:Nat) (t:ByteArray) (a:Option Addr) (n c:Nat) (ss:List ByteArray):Prop:=
 strY.Rd w (.slice a n c) ss∧t.size+sumS ss≤400000000∧ss.length≤400000000∧∀ad,a=some ad→ad.block≠fb∧ad.block < w.heap.size
structure FeC (w:World) (fb:Nat) (id:ByteArray) (cs:Array Value):Prop where
 sz:cs.size=12
 h0:cs[0]? =some (.string id)
 h1:∃k:Int,cs[1]? =some (.int .i64 k)
 rf:∀o,o=2∨o=4→∃t a n c ss,cs[o]? =some (.string t)∧cs[o+1]? =some (.slice a n c)∧RefAt w fb t a n c ss
 st:∀o,6≤o→o≤11→∃s:ByteArray,cs[o]? =some (.string s)∧s.size≤400000000
def FeM (w:World) (fb:Nat) (id:ByteArray):Prop:=∃cs,w.heap[fb]? =some (.cells cs 62 (0,0))∧FeC w fb id cs
theorem RefAt.but {w w':World} {fb:Nat} {t:ByteArray} {a:Option Addr} {n c:Nat} {ss:List ByteArray} (h:RefAt w fb t a n c ss) (hb:But fb w w'):RefAt w' fb t a n c ss:=by
 obtain⟨h1,h2,h3,h4⟩:=h;refine⟨?_,h2,h3,fun ad hd=>⟨(h4 ad hd).1,Nat.lt_of_lt_of_le (h4 ad hd).2 hb.1⟩⟩
 rcases h1 with h1|⟨b,off,cap,e,hc,hr⟩
 ·exact .inl h1
 ·refine .inr ⟨b,off,cap,e,hc,fun j v hj=>?_⟩;have h5:=hr j v hj;simp at e;have hne:b≠fb:=(h4 _ e.1).1;exact(World.cell?_of_block (w:=w) (w':=w') (a:=⟨b,off+j,none⟩) (hb.2 b (block_lt_of_cell h5) hne)).trans h5
theorem FeC.but {w w':World} {fb:Nat} {id:ByteArray} {cs:Array Value} (h:FeC w fb id cs) (hb:But fb w w'):FeC w' fb id cs:=
 ⟨h.sz,h.h0,h.h1,fun o ho=>by obtain⟨t,a,n,c,ss,g1,g2,g3⟩:=h.rf o ho;exact⟨t,a,n,c,ss,g1,g2,g3.but hb⟩,h.st⟩
theorem FeM.below {w w':World} {fb:Nat} {id:ByteArray} (h:FeM w fb id) (hb:Below w.heap.size w w'):FeM w' fb id:=by
 obtain⟨cs,h1,h2⟩:=h;exact⟨cs,(hb.block _ (zl h1)).trans h1,h2.but (But.of_below hb)⟩
theorem heap_set {W:World} {k j:Nat} {cs:Array Value} {t:TypeId} {v:Value} (h:W.heap[k]? =some (.cells cs t (0,0))):(W.setCell ⟨k,j,none⟩ v).heap[k]? =some (.cells (cs.setIfInBounds j v) t (0,0)):=by
 rw [setCell_eq_setRow W k j cs t (0,0) v h];exact setRow_heap _ _ _ _ _ _ h
theorem FeC.setStr {w:World} {fb:Nat} {id:ByteArray} {cs:Array Value} (h:FeC w fb id cs) {o:Nat} (h6:6≤o) (h11:o≤11) {s:ByteArray} (hs:s.size≤400000000):FeC w fb id (cs.setIfInBounds o (.string s)):=by
 have hg:∀i,i≠o→(cs.setIfInBounds o (.string s))[i]? =cs[i]?:=fun i hi=>Array.getElem?_setIfInBounds_ne (fun e=>hi e.symm)
 refine⟨by simp [h.sz],by rw [hg 0 (by omega)];exact h.h0,by rw [hg 1 (by omega)];exact h.h1,fun q hq=>?_,fun q a b=>?_⟩
 ·obtain⟨t,a,n,c,ss,g1,g2,g3⟩:=h.rf q hq;exact⟨t,a,n,c,ss,by rw [hg q (by omega)];exact g1,by rw [hg (q+1) (by omega)];exact g2,g3⟩
 ·by_cases hq:q=o
  ·subst hq;exact⟨s,by rw [Array.getElem?_setIfInBounds_self_of_lt (by rw [h.sz];omega)],hs⟩
  ·rw [hg q hq];exact h.st q a b
theorem FeC.setRef {w:World} {fb:Nat} {id:ByteArray} {cs:Array Value} (h:FeC w fb id cs) {o:Nat} (ho:o=2∨o=4) {t:ByteArray} {a:Option Addr} {n c:Nat} {ss:List ByteArray} (hr:RefAt w fb t a n c ss):
  FeC w fb id ((cs.setIfInBounds o (.string t)).setIfInBounds (o+1) (.slice a n c)):=by
 have hg:∀i,i≠o→i≠o+1→((cs.setIfInBounds o (.string t)).setIfInBounds (o+1) (.slice a n c))[i]? =cs[i]?:=fun i h1 h2=>by
  rw [Array.getElem?_setIfInBounds_ne (fun e=>h2 e.symm),Array.getElem?_setIfInBounds_ne (fun e=>h1 e.symm)]
 refine⟨by simp [h.sz],by rw [hg 0 (by omega) (by omega)];exact h.h0,by rw [hg 1 (by omega) (by omega)];exact h.h1,fun q hq=>?_,fun q x y=>by rw [hg q (by omega) (by omega)];exact h.st q x y⟩
 by_cases hqo:q=o
 ·subst hqo;refine⟨t,a,n,c,ss,?_,?_,hr⟩
  ·rw [Array.getElem?_setIfInBounds_ne (by omega),Array.getElem?_setIfInBounds_self_of_lt (by rw [h.sz];omega)]
  ·rw [Array.getElem?_setIfInBounds_self_of_lt (by simp [h.sz];omega)]
 ·obtain⟨t',a',n',c',ss',g1,g2,g3⟩:=h.rf q hq;exact⟨t',a',n',c',ss',by rw [hg q (by omega) (by omega)];exact g1,by rw [hg (q+1) (by omega) (by omega)];exact g2,g3⟩
theorem FeM.cell {w:World} {fb:Nat} {cs:Array Value} {t:TypeId} {o:Nat} {v:Value} (h:w.heap[fb]? =some (.cells cs t (0,0))) (ho:cs[o]? =some v):w.cell? ⟨fb,o,none⟩=some v:=by
 rw [zc _ _ o _ _ _ h];exact ho
def SlotOk (o:Nat):Prop:=o=2∨o=4∨(6≤o∧o≤11)
theorem slotV_ref {fb o:Nat} (h:o=2∨o=4):slotV fb o=#[.pointer (some ⟨fb,o,none⟩),.pointer none]:=by unfold slotV;rw [if_pos h]
theorem slotV_str {fb o:Nat} (h:6≤o):slotV fb o=#[.pointer none,.pointer (some ⟨fb,o,none⟩)]:=by unfold slotV;rw [if_neg (by omega)]
theorem get_w (fb o:Nat) (id:ByteArray) (w:World) (ho:SlotOk o) (hF:FeM w fb id):Calls Tryz.prog 182 #[.agg (slotV fb o)] w fun e w'=>IsS 800000000 e∧Below w.heap.size w w':=by
 obtain⟨cs,hrow,hc⟩:=hF;have lf:=zl hrow
 rcases(show(o=2∨o=4)∨(6≤o∧o≤11) by unfold SlotOk at ho;omega)with h|h
 ·rw [slotV_ref h];obtain⟨t,a,n,c,ss,g1,g2,g3⟩:=hc.rf o h;have BL:Below w.heap.size w (w.alloc (.cells #[.pointer (some ⟨fb,o,none⟩),.pointer none] 150)):=(Below.refl _ w).alloc (Nat.le_refl _) _;have q0:=FeM.cell hrow g1;have q1:=FeM.cell hrow g2;have HF:=zz (format_w t ss a n c (w.alloc (.cells #[.pointer (some ⟨fb,o,none⟩),.pointer none] 150)) (by have:=g3.2.1;omega) (by have:=g3.2.2.1;omega) (g3.1.alloc _));have HB:=zz (And.intro g3.2.1 g3.2.2.1);clear hrow hc g1 g2 g3;go_enter Tryz.func182,Tryz.ntmps182
  go_wp2_with fail
  with_reducible refine HF.out.mono ?_
  rintro e w5 ⟨⟨r,rfl,hr⟩,hb⟩
  go_wp2_with fail
  go_ret
  exact⟨⟨r,rfl,by have:=HB.out;omega⟩,BL.trans (hb.mono BL.size)⟩
 ·rw [slotV_str h.1];obtain⟨s,g1,g2⟩:=hc.st o h.1 h.2;have BL:Below w.heap.size w (w.alloc (.cells #[.pointer none,.pointer (some ⟨fb,o,none⟩)] 150)):=(Below.refl _ w).alloc (Nat.le_refl _) _;have q0:=FeM.cell hrow g1;clear hrow hc g1;go_enter Tryz.func182,Tryz.ntmps182
  go_wp2_with fail
  go_ret
  exact⟨⟨s,rfl,by omega⟩,BL⟩
theorem empty_w (fb o:Nat) (id:ByteArray) (w:World) (ho:SlotOk o) (hF:FeM w fb id):Calls Tryz.prog 144 #[.agg (slotV fb o)] w fun e w'=>IsB e∧Below w.heap.size w w':=by
 obtain⟨cs,hrow,hc⟩:=hF;have lf:=zl hrow
 rcases(show(o=2∨o=4)∨(6≤o∧o≤11) by unfold SlotOk at ho;omega)with h|h
 ·rw [slotV_ref h];obtain⟨t,a,n,c,ss,g1,g2,g3⟩:=hc.rf o h;have BL:Below w.heap.size w (w.alloc (.cells #[.pointer (some ⟨fb,o,none⟩),.pointer none] 150)):=(Below.refl _ w).alloc (Nat.le_refl _) _;have q0:=FeM.cell hrow g1;have q1:=FeM.cell hrow g2;clear hrow hc g1 g2 g3;go_enter Tryz.func144,Tryz.ntmps144
  go_wp2_with fail
  all_goals (go_ret;exact⟨isB _,BL⟩)
 ·rw [slotV_str h.1];obtain⟨s,g1,g2⟩:=hc.st o h.1 h.2;have BL:Below w.heap.size w (w.alloc (.cells #[.pointer none,.pointer (some ⟨fb,o,none⟩)] 150)):=(Below.refl _ w).alloc (Nat.le_refl _) _;have q0:=FeM.cell hrow g1;clear hrow hc g1;go_enter Tryz.func144,Tryz.ntmps144
  go_wp2_with fail
  all_goals (go_ret;exact⟨isB _,BL⟩)
theorem set_w (fb o:Nat) (id text:ByteArray) (w:World) (ho:SlotOk o) (hF:FeM w fb id) (ht:text.size≤400000000) (hG:Globs w):Calls Tryz.prog 101 #[.agg (slotV fb o),.string text] w fun e w'=>IsB e∧FeM w' fb id∧But fb w w'∧∀B,B≤fb→Below B w w':=by
 obtain⟨cs,hrow,hc⟩:=hF;have lf:=zl hrow
 rcases(show(o=2∨o=4)∨(6≤o∧o≤11) by unfold SlotOk at ho;omega)with h|h
 ·rw [slotV_ref h];obtain⟨t0,a0,n0,c0,ss0,g1,g2,_⟩:=hc.rf o h;have BL:Below w.heap.size w (w.alloc (.cells #[.pointer (some ⟨fb,o,none⟩),.pointer none] 150)):=(Below.refl _ w).alloc (Nat.le_refl _) _;have R0:(w.alloc (.cells #[.pointer (some ⟨fb,o,none⟩),.pointer none] 150)).heap[w.heap.size]? =_:=zg _ _ _ rfl;have HP:=zz (resParse_w text (by omega) _ (hG.below BL));have HQ:=zz (And.intro hrow (And.intro hc (And.intro h (And.intro g1 g2))));have HB:=zz (And.intro BL R0);obtain⟨b0,b1⟩:=two_cells R0;clear hrow hc g1 g2 BL R0 ho hG;go_enter Tryz.func101,Tryz.ntmps101
  go_wp2_with fail
  with_reducible refine HP.out.mono ?_
  rintro e w5 ⟨⟨t,a,n,c,ss,b,rfl,hrd,hsz,had⟩,hb⟩;have BL:=HB.out.1.trans (hb.mono HB.out.1.size);have R0:=(hb.block _ (zl HB.out.2)).trans HB.out.2;have hrow:=(BL.block _ lf).trans HQ.out.1;have lfw:fb < w5.heap.size:=zl hrow;have HX:=zz (And.intro BL (And.intro hrow (And.intro hrd (And.intro hsz had))));have f0:w5.frozen? ⟨fb,o,none⟩=false:=frozen_of_row w5 fb o _ _ hrow;have f1:w5.frozen? ⟨fb,o+1,none⟩=false:=frozen_of_row w5 fb (o+1) _ _ hrow;have q0:=FeM.cell hrow HQ.out.2.2.2.1;have q1:=FeM.cell hrow HQ.out.2.2.2.2;clear hb b0 b1 hrow hrd hsz had BL;obtain⟨b0,b1⟩:=two_cells R0;have lR:=zl R0;clear R0
  go_wp2_with fail
  go_ret
  have h5:But fb w5 (((w5.setCell ⟨fb,o,none⟩ (.string t)).setCell ⟨fb,o+1,none⟩ (.slice a n c)).alloc (.cells #[.string t,.slice a n c] 59)):=
   (((But.of_below (Below.refl _ _)).set o _).set (o+1) _).trans (But.of_below ((Below.refl _ _).alloc (Nat.le_refl _) _))
  have hR:RefAt w5 fb t a n c ss:=⟨HX.out.2.2.1,by have:=HX.out.2.2.2.1;omega,by have:=HX.out.2.2.2.1;omega,fun ad hd=>by have:=HX.out.2.2.2.2 ad hd;simp at this;exact⟨by omega,this.2⟩⟩;have hw:But fb w w5:=But.of_below HX.out.1
  exact⟨isB _,⟨_,zo _ _ _ _ (heap_set (heap_set HX.out.2.1)),(HQ.out.2.1.but (hw.trans h5)).setRef h (hR.but h5)⟩,hw.trans h5,fun B hB=>
   ((Below.setCell (Below.setCell (HX.out.1.mono (by omega)) (p:=⟨fb,o,none⟩) hB _) (p:=⟨fb,o+1,none⟩) hB _).alloc (by simp;omega) _)⟩
 ·rw [slotV_str h.1];obtain⟨s,g1,_⟩:=hc.st o h.1 h.2;have BL:Below w.heap.size w (w.alloc (.cells #[.pointer none,.pointer (some ⟨fb,o,none⟩)] 150)):=(Below.refl _ w).alloc (Nat.le_refl _) _;have q0:=FeM.cell hrow g1;have R1:(w.alloc (.cells #[.pointer none,.pointer (some ⟨fb,o,none⟩)] 150)).heap[fb]? =_:=zo _ _ _ _ hrow;have f0:(w.alloc (.cells #[.pointer none,.pointer (some ⟨fb,o,none⟩)] 150)).frozen? ⟨fb,o,none⟩=false:=frozen_of_row _ fb o _ _ R1;have HQ:=zz (And.intro hrow hc);clear hrow hc g1 R1;go_enter Tryz.func101,Tryz.ntmps101
  go_wp2_with fail
  go_ret
  have hbut:But fb w ((w.setCell ⟨fb,o,none⟩ (.string text)).alloc (.cells #[.pointer none,.pointer (some ⟨fb,o,none⟩)] 150)):=((But.of_below (Below.refl _ _)).set o _).trans (But.of_below ((Below.refl _ _).alloc (Nat.le_refl _) _));exact⟨isB _,⟨_,zo _ _ _ _ (heap_set HQ.out.1),(HQ.out.2.but hbut).setStr h.1 h.2 ht⟩,hbut,fun B hB=>(Below.setCell (Below.refl B w) (p:=⟨fb,o,none⟩) hB _).alloc (by simp;omega) _⟩
def nOn:ByteArray:=⟨#[111,110]⟩
def nAnd:ByteArray:=⟨#[97,110,100]⟩
def nSketch:ByteArray:=⟨#[115,107,101,116,99,104]⟩
def nAmount:ByteArray:=⟨#[97,109,111,117,110,116]⟩
def nCount:ByteArray:=⟨#[99,111,117,110,116]⟩
def nX:ByteArray:=⟨#[120]⟩
def nY:ByteArray:=⟨#[121]⟩
def nZ:ByteArray:=⟨#[122]⟩
def eightN:List ByteArray:= [nOn,nAnd,nSketch,nAmount,nCount,nX,nY,nZ]
def kindTab2:List (ByteArray×List ByteArray):= [(⟨#[101,120,116,114,117,100,101]⟩, [nOn,nSketch,nAmount]),(⟨#[99,117,116]⟩, [nOn,nSketch,nAmount]),(⟨#[99,104,97,109,102,101,114]⟩, [nOn,nAnd,nAmount]),(⟨#[109,105,114,114,111,114]⟩, [nOn]),
 (⟨#[112,97,116,116,101,114,110]⟩, [nCount,nX,nY,nZ]),(⟨#[109,111,118,101]⟩, [nX,nY,nZ]),(⟨#[116,117,114,110]⟩, [nSketch,nCount]),(⟨#[108,97,98,101,108]⟩, [nOn,nSketch])]
theorem kindTab2_sub:∀x∈kindTab2,(∀s∈x.2,s∈eightN)∧0 < x.2.length∧x.2.length≤4:=by
 intro x hx;simp only [kindTab2,List.mem_cons,List.not_mem_nil,or_false]at hx
 rcases hx with rfl|rfl|rfl|rfl|rfl|rfl|rfl|rfl <;>
  refine⟨fun s hs=>?_,by simp,by simp⟩ <;>simp only [List.mem_cons,List.not_mem_nil,or_false]at hs <;>simp only [eightN,List.mem_cons] <;>(rcases hs with rfl|rfl|rfl|rfl <;>simp) <;>skip
def KAll (W:World):Prop:=∃kb ko cap,W.cell? ⟨2,0,none⟩=some (.slice (some ⟨kb,ko,none⟩) 8 cap)∧∀(i:Nat) (x:ByteArray×List ByteArray),kindTab2[i]? =some x→W.cell? ⟨kb,ko+i*2,none⟩=some (.string x.1)∧
 ∃b o c,W.cell? ⟨kb,ko+i*2+1,none⟩=some (.slice (some ⟨b,o,none⟩) x.2.length c)∧∀(j:Nat) (s:ByteArray),x.2[j]? =some s→W.cell? ⟨b,o+j,none⟩=some (.string s)
theorem KAll.below {w w':World} (h:KAll w) (hb:Below w.heap.size w w'):KAll w':=by
 obtain⟨kb,ko,cap,h0,h⟩:=h
 exact⟨kb,ko,cap,keep1 hb h0,fun i x hx=>by
  obtain⟨h1,b,o,c,h2,h3⟩:=h i x hx
  exact⟨keep1 hb h1,b,o,c,keep1 hb h2,fun j s hs=>keep1 hb (h3 j s hs)⟩⟩
theorem slot_any {x:ByteArray} (hx:x∈eightN):∃o,SlotOk o∧∀(fb pb:Nat) (w:World),w.cell? ⟨pb,0,none⟩=some (.pointer (some ⟨fb,0,none⟩))→Calls Tryz.prog 140 #[.string x,.pointer (some ⟨pb,0,none⟩)] w fun e w'=>e=.returned (.agg (slotV fb o))∧Below w.heap.size w w':=by
 simp only [eightN,List.mem_cons,List.not_mem_nil,or_false]at hx
 rcases hx with rfl|rfl|rfl|rfl|rfl|rfl|rfl|rfl
 ·exact⟨2,.inl rfl,fun fb pb w h=>slot_on fb pb w h⟩
 ·exact⟨4,.inr (.inl rfl),fun fb pb w h=>slot_and fb pb w h⟩
 ·exact⟨6,.inr (.inr ⟨by omega,by omega⟩),fun fb pb w h=>slot_sketch fb pb w h⟩
 ·exact⟨7,.inr (.inr ⟨by omega,by omega⟩),fun fb pb w h=>slot_amount fb pb w h⟩
 ·exact⟨8,.inr (.inr ⟨by omega,by omega⟩),fun fb pb w h=>slot_count fb pb w h⟩
 ·exact⟨9,.inr (.inr ⟨by omega,by omega⟩),fun fb pb w h=>slot_x fb pb w h⟩
 ·exact⟨10,.inr (.inr ⟨by omega,by omega⟩),fun fb pb w h=>slot_y fb pb w h⟩
 ·exact⟨11,.inr (.inr ⟨by omega,by omega⟩),fun fb pb w h=>slot_z fb pb w h⟩
def IsK (e:Ending):Prop:=∃(k:Int) (b:Bool),e=.returned (.tuple #[.int .i64 k,.bool b])∧(b=true→1≤k∧k≤8)
theorem kindByName_w (s:ByteArray) (w:World) (KA:KAll w):Calls Tryz.prog 97 #[.string s] w fun e w'=>IsK e∧Below w.heap.size w w':=by
 obtain⟨kb,ko,cap,g,hK⟩:=KA;have HK:=zz hK;clear hK;go_enter Tryz.func97,Tryz.ntmps97
 go_wp2
 go_loopg [4,5,8] 8 (fun gn t4 t5 t8 wr=>∃k:Nat,k+gn=8∧t8=.int .i64 k∧Below w.heap.size w wr)
 case atStart=>exact⟨0,rfl,rfl,Below.refl _ _⟩
 case round=>
  obtain⟨G,rfl⟩:∃G,G=gk:=⟨_,rfl⟩;obtain⟨k,hk,rfl,BL⟩:=hrel;have HKK:=zz hk;clear hk
  by_cases hlt:k < 8
  ·obtain⟨x,hx⟩:∃x,kindTab2[k]? =some x:=⟨_,List.getElem?_eq_getElem (by show k < 8;exact hlt)⟩;obtain⟨h1,b,o,c,h2,_⟩:=HK.out k x hx;have c1:=keep1 BL h1;have c2:=keep1 BL h2;have hltZ:(k:Int) < 8:=by omega
   have hBL:=zz BL;have BL2:=zz (BL.alloc BL.size (.cells #[.string x.1,.slice (some ⟨b,o,none⟩) x.2.length c] 181));clear h1 h2 hx BL
   cases he:(x.1.toList==s.toList)with
   |true=>
    go_wp2_with fail
    go_ret2
    exact⟨⟨_,_,rfl,fun _=>⟨by omega,by omega⟩⟩,BL2.out⟩
   |false=>
    go_wp2_with fail
    go_roundg (8 - 1 - k)
    case rel=>exact⟨k+1,by have:=HKK.out;omega,by go_num,BL2.out⟩
    case measure=>have:=HKK.out;omega
  ·obtain rfl:k=8:=by have:=HKK.out;omega
   go_wp2_with fail
   go_ret2
   exact⟨⟨_,_,rfl,fun h=>by cases h⟩,BL⟩
end Go.Proofs.YteigcnamkfebgaaGreatDoor
