import Derived.Test.YteigcnamkfebgaaGreatDoorFK
set_option linter.all false
set_option maxHeartbeats 25600000
namespace Go.Proofs.YteigcnamkfebgaaGreatDoor
open Go.RowKit
def ButO (rb:Nat) (o:Option Nat) (w w':World):Prop:=w.heap.size≤w'.heap.size∧∀i,i < w.heap.size→i≠rb→some i≠o→w'.heap[i]? =w.heap[i]?
theorem ButO.set {rb:Nat} {o:Option Nat} {a b:World} (h:ButO rb o a b) (j:Nat) (v:Value):ButO rb o a (b.setCell ⟨rb,j,none⟩ v):=⟨by simp;exact h.1,fun i hi hd hn=>(heap_setCell_other b ⟨rb,j,none⟩ i v hd).trans (h.2 i hi hd hn)⟩
theorem butO_grown (rb:Nat) {o:Option Nat} {w a b:World} (h:Below w.heap.size w a) (hg:a.grownBy b o):ButO rb o w b:=⟨Nat.le_trans h.size hg.size,fun i hi _ hn=>(hg.block i (Nat.lt_of_lt_of_le hi h.size) hn).trans (h.block i hi)⟩
theorem own_ne_own {w:World} {base b2:Nat} {e e2:TypeId} {size s2:Nat} {v v2:Value} {k k2:Nat} {xs x2:List Value} (h:w.ownsRow base e size v k xs) (h2:w.ownsRow b2 e2 s2 v2 k2 x2) (hne:e≠e2):v.ownBlock=none∨v.ownBlock≠v2.ownBlock:=by
 rcases h.2 with⟨rfl,_⟩|⟨g,cap,cur,rfl,_,hg,_⟩
 ·exact .inl rfl
 ·rcases h2.2 with⟨rfl,_⟩|⟨g2,cap2,cur2,rfl,_,hg2,_⟩
  ·exact .inr (by simp [Value.ownBlock])
  ·refine .inr fun e'=>?_
   simp [Value.ownBlock]at e';subst e';rw [hg]at hg2;cases hg2
   exact hne rfl
theorem own_butO {w w':World} {rb:Nat} {base b2:Nat} {e e2:TypeId} {size s2:Nat} {v v2:Value} {k k2:Nat} {xs x2:List Value} (hb:ButO rb v2.ownBlock w w') (h:w.ownsRow base e size v k xs) (h2:w.ownsRow b2 e2 s2 v2 k2 x2) (hne:e≠e2) (hrb:rb < base):w'.ownsRow base e size v k xs:=by
 have hn:=own_ne_own h h2 hne;refine⟨h.1,?_⟩
 rcases h.2 with h3|⟨g,cap,cur,rfl,hbg,hg,rest⟩
 ·exact .inl h3
 ·refine .inr ⟨g,cap,cur,rfl,hbg,?_,rest⟩
  rw [hb.2 g (Array.getElem?_eq_some_iff.1 hg).1 (by omega) (by
   rcases hn with hn|hn
   ·cases hn
   ·exact hn)]
  exact hg
set_option maxRecDepth 100000 in
theorem param_gen (R:List RegP) (rb:Nat) (sn sr sp sf sc:SlV) (P:List PdD) (x:TnD) (base b0:Nat) (w:World) (hr:w.heap[rb]? =some (.cells #[.slice sn.a sn.len sn.cap,.slice sr.a sr.len sr.cap,.slice sp.a sp.len sp.cap,.slice sf.a sf.len sf.cap,.slice sc.a sc.len sc.cap] 75 (0,0)))
  (hl:R.length≤100000) (hwl:∀r∈R,r.w.length≤100000) (hv:RRegs w sr.v R) (hbase:base≤rb) (hrb:rb < b0) (hb0:b0≤w.heap.size) (hown:w.ownsRow b0 52 2 sp.v P.length (pdY.flat P)) (hP:P.length≤1000):
  Calls Tryz.prog 24 #[.pointer (some ⟨rb,0,none⟩),.agg (tnV x).toArray] w fun e w'=>e=.returned (.tuple #[])∧ButO rb sp.v.ownBlock w w'∧Below base w w'∧∃s6:SlV,w'.heap[rb]? =some (.cells #[.slice sn.a sn.len sn.cap,.slice sr.a sr.len sr.cap,.slice s6.a s6.len s6.cap,.slice sf.a sf.len sf.cap,.slice sc.a sc.len sc.cap] 75 (0,0))∧
   w'.ownsRow b0 52 2 s6.v (P.length+1) (pdY.flat (P++ [⟨(winF (lookF x.node ⟨#[110,97,109,101]⟩ R)).1,(winF (lookF x.node ⟨#[116,101,120,116]⟩ R)).1⟩])):=by
 obtain⟨i0,hi,hz0,hz1,hz2⟩:=info_parts info52;have R1:(w.alloc (.cells (tnV x).toArray 55)).drew.heap[rb]? =_:=zo _ _ _ _ hr;have R2:(w.alloc (.cells (tnV x).toArray 55)).drew.heap[w.heap.size]? =_:=zg _ _ _ rfl;have BL:Below w.heap.size w (w.alloc (.cells (tnV x).toArray 55)).drew:=((Below.refl _ w).alloc (Nat.le_refl _) _).drew;have RV:RRegs (w.alloc (.cells (tnV x).toArray 55)).drew sr.v R:=hv.below ((Below.refl _ w).alloc (Nat.le_refl _) _).drew;have lrb:rb < w.heap.size:=zl hr;generalize hNM:(winF (lookF x.node ⟨#[110,97,109,101]⟩ R)).1=nm;generalize hTX:(winF (lookF x.node ⟨#[116,101,120,116]⟩ R)).1=tx;have FN:=zz (fun(W:World) (h1:W.heap[rb]? =some (.cells #[.slice sn.a sn.len sn.cap,.slice sr.a sr.len sr.cap,.slice sp.a sp.len sp.cap,.slice sf.a sf.len sf.cap,.slice sc.a sc.len sc.cap] 75 (0,0))) (h2:RRegs W sr.v R)=>field_any R rb sn sr sp sf sc x.node ⟨#[110,97,109,101]⟩ W h1 hl hwl h2);have FT:=zz (fun(W:World) (h1:W.heap[rb]? =some (.cells #[.slice sn.a sn.len sn.cap,.slice sr.a sr.len sr.cap,.slice sp.a sp.len sp.cap,.slice sf.a sf.len sf.cap,.slice sc.a sc.len sc.cap] 75 (0,0))) (h2:RRegs W sr.v R)=>field_any R rb sn sr sp sf sc x.node ⟨#[116,101,120,116]⟩ W h1 hl hwl h2);rw [hNM]at FN;rw [hTX]at FT;have HO:=zz (fun(W:World) (h:Below w.heap.size w W)=>(show W.ownsRow b0 52 2 (.slice sp.a sp.len sp.cap) P.length (pdY.flat P)from ownsRow_below hown h));have HLT:=zz (fun(k:Nat) (hk:Value.ownBlock (.slice sp.a sp.len sp.cap)=some k)=>hown.lt k hk);have HFL:=zz (fun(d:PdD)=>(show pdY.flat (P++ [d])=pdY.flat P++pdV d by rw [pdY.flat_append];simp [Lay.flat];rfl));clear hr hv hNM hTX hown;unfold tnV at*
 go_enter Tryz.func24,Tryz.ntmps24
 go_wp2_with fail
 refine wp_region_held_drew (S:=fun w'=>w'.cell? ⟨w.heap.size,0,none⟩=some (.string x.node.a)∧w'.cell? ⟨w.heap.size,1,none⟩=some (.int .i64 x.node.n)) (by kernel_rfl) (two8 R2) (fun hS=>?_);refine tk 0 (.pointer (some ⟨rb,0,none⟩)) rfl hS ?_;(try simp only [PU]);refine tk 1 (.pointer (some ⟨rb,0,none⟩)) rfl hS ?_;(try simp only [PU]);refine tk 2 (.pointer (some ⟨rb,0,none⟩)) rfl hS ?_;(try simp only [PU]);refine tk 3 (.pointer (some ⟨rb,2,none⟩)) rfl hS ?_;(try simp only [PU]);refine tk 4 (.pointer (some ⟨rb,2,none⟩)) rfl hS ?_;(try simp only [PU]);refine tk 6 (.pointer (some ⟨rb,0,none⟩)) rfl hS ?_;(try simp only [PU]);refine tk 7 (.pointer (some ⟨w.heap.size,0,none⟩)) rfl hS ?_;(try simp only [PU]);refine tk 8 (.agg #[.string x.node.a,.int .i64 x.node.n]) rfl hS ?_ (hy:=fun _ hS=>by obtain⟨q0,q1⟩:=hS;go_simp);(try simp only [PU]);refine tk 10 (.pointer (some ⟨rb,0,none⟩)) rfl hS ?_;(try simp only [PU]);refine tk 11 (.pointer (some ⟨w.heap.size,0,none⟩)) rfl hS ?_;(try simp only [PU]);refine tk 12 (.agg #[.string x.node.a,.int .i64 x.node.n]) rfl hS ?_ (hy:=fun _ hS=>by obtain⟨q0,q1⟩:=hS;go_simp);(try simp only [PU]);refine wpAnyH_ready (rs:= [5,9]) (by kernel_rfl) (by simp) ?_;refine AllReadyH.cons rfl (fun K9 hK9=>?_) (AllReadyH.cons rfl (fun K9 hK9=>?_) AllReadyH.nil)
 ·have r12:=(five_cells R1).2.2.1;go_simp;clear r12;refine hK9.out _ _ hS (fun _=>?_);clear hK9;(try simp only [PU]);refine rd 9 rfl (fun K9 hK9=>?_);go_simp
  with_reducible refine(FN.out _ R1 RV).mono ?_
  rintro e9 w4 ⟨rfl,hb⟩;have R1:=(hb.block _ (zl R1)).trans R1;have R2:=(hb.block _ (zl R2)).trans R2;have BL:=BL.trans (hb.mono BL.size);have RV:=RV.below hb;have hS:=two8 R2;refine hK9.out _ _ hS (fun _=>?_);clear hK9;(try simp only [PU]);refine rd 13 rfl (fun K9 hK9=>?_);go_simp
  with_reducible refine(FT.out _ R1 RV).mono ?_
  rintro e9 w5 ⟨rfl,hb⟩;have R1:=(hb.block _ (zl R1)).trans R1;have R2:=(hb.block _ (zl R2)).trans R2;have BL:=BL.trans (hb.mono BL.size);have RV:=RV.below hb;have hS:=two8 R2;refine hK9.out _ _ hS (fun _=>?_);clear hK9;(try simp only [PU]);refine tk 14 (.agg #[.string nm,.string tx]) rfl hS ?_;(try simp only [PU]);refine rd 15 rfl (fun K9 hK9=>?_);go_simp;have R1:=zo _ _ (.cells #[.string nm,.string tx] 52) _ R1;have R2:=zo _ _ (.cells #[.string nm,.string tx] 52) _ R2;have BL:=BL.alloc BL.size (.cells #[.string nm,.string tx] 52);have hS:=two8 R2;refine hK9.out _ _ hS (fun _=>?_);clear hK9;(try simp only [PU]);refine rd 16 rfl (fun K9 hK9=>?_);refine step_append_src _ rfl _ _ 31 rfl b0 52 i0 (.agg z52) 2 32 Tryz.underlying31 hi hz0 hz1 hz2 rfl (by decide) (.slice sp.a sp.len sp.cap) P.length (pdY.flat P) rfl (HO.out _ BL) (some ⟨_,0,none⟩) 1 1 (pdV ⟨nm,tx⟩) rfl rfl (fun _=>⟨_,rfl,news_of (cs:=pdV ⟨nm,tx⟩) (zg _ _ _ rfl)⟩) (pdY.one ⟨nm,tx⟩) (by unfold maxLen;omega) (by omega) (Nat.le_trans hb0 BL.size) ?_;intro v6 w6 hown6 hg6;obtain⟨s6,hs6⟩:=ownsForm hown6;subst hs6;have BO:=butO_grown rb BL hg6;have BB:=(BL.mono (show base≤w.heap.size by omega)).grown hg6 (Nat.le_trans (show base≤w.heap.size by omega) BL.size) (fun k hk=>Nat.le_trans (show base≤b0 by omega) (HLT.out k hk).1);have R1:=(hg6.block _ (zl R1) (fun e=>absurd (HLT.out rb e.symm).1 (by omega))).trans R1;have R2:=(hg6.block _ (zl R2) (fun e=>absurd (HLT.out w.heap.size e.symm).2 (by omega))).trans R2;have hS:=two8 R2;refine hK9.out _ _ hS (fun _=>?_);clear hK9;(try simp only [PU]);refine tk 17 (.pointer (some ⟨rb,0,none⟩)) rfl hS ?_;(try simp only [PU]);refine tk 18 (.pointer (some ⟨rb,2,none⟩)) rfl hS ?_;(try simp only [PU]);refine tk 19 (.pointer (some ⟨rb,2,none⟩)) rfl hS ?_;(try simp only [PU]);refine rd 20 rfl (fun K9 hK9=>?_);have r12:=(five_cells R1).2.2.1;have f12:w6.frozen? ⟨rb,2,none⟩=false:=frozen_of_row w6 rb 2 _ _ R1;go_simp;have hne:rb≠w.heap.size:=by omega
  refine hK9.out _ _ ⟨(World.cell?_setCell_far _ _ _ _ hne).trans hS.1,(World.cell?_setCell_far _ _ _ _ hne).trans hS.2⟩ (fun _=>?_);clear hK9;(try simp only [PU]);refine wpAnyH_done (by kernel_rfl) ?_ _;have HNE:=zz (own_ne_ty hown6 ⟨_,R1,_,R1⟩ (by decide));have HF:=zz (And.intro (And.intro BO BB) (And.intro (set5_2 (c':=.slice s6.a s6.len s6.cap) R1) hown6));clear hg6 hown6 r12 f12 R1 R2 BL BO BB hS RV hne;go_wp2;go_end0
  refine⟨rfl,HF.out.1.1.set 2 _,Below.setCell HF.out.1.2 (p:=⟨rb,2,none⟩) hbase _,s6,HF.out.2.1,?_⟩;rw [HFL.out];exact HF.out.2.2.kept (grownBy_set w6 rb 2 _) HNE.out
 ·go_simp
  with_reducible refine(FN.out _ R1 RV).mono ?_
  rintro e9 w4 ⟨rfl,hb⟩;have R1:=(hb.block _ (zl R1)).trans R1;have R2:=(hb.block _ (zl R2)).trans R2;have BL:=BL.trans (hb.mono BL.size);have RV:=RV.below hb;have hS:=two8 R2;refine hK9.out _ _ hS (fun _=>?_);clear hK9;(try simp only [PU]);refine wpAnyH_ready (rs:= [5,13]) (by kernel_rfl) (by simp) ?_;refine AllReadyH.cons rfl (fun K9 hK9=>?_) (AllReadyH.cons rfl (fun K9 hK9=>?_) AllReadyH.nil)
  ·have r12:=(five_cells R1).2.2.1;go_simp;clear r12;refine hK9.out _ _ hS (fun _=>?_);clear hK9;(try simp only [PU]);refine rd 13 rfl (fun K9 hK9=>?_);go_simp
   with_reducible refine(FT.out _ R1 RV).mono ?_
   rintro e9 w5 ⟨rfl,hb⟩;have R1:=(hb.block _ (zl R1)).trans R1;have R2:=(hb.block _ (zl R2)).trans R2;have BL:=BL.trans (hb.mono BL.size);have RV:=RV.below hb;have hS:=two8 R2;refine hK9.out _ _ hS (fun _=>?_);clear hK9;(try simp only [PU]);refine tk 14 (.agg #[.string nm,.string tx]) rfl hS ?_;(try simp only [PU]);refine rd 15 rfl (fun K9 hK9=>?_);go_simp;have R1:=zo _ _ (.cells #[.string nm,.string tx] 52) _ R1;have R2:=zo _ _ (.cells #[.string nm,.string tx] 52) _ R2;have BL:=BL.alloc BL.size (.cells #[.string nm,.string tx] 52);have hS:=two8 R2;refine hK9.out _ _ hS (fun _=>?_);clear hK9;(try simp only [PU]);refine rd 16 rfl (fun K9 hK9=>?_);refine step_append_src _ rfl _ _ 31 rfl b0 52 i0 (.agg z52) 2 32 Tryz.underlying31 hi hz0 hz1 hz2 rfl (by decide) (.slice sp.a sp.len sp.cap) P.length (pdY.flat P) rfl (HO.out _ BL) (some ⟨_,0,none⟩) 1 1 (pdV ⟨nm,tx⟩) rfl rfl (fun _=>⟨_,rfl,news_of (cs:=pdV ⟨nm,tx⟩) (zg _ _ _ rfl)⟩) (pdY.one ⟨nm,tx⟩) (by unfold maxLen;omega) (by omega) (Nat.le_trans hb0 BL.size) ?_;intro v6 w6 hown6 hg6;obtain⟨s6,hs6⟩:=ownsForm hown6;subst hs6;have BO:=butO_grown rb BL hg6;have BB:=(BL.mono (show base≤w.heap.size by omega)).grown hg6 (Nat.le_trans (show base≤w.heap.size by omega) BL.size) (fun k hk=>Nat.le_trans (show base≤b0 by omega) (HLT.out k hk).1);have R1:=(hg6.block _ (zl R1) (fun e=>absurd (HLT.out rb e.symm).1 (by omega))).trans R1;have R2:=(hg6.block _ (zl R2) (fun e=>absurd (HLT.out w.heap.size e.symm).2 (by omega))).trans R2;have hS:=two8 R2;refine hK9.out _ _ hS (fun _=>?_);clear hK9;(try simp only [PU]);refine tk 17 (.pointer (some ⟨rb,0,none⟩)) rfl hS ?_;(try simp only [PU]);refine tk 18 (.pointer (some ⟨rb,2,none⟩)) rfl hS ?_;(try simp only [PU]);refine tk 19 (.pointer (some ⟨rb,2,none⟩)) rfl hS ?_;(try simp only [PU]);refine rd 20 rfl (fun K9 hK9=>?_);have r12:=(five_cells R1).2.2.1;have f12:w6.frozen? ⟨rb,2,none⟩=false:=frozen_of_row w6 rb 2 _ _ R1;go_simp;have hne:rb≠w.heap.size:=by omega
   refine hK9.out _ _ ⟨(World.cell?_setCell_far _ _ _ _ hne).trans hS.1,(World.cell?_setCell_far _ _ _ _ hne).trans hS.2⟩ (fun _=>?_);clear hK9;(try simp only [PU]);refine wpAnyH_done (by kernel_rfl) ?_ _;have HNE:=zz (own_ne_ty hown6 ⟨_,R1,_,R1⟩ (by decide));have HF:=zz (And.intro (And.intro BO BB) (And.intro (set5_2 (c':=.slice s6.a s6.len s6.cap) R1) hown6));clear hg6 hown6 r12 f12 R1 R2 BL BO BB hS RV hne;go_wp2;go_end0
   refine⟨rfl,HF.out.1.1.set 2 _,Below.setCell HF.out.1.2 (p:=⟨rb,2,none⟩) hbase _,s6,HF.out.2.1,?_⟩;rw [HFL.out];exact HF.out.2.2.kept (grownBy_set w6 rb 2 _) HNE.out
  ·go_simp
   with_reducible refine(FT.out _ R1 RV).mono ?_
   rintro e9 w5 ⟨rfl,hb⟩;have R1:=(hb.block _ (zl R1)).trans R1;have R2:=(hb.block _ (zl R2)).trans R2;have BL:=BL.trans (hb.mono BL.size);have RV:=RV.below hb;have hS:=two8 R2;refine hK9.out _ _ hS (fun _=>?_);clear hK9;(try simp only [PU]);refine tk 14 (.agg #[.string nm,.string tx]) rfl hS ?_;(try simp only [PU]);refine wpAnyH_ready (rs:= [5,15]) (by kernel_rfl) (by simp) ?_;refine AllReadyH.cons rfl (fun K9 hK9=>?_) (AllReadyH.cons rfl (fun K9 hK9=>?_) AllReadyH.nil)
   ·have r12:=(five_cells R1).2.2.1;go_simp;clear r12;refine hK9.out _ _ hS (fun _=>?_);clear hK9;(try simp only [PU]);refine rd 15 rfl (fun K9 hK9=>?_);go_simp;have R1:=zo _ _ (.cells #[.string nm,.string tx] 52) _ R1;have R2:=zo _ _ (.cells #[.string nm,.string tx] 52) _ R2;have BL:=BL.alloc BL.size (.cells #[.string nm,.string tx] 52);have hS:=two8 R2;refine hK9.out _ _ hS (fun _=>?_);clear hK9;(try simp only [PU]);refine rd 16 rfl (fun K9 hK9=>?_);refine step_append_src _ rfl _ _ 31 rfl b0 52 i0 (.agg z52) 2 32 Tryz.underlying31 hi hz0 hz1 hz2 rfl (by decide) (.slice sp.a sp.len sp.cap) P.length (pdY.flat P) rfl (HO.out _ BL) (some ⟨_,0,none⟩) 1 1 (pdV ⟨nm,tx⟩) rfl rfl (fun _=>⟨_,rfl,news_of (cs:=pdV ⟨nm,tx⟩) (zg _ _ _ rfl)⟩) (pdY.one ⟨nm,tx⟩) (by unfold maxLen;omega) (by omega) (Nat.le_trans hb0 BL.size) ?_;intro v6 w6 hown6 hg6;obtain⟨s6,hs6⟩:=ownsForm hown6;subst hs6;have BO:=butO_grown rb BL hg6;have BB:=(BL.mono (show base≤w.heap.size by omega)).grown hg6 (Nat.le_trans (show base≤w.heap.size by omega) BL.size) (fun k hk=>Nat.le_trans (show base≤b0 by omega) (HLT.out k hk).1);have R1:=(hg6.block _ (zl R1) (fun e=>absurd (HLT.out rb e.symm).1 (by omega))).trans R1;have R2:=(hg6.block _ (zl R2) (fun e=>absurd (HLT.out w.heap.size e.symm).2 (by omega))).trans R2;have hS:=two8 R2;refine hK9.out _ _ hS (fun _=>?_);clear hK9;(try simp only [PU]);refine tk 17 (.pointer (some ⟨rb,0,none⟩)) rfl hS ?_;(try simp only [PU]);refine tk 18 (.pointer (some ⟨rb,2,none⟩)) rfl hS ?_;(try simp only [PU]);refine tk 19 (.pointer (some ⟨rb,2,none⟩)) rfl hS ?_;(try simp only [PU]);refine rd 20 rfl (fun K9 hK9=>?_);have r12:=(five_cells R1).2.2.1;have f12:w6.frozen? ⟨rb,2,none⟩=false:=frozen_of_row w6 rb 2 _ _ R1;go_simp;have hne:rb≠w.heap.size:=by omega
    refine hK9.out _ _ ⟨(World.cell?_setCell_far _ _ _ _ hne).trans hS.1,(World.cell?_setCell_far _ _ _ _ hne).trans hS.2⟩ (fun _=>?_);clear hK9;(try simp only [PU]);refine wpAnyH_done (by kernel_rfl) ?_ _;have HNE:=zz (own_ne_ty hown6 ⟨_,R1,_,R1⟩ (by decide));have HF:=zz (And.intro (And.intro BO BB) (And.intro (set5_2 (c':=.slice s6.a s6.len s6.cap) R1) hown6));clear hg6 hown6 r12 f12 R1 R2 BL BO BB hS RV hne;go_wp2;go_end0
    refine⟨rfl,HF.out.1.1.set 2 _,Below.setCell HF.out.1.2 (p:=⟨rb,2,none⟩) hbase _,s6,HF.out.2.1,?_⟩;rw [HFL.out];exact HF.out.2.2.kept (grownBy_set w6 rb 2 _) HNE.out
   ·go_simp;have R1:=zo _ _ (.cells #[.string nm,.string tx] 52) _ R1;have R2:=zo _ _ (.cells #[.string nm,.string tx] 52) _ R2;have BL:=BL.alloc BL.size (.cells #[.string nm,.string tx] 52);have hS:=two8 R2;refine hK9.out _ _ hS (fun _=>?_);clear hK9;(try simp only [PU]);refine rd 5 rfl (fun K9 hK9=>?_);have r12:=(five_cells R1).2.2.1;go_simp;clear r12;refine hK9.out _ _ hS (fun _=>?_);clear hK9;(try simp only [PU]);refine rd 16 rfl (fun K9 hK9=>?_);refine step_append_src _ rfl _ _ 31 rfl b0 52 i0 (.agg z52) 2 32 Tryz.underlying31 hi hz0 hz1 hz2 rfl (by decide) (.slice sp.a sp.len sp.cap) P.length (pdY.flat P) rfl (HO.out _ BL) (some ⟨_,0,none⟩) 1 1 (pdV ⟨nm,tx⟩) rfl rfl (fun _=>⟨_,rfl,news_of (cs:=pdV ⟨nm,tx⟩) (zg _ _ _ rfl)⟩) (pdY.one ⟨nm,tx⟩) (by unfold maxLen;omega) (by omega) (Nat.le_trans hb0 BL.size) ?_;intro v6 w6 hown6 hg6;obtain⟨s6,hs6⟩:=ownsForm hown6;subst hs6;have BO:=butO_grown rb BL hg6;have BB:=(BL.mono (show base≤w.heap.size by omega)).grown hg6 (Nat.le_trans (show base≤w.heap.size by omega) BL.size) (fun k hk=>Nat.le_trans (show base≤b0 by omega) (HLT.out k hk).1);have R1:=(hg6.block _ (zl R1) (fun e=>absurd (HLT.out rb e.symm).1 (by omega))).trans R1;have R2:=(hg6.block _ (zl R2) (fun e=>absurd (HLT.out w.heap.size e.symm).2 (by omega))).trans R2;have hS:=two8 R2;refine hK9.out _ _ hS (fun _=>?_);clear hK9;(try simp only [PU]);refine tk 17 (.pointer (some ⟨rb,0,none⟩)) rfl hS ?_;(try simp only [PU]);refine tk 18 (.pointer (some ⟨rb,2,none⟩)) rfl hS ?_;(try simp only [PU]);refine tk 19 (.pointer (some ⟨rb,2,none⟩)) rfl hS ?_;(try simp only [PU]);refine rd 20 rfl (fun K9 hK9=>?_);have r12:=(five_cells R1).2.2.1;have f12:w6.frozen? ⟨rb,2,none⟩=false:=frozen_of_row w6 rb 2 _ _ R1;go_simp;have hne:rb≠w.heap.size:=by omega
    refine hK9.out _ _ ⟨(World.cell?_setCell_far _ _ _ _ hne).trans hS.1,(World.cell?_setCell_far _ _ _ _ hne).trans hS.2⟩ (fun _=>?_);clear hK9;(try simp only [PU]);refine wpAnyH_done (by kernel_rfl) ?_ _;have HNE:=zz (own_ne_ty hown6 ⟨_,R1,_,R1⟩ (by decide));have HF:=zz (And.intro (And.intro BO BB) (And.intro (set5_2 (c':=.slice s6.a s6.len s6.cap) R1) hown6));clear hg6 hown6 r12 f12 R1 R2 BL BO BB hS RV hne;go_wp2;go_end0
    refine⟨rfl,HF.out.1.1.set 2 _,Below.setCell HF.out.1.2 (p:=⟨rb,2,none⟩) hbase _,s6,HF.out.2.1,?_⟩;rw [HFL.out];exact HF.out.2.2.kept (grownBy_set w6 rb 2 _) HNE.out
def dRg:RegD:=⟨⟨⟨#[]⟩,0⟩,⟨#[]⟩,SlV.nil⟩
def swapQ (l:List RegD) (i j:Nat):List RegD:=(l.set i (l.getD j dRg)).set j (l.getD i dRg)
theorem swapQ_len (l:List RegD) (i j:Nat):(swapQ l i j).length=l.length:=by simp [swapQ]
theorem getQ_at {l:List RegD} {i:Nat} (h:i < l.length):l[i]? =some (l.getD i dRg):=by
 rw [List.getD_eq_getElem?_getD,List.getElem?_eq_getElem h];rfl
def CmpR (gf:FuncId):Prop:=∀(x y:RegD) (W:World),Calls Tryz.prog gf #[.agg (regV x).toArray,.agg (regV y).toArray] W fun e W'=>e=.returned (.int .i64 (cmpS x.field y.field))∧Below W.heap.size W W'
def ownR (W:World) (base g cap n:Nat) (l:List RegD):Prop:=W.ownsRow base 48 4 (.slice (some ⟨g,0,none⟩) n cap) n (regY.flat l)
theorem ownR_cells {W:World} {base g cap n:Nat} {l:List RegD} (h:ownR W base g cap n l) {i:Nat} {x:RegD} (hx:l[i]? =some x):
  W.cell? ⟨g,i*4,none⟩=some (.string x.node.a)∧W.cell? ⟨g,i*4+1,none⟩=some (.int .i64 x.node.n)∧W.cell? ⟨g,i*4+2,none⟩=some (.string x.field)∧W.cell? ⟨g,i*4+3,none⟩=some (.slice x.w.a x.w.len x.w.cap):=by
 have h1:=Lay.elem regY (ownsRow_rangeAt h) i x hx
 have h2:∀(j:Nat) (v:Value),(regV x)[j]? =some v→W.cell? ⟨g,i*4+j,none⟩=some v:=fun j v hv=>by
  have h3:=h1 j v hv
  rwa [Nat.zero_add]at h3
 exact⟨h2 0 _ rfl,h2 1 _ rfl,h2 2 _ rfl,h2 3 _ rfl⟩
theorem sets4 {v0 v1 v2 v3:Value}:∀(p:Nat) (L:List Value),p+4≤L.length→((((L.set p v0).set (p+1) v1).set (p+2) v2).set (p+3) v3)=L.take p++ [v0,v1,v2,v3]++L.drop (p+4)
 |0,L,h=>by
  rcases L with _|⟨a0,_|⟨a1,_|⟨a2,_|⟨a3,r⟩⟩⟩⟩ <;>simp at h
  rfl
 |p+1,L,h=>by
  rcases L with _|⟨y,r⟩
  ·simp at h
  ·have ih:=sets4 (v0:=v0) (v1:=v1) (v2:=v2) (v3:=v3) p r (by simpa using h);rw [show p+1+1=(p+1)+1 from rfl,show p+1+2=(p+2)+1 by omega,show p+1+3=(p+3)+1 by omega,show p+1+4=(p+4)+1 by omega];simp only [List.set_cons_succ,List.take_succ_cons,List.drop_succ_cons,List.cons_append];rw [ih]
theorem ownR_store {W:World} {base g cap n:Nat} {l:List RegD} (h:ownR W base g cap n l) (i:Nat) (hi:i < l.length) (x:RegD):ownR (((((W).setCell ⟨g,i*4,none⟩ (.string x.node.a)).setCell ⟨g,i*4+1,none⟩ (.int .i64 x.node.n)).setCell ⟨g,i*4+2,none⟩ (.string x.field)).setCell ⟨g,i*4+3,none⟩ (.slice x.w.a x.w.len x.w.cap)) base g cap n (l.set i x):=by
 have hq1:=(h.stored (i*4) (.string x.node.a)).1;have hq2:=(hq1.stored (i*4+1) (.int .i64 x.node.n)).1;have hq3:=(hq2.stored (i*4+2) (.string x.field)).1;have hq4:=(hq3.stored (i*4+3) (.slice x.w.a x.w.len x.w.cap)).1;have hf:=Lay.flat_set regY l i x hi;have hlen:(regY.flat l).length=l.length*4:=regY.flat_length l;rw [sets4 (i*4) (regY.flat l) (by omega)]at hq4;have e:(regY.flat l).take (i*4)++ [(.string x.node.a),(.int .i64 x.node.n),(.string x.field),(.slice x.w.a x.w.len x.w.cap)]++(regY.flat l).drop (i*4+4)=regY.flat (l.set i x):=hf;rw [e]at hq4;exact hq4
theorem belowR_store {W w:World} {B g:Nat} (h:Below B w W) (hg:B≤g) (i:Nat) (x:RegD):Below B w (((((W).setCell ⟨g,i*4,none⟩ (.string x.node.a)).setCell ⟨g,i*4+1,none⟩ (.int .i64 x.node.n)).setCell ⟨g,i*4+2,none⟩ (.string x.field)).setCell ⟨g,i*4+3,none⟩ (.slice x.w.a x.w.len x.w.cap)):=
 (Below.setCell (Below.setCell (Below.setCell (Below.setCell h (p:=⟨g,i*4,none⟩) hg _) (p:=⟨g,i*4+1,none⟩) hg _) (p:=⟨g,i*4+2,none⟩) hg _) (p:=⟨g,i*4+3,none⟩) hg _)
theorem ownR_drew {W:World} {base g cap n:Nat} {l:List RegD} (h:ownR W base g cap n l):ownR W.drew base g cap n l:=h
theorem ownR_drewN {W:World} {base g cap n:Nat} {l:List RegD} (h:ownR W base g cap n l) (q:Nat):ownR (W.drewN q) base g cap n l:=h
set_option maxRecDepth 100000 in
theorem insRg (gf:FuncId) (hc:CmpR gf) (heg:∀(a:Array Value) (W:World),Sem.run Tryz.prog (callFunc gf a) W=.ok (.enter gf a) W)
  (a b n cap g base:Nat) (l:List RegD) (w:World) (hl:l.length=n) (hn:n≤1000000) (hab:a≤b) (hbn:b≤n) (hv:ownR w base g cap n l) (hbase:base≤w.heap.size):
  Calls Tryz.prog 103 #[.slice (some ⟨g,0,none⟩) n cap,.int .i64 a,.int .i64 b,.func (.func gf) #[] #[]] w fun e w'=>e=.returned (.tuple #[])∧(∃m:List RegD,m.length=n∧ownR w' base g cap n m)∧Below base w w':=by
 have HC:=zz hc;have HGB:=zz (show base≤g from(World.ownsRow.lt hv g (by simp [Value.ownBlock])).1);have HV:=zz hv;have HLN:=zz hl;clear hc hv hl;go_enter Tryz.func103,Tryz.ntmps103
 go_wp2_with fail
 go_loopg [8] (b - (a+1)) (fun gn t8 wr=>∃(i:Nat) (m:List RegD),t8=.int .i64 i∧i+gn=max b (a+1)∧a+1≤i∧m.length=n∧ownR wr base g cap n m∧Below base w wr)
 case atStart=>exact⟨a+1,l,by go_num,by omega,Nat.le_refl _,HLN.out,HV.out,Below.refl _ _⟩
 case round=>
  obtain⟨G,rfl⟩:∃G,G=gk:=⟨_,rfl⟩;obtain⟨i,m,rfl,hi,hai,hm,hown,hbel⟩:=hrel;have HOW:=zz hown;have HB:=zz hbel;have HI:=zz hi;have HM:=zz hm;clear hown hbel hi hm
  by_cases h0:i < b
  ·have h0z:(i:Int) < (b:Int):=by omega
   go_wp2_with fail
   go_loopg [9] i (fun gm t9 wq=>∃(m2:List RegD),t9=.int .i64 gm∧a≤gm∧gm≤i∧m2.length=n∧ownR wq base g cap n m2∧Below base w wq)
   case atStart=>exact⟨m,rfl,by omega,Nat.le_refl _,HM.out,HOW.out,HB.out⟩
   case round=>
    obtain⟨G2,rfl⟩:∃G2,G2=gk:=⟨_,rfl⟩;obtain⟨m2,rfl,ha2,hi2,hm2,hown2,hbel2⟩:=hrel;have HOW2:=zz hown2;have HB2:=zz hbel2;have HM2:=zz hm2;clear hown2 hbel2 hm2
    by_cases hgt:a < G2
    ·obtain⟨k,rfl⟩:∃k,G2=k+1:=⟨G2 - 1,by omega⟩;obtain⟨x,hx⟩:∃x,x=m2.getD (k+1) dRg:=⟨_,rfl⟩;obtain⟨y,hy⟩:∃y,y=m2.getD k dRg:=⟨_,rfl⟩;have hx1:m2[k+1]? =some x:=by rw [hx];exact getQ_at (by have:=HM2.out;omega)
     have hy1:m2[k]? =some y:=by rw [hy];exact getQ_at (by have:=HM2.out;omega)
     have HXY:=zz (And.intro hx hy);have HX1:=zz (And.intro hx1 hy1);clear hx hy hx1 hy1;have hcall:=zz (fun W=>HC.out x y W);have d1:decide ((a:Int) < (k:Int)+1)=true:=by simp;omega
     have hk1:(k:Int)+1 < (n:Int):=by omega
     have hk0:(k:Int) < (n:Int):=by omega
     have hk0n:k < n:=by omega
     have hk1n:k+1 < n:=by omega
     have hk2:(0:Int)≤(k:Int)+1:=by omega
     have hw1:IntKind.i64.wrap (k:Int)=(k:Int):=i64wS _ (by omega) (by omega);obtain⟨c0,c1,c2,c3⟩:=ownR_cells HOW2.out HX1.out.1;obtain⟨e0,e1,e2,e3⟩:=ownR_cells HOW2.out HX1.out.2
     go_wp2_with fail
     go_region_held3 (fun w'=>w'.cell? ⟨g,(k+1)*4,none⟩=some (.string x.node.a)∧w'.cell? ⟨g,(k+1)*4+1,none⟩=some (.int .i64 x.node.n)∧w'.cell? ⟨g,(k+1)*4+2,none⟩=some (.string x.field)∧w'.cell? ⟨g,(k+1)*4+3,none⟩=some (.slice x.w.a x.w.len x.w.cap)∧w'.cell? ⟨g,k*4,none⟩=some (.string y.node.a)∧w'.cell? ⟨g,k*4+1,none⟩=some (.int .i64 y.node.n)∧w'.cell? ⟨g,k*4+2,none⟩=some (.string y.field)∧w'.cell? ⟨g,k*4+3,none⟩=some (.slice y.w.a y.w.len y.w.cap)) (first|go_keep|exact⟨keep1 hb1 c0,keep1 hb1 c1,keep1 hb1 c2,keep1 hb1 c3,keep1 hb1 e0,keep1 hb1 e1,keep1 hb1 e2,keep1 hb1 e3⟩)
      (first
       |(refine(hcall.out _).mono ?_;rintro e w1 ⟨rfl,hb1⟩))
     have hbel1:Below base w w1:=HB2.out.trans ((Below_drew_left' hb1).mono (Nat.le_trans hbase HB2.out.size));have hown1:ownR w1 base g cap n m2:=ownsRow_below (w:=wr.drew) HOW2.out hb1;have HB1:=zz hbel1;have HO1:=zz hown1;clear c0 c1 c2 c3 e0 e1 e2 e3;clear hb1 hbel1 hown1
     by_cases hlt:cmpS x.field y.field < 0
     ·have d2:decide (cmpS x.field y.field < 0)=true:=by simpa using hlt
      obtain⟨c0,c1,c2,c3⟩:=ownR_cells HO1.out HX1.out.1;obtain⟨e0,e1,e2,e3⟩:=ownR_cells HO1.out HX1.out.2;have f0:=World.ownsRow.frozenAt HO1.out ((k+1)*4);have f1:=World.ownsRow.frozenAt HO1.out ((k+1)*4+1);have f2:=World.ownsRow.frozenAt HO1.out ((k+1)*4+2);have f3:=World.ownsRow.frozenAt HO1.out ((k+1)*4+3);have f4:=World.ownsRow.frozenAt HO1.out (k*4);have f5:=World.ownsRow.frozenAt HO1.out (k*4+1);have f6:=World.ownsRow.frozenAt HO1.out (k*4+2);have f7:=World.ownsRow.frozenAt HO1.out (k*4+3)
      go_wp2_with fail
      go_region
      all_goals go_wp2
      all_goals clear c0 c1 c2 c3 e0 e1 e2 e3
      all_goals clear f0 f1 f2 f3 f4 f5 f6 f7
      all_goals clear hw1 hcall
      all_goals go_roundg k
      case rel=>
       have hlk:k < m2.length:=by rw [HM2.out];exact hk0n
       have hlk1:k+1 < m2.length:=by rw [HM2.out];exact hk1n
       refine⟨swapQ m2 (k+1) k,rfl,Nat.le_of_lt_succ hgt,Nat.le_of_succ_le hi2,by rw [swapQ_len];exact HM2.out,?_,?_⟩
       ·unfold swapQ;rw [←HXY.out.1,←HXY.out.2]
        with_reducible exact ownR_drew (ownR_store (ownR_store HO1.out (k+1) hlk1 y) k (by rw [List.length_set];exact hlk) x)
       ·with_reducible exact(belowR_store (belowR_store HB1.out HGB.out (k+1) y) HGB.out k x).drew
      case measure=>exact Nat.lt_succ_self k
     ·have d2:decide (cmpS x.field y.field < 0)=false:=by simpa using hlt
      have hlt2:0≤cmpS x.field y.field:=Int.not_lt.1 hlt;have hI2:i+1+(G - 1)=max b (a+1)∧a+1≤i+1∧G - 1 < G∧G=G - 1+1:=by have:=HI.out;omega
      clear hlt hw1 hcall
      go_wp2_with fail
      go_roundg (G - 1)
      case rel=>exact⟨i+1,m2,by go_num,hI2.1,hI2.2.1,HM2.out,HO1.out,HB1.out⟩
      case measure=>exact hI2.2.2.1
    ·obtain rfl:G2=a:=by omega
     have d1:decide ((G2:Int) < (G2:Int))=false:=by simp
     have hI2:i+1+(G - 1)=max b (G2+1)∧G2+1≤i+1∧G - 1 < G∧G=G - 1+1:=by have:=HI.out;omega
     go_wp2_with fail
     go_quiet (fail)
     go_wp2_with fail
     go_roundg (G - 1)
     case rel=>exact⟨i+1,m2,by go_num,hI2.1,hI2.2.1,HM2.out,ownR_drewN HOW2.out _,Below_drewN HB2.out _⟩
     case measure=>exact hI2.2.2.1
  ·have d1:decide ((i:Int) < (b:Int))=false:=by simp;omega
   have hG:G=0:=by have:=HI.out;omega
   go_wp2_with fail
   go_end0
   exact⟨rfl,⟨m,HM.out,HOW.out⟩,HB.out⟩
theorem stableRg (gf:FuncId) (hc:CmpR gf) (heg:∀(a:Array Value) (W:World),Sem.run Tryz.prog (callFunc gf a) W=.ok (.enter gf a) W) (n cap g base:Nat) (l:List RegD) (w:World) (hl:l.length=n) (hn:n≤20) (hv:ownR w base g cap n l) (hbase:base≤w.heap.size):
  Calls Tryz.prog 60 #[.slice (some ⟨g,0,none⟩) n cap,.int .i64 n,.func (.func gf) #[] #[]] w fun e w'=>e=.returned (.tuple #[])∧(∃m:List RegD,m.length=n∧ownR w' base g cap n m)∧Below base w w':=by
 have H:=zz (fun(a b:Nat) (hab:a≤b) (hb:b≤n) (l:List RegD) (W:World) (h1:l.length=n) (h2:ownR W base g cap n l) (h3:base≤W.heap.size)=>insRg gf hc heg a b n cap g base l W h1 (by omega) hab hb h2 h3);have HV:=zz (And.intro hl hv);have hd2:decide ((20:Int) < (n:Int))=false:=by simp;omega
 clear hl hv hc;go_enter Tryz.func60,Tryz.ntmps60
 go_wp2;refine wp_loop_rounds 2 ?_;rw [rounds_succ]
 by_cases h20:n=20
 ·subst h20
  go_wp2_with fail
  refine(H.out 0 20 (by omega) (by omega) l w HV.out.1 HV.out.2 hbase).mono ?_;rintro e w1 ⟨rfl,⟨m1,hm1,ho1⟩,hb1⟩;have HO1:=zz (And.intro hm1 (And.intro ho1 hb1));clear hm1 ho1 hb1;go_wp2;rw [rounds_succ]
  go_wp2_with fail
  refine(H.out 20 20 (by omega) (by omega) m1 w1 HO1.out.1 HO1.out.2.1 (Nat.le_trans hbase HO1.out.2.2.size)).mono ?_;rintro e w2 ⟨rfl,⟨m2,hm2,ho2⟩,hb2⟩;have HO2:=zz (And.intro hm2 (And.intro ho2 hb2));clear hm2 ho2 hb2;go_wp2;refine wp_loop_rounds 1 ?_;rw [rounds_succ];go_wp2;go_end0
  exact⟨rfl,⟨m2,HO2.out.1,HO2.out.2.1⟩,HO1.out.2.2.trans HO2.out.2.2⟩
 ·have hd:decide ((20:Int)≤(n:Int))=false:=by simp;omega
  go_wp2_with fail
  refine(H.out 0 n (by omega) (by omega) l w HV.out.1 HV.out.2 hbase).mono ?_;rintro e w1 ⟨rfl,⟨m1,hm1,ho1⟩,hb1⟩;have HO1:=zz (And.intro hm1 (And.intro ho1 hb1));clear hm1 ho1 hb1;go_wp2;refine wp_loop_rounds 1 ?_;rw [rounds_succ];go_wp2;go_end0
  exact⟨rfl,⟨m1,HO1.out.1,HO1.out.2.1⟩,HO1.out.2.2⟩
theorem sortRg (gf:FuncId) (hc:CmpR gf) (heg:∀(a:Array Value) (W:World),Sem.run Tryz.prog (callFunc gf a) W=.ok (.enter gf a) W) (n cap g base:Nat) (l:List RegD) (w:World) (hl:l.length=n) (hn:n≤20) (hv:ownR w base g cap n l) (hbase:base≤w.heap.size):
  Calls Tryz.prog 30 #[.slice (some ⟨g,0,none⟩) n cap,.func (.func gf) #[] #[]] w fun e w'=>e=.returned (.tuple #[])∧(∃m:List RegD,m.length=n∧ownR w' base g cap n m)∧Below base w w':=by
 have H:=zz (stableRg gf hc heg n cap g base l w hl hn hv hbase);clear hl hv hc;go_enter Tryz.func30,Tryz.ntmps30
 go_wp2_with fail
 refine(H.out).mono ?_;rintro e w1 ⟨rfl,hm,hb⟩;have HQ:=zz (And.intro hm hb);clear hm hb;go_wp2;go_end0
 exact⟨rfl,HQ.out.1,HQ.out.2⟩
theorem cmpFields_any (x y:RegD) (w:World):Calls Tryz.prog 31 #[.agg (regV x).toArray,.agg (regV y).toArray] w fun e w'=>e=.returned (.int .i64 (cmpS x.field y.field))∧Below w.heap.size w w':=by
 have BL:=((Below.refl w.heap.size w).alloc (Nat.le_refl _) (.cells (regV x).toArray 48)).alloc (by simp) (.cells (regV y).toArray 48);have R1:((w.alloc (.cells (regV x).toArray 48)).alloc (.cells (regV y).toArray 48)).heap[w.heap.size]? =_:=zo _ _ _ _ (zg _ _ _ rfl);have R2:((w.alloc (.cells (regV x).toArray 48)).alloc (.cells (regV y).toArray 48)).heap[w.heap.size+1]? =_:=zg _ _ _ (by simp);have x2:=zc _ _ 2 _ _ _ R1;have y2:=zc _ _ 2 _ _ _ R2;have HB:=zz BL;clear BL R1 R2;unfold regV at*
 go_enter Tryz.func31,Tryz.ntmps31
 go_wp2_with fail
 refine(strcmp_any x.field y.field _).mono ?_;rintro e w1 ⟨rfl,rfl⟩;go_wp2;go_ret
 exact⟨rfl,HB.out⟩
def kindOf (N:List TnD) (x:IdD):ByteArray:=match N.find? (fun t=>eqId t.node x)with|some t=>t.kind|none=>⟨#[]⟩
def isPar (N:List TnD) (x:IdD):Bool:=kindOf N x==kP
def isGrp (N:List TnD) (x:IdD):Bool:=kindOf N x==kG
def isFea (N:List TnD) (x:IdD):Bool:=!(isPar N x)&&!(isGrp N x)
theorem find_first {E:Type} (p:E→Bool):∀(l:List E) (i:Nat) (x:E),l[i]? =some x→p x=true→(∀y∈l.take i,p y=false)→l.find? p=some x
 | [],i,x,h,_,_=>by simp at h
 |y::r,0,x,h,hp,_=>by
  simp at h;subst h;rw [List.find?_cons_of_pos hp]
 |y::r,i+1,x,h,hp,hn=>by
  have h0:p y=false:=hn y (by simp);rw [List.find?_cons_of_neg (by rw [h0];simp)];exact find_first p r i x (by simpa using h) hp (fun z hz=>hn z (by simp [hz]))
theorem node_at (N:List TnD) (x:IdD) (hx:∃t∈N,t.node=x):∃(i:Nat) (t:TnD),idxL (fun t:TnD=>eqId t.node x) N 0=(i:Int)∧N[i]? =some t∧t.node=x∧kindOf N x=t.kind:=by
 rcases idxL_spec (fun t:TnD=>eqId t.node x) N 0 with⟨_,h2⟩|⟨i,t,h1,h2,h3,h4⟩
 ·obtain⟨t,ht,he⟩:=hx;have:=h2 t ht;rw [(eqId_iff _ _).2 he]at this;cases this
 ·refine⟨i,t,by rw [h1];congr 1;omega,h2,(eqId_iff _ _).1 h3,?_⟩;unfold kindOf;rw [find_first _ N i t h2 h3 h4]
def kindF:List TnD→Nat→List MapEntry
 | [],_=> []
 |t::r,i=>⟨idA t.node,.string t.kind,i⟩::kindF r (i+1)
theorem kindF_snoc (t:TnD):∀(l:List TnD) (i:Nat),kindF (l++ [t]) i=kindF l i++ [⟨idA t.node,.string t.kind,i+l.length⟩]
 | [],i=>by simp [kindF]
 |x::r,i=>by simp [kindF,kindF_snoc t r (i+1),Nat.add_assoc,Nat.add_comm 1]
def kindT (l:List TnD):Array MapEntry:=(kindF l 0).toArray
theorem kindT_snoc (l:List TnD) (t:TnD):kindT (l++ [t])=(kindT l).push ⟨idA t.node,.string t.kind,l.length⟩:=by
 unfold kindT;rw [kindF_snoc];simp
theorem find_kno (x:IdD) (w:World):∀(l:List TnD) (i j:Nat),(∀t∈l,t.node≠x)→(Instr.findAsking 38 (idA x) (kindF l i) j).run Tryz.prog w=.ok none w
 | [],_,_,_=>by simp [kindF,Instr.findAsking]
 |t::l,i,j,h=>by
  have h1:eqId x t.node=false:=by
   cases he:eqId x t.node with
   |false=>rfl
   |true=>exact absurd ((eqId_iff x t.node).1 he).symm (h t List.mem_cons_self)
  have ih:=find_kno x w l (i+1) (j+1) (fun z hz=>h z (List.mem_cons_of_mem _ hz));simp [kindF,Instr.findAsking,eq38,h1,ih,Result.andThen]
theorem find_kyes (x:IdD):∀(l:List TnD) (i j:Nat),(∃t∈l,t.node=x)→∃k,∀w,(Instr.findAsking 38 (idA x) (kindF l i) j).run Tryz.prog w=.ok (some (k,.string (kindOf l x))) w
 | [],_,_,h=>by obtain⟨t,ht,_⟩:=h;cases ht
 |t::l,i,j,h=>by
  cases he:eqId x t.node with
  |true=>
   have h2:eqId t.node x=true:=by rw [(eqId_iff _ _).1 he];exact(eqId_iff _ _).2 rfl
   have h3:kindOf (t::l) x=t.kind:=by unfold kindOf;rw [List.find?_cons_of_pos (p:=fun t:TnD=>eqId t.node x) h2]
   exact⟨j,fun w=>by rw [h3];simp [kindF,Instr.findAsking,eq38,he,Result.andThen]⟩
  |false=>
   have h2:eqId t.node x=false:=by
    cases he2:eqId t.node x with
    |false=>rfl
    |true=>rw [(eqId_iff _ _).1 he2,(eqId_iff x x).2 rfl]at he;cases he
   have h3:kindOf (t::l) x=kindOf l x:=by unfold kindOf;rw [List.find?_cons_of_neg (p:=fun t:TnD=>eqId t.node x) (by rw [h2];simp)]
   obtain⟨u,hu,hx⟩:=h
   have hx2:∃t∈l,t.node=x:=by
    rcases List.mem_cons.1 hu with h1|h1
    ·subst h1;rw [(eqId_iff _ _).2 hx]at h2;cases h2
    ·exact⟨u,h1,hx⟩
   obtain⟨k,hk⟩:=find_kyes x l (i+1) (j+1) hx2;exact⟨k,fun w=>by rw [h3];simp [kindF,Instr.findAsking,eq38,he,hk,Result.andThen]⟩
theorem kind_no {l:List TnD} {x:IdD} (h:∀t∈l,t.node≠x) (w:World):(Instr.findKey 38 (.agg #[.string x.a,.int .i64 x.n]) (kindT l).toList).run Tryz.prog w=.ok none w:=
 (findKey38 x (kindF l 0) w).trans (find_kno x w l 0 0 h)
theorem kind_yes {l:List TnD} {x:IdD} (h:∃t∈l,t.node=x):∃k,∀w,(Instr.findKey 38 (.agg #[.string x.a,.int .i64 x.n]) (kindT l).toList).run Tryz.prog w=.ok (some (k,.string (kindOf l x))) w:=by
 obtain⟨k,hk⟩:=find_kyes x l 0 0 h;exact⟨k,fun w=>(findKey38 x (kindF l 0) w).trans (hk w)⟩
theorem nodup_take {N:List TnD} (h:(N.map (·.node)).Nodup) {i:Nat} {t:TnD} (ht:N[i]? =some t):∀s∈N.take i,s.node≠t.node:=by
 intro s hs he;obtain⟨j,hj,hjs⟩:=List.mem_take_iff_getElem.1 hs;have h1:(N.map (·.node))[j]? =some t.node:=by rw [List.getElem?_map,List.getElem?_eq_getElem (by omega)];simp [hjs,he]
 have h2:(N.map (·.node))[i]? =some t.node:=by rw [List.getElem?_map,ht];rfl
 have h3:=(List.getElem?_inj (by have:=(List.getElem?_eq_some_iff.1 h1).1;exact this) h).1 (h1.trans h2.symm);omega
theorem noPG (N:List TnD) (x:IdD) (h:isPar N x=true):isGrp N x=false:=by
 unfold isPar at h;unfold isGrp;have e:kindOf N x=kP:=(MapKept.bytes_beq _ _).1 h;rw [e]
 decide
theorem count3 (N:List TnD):∀l:List IdD,(l.filter (isGrp N)).length+(l.filter (isPar N)).length+(l.filter (isFea N)).length=l.length
 | []=>rfl
 |x::l=>by
  have ih:=count3 N l;have hn:=noPG N x;have e:∀p:IdD→Bool,((x::l).filter p).length=(l.filter p).length+(if p x then 1 else 0):=fun p=>by cases hp:p x <;>simp [hp]
  rw [e,e,e,List.length_cons];have hf:isFea N x=(!(isPar N x)&&!(isGrp N x)):=rfl;rw [hf];cases hp:isPar N x <;>cases hg:isGrp N x <;>simp [hp,hg]at hn⊢ <;>omega
theorem filter_at {E:Type} (p:E→Bool) (l:List E) (i:Nat) (x:E) (h:l[i]? =some x) (hp:p x=true):(l.filter p)[((l.take i).filter p).length]? =some x:=by
 have h1:l=l.take i++x::l.drop (i+1):=by
  have hi:=(List.getElem?_eq_some_iff.1 h).1;have h2:=(List.getElem?_eq_some_iff.1 h).2
  conv=>lhs;rw [←List.take_append_drop i l,List.drop_eq_getElem_cons hi,h2]
 conv=>lhs;rw [h1]
 rw [List.filter_append,List.filter_cons_of_pos hp];have ht:(l.take i++x::l.drop (i+1)).take i=l.take i:=by rw [←h1]
 rw [ht,List.getElem?_append_right (Nat.le_refl _),Nat.sub_self];rfl
theorem cnt_step {E:Type} (p:E→Bool) (l:List E) (i:Nat) (x:E) (h:l[i]? =some x):((l.take (i+1)).filter p).length=((l.take i).filter p).length+(if p x then 1 else 0):=by
 rw [list_snoc l i x h,List.filter_append,List.length_append];cases hp:p x <;>simp [hp]
end Go.Proofs.YteigcnamkfebgaaGreatDoor
