import Derived.Test.YteigcnamkfebgaaGreatDoorI
set_option linter.all false
set_option maxHeartbeats 25600000
namespace Go.Proofs.YteigcnamkfebgaaGreatDoor
open Go.RowKit
def Edits (w:World) (v:Value) (E:List EdP):Prop:=edY.Rd w v (E.map (·.d))∧∀e∈E,idY.Rd w e.d.deps.v e.ids∧e.ids.length≤1000000
def regAt (R:List RegP) (e:EdD):Nat:=bs (cK e.node e.field) (R.map keyOfR) 0 R.length
def regThere (R:List RegP) (e:EdD):Bool:=found (cK e.node e.field) (R.map keyOfR) (regAt R e)
def regStep (R:List RegP) (e:EdP):List RegP:=
 if e.d.kind=3 then
  if regThere R e.d then(match R[regAt R e.d]? with|some r=>R.set (regAt R e.d) {r with w:=keptW e.d e.ids r.w++ [newW e.d]}|none=>R)
  else R++ [⟨e.d.node,e.d.field, [newW e.d]⟩]
 else R
def StepOk (R:List RegP) (e:EdP):Prop:=
 e.d.kind=3→(regThere R e.d=false→regAt R e.d=R.length)∧
  (∀r,R[regAt R e.d]? =some r→regThere R e.d=true→bs (fun x=>cmpWr x (newW e.d)) (keptW e.d e.ids r.w) 0 (keptW e.d e.ids r.w).length=(keptW e.d e.ids r.w).length∧r.w.length≤100000)
def regRun (E:List EdP):List RegP:=E.foldl regStep []
theorem regRun_snoc (E:List EdP) (e:EdP):regRun (E++ [e])=regStep (regRun E) e:=by simp [regRun]
theorem regStep_len (R:List RegP) (e:EdP):(regStep R e).length≤R.length+1:=by
 unfold regStep
 split
 ·split
  ·split
   ·rw [List.length_set];omega
   ·omega
  ·simp
 ·omega
theorem regRun_len (E:List EdP):∀k,(regRun (E.take k)).length≤k
 |0=>by simp [regRun]
 |k+1=>by
  have ih:=regRun_len E k
  by_cases hk:k < E.length
  ·rw [List.take_succ_eq_append_getElem hk,regRun_snoc];have:=regStep_len (regRun (E.take k)) E[k];omega
  ·rw [List.take_of_length_le (by omega)]at ih⊢;omega
theorem cloneReg_nil (w:World):Calls Tryz.prog 76 #[.slice none 0 0] w fun e w'=>e=.returned (.slice none 0 0)∧w=w':=by
 have hnil:Sem.run Tryz.prog (binOp .eql 26 (.slice none 0 0) (.slice none 0 0)) w=.ok (.bool true) w:=Lib.run_eql_slice_nil w 26 48 none 0 0 0 0 Tryz.underlying26;go_enter Tryz.func76,Tryz.ntmps76
 go_wp2;go_ret
 exact⟨rfl,rfl⟩
set_option maxRecDepth 100000 in
theorem regApply_any (E:List EdP) (v:Value) (w:World) (hE:Edits w v E) (hl:E.length≤1000) (hok:∀k e,E[k]? =some e→StepOk (regRun (E.take k)) e):
  Calls Tryz.prog 40 #[.slice none 0 0,v] w fun e w'=>∃v',e=.returned v'∧Regs w' w.heap.size v' (regRun E)∧Below w.heap.size w w':=by
 obtain⟨hv,hd⟩:=hE;obtain⟨a,n,c,rfl⟩:=hv.form;have hn:=hv.len;rw [List.length_map]at hn;subst hn;have HV:=zz hv;have HD:=zz hd;have HOK:=zz hok;clear hv hd hok;generalize hn:E.length=n at*
 have HN:=zz hn;clear hn;go_enter Tryz.func40,Tryz.ntmps40
 go_wp2_with(first|(go_at_call 76;refine(cloneReg_nil _).mono ?_;rintro e w1 ⟨rfl,rfl⟩))
 go_loopg [5,15] n (fun gn t5 t15 wr=>∃(k:Nat) (s:SlV),k+gn=n∧t15=.int .i64 k∧t5=.slice s.a s.len s.cap∧Regs wr w.heap.size s.v (regRun (E.take k))∧Below w.heap.size w wr)
 case atStart=>exact⟨0,SlV.nil,by omega,rfl,rfl,⟨[],World.ownsRow_nil _ _ _ _,rfl,fun i d r h=>by simp at h⟩,Below.refl _ _⟩
 case round=>
  obtain⟨k,s,hk,rfl,rfl,hR,hbel⟩:=hrel;have HK:=zz hk;clear hk
  by_cases hlt:k < n
  ·have hx:E[k]? =some (E[k]'(by rw [HN.out];exact hlt)):=List.getElem?_eq_getElem _;generalize E[k]'(by rw [HN.out];exact hlt)=e at hx;have hxd:(E.map (·.d))[k]? =some e.d:=by rw [List.getElem?_map,hx];rfl
   have hr:∃b off cap,a=some ⟨b,off,none⟩∧c=cap∧w.rangeAt b off (edY.flat (E.map (·.d))):=by
    rcases HV.out with⟨h1,h2⟩|⟨b,off,cap,h1,h2,h3⟩
    ·rw [h2]at hxd;cases hxd
    ·simp at h1;exact⟨b,off,cap,h1.1,h1.2.2,h3⟩
   obtain⟨b,off,cap,rfl,rfl,hr⟩:=hr;have hrx:=edY.elem (rangeAt_below hr hbel) k e.d hxd;have hrx2:wr.rangeAt b (off+k*18) (edV e.d):=hrx;unfold edV at hrx2;have HX:=zz hx;have hltZ:(k:Int) < (n:Int):=by omega
   clear hx hxd hr hrx
   by_cases hk3:e.d.kind=3
   ·have hk3':(e.d.kind !=3)=false:=by simp [hk3]
    have HK3:=zz hk3;clear hk3
    go_wp2_with(first
     |refine wpList_load_mid rfl 45 _ rfl b (off+k*18) rfl _ _ hrx2 Tryz.underlying45 rfl (by kernel_rfl) ?_)
    have hbA:Below wr.heap.size wr ((wr.alloc (.cells (edV e.d).toArray 45)).alloc (.cells #[.string e.d.node.a,.int .i64 e.d.node.n,.string e.d.field,.slice none 0 0] 48)):=below2 wr _ _;have hm1:=(box2 (w:=wr) (o:=.cells (edV e.d).toArray 45) (o':=.cells #[.string e.d.node.a,.int .i64 e.d.node.n,.string e.d.field,.slice none 0 0] 48)).1;have hx1:=(box2 (w:=wr) (o:=.cells (edV e.d).toArray 45) (o':=.cells #[.string e.d.node.a,.int .i64 e.d.node.n,.string e.d.field,.slice none 0 0] 48)).2;obtain⟨ds,ho0,hdl,hds0⟩:=hR;have ho:=ownsRow_below ho0 hbA;have hown0:=ho0.lt
    have hds1:∀(i:Nat) (d:RegD) (r:RegP),ds[i]? =some d→(regRun (E.take k))[i]? =some r→d.node=r.node∧d.field=r.field∧wrY.Rd ((wr.alloc (.cells (edV e.d).toArray 45)).alloc (.cells #[.string e.d.node.a,.int .i64 e.d.node.n,.string e.d.field,.slice none 0 0] 48)) d.w.v r.w∧∀a,d.w.a=some a→a.block < wr.heap.size∧s.v.ownBlock≠some a.block:=fun i d r h1 h2=>
     ⟨(hds0 i d r h1 h2).1,(hds0 i d r h1 h2).2.1,(hds0 i d r h1 h2).2.2.1.below hbA,(hds0 i d r h1 h2).2.2.2⟩
    have hbel1:=hbel.trans (hbA.mono hbel.size);change Calls Tryz.prog 77 _ ((wr.alloc (.cells (edV e.d).toArray 45)).alloc (.cells #[.string e.d.node.a,.int .i64 e.d.node.n,.string e.d.field,.slice none 0 0] 48)) _;generalize hW1:((wr.alloc (.cells (edV e.d).toArray 45)).alloc (.cells #[.string e.d.node.a,.int .i64 e.d.node.n,.string e.d.field,.slice none 0 0] 48))=W1 at*
    generalize heb:wr.heap.size=eb at*
    have heb2:w.heap.size≤eb:=by rw [←heb];exact hbel.size
    have HST:=zz (HOK.out k e HX.out HK3.out);have HRL:=zz (regRun_len E k);have HRS:=zz (show regRun (E.take (k+1))=regStep (regRun (E.take k)) e by rw [list_snoc E k e HX.out,regRun_snoc]);generalize regRun (E.take k)=R at*
    clear hW1 heb ho0 hds0 hbel hbA hrx2;have hds:=hds1;clear hds1;rw [←hdl]at ho;have hkeys:=keys_eq hdl (fun i d r h1 h2=>⟨(hds i d r h1 h2).1,(hds i d r h1 h2).2.1⟩);have hle:ds.length≤1000:=by rw [hdl];exact Nat.le_trans HRL.out (by omega)
    refine(bsReg_any ds s.v ⟨e.d.node,e.d.field,SlV.nil⟩ W1 (by omega) (Lay.Rd.of_owns (Y:=regY) ho)).mono ?_;rintro e1 w2 ⟨r,hr,hrl,rfl,hb2⟩
    have hr':r=regAt R e.d:=by
     rw [hr]
     show bs (fun d=>cK e.d.node e.d.field (keyOfD d)) ds 0 ds.length=_
     rw [bs_map keyOfD,hkeys,hdl];rfl
    have hf:found (fun d=>cmpReg d ⟨e.d.node,e.d.field,SlV.nil⟩) ds r=regThere R e.d:=by
     show found (fun d=>cK e.d.node e.d.field (keyOfD d)) ds r=_
     rw [found_map keyOfD,hkeys,hr'];rfl
    rw [hf];clear hr hf hkeys;have hm2:=(hb2.block _ (zl hm1)).trans hm1;have hx2:=(hb2.block _ (zl hx1)).trans hx1;have ho2:=ownsRow_below ho hb2
    have hds2:∀(i:Nat) (d:RegD) (r:RegP),ds[i]? =some d→R[i]? =some r→d.node=r.node∧d.field=r.field∧wrY.Rd w2 d.w.v r.w∧∀a,d.w.a=some a→a.block < eb∧s.v.ownBlock≠some a.block:=fun i d r h1 h2=>
     ⟨(hds i d r h1 h2).1,(hds i d r h1 h2).2.1,(hds i d r h1 h2).2.2.1.below hb2,(hds i d r h1 h2).2.2.2⟩
    have hbel2:Below w.heap.size w w2:=hbel1.trans (hb2.mono hbel1.size);have HDS:=zz hds2;clear hds hds2 ho hm1 hx1 hbel1 hb2;have x3:w2.cell? ⟨eb+1,3,none⟩=some (.slice none 0 0):=by rw [zc _ _ 3 _ _ _ hx2];rfl
    have f3:w2.frozen? ⟨eb+1,3,none⟩=false:=frozen_of_row w2 (eb+1) 3 _ _ hx2;have lx:=zl hx2
    cases hth:regThere R e.d with
    |true=>
     obtain⟨rr,hrr⟩:∃rr,R[r]? =some rr:=by
      unfold regThere found at hth;rw [←hr',List.getElem?_map]at hth
      cases hq:R[r]? with
      |none=>rw [hq]at hth;simp at hth
      |some rr=>exact⟨rr,rfl⟩
     have hrlt:r < R.length:=(List.getElem?_eq_some_iff.1 hrr).1;obtain⟨d,hd⟩:∃d,ds[r]? =some d:=⟨_,List.getElem?_eq_getElem (by omega)⟩
     obtain⟨g,cap,hsv,hnc⟩:∃g cap,s.v=.slice (some ⟨g,0,none⟩) ds.length cap∧ds.length≤cap:=by
      rcases ho2.2 with⟨_,h0⟩|⟨g,cap,cur,h1,_,_,h2,_⟩
      ·omega
      ·exact⟨g,cap,h1,h2⟩
     obtain⟨sa,sl,sc⟩:=s;simp only [SlV.v,Value.slice.injEq]at hsv;obtain⟨rfl,rfl,rfl⟩:=hsv;simp only [SlV.v]at ho2 HDS;have hre:=regY.elem (ownsRow_rangeAt ho2) r d hd
     have k3:w2.cell? ⟨g,r*4+3,none⟩=some (.slice d.w.a d.w.len d.w.cap):=by
      have:=hre 3 _ rfl
      rwa [Nat.zero_add]at this
     have hrZ:(r:Int) < (ds.length:Int):=by omega
     have HRA:=zz hr';have HDL:=zz hdl;have HRR:=zz hrr;have HDD:=zz hd;have HTH:=zz hth;have hgeb:g < eb∧w.heap.size≤g:=⟨(hown0 g (by simp [SlV.v,Value.ownBlock])).2,(hown0 g (by simp [SlV.v,Value.ownBlock])).1⟩;clear hre hr' hdl hrr hd hth hrl hrlt hown0;generalize hnd:ds.length=nd at*
     have HND:=zz hnd;clear hnd;have hm3:(w2.setCell ⟨eb+1,3,none⟩ (.slice d.w.a d.w.len d.w.cap)).heap[eb]? =some (.cells (edV e.d).toArray 45 (0,0)):=(heap_setCell_other _ _ _ _ (by simp)).trans hm2
     go_wp2_with(first
      |refine wpList_load_row rfl 45 _ rfl eb rfl 45 _ (0,0) _ hm3 Tryz.underlying45 rfl (by kernel_rfl) ?_)
     have hg3:w2.grownBy (w2.setCell ⟨eb+1,3,none⟩ (.slice d.w.a d.w.len d.w.cap)) (some (eb+1)):=⟨rfl,rfl,rfl,by simp,fun k _ hk=>heap_setCell_other w2 ⟨eb+1,3,none⟩ k _ (fun e=>hk (by simp [e]))⟩;have ho3:=ho2.kept hg3 (by right;simp [Value.ownBlock];omega);have hbel3:Below w.heap.size w (w2.setCell ⟨eb+1,3,none⟩ (.slice d.w.a d.w.len d.w.cap)):=hbel2.setCell (by simp;omega) _;have hsz3:(w2.setCell ⟨eb+1,3,none⟩ (.slice d.w.a d.w.len d.w.cap)).heap.size=w2.heap.size:=by simp
     change Calls Tryz.prog 80 _ (w2.setCell ⟨eb+1,3,none⟩ (.slice d.w.a d.w.len d.w.cap)) _;generalize w2.setCell ⟨eb+1,3,none⟩ (.slice d.w.a d.w.len d.w.cap)=W3 at*
     have hds3:∀(i:Nat) (d:RegD) (r:RegP),ds[i]? =some d→R[i]? =some r→d.node=r.node∧d.field=r.field∧wrY.Rd W3 d.w.v r.w∧∀a,d.w.a=some a→a.block < eb∧(Value.slice (some ⟨g,0,none⟩) nd sc).ownBlock≠some a.block:=fun i d' r h1 h2=>by
      obtain⟨q1,q2,q3,q4⟩:=HDS.out i d' r h1 h2;exact⟨q1,q2,q3.away hg3 (fun a ha e=>by have:=(q4 a ha).1;simp at e;omega),q4⟩
     obtain⟨_,_,hrd,_⟩:=hds3 r d rr HDD.out HRR.out;have hst:=HST.out.2 rr (by rw [←HRA.out];exact HRR.out) HTH.out;have hidv:=HD.out e (List.mem_of_getElem? HX.out);have hW3e:eb+1 < W3.heap.size:=by omega
     refine(written_any rr.w (.slice d.w.a d.w.len d.w.cap) e.d e.ids W3 hst.2 hrd (hidv.1.below hbel3) hidv.2 hst.1).mono ?_;rintro e2 w6 ⟨v6,rfl,hown6,hb6⟩;have hbel6:Below w.heap.size w w6:=hbel3.trans (hb6.mono hbel3.size);have ho6:=ownsRow_below ho3 hb6;have hlt6:=hown6.lt
     obtain⟨s6,hs6⟩:∃s:SlV,v6=.slice s.a s.len s.cap:=by
      obtain⟨a,n,c,rfl⟩:=(Lay.Rd.of_owns (Y:=wrY) (l:=keptW e.d e.ids rr.w++ [newW e.d]) (by rw [List.length_append];exact hown6)).form;exact⟨⟨a,n,c⟩,rfl⟩
     subst hs6;have hrd6:wrY.Rd w6 s6.v (keptW e.d e.ids rr.w++ [newW e.d]):=Lay.Rd.of_owns (Y:=wrY) (by rw [List.length_append];exact hown6)
     have hap6:∀a,s6.a=some a→a.block < w6.heap.size∧a.block≠g:=fun a ha=>by
      have:=hlt6 a.block (by simp [Value.ownBlock,ha]);omega
     have hR6:Regs w6 w.heap.size (.slice (some ⟨g,0,none⟩) nd sc) R:=⟨ds,by rw [←HDL.out];exact ho6,by rw [HND.out];exact HDL.out,fun i d' r' h1 h2=>by
      obtain⟨q1,q2,q3,q4⟩:=hds3 i d' r' h1 h2
      exact⟨q1,q2,q3.below hb6,fun a ha=>⟨by have:=(q4 a ha).1;have:=hb6.size;omega,(q4 a ha).2⟩⟩⟩
     have HR7:=zz (hR6.set HRR.out hrd6 hap6)
     have k6:w6.cell? ⟨g,r*4+3,none⟩=some (.slice d.w.a d.w.len d.w.cap):=by
      have:=(regY.elem (ownsRow_rangeAt ho6) r d HDD.out) 3 _ rfl
      rwa [Nat.zero_add]at this
     have f6:w6.frozen? ⟨g,r*4+3,none⟩=false:=ho6.frozenAt _;clear hR6 hrd6 hap6 hlt6 hown6 ho6 hb6 hds3 ho3 hg3 hbel3 hrd hst hidv hm3 k3 x3 f3 hm2 hx2 ho2 hbel2 lx hsz3 hW3e;go_wp2
     go_roundg (n - 1 - k)
     case rel=>
      refine⟨k+1,⟨some ⟨g,0,none⟩,nd,sc⟩,by omega,by go_num,rfl,?_,hbel6.setCell (by simp;omega) _⟩;rw [HRS.out]
      have e9:regStep R e=R.set r {rr with w:=keptW e.d e.ids rr.w++ [newW e.d]}:=by
       unfold regStep;rw [if_pos HK3.out,if_pos HTH.out,←HRA.out,HRR.out]
      rw [e9];exact HR7.out
     case measure=>have:=HK.out;omega
    |false=>
     have hrR:r=ds.length:=by rw [hr',hdl];exact HST.out.1 hth
     subst hrR;have HRA:=zz hr';have HDL:=zz hdl;have HTH:=zz hth;have HOWN:=zz hown0;have x0:w2.cell? ⟨eb+1,0,none⟩=some (.string e.d.node.a):=by rw [zc _ _ 0 _ _ _ hx2];rfl
     have x1:w2.cell? ⟨eb+1,1,none⟩=some (.int .i64 e.d.node.n):=by rw [zc _ _ 1 _ _ _ hx2];rfl
     have x2:w2.cell? ⟨eb+1,2,none⟩=some (.string e.d.field):=by rw [zc _ _ 2 _ _ _ hx2];rfl
     clear hr' hdl hth hrl hown0 f3
     go_wp2_with fail
     have hoA:=ho2.alloc (.cells #[.string e.d.node.a,.int .i64 e.d.node.n,.string e.d.field,.slice none 0 0] 48);have hbA:Below w2.heap.size w2 (w2.alloc (.cells #[.string e.d.node.a,.int .i64 e.d.node.n,.string e.d.field,.slice none 0 0] 48)):=(Below.refl _ _).alloc (Nat.le_refl _) _;have hmA:=zo _ _ (.cells #[.string e.d.node.a,.int .i64 e.d.node.n,.string e.d.field,.slice none 0 0] 48) _ hm2;have hxA:=zo _ _ (.cells #[.string e.d.node.a,.int .i64 e.d.node.n,.string e.d.field,.slice none 0 0] 48) _ hx2;have hqA:=zg w2 (.cells #[.string e.d.node.a,.int .i64 e.d.node.n,.string e.d.field,.slice none 0 0] 48) w2.heap.size rfl;have hbelA:=hbel2.trans (hbA.mono hbel2.size);have hsA:(w2.alloc (.cells #[.string e.d.node.a,.int .i64 e.d.node.n,.string e.d.field,.slice none 0 0] 48)).heap.size=w2.heap.size+1:=by simp
     have hdsA:∀(i:Nat) (d:RegD) (r:RegP),ds[i]? =some d→R[i]? =some r→d.node=r.node∧d.field=r.field∧wrY.Rd (w2.alloc (.cells #[.string e.d.node.a,.int .i64 e.d.node.n,.string e.d.field,.slice none 0 0] 48)) d.w.v r.w∧∀a,d.w.a=some a→a.block < (w2.alloc (.cells #[.string e.d.node.a,.int .i64 e.d.node.n,.string e.d.field,.slice none 0 0] 48)).heap.size∧s.v.ownBlock≠some a.block:=fun i d r h1 h2=>by
      obtain⟨q1,q2,q3,q4⟩:=HDS.out i d r h1 h2;exact⟨q1,q2,q3.below hbA,fun a ha=>⟨by have:=(q4 a ha).1;omega,(q4 a ha).2⟩⟩
     change Calls Tryz.prog 79 _ (w2.alloc (.cells #[.string e.d.node.a,.int .i64 e.d.node.n,.string e.d.field,.slice none 0 0] 48)) _;generalize w2.alloc (.cells #[.string e.d.node.a,.int .i64 e.d.node.n,.string e.d.field,.slice none 0 0] 48)=WA at*
     clear hbA ho2 hm2 hx2 hbel2 x0 x1 x2 x3;refine(insReg_any ds s.v ⟨e.d.node,e.d.field,SlV.nil⟩ w.heap.size WA (by omega) hoA hbelA.size w2.heap.size hqA).mono ?_;rintro e2 w3 ⟨v3,rfl,hown3,hb3,hg3,hloc3⟩;have hm3:=(hg3.block eb (zl hmA) (fun e=>by have:=(HOWN.out eb e.symm).2;omega)).trans hmA;have hx3:=(hg3.block (eb+1) (zl hxA) (fun e=>by have:=(HOWN.out (eb+1) e.symm).2;omega)).trans hxA;have hbel3:Below w.heap.size w w3:=hbelA.trans (hb3.mono (Nat.le_refl _));have hR3:Regs w3 w.heap.size v3 (R++ [⟨e.d.node,e.d.field, []⟩]):=Regs.snoc HDL.out hdsA hown3 hg3 hloc3 ⟨rfl,rfl,rfl,rfl⟩
     obtain⟨g3,cap3,hv3,hnc3⟩:∃g cap,v3=.slice (some ⟨g,0,none⟩) (ds.length+1) cap∧ds.length+1≤cap:=by
      rcases hown3.2 with⟨_,h0⟩|⟨g,cap,cur,h1,_,_,h2,_⟩
      ·omega
      ·exact⟨g,cap,h1,h2⟩
     subst hv3;have hbg3:w.heap.size≤g3∧g3 < w3.heap.size:=hown3.lt g3 (by simp [Value.ownBlock]);have x3:w3.cell? ⟨eb+1,3,none⟩=some (.slice none 0 0):=by rw [zc _ _ 3 _ _ _ hx3];rfl
     have hrZ:(ds.length:Int) < ((ds.length+1:Nat):Int):=by omega
     clear hmA hxA hqA hbelA hdsA hoA hb3 hg3 hloc3 hx3 hsA
     go_wp2_with(first
      |refine wpList_load_row rfl 45 _ rfl eb rfl 45 _ (0,0) _ hm3 Tryz.underlying45 rfl (by kernel_rfl) ?_)
     have hidv:=HD.out e (List.mem_of_getElem? HX.out);refine(written_any [] (.slice none 0 0) e.d e.ids w3 (by simp) (.inl ⟨rfl,rfl⟩) (hidv.1.below hbel3) hidv.2 rfl).mono ?_;rintro e3 w6 ⟨v6,rfl,hown6,hb6⟩;have hbel6:Below w.heap.size w w6:=hbel3.trans (hb6.mono hbel3.size);have ho6:=ownsRow_below hown3 hb6;have hlt6:=hown6.lt
     obtain⟨s6,hs6⟩:∃s:SlV,v6=.slice s.a s.len s.cap:=by
      obtain⟨a,n,c,rfl⟩:=(Lay.Rd.of_owns (Y:=wrY) (l:=keptW e.d e.ids []++ [newW e.d]) (by rw [List.length_append];exact hown6)).form;exact⟨⟨a,n,c⟩,rfl⟩
     subst hs6;have hrd6:wrY.Rd w6 s6.v [newW e.d]:=Lay.Rd.of_owns (Y:=wrY) (l:=keptW e.d e.ids []++ [newW e.d]) (by rw [List.length_append];exact hown6)
     have hap6:∀a,s6.a=some a→a.block < w6.heap.size∧a.block≠g3:=fun a ha=>by
      have:=hlt6 a.block (by simp [Value.ownBlock,ha]);omega
     have HR7:=zz ((hR3.below hb6).set (i:=ds.length) (r:=⟨e.d.node,e.d.field, []⟩) (by rw [HDL.out];simp) hrd6 hap6)
     have k6:w6.cell? ⟨g3,ds.length*4+3,none⟩=some (.slice none 0 0):=by
      have:=(regY.elem (ownsRow_rangeAt ho6) ds.length ⟨e.d.node,e.d.field,SlV.nil⟩ (by simp)) 3 _ rfl
      rwa [Nat.zero_add]at this
     have f6:w6.frozen? ⟨g3,ds.length*4+3,none⟩=false:=ho6.frozenAt _;clear hR3 hrd6 hap6 hlt6 hown6 ho6 hb6 hbel3 hidv hm3 x3 hown3 lx;go_wp2
     go_roundg (n - 1 - k)
     case rel=>
      refine⟨k+1,⟨some ⟨g3,0,none⟩,ds.length+1,cap3⟩,by omega,by go_num,rfl,?_,hbel6.setCell (by simp;omega) _⟩;rw [HRS.out]
      have e9:regStep R e=List.set (R++ [(⟨e.d.node,e.d.field, []⟩:RegP)]) ds.length (⟨e.d.node,e.d.field, [newW e.d]⟩:RegP):=by
       unfold regStep;rw [if_pos HK3.out,HTH.out,HDL.out];simp
      rw [e9];exact HR7.out
     case measure=>have:=HK.out;omega
   ·have hk3':(e.d.kind !=3)=true:=by simp [hk3]
    have HK3:=zz hk3;have hbel2:=hbel.alloc hbel.size (.cells (edV e.d).toArray 45);have hR2:=hR.below ((Below.refl wr.heap.size wr).alloc (Nat.le_refl _) (.cells (edV e.d).toArray 45));clear hk3 hbel hR
    go_wp2_with(first
     |refine wpList_load_mid rfl 45 _ rfl b (off+k*18) rfl _ _ hrx2 Tryz.underlying45 rfl (by kernel_rfl) ?_)
    go_roundg (n - 1 - k)
    case rel=>
     refine⟨k+1,s,by omega,by go_num,rfl,?_,hbel2⟩
     have e1:regRun (E.take (k+1))=regRun (E.take k):=by
      rw [list_snoc E k e HX.out,regRun_snoc];unfold regStep;rw [if_neg HK3.out]
     rw [e1];exact hR2
    case measure=>have:=HK.out;omega
  ·have hkk:=HK.out;obtain rfl:k=n:=by omega
   have e1:regRun (E.take k)=regRun E:=by rw [←HN.out,List.take_length]
   rw [e1]at hR;clear e1;go_wp2;go_ret
   exact⟨_,rfl,hR,hbel⟩
end Go.Proofs.YteigcnamkfebgaaGreatDoor
