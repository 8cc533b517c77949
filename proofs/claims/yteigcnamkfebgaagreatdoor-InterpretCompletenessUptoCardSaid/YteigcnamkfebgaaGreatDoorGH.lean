import Derived.Test.YteigcnamkfebgaaGreatDoorHE
set_option linter.all false
set_option maxHeartbeats 25600000
namespace Go.Proofs.YteigcnamkfebgaaGreatDoor
open Go.RowKit
attribute [local go_sem high] eql38 eql43 eql207
set_option maxRecDepth 100000 in
theorem write42_any (L:List WrD) (v:Value) (x:EdP) (w:World) (hl:L.length≤1000) (hv:wrY.Rd w v L) (hd:IdR w x.d.deps.v x.ids) (hdl:x.ids.length≤1000000):
  Calls Tryz.prog 52 #[v,.agg (edV x.d).toArray] w fun e w'=>∃(s:SlV) (M:List WrD),e=.returned (.slice s.a s.len s.cap)∧wrY.Rd w' s.v M∧M.length≤L.length+1∧(∀y∈M,y∈L∨y=newW x.d)∧Below w.heap.size w w':=by
 obtain⟨m0,hm0⟩:∃m0,m0=newW x.d:=⟨_,rfl⟩;rw [←hm0];have HH:=zz (fun(W:World) (y:IdD) (hb:Below w.heap.size w W)=>rHas_eq x.ids (.slice x.d.deps.a x.d.deps.len x.d.deps.cap) y W (by omega) (hd.below hb));obtain⟨⟨⟨ia,im⟩,clock,floor,deps,kind,⟨na,nn⟩,⟨pa,pn⟩,neg,num,den,field,value,⟨ta,tn⟩,who⟩,ids⟩:=x;simp only at HH hm0⊢;subst hm0;change Calls Tryz.prog 52 #[v,.agg #[.string ia,.int .i64 im,.int .i64 clock,.int .i64 floor,.slice deps.a deps.len deps.cap,.int .i64 kind,.string na,.int .i64 nn,.string pa,.int .i64 pn,.bool neg,.string num,.string den,.string field,.string value,.string ta,.int .i64 tn,.string who]] w _;obtain⟨a1,n,c,rfl⟩:=hv.form;have hn:n=L.length:=hv.len;have HV:=zz hv;have HN:=zz hn;have hle:n≤1000:=by omega
 have BL:=(((Below.refl w.heap.size w).alloc (Nat.le_refl _) (.cells #[.string ia,.int .i64 im,.int .i64 clock,.int .i64 floor,.slice deps.a deps.len deps.cap,.int .i64 kind,.string na,.int .i64 nn,.string pa,.int .i64 pn,.bool neg,.string num,.string den,.string field,.string value,.string ta,.int .i64 tn,.string who] 45)).alloc (by simp) (.cells #[.string ia,.int .i64 im,.int .i64 clock,.string value] 50)).alloc (by simp <;>omega) (.cells #[] 50);have R1:(((w.alloc (.cells #[.string ia,.int .i64 im,.int .i64 clock,.int .i64 floor,.slice deps.a deps.len deps.cap,.int .i64 kind,.string na,.int .i64 nn,.string pa,.int .i64 pn,.bool neg,.string num,.string den,.string field,.string value,.string ta,.int .i64 tn,.string who] 45)).alloc (.cells #[.string ia,.int .i64 im,.int .i64 clock,.string value] 50)).alloc (.cells #[] 50)).heap[w.heap.size]? =_:=zo _ _ _ _ (zo _ _ _ _ (zg _ _ _ rfl));have R2:(((w.alloc (.cells #[.string ia,.int .i64 im,.int .i64 clock,.int .i64 floor,.slice deps.a deps.len deps.cap,.int .i64 kind,.string na,.int .i64 nn,.string pa,.int .i64 pn,.bool neg,.string num,.string den,.string field,.string value,.string ta,.int .i64 tn,.string who] 45)).alloc (.cells #[.string ia,.int .i64 im,.int .i64 clock,.string value] 50)).alloc (.cells #[] 50)).heap[w.heap.size+1]? =_:=zo _ _ _ _ (zg _ _ _ (by simp));have OW:=own_empty ((w.alloc (.cells #[.string ia,.int .i64 im,.int .i64 clock,.int .i64 floor,.slice deps.a deps.len deps.cap,.int .i64 kind,.string na,.int .i64 nn,.string pa,.int .i64 pn,.bool neg,.string num,.string den,.string field,.string value,.string ta,.int .i64 tn,.string who] 45)).alloc (.cells #[.string ia,.int .i64 im,.int .i64 clock,.string value] 50)) (w.heap.size+1+1) (w.heap.size+2) 50 4 (by simp) (by omega);have HB:=zz (And.intro BL (And.intro R1 (And.intro R2 OW)));clear hv hn hl hd hdl BL R1 R2 OW;go_enter Tryz.func52,Tryz.ntmps52
 go_wp2;generalize hW:((w.alloc (.cells #[.string ia,.int .i64 im,.int .i64 clock,.int .i64 floor,.slice deps.a deps.len deps.cap,.int .i64 kind,.string na,.int .i64 nn,.string pa,.int .i64 pn,.bool neg,.string num,.string den,.string field,.string value,.string ta,.int .i64 tn,.string who] 45)).alloc (.cells #[.string ia,.int .i64 im,.int .i64 clock,.string value] 50)).alloc (.cells #[] 50)=W at*
 clear hW
 go_loopg [6,7,20] n (fun gn t6 t7 t20 wr=>∃(k:Nat) (s:SlV) (M:List WrD) (bd:Bool),k+gn=n∧t20=.int .i64 k∧t6=.slice s.a s.len s.cap∧t7=.bool bd∧wr.ownsRow (w.heap.size+2) 50 4 s.v M.length (wrY.flat M)∧(M.length≤k+1∧(bd=false→M.length≤k))∧(∀y∈M,y∈L∨y=newW ⟨⟨ia,im⟩,clock,floor,deps,kind,⟨na,nn⟩,⟨pa,pn⟩,neg,num,den,field,value,⟨ta,tn⟩,who⟩)∧Below w.heap.size w wr∧
  wr.heap[w.heap.size]? =some (.cells #[.string ia,.int .i64 im,.int .i64 clock,.int .i64 floor,.slice deps.a deps.len deps.cap,.int .i64 kind,.string na,.int .i64 nn,.string pa,.int .i64 pn,.bool neg,.string num,.string den,.string field,.string value,.string ta,.int .i64 tn,.string who] 45 (0,0))∧wr.heap[w.heap.size+1]? =some (.cells #[.string ia,.int .i64 im,.int .i64 clock,.string value] 50 (0,0)))
 case atStart=>exact⟨0,⟨some ⟨w.heap.size+1+1,0,none⟩,0,0⟩, [],false,by omega,rfl,rfl,rfl,HB.out.2.2.2,⟨by simp,by simp⟩,by simp,HB.out.1,HB.out.2.1,HB.out.2.2.1⟩
 case round=>
  obtain⟨G,rfl⟩:∃G,G=gk:=⟨_,rfl⟩;obtain⟨k,s,M,bd,hk,rfl,rfl,rfl,hown,hMl,hM,BL,R1,R2⟩:=hrel;have HK:=zz hk;have HM:=zz hM;have HML:=zz hMl;clear hk hM hMl
  by_cases hlt:k < n
  ·have hx:L[k]? =some (L[k]'(by rw [←HN.out];exact hlt)):=List.getElem?_eq_getElem _;generalize L[k]'(by rw [←HN.out];exact hlt)=y at hx
   obtain⟨b,off,rfl,hr⟩:∃b off,a1=some ⟨b,off,none⟩∧w.rangeAt b off (wrY.flat L):=by
    rcases HV.out with⟨h1,h2⟩|⟨b,off,cap,h1,h2,h3⟩
    ·rw [h2]at hx;cases hx
    ·simp at h1;exact⟨b,off,h1.1,h3⟩
   have hrx:wr.rangeAt b (off+k*4) (wrV y):=rangeAt_below (wrY.elem hr k y hx) BL;have HX:=zz (List.mem_of_getElem? hx);have hltZ:(k:Int) < (n:Int):=by omega
   have hsz:w.heap.size+2≤wr.heap.size:=by have h1:=zl R2;omega
   unfold wrV at hrx;have R3:(wr.alloc (.cells #[.string y.id.a,.int .i64 y.id.n,.int .i64 y.clock,.string y.text] 50)).heap[wr.heap.size]? =_:=zg _ _ _ rfl;have R1:=zo wr _ (.cells #[.string y.id.a,.int .i64 y.id.n,.int .i64 y.clock,.string y.text] 50) _ R1;have R2:=zo wr _ (.cells #[.string y.id.a,.int .i64 y.id.n,.int .i64 y.clock,.string y.text] 50) _ R2;have BL:=BL.alloc BL.size (.cells #[.string y.id.a,.int .i64 y.id.n,.int .i64 y.clock,.string y.text] 50);have HOLT:=zz (fun g (hg:(SlV.v s).ownBlock=some g)=>(hown.lt g hg).2);have hown:=hown.alloc (.cells #[.string y.id.a,.int .i64 y.id.n,.int .i64 y.clock,.string y.text] 50);have hszW:wr.heap.size+1=(wr.alloc (.cells #[.string y.id.a,.int .i64 y.id.n,.int .i64 y.clock,.string y.text] 50)).heap.size:=by simp
   clear hr hx;have HO:=zz (And.intro BL hown);have HR:=zz (And.intro R1 (And.intro R2 R3));have x0:=zc _ _ 0 _ _ _ R1;have x1:=zc _ _ 1 _ _ _ R1;have x4:=zc _ _ 4 _ _ _ R1;have y0:=zc _ _ 0 _ _ _ R3;have y1:=zc _ _ 1 _ _ _ R3;clear BL hown R1 R2 R3
   cases he:same38 y.id.a y.id.n ia im with
   |true=>
    go_wp2_with(first
     |refine wpList_load_mid rfl 50 _ rfl b (off+k*4) rfl _ _ hrx Tryz.underlying50 rfl (by kernel_rfl) ?_)
    go_roundg (n - 1 - k)
    case rel=>exact⟨k+1,s,M,bd,by have:=HK.out;omega,by go_num,rfl,rfl,HO.out.2,⟨by have:=HML.out;omega,fun h=>by have:=HML.out.2 h;omega⟩,HM.out,HO.out.1,HR.out.1,HR.out.2.1⟩
    case measure=>have:=HK.out;omega
   |false=>
    go_wp2_with(first
     |refine wpList_load_mid rfl 50 _ rfl b (off+k*4) rfl _ _ hrx Tryz.underlying50 rfl (by kernel_rfl) ?_)
    with_reducible refine(HH.out _ ⟨y.id.a,y.id.n⟩ HO.out.1).mono ?_
    rintro e w4 ⟨rfl,hb⟩;have R1:=(hb.block _ (zl HR.out.1)).trans HR.out.1;have R2:=(hb.block _ (zl HR.out.2.1)).trans HR.out.2.1;have R3:=(hb.block _ (zl HR.out.2.2)).trans HR.out.2.2;have BL:=HO.out.1.trans (hb.mono HO.out.1.size);have hown:=ownsRow_below HO.out.2 hb;have hsz4:w.heap.size+2≤w4.heap.size:=by have:=hb.size;omega
    clear hb x0 x1 x4 y0 y1;generalize hasB ids ⟨y.id.a,y.id.n⟩=bh
    cases bh with
    |true=>
     go_wp2_with fail
     go_roundg (n - 1 - k)
     case rel=>exact⟨k+1,s,M,bd,by have:=HK.out;omega,by go_num,rfl,rfl,hown,⟨by have:=HML.out;omega,fun h=>by have:=HML.out.2 h;omega⟩,HM.out,BL,R1,R2⟩
     case measure=>have:=HK.out;omega
    |false=>
     have hMl:=HML.out
     cases bd with
     |true=>
      have HQ:=zz (And.intro BL (And.intro R1 (And.intro R2 R3)));have HOW:=zz (hown.alloc (.cells #[.string y.id.a,.int .i64 y.id.n,.int .i64 y.clock,.string y.text] 50));clear BL hown R1 R2
      go_wp2_with(first
           |refine wpList_load_row rfl 50 _ rfl wr.heap.size rfl 50 _ (0,0) _ R3 Tryz.underlying50 rfl (by kernel_rfl) ?_
           |(at_builtin;refine wpList_app1 (Y:=wrY) rfl _ _ 46 50 48 (.agg z50) rfl Tryz.underlying46 info50 rfl (by decide) (w.heap.size+2) _ M rfl HOW.out y _ 1 rfl (zg _ _ _ rfl) (by omega) (by decide) (by simp;omega) ?_;intro s1 w6 hown1 hg1 hb1))
      have HRR:=zz (And.intro ((hg1.block w.heap.size (by simp;omega) (fun e=>by have:=(HOW.out.lt _ e.symm).1;omega)).trans (zo _ _ _ _ HQ.out.2.1)) ((hg1.block (w.heap.size+1) (by simp;omega) (fun e=>by have:=(HOW.out.lt _ e.symm).1;omega)).trans (zo _ _ _ _ HQ.out.2.2.1)));have HBB:=zz ((HQ.out.1.alloc HQ.out.1.size _).trans (hb1 w.heap.size (by omega)));clear R3 hg1 hb1;go_wp2
      go_roundg (n - 1 - k)
      case rel=>exact⟨k+1,s1,M++ [y],true,by have:=HK.out;omega,by go_num,rfl,rfl,hown1,⟨by simp;omega,fun h=>by cases h⟩,(fun z hz=>by rcases List.mem_append.1 hz with h|h;exact HM.out z h;rw [List.mem_singleton]at h;rw [h];exact .inl HX.out),HBB.out,HRR.out.1,HRR.out.2⟩
      case measure=>have:=HK.out;omega
     |false=>
      have hMf:=hMl.2 rfl
      go_wp2_with(first
       |refine wpList_load_roww (by rfl) 50 _ rfl (w.heap.size+1) rfl 50 _ (0,0) _ R2 rfl Tryz.underlying50 (by kernel_rfl) ?_
       |refine wpList_load_roww (by rfl) 50 _ rfl wr.heap.size rfl 50 _ (0,0) _ R3 rfl Tryz.underlying50 (by kernel_rfl) ?_)
      with_reducible refine(rAheadW_any ⟨⟨ia,im⟩,clock,value⟩ y _).mono ?_
      rintro e w5 ⟨⟨bb,rfl⟩,hb⟩;have R1:=(hb.block _ (zl R1)).trans R1;have R2:=(hb.block _ (zl R2)).trans R2;have R3:=(hb.block _ (zl R3)).trans R3;have BL:=BL.trans (hb.mono BL.size);have hown:=ownsRow_below hown hb;have hsz5:w.heap.size+2≤w5.heap.size:=by have:=hb.size;omega
      clear hb
      cases bb with
      |false=>
       have HQ:=zz (And.intro BL (And.intro R1 (And.intro R2 R3)));have HOW:=zz (hown.alloc (.cells #[.string y.id.a,.int .i64 y.id.n,.int .i64 y.clock,.string y.text] 50));clear BL hown R1 R2
       go_wp2_with(first
            |refine wpList_load_row rfl 50 _ rfl wr.heap.size rfl 50 _ (0,0) _ R3 Tryz.underlying50 rfl (by kernel_rfl) ?_
            |(at_builtin;refine wpList_app1 (Y:=wrY) rfl _ _ 46 50 48 (.agg z50) rfl Tryz.underlying46 info50 rfl (by decide) (w.heap.size+2) _ M rfl HOW.out y _ 1 rfl (zg _ _ _ rfl) (by omega) (by decide) (by simp;omega) ?_;intro s1 w6 hown1 hg1 hb1))
       have HRR:=zz (And.intro ((hg1.block w.heap.size (by simp;omega) (fun e=>by have:=(HOW.out.lt _ e.symm).1;omega)).trans (zo _ _ _ _ HQ.out.2.1)) ((hg1.block (w.heap.size+1) (by simp;omega) (fun e=>by have:=(HOW.out.lt _ e.symm).1;omega)).trans (zo _ _ _ _ HQ.out.2.2.1)));have HBB:=zz ((HQ.out.1.alloc HQ.out.1.size _).trans (hb1 w.heap.size (by omega)));clear R3 hg1 hb1;go_wp2
       go_roundg (n - 1 - k)
       case rel=>exact⟨k+1,s1,M++ [y],false,by have:=HK.out;omega,by go_num,rfl,rfl,hown1,⟨by simp;omega,fun _=>by simp;omega⟩,(fun z hz=>by rcases List.mem_append.1 hz with h|h;exact HM.out z h;rw [List.mem_singleton]at h;rw [h];exact .inl HX.out),HBB.out,HRR.out.1,HRR.out.2⟩
       case measure=>have:=HK.out;omega
      |true=>
       have HQ:=zz (And.intro BL (And.intro R1 (And.intro R2 R3)));have HOW:=zz (hown.alloc (.cells #[.string ia,.int .i64 im,.int .i64 clock,.string value] 50));have lq:wr.heap.size < w5.heap.size:=zl R3;have hne:some wr.heap.size≠(SlV.v s).ownBlock:=fun e=>absurd (HOLT.out _ e.symm) (by omega)
       clear BL hown R1
       go_wp2_with(first
        |refine wpList_load_row rfl 50 _ rfl (w.heap.size+1) rfl 50 _ (0,0) _ R2 Tryz.underlying50 rfl (by kernel_rfl) ?_
        |refine wpList_load_row rfl 50 _ rfl wr.heap.size rfl 50 _ (0,0) _ HR6.out Tryz.underlying50 rfl (by kernel_rfl) ?_
        |(at_builtin;refine wpList_app1 (Y:=wrY) rfl _ _ 46 50 48 (.agg z50) rfl Tryz.underlying46 info50 rfl (by decide) (w.heap.size+2) _ (M) rfl HOW.out ⟨⟨ia,im⟩,clock,value⟩ _ 1 rfl (zg _ _ _ rfl) (by simp;omega) (by decide) (by simp;omega) ?_;intro s1 w6 hown1 hg1 hb1;have HR6:=zz ((hg1.block wr.heap.size (by simp;omega) hne).trans (zo _ _ _ _ HQ.out.2.2.2));have HSZ6:=zz hg1.size;have HOW2:=zz (hown1.alloc (.cells #[.string y.id.a,.int .i64 y.id.n,.int .i64 y.clock,.string y.text] 50));have hsz6:w.heap.size+2≤w6.heap.size:=(by have:=hg1.size;simp at this;omega);have HA1:=zz (And.intro hown1 (And.intro hg1 hb1));clear hown1 hg1 hb1)
        |(at_builtin;refine wpList_app1 (Y:=wrY) rfl _ _ 46 50 48 (.agg z50) rfl Tryz.underlying46 info50 rfl (by decide) (w.heap.size+2) _ (M++ [(⟨⟨ia,im⟩,clock,value⟩:WrD)]) rfl HOW2.out y _ 1 rfl (zg _ _ _ rfl) (by simp;omega) (by decide) (by simp;omega) ?_;intro s2 w7 hown2 hg2 hb2))
       have HBB:=zz (((HQ.out.1.alloc HQ.out.1.size _).trans (HA1.out.2.2 w.heap.size (by omega))).alloc (by omega) (.cells #[.string y.id.a,.int .i64 y.id.n,.int .i64 y.clock,.string y.text] 50));have HBB:=zz (HBB.out.trans (hb2 w.heap.size (by omega)));have HRR:=zz (And.intro ((hg2.block w.heap.size (by simp;omega) (fun e=>by have:=(HOW2.out.lt _ e.symm).1;omega)).trans (zo _ _ _ _ ((HA1.out.2.1.block w.heap.size (by simp;omega) (fun e=>by have:=(HOW.out.lt _ e.symm).1;omega)).trans (zo _ _ _ _ HQ.out.2.1)))) ((hg2.block (w.heap.size+1) (by simp;omega) (fun e=>by have:=(HOW2.out.lt _ e.symm).1;omega)).trans (zo _ _ _ _ ((HA1.out.2.1.block (w.heap.size+1) (by simp;omega) (fun e=>by have:=(HOW.out.lt _ e.symm).1;omega)).trans (zo _ _ _ _ HQ.out.2.2.1)))));clear R2 R3 hg2 hb2;go_wp2
       go_roundg (n - 1 - k)
       case rel=>exact⟨k+1,s2,M++ [(⟨⟨ia,im⟩,clock,value⟩:WrD)]++ [y],true,by have:=HK.out;omega,by go_num,rfl,rfl,hown2,⟨by simp;omega,fun h=>by cases h⟩,(fun z hz=>by
        rcases List.mem_append.1 hz with h|h
        ·rcases List.mem_append.1 h with h|h
         ·exact HM.out z h
         ·rw [List.mem_singleton]at h;rw [h];exact .inr rfl
        ·rw [List.mem_singleton]at h;rw [h];exact .inl HX.out),HBB.out,HRR.out.1,HRR.out.2⟩
       case measure=>have:=HK.out;omega
  ·obtain rfl:k=n:=by have:=HK.out;omega
   cases bd with
   |true=>
    go_wp2_with fail
    go_ret
    exact⟨s,M,rfl,Lay.Rd.of_owns (Y:=wrY) hown,by have:=HML.out;rw [←HN.out];exact this.1,HM.out,BL⟩
   |false=>
    have hMf:=HML.out.2 rfl;have hsz:w.heap.size+2≤wr.heap.size:=by have h1:=zl R2;omega
    have HOW:=zz (hown.alloc (.cells #[.string ia,.int .i64 im,.int .i64 clock,.string value] 50));have HBL:=zz BL;clear BL hown R1
    go_wp2_with(first
     |refine wpList_load_row rfl 50 _ rfl (w.heap.size+1) rfl 50 _ (0,0) _ R2 Tryz.underlying50 rfl (by kernel_rfl) ?_
     |(at_builtin;refine wpList_app1 (Y:=wrY) rfl _ _ 46 50 48 (.agg z50) rfl Tryz.underlying46 info50 rfl (by decide) (w.heap.size+2) _ M rfl HOW.out ⟨⟨ia,im⟩,clock,value⟩ _ 1 rfl (zg _ _ _ rfl) (by omega) (by decide) (by simp;omega) ?_;intro s1 w6 hown1 hg1 hb1))
    have HBB:=zz ((HBL.out.alloc HBL.out.size _).trans (hb1 w.heap.size (by omega)));clear R2 hg1 hb1;go_wp2;go_ret
    exact⟨s1,rfl,M++ [(⟨⟨ia,im⟩,clock,value⟩:WrD)],Lay.Rd.of_owns (Y:=wrY) hown1,by have:=HN.out;simp;omega,(fun z hz=>by
     rcases List.mem_append.1 hz with h|h
     ·exact HM.out z h
     ·rw [List.mem_singleton]at h;rw [h];exact .inr rfl),HBB.out⟩
end Go.Proofs.YteigcnamkfebgaaGreatDoor
