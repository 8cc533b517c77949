import Derived.Test.YteigcnamkfebgaaGreatDoorGH
set_option linter.all false
set_option maxHeartbeats 25600000
namespace Go.Proofs.YteigcnamkfebgaaGreatDoor
open Go.RowKit
section
@[go_sem] theorem neq38 (w:World) (s s':ByteArray) (n n':Int):(binOp .neq 38 (.agg #[.string s,.int .i64 n]) (.agg #[.string s',.int .i64 n'])).run Tryz.prog w=.ok (.bool (!(same38 s n s' n'))) w:=by
 unfold same38;have u3:=Tryz.underlying3;have u9:=Tryz.underlying9;have a3:=Tryz.isAgg3;have a9:=Tryz.isAgg9;have z3:=Tryz.sizeOf3;have z9:=Tryz.sizeOf9;have hS:Tryz.prog.underlying 38=some (.struct (Tryz.prog.fieldsOf 38)):=by kernel_rfl
 have hP:Tryz.prog.stoodInHeld 38=false:=by kernel_rfl
 rw [run_neq_struct,run_equalIn_agg w 9999 38 _ _ hS hP];simp only [Program.fieldsOf,Tryz.underlying38];go_simp;cases hb:(n==n') <;>cases hs:(s.toList==s'.toList) <;>simp_all
theorem step_store_row {P:Program} {ops:Array Oper} {o:Oper} {a:Act} {w:World} {K:Act→World→Prop} {Q:Exit→Act→World→Prop} {E:Prop} (hgd:o.guard=none) (ty:TypeId) (x y:Operand) (ho:o.op=.store ty x y) (b:Nat) (c c':Array Value) (hb:w.heap[b]? =some (.cells c ty (0,0)))
  (hx:a.eval x=.pointer (some ⟨b,0,none⟩)) (hy:a.eval y=.agg c') (hi:(P.info? ty).map (·.size)=some c'.size) (hs:c.size=c'.size) (h1:c'.all (·.oneCell')=true)
  (h:∀w',w'.heap[b]? =some (.cells c' ty (0,0))→(∀i,i≠b→w'.heap[i]? =w.heap[i]?)→w'.heap.size=w.heap.size→(∀B,B≤b→Below B w w')→K (a.put o.dst undef) w'):if Region.wanted o (yielded ops a.tmps)=true then Oper.wp P o a w K Q else E:=by
 have hw:Region.wanted o (yielded ops a.tmps)=true:=by simp [Region.wanted,hgd]
 rw [if_pos hw];have hr:=run_storeVar_row (P:=P) w b ty ty c c' hb hi hs h1;unfold Oper.wp execOp;simp only [ho,hx,hy,Instr.storeAt,Instr.sureAddr,hr,Sem.run_bind,Sem.run_pure,Result.andThen_ok];exact h _ (setRow_heap _ _ _ _ _ _ hb) (fun i hi=>setRow_other w b i _ hi) (by simp) (fun B hB=>⟨rfl,rfl,rfl,by simp,fun k hk=>setRow_other w b k _ (by omega)⟩)
theorem wr_but_row {w w':World} {v:Value} {M:List WrD} (h:wrY.Rd w v M) {q:Nat} {a b d:Value} {c:ByteArray} {t:TypeId} (hq:w.heap[q]? =some (.cells #[a,b,.string c,d] t (0,0))) (ho:∀i,i≠q→w'.heap[i]? =w.heap[i]?):wrY.Rd w' v M:=by
 rcases h with h|⟨g,off,cap,h1,h2,h3⟩
 ·exact .inl h
 ·refine .inr ⟨g,off,cap,h1,h2,?_⟩
  cases M with
  |nil=>intro j u hj;simp [Lay.flat]at hj
  |cons m r=>
   have c2:w.cell? ⟨g,off+2,none⟩=some (.int .i64 m.clock):=h3 2 _ rfl;have c3:w.cell? ⟨g,off+3,none⟩=some (.string m.text):=h3 3 _ rfl
   have hne:g≠q:=by
    rintro rfl;rw [zc _ _ _ _ _ _ hq]at c2 c3
    match off,c2,c3 with
    |0,c2,_=>simp at c2
    |n+1,_,c3=>simp at c3
   intro j u hj;exact(World.cell?_of_block (w:=w) (w':=w') (a:=⟨g,off+j,none⟩) (ho g hne)).trans (h3 j u hj)
def RegOk (K:List EdP) (j:Nat) (r:RegP):Prop:=r.w.length≤j∧(∀y∈r.w,∃x∈K,y=newW x.d)∧∃x∈K,r.field=x.d.field
theorem RegOk.mono {K:List EdP} {j k:Nat} {r:RegP} (h:RegOk K j r) (hk:j≤k):RegOk K k r:=⟨Nat.le_trans h.1 hk,h.2⟩
def RegsAt (w:World) (ds:List RegD) (R:List RegP):Prop:=ds.length=R.length∧∀(i:Nat) (d:RegD) (r:RegP),ds[i]? =some d→R[i]? =some r→d.node=r.node∧d.field=r.field∧wrY.Rd w d.w.v r.w
theorem RegsAt.below {w w':World} {ds:List RegD} {R:List RegP} (h:RegsAt w ds R) (hb:Below w.heap.size w w'):RegsAt w' ds R:=⟨h.1,fun i d r a b=>⟨(h.2 i d r a b).1,(h.2 i d r a b).2.1,(h.2 i d r a b).2.2.below hb⟩⟩
theorem RegsAt.nil (w:World):RegsAt w [] []:=⟨rfl,fun i d r h _=>by simp at h⟩
theorem RegsAt.snoc {w:World} {ds:List RegD} {R:List RegP} (h:RegsAt w ds R) {d:RegD} {r:RegP} (hd:d.node=r.node∧d.field=r.field∧wrY.Rd w d.w.v r.w):RegsAt w (ds++ [d]) (R++ [r]):=by
 refine⟨by simp [h.1],fun i d' r' a b=>?_⟩
 by_cases hi:i < ds.length
 ·rw [List.getElem?_append_left hi]at a;rw [List.getElem?_append_left (by rw [←h.1];exact hi)]at b;exact h.2 i d' r' a b
 ·rw [List.getElem?_append_right (by omega)]at a;rw [List.getElem?_append_right (by rw [←h.1];omega),←h.1]at b;have h0:i - ds.length=0:=by have:=(List.getElem?_eq_some_iff.1 a).1;simp at this;omega
  rw [h0]at a b;simp at a b;subst a;subst b;exact hd
def wsum (R:List RegP):Nat:=(R.map (fun r=>r.w.length)).sum
theorem wsum_append (A B:List RegP):wsum (A++B)=wsum A+wsum B:=by simp [wsum]
theorem wsum_one (r:RegP):wsum [r]=r.w.length:=by simp [wsum]
def restS (n:IdD) (f:ByteArray) (R:List RegP):Nat:=wsum (R.filter (fun r=>!keyB n f r))
theorem restS_le (n:IdD) (f:ByteArray):∀R:List RegP,restS n f R≤wsum R
 | []=>Nat.le_refl _
 |r::R=>by
  have ih:=restS_le n f R;unfold restS wsum at*
  cases hk:keyB n f r <;>simp [hk] <;>omega
theorem restS_mem (n:IdD) (f:ByteArray):∀(R:List RegP) (r:RegP),r∈R→keyB n f r=true→restS n f R+r.w.length≤wsum R
 | [],_,h,_=>by cases h
 |q::R,r,h,hk=>by
  rcases List.mem_cons.1 h with rfl|h
  ·have ih:=restS_le n f R;unfold restS wsum at*
   simp [hk];omega
  ·have ih:=restS_mem n f R r h hk;unfold restS wsum at*
   cases hq:keyB n f q <;>simp [hq] <;>omega
theorem restS_step (n:IdD) (f:ByteArray) {R:List RegP} {k:Nat} {r:RegP} (hr:R[k]? =some r):restS n f (R.take (k+1))=restS n f (R.take k)+(if keyB n f r then 0 else r.w.length):=by
 rw [list_snoc R k r hr];unfold restS;rw [List.filter_append,wsum_append];cases hk:keyB n f r <;>simp [hk,wsum]
structure InI (n:IdD) (f:ByteArray) (M:List WrD) (R:List RegP) (k:Nat) (bd:Bool) (S:List RegP):Prop where
 mem:∀r∈S,r∈R∨r=(⟨n,f,M⟩:RegP)
 sum:wsum S≤restS n f (R.take k)+(if bd=true then M.length else 0)
section
variable {n:IdD} {f:ByteArray} {M:List WrD} {R S:List RegP} {k:Nat} {bd:Bool} {r:RegP}
theorem InI.nil:InI n f M R 0 false []:=⟨by simp,by simp [wsum]⟩
theorem InI.keep (h:InI n f M R k bd S) (hr:R[k]? =some r) (hn:keyB n f r=false):InI n f M R (k+1) bd (S++ [r]):=by
 refine⟨fun z hz=>?_,?_⟩
 ·rcases List.mem_append.1 hz with h1|h1
  ·exact h.mem z h1
  ·rw [List.mem_singleton]at h1;rw [h1];exact .inl (List.mem_of_getElem? hr)
 ·have h1:=h.sum;rw [wsum_append,wsum_one,restS_step n f hr,hn];simp only [Bool.false_eq_true,if_false];omega
theorem InI.last (h:InI n f M R k false S):InI n f M R k true (S++ [(⟨n,f,M⟩:RegP)]):=by
 refine⟨fun z hz=>?_,?_⟩
 ·rcases List.mem_append.1 hz with h1|h1
  ·exact h.mem z h1
  ·rw [List.mem_singleton]at h1;rw [h1];exact .inr rfl
 ·have h1:=h.sum;rw [wsum_append,wsum_one];simp at h1⊢;omega
theorem InI_end (h:InI n f M R k true S) (hk:k=R.length) {j:Nat} (hm:restS n f R+M.length≤j):wsum S≤j:=by
 have h1:=h.sum;rw [hk,List.take_length,if_pos rfl]at h1;omega
theorem InI.skip (h:InI n f M R k bd S) (hr:R[k]? =some r):InI n f M R (k+1) bd S:=⟨h.mem,by have h1:=h.sum;rw [restS_step n f hr];omega⟩
end
attribute [local go_sem high] eql38 eql43 eql207 neq38
set_option maxRecDepth 100000 in
theorem fold42_any (K:List EdP) (v:Value) (w:World) (hv:EditsW w v K) (hl:K.length≤40):
  Calls Tryz.prog 22 #[.slice none 0 0,v] w fun e w'=>∃(s:SlV) (R:List RegP),e=.returned (.slice s.a s.len s.cap)∧RRegs w' s.v R∧R.length≤K.length∧(∀r∈R,RegOk K K.length r)∧wsum R≤K.length∧Below w.heap.size w w':=by
 obtain⟨a1,n,c,rfl⟩:=hv.1.form;have hn:n=K.length:=by have:=hv.1.len;rw [this];simp
 have HV:=zz hv;have HN:=zz hn;have hle:n≤40:=by omega
 clear hv hn hl;go_enter Tryz.func22,Tryz.ntmps22
 go_wp2
 go_loopg [0,14] n (fun gn t0 t14 wr=>∃(j:Nat) (s:SlV) (R:List RegP),j+gn=n∧t14=.int .i64 j∧t0=.slice s.a s.len s.cap∧RRegs wr s.v R∧R.length≤j∧(∀r∈R,RegOk K j r)∧wsum R≤j∧Below w.heap.size w wr)
 case atStart=>exact⟨0,SlV.nil, [],by omega,rfl,rfl,⟨[],.inl ⟨rfl,rfl⟩,rfl,fun i d r h _=>by simp at h⟩,Nat.le_refl _,by simp,Nat.le_refl _,Below.refl _ _⟩
 case round=>
  obtain⟨G,rfl⟩:∃G,G=gk:=⟨_,rfl⟩;obtain⟨j,s,R,hj,rfl,rfl,hRR,hRl,hRo,hWS,BL0⟩:=hrel;have HWS:=zz hWS;have HJ:=zz hj;have HRO:=zz hRo;clear hj hRo hWS
  by_cases hlt:j < n
  ·obtain⟨x,hx⟩:∃x,K[j]? =some x:=⟨_,List.getElem?_eq_getElem (by rw [←HN.out];exact hlt)⟩;have hxm:(K.map (·.d))[j]? =some x.d:=by rw [List.getElem?_map,hx];rfl
   obtain⟨b,off,rfl,hr⟩:∃b off,a1=some ⟨b,off,none⟩∧w.rangeAt b off (edY.flat (K.map (·.d))):=by
    rcases HV.out.1 with⟨h1,h2⟩|⟨b,off,cap,h1,h2,h3⟩
    ·rw [h2]at hxm;cases hxm
    ·simp at h1;exact⟨b,off,h1.1,h3⟩
   have hrx:wr.rangeAt b (off+j*18) (edV x.d):=rangeAt_below (edY.elem hr j x.d hxm) BL0;have hxE:=List.mem_of_getElem? hx;have hD:=(HV.out.below BL0).2 x hxE;have HX:=zz hxE;have hltZ:(j:Int) < (n:Int):=by omega
   clear hr hx hxm hxE;obtain⟨⟨⟨ia,im⟩,clock,floor,deps,kind,⟨na,nn⟩,⟨pa,pn⟩,neg,num,den,field,value,⟨ta,tn⟩,who⟩,ids⟩:=x;simp only at hrx hD;unfold edV at hrx;simp only at hrx
   by_cases hk3:kind=3
   ·subst hk3;have HBL0:=zz BL0;have HRL:=zz hRl
    go_wp2_with(first
     |refine wpList_load_mid rfl 45 _ rfl b (off+j*18) rfl _ _ hrx Tryz.underlying45 rfl (by kernel_rfl) ?_
     |(refine wpList_store_new wr rfl 45 _ _ rfl _ _ rfl rfl (by kernel_rfl) (by rfl) (by simp [Value.oneCell']) ?_;have c5:=zc _ _ 5 _ _ _ (zg wr (.cells #[.string ia,.int .i64 im,.int .i64 clock,.int .i64 floor,.slice deps.a deps.len deps.cap,.int .i64 3,.string na,.int .i64 nn,.string pa,.int .i64 pn,.bool neg,.string num,.string den,.string field,.string value,.string ta,.int .i64 tn,.string who] 45) wr.heap.size rfl)))
    have R6:(wr.alloc (.cells #[.string ia,.int .i64 im,.int .i64 clock,.int .i64 floor,.slice deps.a deps.len deps.cap,.int .i64 3,.string na,.int .i64 nn,.string pa,.int .i64 pn,.bool neg,.string num,.string den,.string field,.string value,.string ta,.int .i64 tn,.string who] 45)).drew.heap[wr.heap.size]? =_:=zg wr _ _ rfl;have BL:Below wr.heap.size wr (wr.alloc (.cells #[.string ia,.int .i64 im,.int .i64 clock,.int .i64 floor,.slice deps.a deps.len deps.cap,.int .i64 3,.string na,.int .i64 nn,.string pa,.int .i64 pn,.bool neg,.string num,.string den,.string field,.string value,.string ta,.int .i64 tn,.string who] 45)).drew:=((Below.refl _ wr).alloc (Nat.le_refl _) _).drew;have HG:=zz (fun(W:World) (hb:Below wr.heap.size wr W)=>rGet42_any R s ⟨na,nn⟩ field W (by omega) (hRR.below hb));have HWR:=zz (fun(W:World) (s':SlV) (M:List WrD) (hb:Below wr.heap.size wr W) (hM:wrY.Rd W s'.v M) (hl:M.length≤1000)=>(show Calls Tryz.prog 52 #[.slice s'.a s'.len s'.cap,.agg #[.string ia,.int .i64 im,.int .i64 clock,.int .i64 floor,.slice deps.a deps.len deps.cap,.int .i64 3,.string na,.int .i64 nn,.string pa,.int .i64 pn,.bool neg,.string num,.string den,.string field,.string value,.string ta,.int .i64 tn,.string who]] W _ from write42_any M (.slice s'.a s'.len s'.cap) ⟨⟨⟨ia,im⟩,clock,floor,deps,3,⟨na,nn⟩,⟨pa,pn⟩,neg,num,den,field,value,⟨ta,tn⟩,who⟩,ids⟩ W hl hM (hD.1.below hb) hD.2))
    have HGS:=zz (fun(M:List WrD) (hM:M= []∨∃r∈R,M=r.w∧keyB ⟨na,nn⟩ field r=true)=>show M.length≤j by
     rcases hM with rfl|⟨r,hr,rfl,_⟩
     ·simp
     ·exact(HRO.out r hr).1)
    have HSM:=zz (fun(M:List WrD) (hM:M= []∨∃r∈R,M=r.w∧keyB ⟨na,nn⟩ field r=true)=>show restS ⟨na,nn⟩ field R+M.length≤j by
     rcases hM with rfl|⟨r,hr,rfl,hk⟩
     ·exact Nat.le_trans (restS_le _ _ R) HWS.out
     ·exact Nat.le_trans (restS_mem _ _ R r hr hk) HWS.out)
    have HGL:=zz (fun(M:List WrD) (hM:M= []∨∃r∈R,M=r.w∧keyB ⟨na,nn⟩ field r=true)=>show M.length≤1000 by have:=HGS.out M hM;omega)
    have HGM:=zz (fun(M:List WrD) (hM:M= []∨∃r∈R,M=r.w∧keyB ⟨na,nn⟩ field r=true) (y:WrD) (hy:y∈M∨y=newW ⟨⟨ia,im⟩,clock,floor,deps,3,⟨na,nn⟩,⟨pa,pn⟩,neg,num,den,field,value,⟨ta,tn⟩,who⟩)=>show∃x∈K,y=newW x.d by
     rcases hy with hy|rfl
     ·rcases hM with rfl|⟨r,hr,rfl,_⟩
      ·simp at hy
      ·exact(HRO.out r hr).2.1 y hy
     ·exact⟨_,HX.out,rfl⟩)
    have HRR:=zz hRR;have lq6:wr.heap.size < (wr.alloc (.cells #[.string ia,.int .i64 im,.int .i64 clock,.int .i64 floor,.slice deps.a deps.len deps.cap,.int .i64 3,.string na,.int .i64 nn,.string pa,.int .i64 pn,.bool neg,.string num,.string den,.string field,.string value,.string ta,.int .i64 tn,.string who] 45)).drew.heap.size:=zl R6;obtain⟨q6,hq6⟩:∃q6,q6=wr.heap.size:=⟨_,rfl⟩;generalize hwr0:wr.alloc (.cells #[.string ia,.int .i64 im,.int .i64 clock,.int .i64 floor,.slice deps.a deps.len deps.cap,.int .i64 3,.string na,.int .i64 nn,.string pa,.int .i64 pn,.bool neg,.string num,.string den,.string field,.string value,.string ta,.int .i64 tn,.string who] 45)=wr0 at*
    rw [←hq6];rw [←hq6]at R6;clear hwr0 hrx hD hRR c5 hq6;refine wp_region_held_drew (S:=(fun w'=>w'.heap[q6]? =some (.cells #[.string ia,.int .i64 im,.int .i64 clock,.int .i64 floor,.slice deps.a deps.len deps.cap,.int .i64 3,.string na,.int .i64 nn,.string pa,.int .i64 pn,.bool neg,.string num,.string den,.string field,.string value,.string ta,.int .i64 tn,.string who] 45 (0,0)))) (by kernel_rfl) R6 (fun hH=>?_);refine tk 0 (.pointer (some ⟨q6,6,none⟩)) rfl hH ?_;(try simp only [PU]);refine tk 1 (.agg #[.string na,.int .i64 nn]) rfl hH ?_ (hy:=fun w' hSw=>by(try dsimp only at hSw);have c6:=zc w' _ 6 _ _ _ hSw;have c7:=zc w' _ 7 _ _ _ hSw;go_simp);(try simp only [PU]);refine tk 2 (.pointer (some ⟨q6,13,none⟩)) rfl hH ?_;(try simp only [PU]);refine tk 3 (.string field) rfl hH ?_ (hy:=fun w' hSw=>by(try dsimp only at hSw);have c13:=zc w' _ 13 _ _ _ hSw;go_simp);(try simp only [PU]);refine tk 4 (.slice s.a s.len s.cap) rfl hH ?_;(try simp only [PU]);refine tk 5 (.pointer (some ⟨q6,6,none⟩)) rfl hH ?_;(try simp only [PU]);refine tk 6 (.agg #[.string na,.int .i64 nn]) rfl hH ?_ (hy:=fun w' hSw=>by(try dsimp only at hSw);have c6:=zc w' _ 6 _ _ _ hSw;have c7:=zc w' _ 7 _ _ _ hSw;go_simp);(try simp only [PU]);refine tk 7 (.pointer (some ⟨q6,13,none⟩)) rfl hH ?_;(try simp only [PU]);refine tk 8 (.string field) rfl hH ?_ (hy:=fun w' hSw=>by(try dsimp only at hSw);have c13:=zc w' _ 13 _ _ _ hSw;go_simp);(try simp only [PU]);refine tk 10 (.agg #[.string ia,.int .i64 im,.int .i64 clock,.int .i64 floor,.slice deps.a deps.len deps.cap,.int .i64 3,.string na,.int .i64 nn,.string pa,.int .i64 pn,.bool neg,.string num,.string den,.string field,.string value,.string ta,.int .i64 tn,.string who]) rfl hH ?_ (hy:=fun _ hSw=>by(try dsimp only at hSw);exact exec_load_row 45 _ rfl q6 45 _ (0,0) _ rfl hSw rfl Tryz.underlying45 (by kernel_rfl));(try simp only [PU]);refine wpAnyH_ready (rs:= [9,13]) (by kernel_rfl) (by simp) ?_;refine AllReadyH.cons rfl (fun K9 hK9=>?_) (AllReadyH.cons rfl (fun K9 hK9=>?_) AllReadyH.nil);go_simp;refine(HG.out _ BL).mono ?_;rintro e w4 ⟨hb,s4,M4,rfl,hM4,hM4R⟩;have R6:=(hb.block _ (zl R6)).trans R6;have BL:=BL.trans (hb.mono BL.size);clear hb;refine hK9.out _ _ R6 (fun hH=>?_);clear hK9;(try simp only [PU]);refine wpAnyH_ready (rs:= [11,13]) (by kernel_rfl) (by simp) ?_;refine AllReadyH.cons rfl (fun K9 hK9=>?_) (AllReadyH.cons rfl (fun K9 hK9=>?_) AllReadyH.nil);go_simp;refine(HWR.out _ s4 M4 BL hM4 (HGL.out M4 hM4R)).mono ?_;rintro e w5 ⟨s5,M5,rfl,hM5,hM5l,hM5m,hb⟩;have R6:=(hb.block _ (zl R6)).trans R6;have BL:=BL.trans (hb.mono BL.size);have HMM:=zz (And.intro (Nat.le_trans hM5l (Nat.succ_le_succ (HGS.out M4 hM4R))) (fun y hy=>HGM.out M4 hM4R y (hM5m y hy)));have HMS:=zz (show restS ⟨na,nn⟩ field R+M5.length≤j+1 from Nat.le_trans (Nat.add_le_add_left hM5l _) (Nat.succ_le_succ (HSM.out M4 hM4R)));clear hb hM5l hM5m;refine hK9.out _ _ R6 (fun hH=>?_);clear hK9;(try simp only [PU]);refine tk 12 (.agg #[.string na,.int .i64 nn,.string field,.slice s5.a s5.len s5.cap]) rfl hH ?_;(try simp only [PU]);refine rd 13 rfl (fun K9 hK9=>?_);go_simp;have hB7:wr.heap.size≤w5.heap.size:=BL.size;have R6:=zo w5 _ (.cells #[.string ⟨#[]⟩,.int .i64 0,.string ⟨#[]⟩,.slice none 0 0] 48) _ R6;have R7:(w5.alloc (.cells #[.string ⟨#[]⟩,.int .i64 0,.string ⟨#[]⟩,.slice none 0 0] 48)).heap[w5.heap.size]? =_:=zg _ _ _ rfl;have BL:=BL.alloc BL.size (.cells #[.string ⟨#[]⟩,.int .i64 0,.string ⟨#[]⟩,.slice none 0 0] 48);have hM5:=hM5.alloc (.cells #[.string ⟨#[]⟩,.int .i64 0,.string ⟨#[]⟩,.slice none 0 0] 48);obtain⟨q7,hq7⟩:∃q7,q7=w5.heap.size:=⟨_,rfl⟩;rw [←hq7]at R7 hB7⊢;clear hq7;refine hK9.out _ _ R6 (fun hH=>?_);clear hK9;(try simp only [PU]);refine rd 14 rfl (fun K9 hK9=>?_);refine step_store_row rfl 48 _ _ rfl q7 #[.string ⟨#[]⟩,.int .i64 0,.string ⟨#[]⟩,.slice none 0 0] #[.string na,.int .i64 nn,.string field,.slice s5.a s5.len s5.cap] R7 rfl rfl (by kernel_rfl) rfl (by simp [Value.oneCell']) ?_;intro w9 h9 h9o h9s h9b;have hne:q6≠q7:=fun e=>by subst e;rw [R6]at R7;cases R7
    have R6:=(h9o q6 hne).trans R6;have hM5:=wr_but_row hM5 R7 h9o;have BL:=BL.trans (h9b _ hB7);refine hK9.out _ _ R6 (fun hH=>?_);clear hK9;(try simp only [PU]);refine wpAnyH_done (by kernel_rfl) ?_ _;clear R6 R7 h9o h9s h9b hH hne
    rotate_left 1
    go_simp;have hB7:wr.heap.size≤w4.heap.size:=BL.size;have R6:=zo w4 _ (.cells #[.string ⟨#[]⟩,.int .i64 0,.string ⟨#[]⟩,.slice none 0 0] 48) _ R6;have R7:(w4.alloc (.cells #[.string ⟨#[]⟩,.int .i64 0,.string ⟨#[]⟩,.slice none 0 0] 48)).heap[w4.heap.size]? =_:=zg _ _ _ rfl;have BL:=BL.alloc BL.size (.cells #[.string ⟨#[]⟩,.int .i64 0,.string ⟨#[]⟩,.slice none 0 0] 48);have hM4:=hM4.alloc (.cells #[.string ⟨#[]⟩,.int .i64 0,.string ⟨#[]⟩,.slice none 0 0] 48);obtain⟨q7,hq7⟩:∃q7,q7=w4.heap.size:=⟨_,rfl⟩;rw [←hq7]at R7 hB7⊢;clear hq7;refine hK9.out _ _ R6 (fun hH=>?_);clear hK9;(try simp only [PU]);refine rd 11 rfl (fun K9 hK9=>?_);go_simp;refine(HWR.out _ s4 M4 BL hM4 (HGL.out M4 hM4R)).mono ?_;rintro e w5 ⟨s5,M5,rfl,hM5,hM5l,hM5m,hb⟩;have R6:=(hb.block _ (zl R6)).trans R6;have BL:=BL.trans (hb.mono BL.size);have R7:=(hb.block _ (zl R7)).trans R7;have HMM:=zz (And.intro (Nat.le_trans hM5l (Nat.succ_le_succ (HGS.out M4 hM4R))) (fun y hy=>HGM.out M4 hM4R y (hM5m y hy)));have HMS:=zz (show restS ⟨na,nn⟩ field R+M5.length≤j+1 from Nat.le_trans (Nat.add_le_add_left hM5l _) (Nat.succ_le_succ (HSM.out M4 hM4R)));clear hb hM5l hM5m;refine hK9.out _ _ R6 (fun hH=>?_);clear hK9;(try simp only [PU]);refine tk 12 (.agg #[.string na,.int .i64 nn,.string field,.slice s5.a s5.len s5.cap]) rfl hH ?_;(try simp only [PU]);refine rd 14 rfl (fun K9 hK9=>?_);refine step_store_row rfl 48 _ _ rfl q7 #[.string ⟨#[]⟩,.int .i64 0,.string ⟨#[]⟩,.slice none 0 0] #[.string na,.int .i64 nn,.string field,.slice s5.a s5.len s5.cap] R7 rfl rfl (by kernel_rfl) rfl (by simp [Value.oneCell']) ?_;intro w9 h9 h9o h9s h9b;have hne:q6≠q7:=fun e=>by subst e;rw [R6]at R7;cases R7
    have R6:=(h9o q6 hne).trans R6;have hM5:=wr_but_row hM5 R7 h9o;have BL:=BL.trans (h9b _ hB7);refine hK9.out _ _ R6 (fun hH=>?_);clear hK9;(try simp only [PU]);refine wpAnyH_done (by kernel_rfl) ?_ _;clear R6 R7 h9o h9s h9b hH hne
    rotate_left 1
    go_simp;have hB7:wr.heap.size≤wr0.heap.size:=BL.size;have R6:=zo wr0.drew _ (.cells #[.string ⟨#[]⟩,.int .i64 0,.string ⟨#[]⟩,.slice none 0 0] 48) _ R6;have R7:(wr0.drew.alloc (.cells #[.string ⟨#[]⟩,.int .i64 0,.string ⟨#[]⟩,.slice none 0 0] 48)).heap[wr0.heap.size]? =_:=zg _ _ _ rfl;have BL:=BL.alloc BL.size (.cells #[.string ⟨#[]⟩,.int .i64 0,.string ⟨#[]⟩,.slice none 0 0] 48);obtain⟨q7,hq7⟩:∃q7,q7=wr0.heap.size:=⟨_,rfl⟩;rw [←hq7]at R7 hB7⊢;clear hq7;refine hK9.out _ _ R6 (fun hH=>?_);clear hK9;(try simp only [PU]);refine rd 9 rfl (fun K9 hK9=>?_);go_simp;refine(HG.out _ BL).mono ?_;rintro e w4 ⟨hb,s4,M4,rfl,hM4,hM4R⟩;have R6:=(hb.block _ (zl R6)).trans R6;have BL:=BL.trans (hb.mono BL.size);have R7:=(hb.block _ (zl R7)).trans R7;clear hb;refine hK9.out _ _ R6 (fun hH=>?_);clear hK9;(try simp only [PU]);refine rd 11 rfl (fun K9 hK9=>?_);go_simp;refine(HWR.out _ s4 M4 BL hM4 (HGL.out M4 hM4R)).mono ?_;rintro e w5 ⟨s5,M5,rfl,hM5,hM5l,hM5m,hb⟩;have R6:=(hb.block _ (zl R6)).trans R6;have BL:=BL.trans (hb.mono BL.size);have R7:=(hb.block _ (zl R7)).trans R7;have HMM:=zz (And.intro (Nat.le_trans hM5l (Nat.succ_le_succ (HGS.out M4 hM4R))) (fun y hy=>HGM.out M4 hM4R y (hM5m y hy)));have HMS:=zz (show restS ⟨na,nn⟩ field R+M5.length≤j+1 from Nat.le_trans (Nat.add_le_add_left hM5l _) (Nat.succ_le_succ (HSM.out M4 hM4R)));clear hb hM5l hM5m;refine hK9.out _ _ R6 (fun hH=>?_);clear hK9;(try simp only [PU]);refine tk 12 (.agg #[.string na,.int .i64 nn,.string field,.slice s5.a s5.len s5.cap]) rfl hH ?_;(try simp only [PU]);refine rd 14 rfl (fun K9 hK9=>?_);refine step_store_row rfl 48 _ _ rfl q7 #[.string ⟨#[]⟩,.int .i64 0,.string ⟨#[]⟩,.slice none 0 0] #[.string na,.int .i64 nn,.string field,.slice s5.a s5.len s5.cap] R7 rfl rfl (by kernel_rfl) rfl (by simp [Value.oneCell']) ?_;intro w9 h9 h9o h9s h9b;have hne:q6≠q7:=fun e=>by subst e;rw [R6]at R7;cases R7
    have R6:=(h9o q6 hne).trans R6;have hM5:=wr_but_row hM5 R7 h9o;have BL:=BL.trans (h9b _ hB7);refine hK9.out _ _ R6 (fun hH=>?_);clear hK9;(try simp only [PU]);refine wpAnyH_done (by kernel_rfl) ?_ _;clear R6 R7 h9o h9s h9b hH hne
    rotate_left 1
    all_goals
     have HRW:=zz (HRR.out.below BL);have HBL9:=zz (HBL0.out.trans (BL.mono HBL0.out.size));have HM9:=zz hM5;have HR79:=zz h9;have l79:=zl h9
     have HOK:=zz (fun(R8:List RegP) (hm:∀r∈R8,r∈R∨r=(⟨⟨na,nn⟩,field,M5⟩:RegP)) (r:RegP) (hr:r∈R8)=>show RegOk K (j+1) r by
      rcases hm r hr with h|rfl
      ·exact(HRO.out r h).mono (by omega)
      ·exact⟨HMM.out.1,HMM.out.2,_,HX.out,rfl⟩)
     clear BL hM5 h9 HG HWR HGS HGL HGM HSM HRR hB7 lq6;obtain⟨ds,hd1,hd2,hd3⟩:=HRW.out;obtain⟨sa,sl,scp⟩:=s;have hsl:sl=R.length:=by have h:=hd1.len;rw [hd2]at h;exact h
     have HSL:=zz hsl;have hsle:sl≤40:=by have:=HRL.out;omega
     have HD1:=zz hd1;have HD2:=zz hd2;have HD3:=zz hd3;clear hd1 hd2 hd3 hsl;go_wp2
     go_loopg [8,9,37] sl (fun gn t8 t9 t37 wi=>∃(k:Nat) (s8:SlV) (ds8:List RegD) (R8:List RegP) (bd:Bool),k+gn=sl∧t37=.int .i64 k∧t8=.slice s8.a s8.len s8.cap∧t9=.bool bd∧wi.ownsRow w9.heap.size 48 4 s8.v ds8.length (regY.flat ds8)∧RegsAt w9 ds8 R8∧(ds8.length≤k+1∧(bd=false→ds8.length≤k))∧InI ⟨na,nn⟩ field M5 R k bd R8∧Below w9.heap.size w9 wi)
     case atStart=>exact⟨0,⟨some ⟨w9.heap.size,0,none⟩,0,0⟩, [], [],false,by omega,rfl,rfl,rfl,own_empty w9 w9.heap.size w9.heap.size 48 4 rfl (Nat.le_refl _),RegsAt.nil _,⟨by simp,by simp⟩,InI.nil,(Below.refl _ _).alloc (Nat.le_refl _) _⟩
     case round=>
      obtain⟨G2,rfl⟩:∃G2,G2=gk:=⟨_,rfl⟩;obtain⟨wi,rfl⟩:∃wi,wi=wr:=⟨_,rfl⟩;obtain⟨k,s8,ds8,R8,bd,hk,rfl,rfl,rfl,hown,hat,hle8,hmem,hBi⟩:=hrel;have HK:=zz hk;have HAT:=zz hat;have HLE:=zz hle8;have HMEM:=zz hmem;have BLi:=zz hBi;have hl8:ds8.length≤k+1:=hle8.1;have hszi:w9.heap.size≤wi.heap.size:=hBi.size;have HOLT:=zz (fun g (hg:(SlV.v s8).ownBlock=some g)=>(hown.lt g hg).2);have HOB:=zz (fun g (hg:(SlV.v s8).ownBlock=some g)=>(hown.lt g hg).1);clear hk hat hle8 hmem hBi
      by_cases hlt2:k < sl
      ·obtain⟨d,hd⟩:∃d,ds[k]? =some d:=⟨_,List.getElem?_eq_getElem (by rw [HD2.out,←HSL.out];exact hlt2)⟩;obtain⟨r,hr⟩:∃r,R[k]? =some r:=⟨_,List.getElem?_eq_getElem (by rw [←HSL.out];exact hlt2)⟩;have HDR:=zz (HD3.out k d r hd hr);have HR2:=zz hr
       obtain⟨b2,off2,rfl,hrg⟩:∃b off,sa=some ⟨b,off,none⟩∧w9.rangeAt b off (regY.flat ds):=by
        rcases HD1.out with⟨h1,h2⟩|⟨b,off,cap,h1,h2,h3⟩
        ·rw [h2]at hd;cases hd
        ·simp [SlV.v]at h1;exact⟨b,off,h1.1,h3⟩
       have hrx2:wi.rangeAt b2 (off2+k*4) (regV d):=rangeAt_below (regY.elem hrg k d hd) BLi.out;unfold regV at hrx2;have R7:=zz (zo wi _ (.cells #[.string d.node.a,.int .i64 d.node.n,.string d.field,.slice d.w.a d.w.len d.w.cap] 48) _ ((BLi.out.block q7 l79).trans HR79.out));have R11:RowKit.Hid ((wi.alloc (.cells #[.string d.node.a,.int .i64 d.node.n,.string d.field,.slice d.w.a d.w.len d.w.cap] 48)).heap[wi.heap.size]? =_):=zz (zg wi _ _ rfl);have hown0:=hown;have hown:=hown.alloc (.cells #[.string d.node.a,.int .i64 d.node.n,.string d.field,.slice d.w.a d.w.len d.w.cap] 48);have BLi:=zz (BLi.out.alloc hszi (.cells #[.string d.node.a,.int .i64 d.node.n,.string d.field,.slice d.w.a d.w.len d.w.cap] 48));have hszi0:=hszi;have hszi:w9.heap.size≤(wi.alloc (.cells #[.string d.node.a,.int .i64 d.node.n,.string d.field,.slice d.w.a d.w.len d.w.cap] 48)).heap.size:=by(try simp);omega
       have hltZ2:(k:Int) < (sl:Int):=by omega
       clear hr hd hrg hown0
       cases he:same38 d.node.a d.node.n na nn with
       |false=>
        cases bd with
        |true=>
         have x0:=zc _ _ 0 _ _ _ R11.out;have x1:=zc _ _ 1 _ _ _ R11.out;have x2:=zc _ _ 2 _ _ _ R11.out;have r0:=zc _ _ 0 _ _ _ R7.out;have r1:=zc _ _ 1 _ _ _ R7.out;have r2:=zc _ _ 2 _ _ _ R7.out;have HOW:=zz (hown.alloc (.cells #[.string d.node.a,.int .i64 d.node.n,.string d.field,.slice d.w.a d.w.len d.w.cap] 48))
         go_wp2_with(first|refine wpList_load_mid rfl 48 _ rfl b2 (off2+k*4) rfl _ _ hrx2 Tryz.underlying48 rfl (by kernel_rfl) ?_|refine wpList_load_roww (by rfl) 48 _ rfl q7 rfl 48 _ (0,0) _ R7.out rfl Tryz.underlying48 (by kernel_rfl) ?_|refine wpList_load_roww (by rfl) 48 _ rfl wi.heap.size rfl 48 _ (0,0) _ R11.out rfl Tryz.underlying48 (by kernel_rfl) ?_|(at_builtin;refine wpList_app1 (Y:=regY) rfl _ _ 26 48 64 (.agg z48) rfl Tryz.underlying26 info48 rfl (by decide) w9.heap.size _ (ds8) rfl HOW.out d _ 1 rfl (zg _ _ _ (by first|rfl|simp)) (by(try simp);omega) (by decide) (by(try simp);omega) ?_;intro s1 w6 hown1 hg1 hb1))
         have HB6:=zz ((BLi.out.alloc hszi _).trans (hb1 w9.heap.size (Nat.le_refl _)));clear hg1 hb1 x0 x1 x2 r0 r1 r2 hrx2 hown;go_wp2
         go_roundg (sl - 1 - k)
         case rel=>exact⟨k+1,s1,ds8++ [d],R8++ [r],true,by have:=HK.out;omega,by go_num,rfl,rfl,hown1,(HAT.out.snoc HDR.out),⟨by(try simp);omega,fun h=>by cases h⟩,HMEM.out.keep HR2.out (keyB_no1 HDR.out.1 he),HB6.out⟩
         case measure=>have:=HK.out;omega
        |false=>
         have hlf:=HLE.out.2 rfl
         go_wp2_with(first|refine wpList_load_mid rfl 48 _ rfl b2 (off2+k*4) rfl _ _ hrx2 Tryz.underlying48 rfl (by kernel_rfl) ?_|refine wpList_load_roww (by rfl) 48 _ rfl q7 rfl 48 _ (0,0) _ R7.out rfl Tryz.underlying48 (by kernel_rfl) ?_|refine wpList_load_roww (by rfl) 48 _ rfl wi.heap.size rfl 48 _ (0,0) _ R11.out rfl Tryz.underlying48 (by kernel_rfl) ?_)
         refine(rFirst_any d (⟨⟨na,nn⟩,field,s5⟩:RegD) _).mono ?_;rintro e w5 ⟨⟨bb,rfl⟩,hb⟩;have R7:=zz ((hb.block _ (zl R7.out)).trans R7.out);have R11:=zz ((hb.block _ (zl R11.out)).trans R11.out);have BLi:=zz (BLi.out.trans (hb.mono (Nat.le_of_lt_succ (Nat.lt_succ_of_le hszi))));have hszi:w9.heap.size≤w5.heap.size:=Nat.le_trans hszi hb.size;have hown:=ownsRow_below hown hb;have lx:wi.heap.size < w5.heap.size:=zl R11.out;have l7:q7 < w5.heap.size:=zl R7.out;clear hb hrx2
         cases bb with
         |true=>
          have x0:=zc _ _ 0 _ _ _ R11.out;have x1:=zc _ _ 1 _ _ _ R11.out;have x2:=zc _ _ 2 _ _ _ R11.out;have r0:=zc _ _ 0 _ _ _ R7.out;have r1:=zc _ _ 1 _ _ _ R7.out;have r2:=zc _ _ 2 _ _ _ R7.out;have HOW:=zz (hown.alloc (.cells #[.string d.node.a,.int .i64 d.node.n,.string d.field,.slice d.w.a d.w.len d.w.cap] 48))
          go_wp2_with(first|refine wpList_load_roww (by rfl) 48 _ rfl wi.heap.size rfl 48 _ (0,0) _ R11.out rfl Tryz.underlying48 (by kernel_rfl) ?_|(at_builtin;refine wpList_app1 (Y:=regY) rfl _ _ 26 48 64 (.agg z48) rfl Tryz.underlying26 info48 rfl (by decide) w9.heap.size _ (ds8) rfl HOW.out d _ 1 rfl (zg _ _ _ (by first|rfl|simp)) (by(try simp);omega) (by decide) (by(try simp);omega) ?_;intro s1 w6 hown1 hg1 hb1))
          have HB6:=zz ((BLi.out.alloc hszi _).trans (hb1 w9.heap.size (Nat.le_refl _)));clear hg1 hb1 x0 x1 x2 r0 r1 r2 hown;go_wp2
          go_roundg (sl - 1 - k)
          case rel=>exact⟨k+1,s1,ds8++ [d],R8++ [r],false,by have:=HK.out;omega,by go_num,rfl,rfl,hown1,(HAT.out.snoc HDR.out),⟨by(try simp);omega,fun _=>by(try simp);omega⟩,HMEM.out.keep HR2.out (keyB_no1 HDR.out.1 he),HB6.out⟩
          case measure=>have:=HK.out;omega
         |false=>
          have HOW:=zz (hown.alloc (.cells #[.string na,.int .i64 nn,.string field,.slice s5.a s5.len s5.cap] 48));have hx9:some wi.heap.size≠(SlV.v s8).ownBlock:=fun e=>absurd (HOLT.out _ e.symm) (by omega)
          have h79:some q7≠(SlV.v s8).ownBlock:=fun e=>absurd (HOB.out _ e.symm) (by omega)
          have HBLi:=BLi
          go_wp2_with(first|refine wpList_load_roww (by rfl) 48 _ rfl q7 rfl 48 _ (0,0) _ R7.out rfl Tryz.underlying48 (by kernel_rfl) ?_|refine wpList_load_roww (by rfl) 48 _ rfl wi.heap.size rfl 48 _ (0,0) _ R11.out rfl Tryz.underlying48 (by kernel_rfl) ?_|(at_builtin;refine wpList_app1 (Y:=regY) rfl _ _ 26 48 64 (.agg z48) rfl Tryz.underlying26 info48 rfl (by decide) w9.heap.size _ (ds8) rfl HOW.out (⟨⟨na,nn⟩,field,s5⟩:RegD) _ 1 rfl (zg _ _ _ (by first|rfl|simp)) (by(try simp);omega) (by decide) (by(try simp);omega) ?_;intro s1 w6 hown1 hg1 hb1;have R7:=zz ((hg1.block q7 (by(try simp);omega) h79).trans (zo _ _ _ _ R7.out));have R11:=zz ((hg1.block wi.heap.size (by(try simp);omega) hx9).trans (zo _ _ _ _ R11.out));have x0:=zc _ _ 0 _ _ _ R11.out;have x1:=zc _ _ 1 _ _ _ R11.out;have x2:=zc _ _ 2 _ _ _ R11.out;have r0:=zc _ _ 0 _ _ _ R7.out;have r1:=zc _ _ 1 _ _ _ R7.out;have r2:=zc _ _ 2 _ _ _ R7.out;have hsz6:w9.heap.size≤w6.heap.size:=(by have:=hg1.size;simp at this;omega);have BLi:=zz ((BLi.out.alloc hszi _).trans (hb1 w9.heap.size (Nat.le_refl _)));have HOW2:=zz (hown1.alloc (.cells #[.string d.node.a,.int .i64 d.node.n,.string d.field,.slice d.w.a d.w.len d.w.cap] 48));have HO1:=zz hown1;clear hown1 hg1 hb1)|(at_builtin;refine wpList_app1 (Y:=regY) rfl _ _ 26 48 64 (.agg z48) rfl Tryz.underlying26 info48 rfl (by decide) w9.heap.size _ (ds8++ [(⟨⟨na,nn⟩,field,s5⟩:RegD)]) rfl HOW2.out d _ 1 rfl (zg _ _ _ (by first|rfl|simp)) (by(try simp);omega) (by decide) (by(try simp);omega) ?_;intro s2 w7 hown2 hg2 hb2))
          have HB6:=zz ((BLi.out.alloc hsz6 _).trans (hb2 w9.heap.size (Nat.le_refl _)));clear hg2 hb2 x0 x1 x2 r0 r1 r2 hown;go_wp2
          go_roundg (sl - 1 - k)
          case rel=>exact⟨k+1,s2,ds8++ [(⟨⟨na,nn⟩,field,s5⟩:RegD)]++ [d],R8++ [(⟨⟨na,nn⟩,field,M5⟩:RegP)]++ [r],true,by have:=HK.out;omega,by go_num,rfl,rfl,hown2,((HAT.out.snoc ⟨rfl,rfl,HM9.out⟩).snoc HDR.out),⟨by(try simp);omega,fun h=>by cases h⟩,HMEM.out.last.keep HR2.out (keyB_no1 HDR.out.1 he),HB6.out⟩
          case measure=>have:=HK.out;omega
       |true=>
        cases hf:(d.field.toList==field.toList)with
        |false=>
         cases bd with
         |true=>
          have x0:=zc _ _ 0 _ _ _ R11.out;have x1:=zc _ _ 1 _ _ _ R11.out;have x2:=zc _ _ 2 _ _ _ R11.out;have r0:=zc _ _ 0 _ _ _ R7.out;have r1:=zc _ _ 1 _ _ _ R7.out;have r2:=zc _ _ 2 _ _ _ R7.out;have HOW:=zz (hown.alloc (.cells #[.string d.node.a,.int .i64 d.node.n,.string d.field,.slice d.w.a d.w.len d.w.cap] 48))
          go_wp2_with(first|refine wpList_load_mid rfl 48 _ rfl b2 (off2+k*4) rfl _ _ hrx2 Tryz.underlying48 rfl (by kernel_rfl) ?_|refine wpList_load_roww (by rfl) 48 _ rfl q7 rfl 48 _ (0,0) _ R7.out rfl Tryz.underlying48 (by kernel_rfl) ?_|refine wpList_load_roww (by rfl) 48 _ rfl wi.heap.size rfl 48 _ (0,0) _ R11.out rfl Tryz.underlying48 (by kernel_rfl) ?_|(at_builtin;refine wpList_app1 (Y:=regY) rfl _ _ 26 48 64 (.agg z48) rfl Tryz.underlying26 info48 rfl (by decide) w9.heap.size _ (ds8) rfl HOW.out d _ 1 rfl (zg _ _ _ (by first|rfl|simp)) (by(try simp);omega) (by decide) (by(try simp);omega) ?_;intro s1 w6 hown1 hg1 hb1))
          have HB6:=zz ((BLi.out.alloc hszi _).trans (hb1 w9.heap.size (Nat.le_refl _)));clear hg1 hb1 x0 x1 x2 r0 r1 r2 hrx2 hown;go_wp2
          go_roundg (sl - 1 - k)
          case rel=>exact⟨k+1,s1,ds8++ [d],R8++ [r],true,by have:=HK.out;omega,by go_num,rfl,rfl,hown1,(HAT.out.snoc HDR.out),⟨by(try simp);omega,fun h=>by cases h⟩,HMEM.out.keep HR2.out (keyB_no2 HDR.out.2.1 hf),HB6.out⟩
          case measure=>have:=HK.out;omega
         |false=>
          have hlf:=HLE.out.2 rfl
          go_wp2_with(first|refine wpList_load_mid rfl 48 _ rfl b2 (off2+k*4) rfl _ _ hrx2 Tryz.underlying48 rfl (by kernel_rfl) ?_|refine wpList_load_roww (by rfl) 48 _ rfl q7 rfl 48 _ (0,0) _ R7.out rfl Tryz.underlying48 (by kernel_rfl) ?_|refine wpList_load_roww (by rfl) 48 _ rfl wi.heap.size rfl 48 _ (0,0) _ R11.out rfl Tryz.underlying48 (by kernel_rfl) ?_)
          refine(rFirst_any d (⟨⟨na,nn⟩,field,s5⟩:RegD) _).mono ?_;rintro e w5 ⟨⟨bb,rfl⟩,hb⟩;have R7:=zz ((hb.block _ (zl R7.out)).trans R7.out);have R11:=zz ((hb.block _ (zl R11.out)).trans R11.out);have BLi:=zz (BLi.out.trans (hb.mono (Nat.le_of_lt_succ (Nat.lt_succ_of_le hszi))));have hszi:w9.heap.size≤w5.heap.size:=Nat.le_trans hszi hb.size;have hown:=ownsRow_below hown hb;have lx:wi.heap.size < w5.heap.size:=zl R11.out;have l7:q7 < w5.heap.size:=zl R7.out;clear hb hrx2
          cases bb with
          |true=>
           have x0:=zc _ _ 0 _ _ _ R11.out;have x1:=zc _ _ 1 _ _ _ R11.out;have x2:=zc _ _ 2 _ _ _ R11.out;have r0:=zc _ _ 0 _ _ _ R7.out;have r1:=zc _ _ 1 _ _ _ R7.out;have r2:=zc _ _ 2 _ _ _ R7.out;have HOW:=zz (hown.alloc (.cells #[.string d.node.a,.int .i64 d.node.n,.string d.field,.slice d.w.a d.w.len d.w.cap] 48))
           go_wp2_with(first|refine wpList_load_roww (by rfl) 48 _ rfl wi.heap.size rfl 48 _ (0,0) _ R11.out rfl Tryz.underlying48 (by kernel_rfl) ?_|(at_builtin;refine wpList_app1 (Y:=regY) rfl _ _ 26 48 64 (.agg z48) rfl Tryz.underlying26 info48 rfl (by decide) w9.heap.size _ (ds8) rfl HOW.out d _ 1 rfl (zg _ _ _ (by first|rfl|simp)) (by(try simp);omega) (by decide) (by(try simp);omega) ?_;intro s1 w6 hown1 hg1 hb1))
           have HB6:=zz ((BLi.out.alloc hszi _).trans (hb1 w9.heap.size (Nat.le_refl _)));clear hg1 hb1 x0 x1 x2 r0 r1 r2 hown;go_wp2
           go_roundg (sl - 1 - k)
           case rel=>exact⟨k+1,s1,ds8++ [d],R8++ [r],false,by have:=HK.out;omega,by go_num,rfl,rfl,hown1,(HAT.out.snoc HDR.out),⟨by(try simp);omega,fun _=>by(try simp);omega⟩,HMEM.out.keep HR2.out (keyB_no2 HDR.out.2.1 hf),HB6.out⟩
           case measure=>have:=HK.out;omega
          |false=>
           have HOW:=zz (hown.alloc (.cells #[.string na,.int .i64 nn,.string field,.slice s5.a s5.len s5.cap] 48));have hx9:some wi.heap.size≠(SlV.v s8).ownBlock:=fun e=>absurd (HOLT.out _ e.symm) (by omega)
           have h79:some q7≠(SlV.v s8).ownBlock:=fun e=>absurd (HOB.out _ e.symm) (by omega)
           have HBLi:=BLi
           go_wp2_with(first|refine wpList_load_roww (by rfl) 48 _ rfl q7 rfl 48 _ (0,0) _ R7.out rfl Tryz.underlying48 (by kernel_rfl) ?_|refine wpList_load_roww (by rfl) 48 _ rfl wi.heap.size rfl 48 _ (0,0) _ R11.out rfl Tryz.underlying48 (by kernel_rfl) ?_|(at_builtin;refine wpList_app1 (Y:=regY) rfl _ _ 26 48 64 (.agg z48) rfl Tryz.underlying26 info48 rfl (by decide) w9.heap.size _ (ds8) rfl HOW.out (⟨⟨na,nn⟩,field,s5⟩:RegD) _ 1 rfl (zg _ _ _ (by first|rfl|simp)) (by(try simp);omega) (by decide) (by(try simp);omega) ?_;intro s1 w6 hown1 hg1 hb1;have R7:=zz ((hg1.block q7 (by(try simp);omega) h79).trans (zo _ _ _ _ R7.out));have R11:=zz ((hg1.block wi.heap.size (by(try simp);omega) hx9).trans (zo _ _ _ _ R11.out));have x0:=zc _ _ 0 _ _ _ R11.out;have x1:=zc _ _ 1 _ _ _ R11.out;have x2:=zc _ _ 2 _ _ _ R11.out;have r0:=zc _ _ 0 _ _ _ R7.out;have r1:=zc _ _ 1 _ _ _ R7.out;have r2:=zc _ _ 2 _ _ _ R7.out;have hsz6:w9.heap.size≤w6.heap.size:=(by have:=hg1.size;simp at this;omega);have BLi:=zz ((BLi.out.alloc hszi _).trans (hb1 w9.heap.size (Nat.le_refl _)));have HOW2:=zz (hown1.alloc (.cells #[.string d.node.a,.int .i64 d.node.n,.string d.field,.slice d.w.a d.w.len d.w.cap] 48));have HO1:=zz hown1;clear hown1 hg1 hb1)|(at_builtin;refine wpList_app1 (Y:=regY) rfl _ _ 26 48 64 (.agg z48) rfl Tryz.underlying26 info48 rfl (by decide) w9.heap.size _ (ds8++ [(⟨⟨na,nn⟩,field,s5⟩:RegD)]) rfl HOW2.out d _ 1 rfl (zg _ _ _ (by first|rfl|simp)) (by(try simp);omega) (by decide) (by(try simp);omega) ?_;intro s2 w7 hown2 hg2 hb2))
           have HB6:=zz ((BLi.out.alloc hsz6 _).trans (hb2 w9.heap.size (Nat.le_refl _)));clear hg2 hb2 x0 x1 x2 r0 r1 r2 hown;go_wp2
           go_roundg (sl - 1 - k)
           case rel=>exact⟨k+1,s2,ds8++ [(⟨⟨na,nn⟩,field,s5⟩:RegD)]++ [d],R8++ [(⟨⟨na,nn⟩,field,M5⟩:RegP)]++ [r],true,by have:=HK.out;omega,by go_num,rfl,rfl,hown2,((HAT.out.snoc ⟨rfl,rfl,HM9.out⟩).snoc HDR.out),⟨by(try simp);omega,fun h=>by cases h⟩,HMEM.out.last.keep HR2.out (keyB_no2 HDR.out.2.1 hf),HB6.out⟩
           case measure=>have:=HK.out;omega
        |true=>
         cases bd with
         |true=>
          have x0:=zc _ _ 0 _ _ _ R11.out;have x1:=zc _ _ 1 _ _ _ R11.out;have x2:=zc _ _ 2 _ _ _ R11.out;have r0:=zc _ _ 0 _ _ _ R7.out;have r1:=zc _ _ 1 _ _ _ R7.out;have r2:=zc _ _ 2 _ _ _ R7.out;have HOW:=zz (hown.alloc (.cells #[.string d.node.a,.int .i64 d.node.n,.string d.field,.slice d.w.a d.w.len d.w.cap] 48))
          go_wp2_with(first|refine wpList_load_mid rfl 48 _ rfl b2 (off2+k*4) rfl _ _ hrx2 Tryz.underlying48 rfl (by kernel_rfl) ?_|refine wpList_load_roww (by rfl) 48 _ rfl q7 rfl 48 _ (0,0) _ R7.out rfl Tryz.underlying48 (by kernel_rfl) ?_|refine wpList_load_roww (by rfl) 48 _ rfl wi.heap.size rfl 48 _ (0,0) _ R11.out rfl Tryz.underlying48 (by kernel_rfl) ?_)
          clear x0 x1 x2 r0 r1 r2 hrx2
          try go_wp2
          go_roundg (sl - 1 - k)
          case rel=>exact⟨k+1,s8,ds8,R8,true,by have:=HK.out;omega,by go_num,rfl,rfl,hown,HAT.out,⟨by(try simp);omega,fun h=>by cases h⟩,HMEM.out.skip HR2.out,BLi.out⟩
          case measure=>have:=HK.out;omega
         |false=>
          have hlf:=HLE.out.2 rfl
          go_wp2_with(first|refine wpList_load_mid rfl 48 _ rfl b2 (off2+k*4) rfl _ _ hrx2 Tryz.underlying48 rfl (by kernel_rfl) ?_|refine wpList_load_roww (by rfl) 48 _ rfl q7 rfl 48 _ (0,0) _ R7.out rfl Tryz.underlying48 (by kernel_rfl) ?_|refine wpList_load_roww (by rfl) 48 _ rfl wi.heap.size rfl 48 _ (0,0) _ R11.out rfl Tryz.underlying48 (by kernel_rfl) ?_)
          refine(rFirst_any d (⟨⟨na,nn⟩,field,s5⟩:RegD) _).mono ?_;rintro e w5 ⟨⟨bb,rfl⟩,hb⟩;have R7:=zz ((hb.block _ (zl R7.out)).trans R7.out);have R11:=zz ((hb.block _ (zl R11.out)).trans R11.out);have BLi:=zz (BLi.out.trans (hb.mono (Nat.le_of_lt_succ (Nat.lt_succ_of_le hszi))));have hszi:w9.heap.size≤w5.heap.size:=Nat.le_trans hszi hb.size;have hown:=ownsRow_below hown hb;have lx:wi.heap.size < w5.heap.size:=zl R11.out;have l7:q7 < w5.heap.size:=zl R7.out;clear hb hrx2
          cases bb with
          |true=>
           have x0:=zc _ _ 0 _ _ _ R11.out;have x1:=zc _ _ 1 _ _ _ R11.out;have x2:=zc _ _ 2 _ _ _ R11.out;have r0:=zc _ _ 0 _ _ _ R7.out;have r1:=zc _ _ 1 _ _ _ R7.out;have r2:=zc _ _ 2 _ _ _ R7.out;have HOW:=zz (hown.alloc (.cells #[.string d.node.a,.int .i64 d.node.n,.string d.field,.slice d.w.a d.w.len d.w.cap] 48))
           go_wp2_with fail
           clear x0 x1 x2 r0 r1 r2
           try go_wp2
           go_roundg (sl - 1 - k)
           case rel=>exact⟨k+1,s8,ds8,R8,false,by have:=HK.out;omega,by go_num,rfl,rfl,hown,HAT.out,⟨by(try simp);omega,fun _=>by(try simp);omega⟩,HMEM.out.skip HR2.out,BLi.out⟩
           case measure=>have:=HK.out;omega
          |false=>
           have HOW:=zz (hown.alloc (.cells #[.string na,.int .i64 nn,.string field,.slice s5.a s5.len s5.cap] 48));have hx9:some wi.heap.size≠(SlV.v s8).ownBlock:=fun e=>absurd (HOLT.out _ e.symm) (by omega)
           have h79:some q7≠(SlV.v s8).ownBlock:=fun e=>absurd (HOB.out _ e.symm) (by omega)
           have HBLi:=BLi
           go_wp2_with(first|refine wpList_load_roww (by rfl) 48 _ rfl q7 rfl 48 _ (0,0) _ R7.out rfl Tryz.underlying48 (by kernel_rfl) ?_|refine wpList_load_roww (by rfl) 48 _ rfl wi.heap.size rfl 48 _ (0,0) _ R11.out rfl Tryz.underlying48 (by kernel_rfl) ?_|(at_builtin;refine wpList_app1 (Y:=regY) rfl _ _ 26 48 64 (.agg z48) rfl Tryz.underlying26 info48 rfl (by decide) w9.heap.size _ (ds8) rfl HOW.out (⟨⟨na,nn⟩,field,s5⟩:RegD) _ 1 rfl (zg _ _ _ (by first|rfl|simp)) (by(try simp);omega) (by decide) (by(try simp);omega) ?_;intro s1 w6 hown1 hg1 hb1;have R7:=zz ((hg1.block q7 (by(try simp);omega) h79).trans (zo _ _ _ _ R7.out));have R11:=zz ((hg1.block wi.heap.size (by(try simp);omega) hx9).trans (zo _ _ _ _ R11.out));have x0:=zc _ _ 0 _ _ _ R11.out;have x1:=zc _ _ 1 _ _ _ R11.out;have x2:=zc _ _ 2 _ _ _ R11.out;have r0:=zc _ _ 0 _ _ _ R7.out;have r1:=zc _ _ 1 _ _ _ R7.out;have r2:=zc _ _ 2 _ _ _ R7.out;have hsz6:w9.heap.size≤w6.heap.size:=(by have:=hg1.size;simp at this;omega);have BLi:=zz ((BLi.out.alloc hszi _).trans (hb1 w9.heap.size (Nat.le_refl _)));have HOW2:=zz (hown1.alloc (.cells #[.string d.node.a,.int .i64 d.node.n,.string d.field,.slice d.w.a d.w.len d.w.cap] 48));have HO1:=zz hown1;clear hown1 hg1 hb1))
           clear x0 x1 x2 r0 r1 r2 hown
           try go_wp2
           go_roundg (sl - 1 - k)
           case rel=>exact⟨k+1,s1,ds8++ [(⟨⟨na,nn⟩,field,s5⟩:RegD)],R8++ [(⟨⟨na,nn⟩,field,M5⟩:RegP)],true,by have:=HK.out;omega,by go_num,rfl,rfl,HO1.out,(HAT.out.snoc ⟨rfl,rfl,HM9.out⟩),⟨by(try simp);omega,fun h=>by cases h⟩,HMEM.out.last.skip HR2.out,BLi.out⟩
           case measure=>have:=HK.out;omega
      ·obtain rfl:k=sl:=by have:=HK.out;omega
       have hl8e:=HLE.out;have hs8:=HAT.out.1;have hsR:=HSL.out;have hRj:=HRL.out;clear hszi;have hszi:w9.heap.size≤wi.heap.size:=BLi.out.size
       cases bd with
       |true=>
        go_wp2_with fail
        go_roundg (n - 1 - j)
        case rel=>exact⟨j+1,s8,R8,by have:=HJ.out;omega,by go_num,rfl,⟨ds8,Lay.Rd.of_owns (Y:=regY) hown,HAT.out.1,(HAT.out.below BLi.out).2⟩,by omega,HOK.out R8 HMEM.out.mem,InI_end HMEM.out hsR HMS.out,HBL9.out.trans (BLi.out.mono HBL9.out.size)⟩
        case measure=>have:=HJ.out;omega
       |false=>
        have hlf:=hl8e.2 rfl;have R7:=zz ((BLi.out.block q7 l79).trans HR79.out);have HOW:=zz (hown.alloc (.cells #[.string na,.int .i64 nn,.string field,.slice s5.a s5.len s5.cap] 48))
        go_wp2_with(first|refine wpList_load_roww (by rfl) 48 _ rfl q7 rfl 48 _ (0,0) _ R7.out rfl Tryz.underlying48 (by kernel_rfl) ?_|(at_builtin;refine wpList_app1 (Y:=regY) rfl _ _ 26 48 64 (.agg z48) rfl Tryz.underlying26 info48 rfl (by decide) w9.heap.size _ (ds8) rfl HOW.out (⟨⟨na,nn⟩,field,s5⟩:RegD) _ 1 rfl (zg _ _ _ (by first|rfl|simp)) (by(try simp);omega) (by decide) (by(try simp);omega) ?_;intro s1 w6 hown1 hg1 hb1))
        have HB6:=zz ((BLi.out.alloc hszi _).trans (hb1 w9.heap.size (Nat.le_refl _)));clear hg1 hb1 hown;go_wp2
        go_roundg (n - 1 - j)
        case rel=>exact⟨j+1,s1,R8++ [(⟨⟨na,nn⟩,field,M5⟩:RegP)],by have:=HJ.out;omega,by go_num,rfl,⟨ds8++ [(⟨⟨na,nn⟩,field,s5⟩:RegD)],Lay.Rd.of_owns (Y:=regY) hown1,(HAT.out.snoc ⟨rfl,rfl,HM9.out⟩).1,((HAT.out.snoc (d:=(⟨⟨na,nn⟩,field,s5⟩:RegD)) (r:=(⟨⟨na,nn⟩,field,M5⟩:RegP)) ⟨rfl,rfl,HM9.out⟩).below HB6.out).2⟩,by(try simp);omega,HOK.out _ HMEM.out.last.mem,InI_end HMEM.out.last hsR HMS.out,HBL9.out.trans (HB6.out.mono HBL9.out.size)⟩
        case measure=>have:=HJ.out;omega
   ·have hk3b:¬kind=3:=hk3
    go_wp2_with(first
     |refine wpList_load_mid rfl 45 _ rfl b (off+j*18) rfl _ _ hrx Tryz.underlying45 rfl (by kernel_rfl) ?_
     |(refine wpList_store_new wr rfl 45 _ _ rfl _ _ rfl rfl (by kernel_rfl) (by rfl) (by simp [Value.oneCell']) ?_;have c5:=zc _ _ 5 _ _ _ (zg wr (.cells #[.string ia,.int .i64 im,.int .i64 clock,.int .i64 floor,.slice deps.a deps.len deps.cap,.int .i64 kind,.string na,.int .i64 nn,.string pa,.int .i64 pn,.bool neg,.string num,.string den,.string field,.string value,.string ta,.int .i64 tn,.string who] 45) wr.heap.size rfl)))
    go_roundg (n - 1 - j)
    case rel=>exact⟨j+1,s,R,by have:=HJ.out;omega,by go_num,rfl,hRR.below ((Below.refl _ _).alloc (Nat.le_refl _) _),by omega,fun r hr=>(HRO.out r hr).mono (by omega),Nat.le_succ_of_le HWS.out,BL0.alloc BL0.size _⟩
    case measure=>have:=HJ.out;omega
  ·obtain rfl:j=n:=by have:=HJ.out;omega
   go_wp2_with fail
   go_ret
   exact⟨s,R,rfl,hRR,by rw [←HN.out];exact hRl,fun r hr=>by rw [←HN.out];exact HRO.out r hr,by rw [←HN.out];exact HWS.out,BL0⟩
end
def newT (e:EdD):TnD:=⟨e.id,e.parent,e.neg,e.num,e.den,e.value⟩
def OneR (L:List TnD) (e:EdD) (M:List TnD):Prop:=
 M=L∨(atF e.id 0 L= -1∧∃k,k≤L.length∧M=L.take k++ [newT e]++L.drop k)∨∃i t,L[i]? =some t∧M=L.set i ⟨t.node,e.parent,e.neg,e.num,e.den,t.kind⟩
theorem cells5 {W:World} {q b p:Nat} {t:TypeId} {ia:ByteArray} {im:Int} {y:TnD} {rest:List Value} (h:W.heap[q]? =some (.cells (.string ia::.int .i64 im::rest).toArray t (0,0))) (hr:W.rangeAt b p (tnV y)):
  (W.cell? ⟨q,0,none⟩=some (.string ia)∧W.cell? ⟨q,1,none⟩=some (.int .i64 im))∧W.cell? ⟨b,p,none⟩=some (.string y.node.a)∧W.cell? ⟨b,p+1,none⟩=some (.int .i64 y.node.n):=
 ⟨⟨zc _ _ 0 _ _ _ h,zc _ _ 1 _ _ _ h⟩,hr 0 _ rfl,hr 1 _ rfl⟩
theorem ed_cells10 {W:World} {q:Nat} {t:TypeId} {v0 v1 v2 v3 v4 v5 v6 v7 v8 v9:Value} {rest:List Value} (h:W.heap[q]? =some (.cells (v0::v1::v2::v3::v4::v5::v6::v7::v8::v9::rest).toArray t (0,0))):
  (W.cell? ⟨q,5,none⟩=some v5)∧(W.cell? ⟨q,6,none⟩=some v6∧W.cell? ⟨q,7,none⟩=some v7)∧W.cell? ⟨q,8,none⟩=some v8∧W.cell? ⟨q,9,none⟩=some v9:=
 ⟨zc _ _ 5 _ _ _ h,⟨zc _ _ 6 _ _ _ h,zc _ _ 7 _ _ _ h⟩,zc _ _ 8 _ _ _ h,zc _ _ 9 _ _ _ h⟩
theorem ex_appN {E:Type} {Y:Lay E} {o:Oper} {a:Act} {w:World} {K:Act→World→Prop} {Q:Exit→Act→World→Prop} (s t:Operand) (ty e:TypeId) (bytes:Nat) (z:Value) (ho:o.op=.call {callee:=.builtin .append,args:=#[s,t],argTypes:=#[ty,ty]})
  (hu:Tryz.prog.underlying ty=some (.slice e)) (hinfo:(Tryz.prog.info? e).map (fun i=>(i.zero,i.size,i.bytes))=some (some z,Y.k,bytes)) (hzc:z.cells.size=Y.k) (hk:0 < Y.k) (base:Nat) (v:Value) (L:List E) (hs:a.eval s=v)
  (hown:w.ownsRow base e Y.k v L.length (Y.flat L)) (N:List E) (ao:Option Addr) (m c:Nat) (ht:a.eval t=.slice ao m c) (hm:m=N.length) (hsrc:0 < m→∃bb oo,ao=some ⟨bb,oo,none⟩∧w.rangeAt bb oo (Y.flat N)) (h63:L.length+N.length≤100000000) (hb:bytes≤1000) (hbase:base≤w.heap.size)
  (h:∀(s':SlV) w',w'.ownsRow base e Y.k s'.v (L++N).length (Y.flat (L++N))→w.grownBy w' v.ownBlock→(∀B,B≤base→Below B w w')→K (a.put o.dst (.slice s'.a s'.len s'.cap)) w'):o.wp Tryz.prog a w K Q:=by
 subst hm;obtain⟨i0,hi,hz0,hz1,hz2⟩:=info_parts hinfo;refine ex_append ho base e i0 z Y.k bytes hu hi hz0 hz1 hz2 hzc hk v L.length (Y.flat L) hs hown ao N.length c (Y.flat N) ht (Y.flat_length N) (fun h0=>?_) (Y.flat_one N) (by unfold maxLen;omega) ?_ hbase ?_
 ·obtain⟨bb,oo,rfl,hr⟩:=hsrc h0;exact⟨_,rfl,fun j u hj=>by rw [Addr.add_mid];exact hr j u hj⟩
 ·exact Nat.le_trans (Nat.mul_le_mul h63 hb) (by omega)
 ·intro v' w' hown1 hg1;obtain⟨s1,hs1⟩:=ownsForm hown1;subst hs1;refine h s1 w' ?_ hg1 (fun B hB=>(Below.refl B w).grown hg1 (by omega) (fun j hj=>Nat.le_trans hB (hown.lt j hj).1));rw [List.length_append,Y.flat_append];exact hown1
theorem step_appN {E:Type} {Y:Lay E} {ops:Array Oper} {o:Oper} {a:Act} {w:World} {K:Act→World→Prop} {Q:Exit→Act→World→Prop} {E':Prop} (hgd:o.guard=none) (s t:Operand) (ty e:TypeId) (bytes:Nat) (z:Value) (ho:o.op=.call {callee:=.builtin .append,args:=#[s,t],argTypes:=#[ty,ty]})
  (hu:Tryz.prog.underlying ty=some (.slice e)) (hinfo:(Tryz.prog.info? e).map (fun i=>(i.zero,i.size,i.bytes))=some (some z,Y.k,bytes)) (hzc:z.cells.size=Y.k) (hk:0 < Y.k) (base:Nat) (v:Value) (L:List E) (hs:a.eval s=v)
  (hown:w.ownsRow base e Y.k v L.length (Y.flat L)) (N:List E) (ao:Option Addr) (m c:Nat) (ht:a.eval t=.slice ao m c) (hm:m=N.length) (hsrc:0 < m→∃bb oo,ao=some ⟨bb,oo,none⟩∧w.rangeAt bb oo (Y.flat N)) (h63:L.length+N.length≤100000000) (hb:bytes≤1000) (hbase:base≤w.heap.size)
  (h:∀(s':SlV) w',w'.ownsRow base e Y.k s'.v (L++N).length (Y.flat (L++N))→w.grownBy w' v.ownBlock→(∀B,B≤base→Below B w w')→K (a.put o.dst (.slice s'.a s'.len s'.cap)) w'):if Region.wanted o (yielded ops a.tmps)=true then Oper.wp Tryz.prog o a w K Q else E':=by
 have hw:Region.wanted o (yielded ops a.tmps)=true:=by simp [Region.wanted,hgd]
 rw [if_pos hw];exact ex_appN s t ty e bytes z ho hu hinfo hzc hk base v L hs hown N ao m c ht hm hsrc h63 hb hbase h
theorem wpList_appN {E:Type} {Y:Lay E} {ops:Array Oper} {rest:List Oper} {o:Oper} {a:Act} {w:World} {Q:Exit→Act→World→Prop} (hgd:o.guard=none) (s t:Operand) (ty e:TypeId) (bytes:Nat) (z:Value) (ho:o.op=.call {callee:=.builtin .append,args:=#[s,t],argTypes:=#[ty,ty]})
  (hu:Tryz.prog.underlying ty=some (.slice e)) (hinfo:(Tryz.prog.info? e).map (fun i=>(i.zero,i.size,i.bytes))=some (some z,Y.k,bytes)) (hzc:z.cells.size=Y.k) (hk:0 < Y.k) (base:Nat) (v:Value) (L:List E) (hs:a.eval s=v)
  (hown:w.ownsRow base e Y.k v L.length (Y.flat L)) (N:List E) (ao:Option Addr) (m c:Nat) (ht:a.eval t=.slice ao m c) (hm:m=N.length) (hsrc:0 < m→∃bb oo,ao=some ⟨bb,oo,none⟩∧w.rangeAt bb oo (Y.flat N)) (h63:L.length+N.length≤100000000) (hb:bytes≤1000) (hbase:base≤w.heap.size)
  (h:∀(s':SlV) w',w'.ownsRow base e Y.k s'.v (L++N).length (Y.flat (L++N))→w.grownBy w' v.ownBlock→(∀B,B≤base→Below B w w')→wpList Tryz.prog ops Q rest (a.put o.dst (.slice s'.a s'.len s'.cap)) w'):wpList Tryz.prog ops Q (o::rest) a w:=by
 refine wpList_plain hgd fun K hK=>?_
 exact ex_appN s t ty e bytes z ho hu hinfo hzc hk base v L hs hown N ao m c ht hm hsrc h63 hb hbase (fun s' w' h1 h2 h3=>hK _ _ (h s' w' h1 h2 h3))
theorem own_form {W:World} {base:Nat} {e:TypeId} {s:SlV} {M:List TnD} (h:W.ownsRow base e 8 s.v M.length (tnY.flat M)) (h0:0 < M.length):∃b' off' c':Nat,Ending.returned (.slice s.a s.len s.cap)=.returned (.slice (some ⟨b',off',none⟩) M.length c')∧M.length≤c'∧W.rangeAt b' off' (tnY.flat M):=by
 rcases Lay.Rd.of_owns (Y:=tnY) h with⟨h1,h2⟩|⟨g,o,cap,h1,h2,h3⟩
 ·rw [h2]at h0;simp at h0
 ·exact⟨g,o,cap,congrArg Ending.returned h1,h2,h3⟩
theorem take_src {W:World} {b off:Nat} {L:List TnD} (h:W.rangeAt b off (tnY.flat L)) (k:Nat):W.rangeAt b off (tnY.flat (L.take k)):=fun j u hj=>by
 refine h j u ?_;rw [←List.take_append_drop k L,tnY.flat_append];rw [List.getElem?_append_left (List.getElem?_eq_some_iff.1 hj).1];exact hj
theorem drop_src {W:World} {b off:Nat} {L:List TnD} (h:W.rangeAt b off (tnY.flat L)) (k:Nat) (hk:k≤L.length):W.rangeAt b (off+k*8) (tnY.flat (L.drop k)):=fun j u hj=>by
 have h1:=h (k*8+j) u (by
  rw [←List.take_append_drop k L,tnY.flat_append];have hl:(tnY.flat (L.take k)).length=k*8:=by rw [tnY.flat_length,List.length_take,Nat.min_eq_left hk];rfl
  rw [List.getElem?_append_right (by omega),hl,Nat.add_sub_cancel_left]
  exact hj)
 rw [←Nat.add_assoc]at h1;exact h1
theorem step_store_ownM {ops:Array Oper} {o:Oper} {a:Act} {w:World} {K:Act→World→Prop} {Q:Exit→Act→World→Prop} {E':Prop} (hgd:o.guard=none) (ty:TypeId) (x y:Operand) (ho:o.op=.store ty x y) {base:Nat} {e:TypeId} {size n cap g:Nat} {xs:List Value}
  (hown:w.ownsRow base e size (.slice (some ⟨g,0,none⟩) n cap) n xs) (p:Nat) (cells:List Value) (hx:a.eval x=.pointer (some ⟨g,p,none⟩)) (hy:a.eval y=.agg cells.toArray) (hi:(Tryz.prog.info? ty).map (·.size)=some cells.length) (hle:p+cells.length≤n*size) (h1:∀v∈cells,v.oneCell'=true)
  (h:∀w',w'.ownsRow base e size (.slice (some ⟨g,0,none⟩) n cap) n (xs.take p++cells++xs.drop (p+cells.length))→w.grownBy w' (some g)→K (a.put o.dst undef) w'):if Region.wanted o (yielded ops a.tmps)=true then Oper.wp Tryz.prog o a w K Q else E':=by
 have hw:Region.wanted o (yielded ops a.tmps)=true:=by simp [Region.wanted,hgd]
 rw [if_pos hw];obtain⟨w',hr,h2,h3⟩:=run_store_own (P:=Tryz.prog) hown p cells hle h1
 have hs:(storeVar ty ⟨g,p,none⟩ (.agg cells.toArray)).run Tryz.prog w=.ok () w':=by
  cases hq:Tryz.prog.info? ty with
  |none=>simp [hq]at hi
  |some i=>
   have hs:cells.toArray.size=i.size:=by simp [hq]at hi;simp;omega
   simp [storeVar,sizeOf,typeInfo,hq,Value.cells,hr];simp at hs;simp [hs]
 unfold Oper.wp execOp;simp only [ho,hx,hy,Instr.storeAt,Instr.sureAddr,Sem.run_bind,Sem.run_pure,Result.andThen_ok,hs];exact h w' h2 h3
theorem set_mid (L:List TnD) (i:Nat) (t x':TnD) (hx:L[i]? =some t) (p:Nat) (cs:List Value) (hp:p+cs.length≤8) (h:(tnV t).take p++cs++(tnV t).drop (p+cs.length)=tnV x'):
  (tnY.flat L).take (i*8+p)++cs++(tnY.flat L).drop (i*8+p+cs.length)=tnY.flat (L.set i x'):=by
 have hi:i < L.length:=(List.getElem?_eq_some_iff.1 hx).1
 have hs:L.set i t=L:=by
  apply List.ext_getElem?
  intro j;rw [List.getElem?_set]
  split
  ·rename_i h;subst h;obtain⟨_,h9⟩:=List.getElem?_eq_some_iff.1 hx;simp [h9,hi]
  ·rfl
 have h0:=tnY.flat_set L i t hi;have h1:=tnY.flat_set L i x' hi;rw [hs]at h0;rw [←h1];change(tnY.flat L).take (i*8)++tnV t++(tnY.flat L).drop (i*8+8)=tnY.flat L at h0;change _=(tnY.flat L).take (i*8)++tnV x'++(tnY.flat L).drop (i*8+8)
 have hA:((tnY.flat L).take (i*8)).length=i*8:=by
  have:=tnY.flat_length L;change _=L.length*8 at this;rw [List.length_take];omega
 generalize(tnY.flat L).take (i*8)=A at*
 generalize(tnY.flat L).drop (i*8+8)=B at*
 rw [←h0,←h];have h8:(tnV t).length=8:=rfl;generalize tnV t=V at*
 simp only [List.append_assoc];rw [List.take_append,List.take_append,List.drop_append,List.drop_append,hA,h8];rw [List.take_of_length_le (by omega:A.length≤i*8+p),List.drop_eq_nil_of_le (by omega:A.length≤i*8+p+cs.length)];rw [Nat.add_sub_cancel_left,(by omega:i*8+p+cs.length - i*8=p+cs.length),(by omega:p - 8=0),(by omega:p+cs.length - 8=0)];simp
theorem row_src {W:World} {q:Nat} {x:TnD} {t:TypeId} {fr:Nat×Nat} (h:W.heap[q]? =some (.cells (tnV x).toArray t fr)):W.rangeAt q 0 (tnY.flat [x]):=fun j u hj=>by
 have h1:=news_of h j u (by
  have e:tnY.flat [x]=tnV x:=List.append_nil _
  rw [e]at hj;exact hj)
 rw [Addr.add_mid]at h1;exact h1
theorem own_slv {W:World} {base:Nat} {e:TypeId} {s:SlV} {M:List TnD} (h:W.ownsRow base e 8 s.v M.length (tnY.flat M)) (h0:0 < M.length):∃g cap:Nat,s=⟨some ⟨g,0,none⟩,M.length,cap⟩∧base≤g∧M.length≤cap:=by
 rcases h.2 with⟨h1,h2⟩|⟨g,cap,cur,h1,h2,h3,h4,_⟩
 ·omega
 ·obtain⟨a,l,q⟩:=s;simp [SlV.v]at h1;obtain⟨rfl,rfl,rfl⟩:=h1;exact⟨g,q,rfl,h2,h4⟩
theorem ed_cells12 {W:World} {q:Nat} {t:TypeId} {v0 v1 v2 v3 v4 v5 v6 v7 v8 v9 v10 v11 v12:Value} {rest:List Value} (h:W.heap[q]? =some (.cells (v0::v1::v2::v3::v4::v5::v6::v7::v8::v9::v10::v11::v12::rest).toArray t (0,0))):
  (W.cell? ⟨q,8,none⟩=some v8∧W.cell? ⟨q,9,none⟩=some v9)∧W.cell? ⟨q,10,none⟩=some v10∧W.cell? ⟨q,11,none⟩=some v11∧W.cell? ⟨q,12,none⟩=some v12:=
 ⟨⟨zc _ _ 8 _ _ _ h,zc _ _ 9 _ _ _ h⟩,zc _ _ 10 _ _ _ h,zc _ _ 11 _ _ _ h,zc _ _ 12 _ _ _ h⟩
theorem slice_lo (b off k c:Nat):sliced (some ⟨b,off,none⟩) 0 k c 8=.slice (some ⟨b,off,none⟩) k c:=by simp [sliced,Addr.add]
theorem slice_hi (b off k n c:Nat):sliced (some ⟨b,off,none⟩) k n c 8=.slice (if c=k then some ⟨b,off,none⟩else some ⟨b,off+k*8,none⟩) (n - k) (c - k):=by
 rcases Nat.eq_zero_or_pos k with h0|h0
 ·subst h0;simp [sliced,Addr.add]
 ·have h1:k*8≠0:=by omega
  simp [sliced,Addr.add];rw [if_neg h1]
end Go.Proofs.YteigcnamkfebgaaGreatDoor
