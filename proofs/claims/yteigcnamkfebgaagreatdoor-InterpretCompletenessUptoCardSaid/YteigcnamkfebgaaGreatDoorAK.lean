import Derived.Test.YteigcnamkfebgaaGreatDoorAH
import Derived.Test.YteigcnamkfebgaaGreatDoorL
set_option linter.all false
set_option maxHeartbeats 25600000
namespace Go.Proofs.YteigcnamkfebgaaGreatDoor
open Go.RowKit
section
variable {P:Program} (w:World) {ops:Array Oper} {rest:List Oper} {o:Oper} {a:Act} {Q:Exit→Act→World→Prop}
theorem wpList_entry_raw (hg:o.guard=none) (it:Operand) (hop:o.op=Op.entry it) (r bm since:Nat) (seen:Array Nat) (es:Array MapEntry) (e:MapEntry) (hit:a.eval it=.pointer (some ⟨r,0,none⟩))
  (hr:w.heap[r]? =some (.mapIter (some bm) since (seen.push e.born) since)) (hb:w.heap[bm]? =some (.map es since)) (he:e∈es.toList) (hn:(es.toList.map (·.born)).Nodup)
  (hK:wpList P ops Q rest (a.put o.dst (.tuple #[e.key,e.val])) w):wpList P ops Q (o::rest) a w:=by
 refine wpList_plain hg fun K' hK'=>?_
 have hrun:=run_entry_at (P:=P) w r bm since seen es since e hr hb he hn;unfold Oper.wp;simp [execOp,hop,hit,hrun,Result.andThen];exact hK' _ _ hK
end
theorem entsFrom_born:∀(N:List TnD) (i:Nat),(entsFrom N i).map (·.born)=List.range' i N.length
 | [],i=>rfl
 |x::r,i=>by simp [entsFrom,entOf,entsFrom_born r (i+1),List.range'_succ]
theorem ents_nodup (N:List TnD):((entsOf N).toList.map (·.born)).Nodup:=by
 simp only [entsOf];rw [entsFrom_born];exact List.nodup_range'
theorem ents_size (N:List TnD):(entsOf N).size=N.length:=by
 have:∀(N:List TnD) (i:Nat),(entsFrom N i).length=N.length:=fun N=>by
  induction N with
  |nil=>intro i;rfl
  |cons x r ih=>intro i;simp [entsFrom,ih]
 simp [entsOf,this]
theorem ents_old (N:List TnD):∀x∈(entsOf N).toList,x.born < N.length:=fun x hx=>by
 obtain⟨j,t,h1,rfl⟩:=entsFrom_mem N 0 x hx;have:=(List.getElem?_eq_some_iff.1 h1).1;simp [entOf];exact this
def picks (N:List TnD) (J:List Nat):List TnD:=J.filterMap (fun j=>N[j]?)
theorem picks_snoc (N:List TnD) (J:List Nat) (j:Nat) (t:TnD) (h:N[j]? =some t):picks N (J++ [j])=picks N J++ [t]:=by simp [picks,h]
theorem left_pick (N:List TnD) (J:List Nat) (e:MapEntry) (h:e∈(leftOf (entsOf N) J.toArray).toList):∃j t,N[j]? =some t∧e=entOf t j∧j∉J:=by
 obtain⟨h1,h2⟩:=mem_left h;obtain⟨j,t,h3,rfl⟩:=entsFrom_mem N 0 e h1;refine⟨j,t,h3,by rw [Nat.zero_add],?_⟩;intro hj;simp [entOf]at h2;exact h2 hj
theorem left_done (N:List TnD) (J:List Nat) (h:(leftOf (entsOf N) J.toArray).size=0):∀j,j < N.length→j∈J:=by
 intro j hj;have hx:=entsFrom_get N 0 j N[j] (List.getElem?_eq_getElem hj);rw [Nat.zero_add]at hx
 rcases Classical.em (j∈J)with h1|h1
 ·exact h1
 ·exfalso
  have:entOf N[j] j∈leftOf (entsOf N) J.toArray:=by
   unfold leftOf;rw [Array.mem_filter];refine⟨by simpa [entsOf] using hx,?_⟩;simp [entOf,h1]
  have h0:leftOf (entsOf N) J.toArray=#[]:=Array.eq_empty_of_size_eq_zero h;rw [h0]at this;simp at this
theorem picks_len (N:List TnD) (J:List Nat) (h:∀j∈J,j < N.length):(picks N J).length=J.length:=by
 induction J with
 |nil=>rfl
 |cons j r ih=>
  have h1:N[j]? =some (N[j]'(h j (by simp))):=List.getElem?_eq_getElem _;have h2:=ih (fun k hk=>h k (by simp [hk]));unfold picks at*
  rw [List.filterMap_cons,h1];simp [h2]
theorem picks_two (N:List TnD) (hN:N.length≤2) (J:List Nat) (hJ:J.Nodup) (hlt:∀j∈J,j < N.length) (hall:∀j,j < N.length→j∈J):picks N J=N∨picks N J=N.reverse:=by
 match N,hN with
 | [],_=>
  left
  match J,hlt with
  | [],_=>rfl
  |j::r,hlt=>have:=hlt j (by simp);simp at this
 | [a],_=>
  left
  match J,hJ,hlt,hall with
  | [],_,_,hall=>have:=hall 0 (by simp);simp at this
  | [j],_,hlt,_=>
            have:j=0:=by have:=hlt j (by simp);simp at this;exact this
            subst this;rfl
  |j::k::r,hJ,hlt,_=>
   have h1:j=0:=by have:=hlt j (by simp);simp at this;exact this
   have h2:k=0:=by have:=hlt k (by simp);simp at this;exact this
   subst h1;subst h2;simp at hJ
 | [a,b],_=>
  match J,hJ,hlt,hall with
  | [],_,_,hall=>have:=hall 0 (by simp);simp at this
  | [j],_,_,hall=>
   have h0:=hall 0 (by simp);have h1:=hall 1 (by simp);simp at h0 h1;omega
  | [j,k],hJ,hlt,_=>
   have h1:j < 2:=hlt j (by simp);have h2:k < 2:=hlt k (by simp);have h3:j≠k:=by simpa using hJ
   rcases(show(j=0∧k=1)∨(j=1∧k=0) by omega)with⟨rfl,rfl⟩|⟨rfl,rfl⟩
   ·left;rfl
   ·right;rfl
  |j::k::m::r,hJ,hlt,_=>
   have h1:j < 2:=hlt j (by simp);have h2:k < 2:=hlt k (by simp);have h3:m < 2:=hlt m (by simp);simp at hJ;omega
theorem nodup2 (n:Nat) (hn:n≤2) (J:List Nat) (hJ:J.Nodup) (hlt:∀j∈J,j < n):J.length≤n:=by
 match J,hJ,hlt with
 | [],_,_=>simp
 | [j],_,hlt=>have:=hlt j (by simp);simp;omega
 | [j,k],hJ,hlt=>
  have h1:=hlt j (by simp);have h2:=hlt k (by simp);have h3:j≠k:=by simpa using hJ
  simp;omega
 |j::k::m::r,hJ,hlt=>
  have h1:=hlt j (by simp);have h2:=hlt k (by simp);have h3:=hlt m (by simp);simp at hJ;omega
theorem own_ne {w:World} {base:Nat} {e:TypeId} {size:Nat} {v:Value} {k:Nat} {xs:List Value} (h:w.ownsRow base e size v k xs) {r:Nat} {a:Option Nat} {b:Nat} {c:Array Nat} {d:Nat} (hr:w.heap[r]? =some (.mapIter a b c d)):v.ownBlock≠some r:=by
 rcases h.2 with⟨rfl,_⟩|⟨g,cap,cur,rfl,_,hg,_⟩
 ·simp [Value.ownBlock]
 ·intro e;simp [Value.ownBlock]at e;subst e;rw [hg]at hr;cases hr
theorem wpList_store_new {P:Program} {ops:Array Oper} {rest:List Oper} {o:Oper} {a:Act} {Q:Exit→Act→World→Prop} (w0:World) (hgd:o.guard=none) (ty:TypeId) (x y:Operand) (ho:o.op=.store ty x y) (c c':Array Value)
  (hx:a.eval x=.pointer (some ⟨w0.heap.size,0,none⟩)) (hy:a.eval y=.agg c') (hi:(P.info? ty).map (·.size)=some c'.size) (hs:c.size=c'.size) (h1:c'.all (·.oneCell')=true)
  (h:wpList P ops Q rest (a.put o.dst undef) (w0.alloc (.cells c' ty))):wpList P ops Q (o::rest) a (w0.alloc (.cells c ty)):=by
 refine wpList_plain hgd fun K hK=>?_
 have hr:=run_storeAt_new (P:=P) w0 ty c c' hi hs h1;unfold Oper.wp execOp;simp only [ho,hx,hy,hr,Sem.run_bind,Sem.run_pure,Result.andThen_ok];exact hK _ _ h
theorem und123:Tryz.prog.underlying 123=some (.map 38 55):=by kernel_rfl
set_option maxRecDepth 100000 in
theorem mtApply_any (E:List EdP) (v:Value) (w:World) (hE:Edits w v E) (hl:E.length≤1000) (N:List TnD) (hN:adds E=N) (hN2:N.length≤2)
  (hkind:∀(k:Nat) (e:EdP),E[k]? =some e→(e.d.kind=1∨e.d.kind=3)∧e.d.parent=rootI)
  (hpar:∀(k:Nat) (e:EdP),E[k]? =some e→∀w,(Instr.findKey 38 (.agg #[.string ⟨#[]⟩,.int .i64 0]) (entsOf (adds (E.take k))).toList).run Tryz.prog w=.ok none w)
  (hnew:∀(k:Nat) (e:EdP),E[k]? =some e→e.d.kind=1→∀w,(Instr.findKey 38 (.agg #[.string e.d.id.a,.int .i64 e.d.id.n]) (entsOf (adds (E.take k))).toList).run Tryz.prog w=.ok none w)
  (hs1:sort2 (fun x y=>cmpId x.node y.node) N=N) (hs2:sort2 (fun x y=>cmpId x.node y.node) N.reverse=N):
  Calls Tryz.prog 39 #[.slice none 0 0,v] w fun e w'=>∃v',e=.returned v'∧w'.ownsRow w.heap.size 55 8 v' N.length (tnY.flat N)∧Below w.heap.size w w':=by
 obtain⟨hv,hd⟩:=hE;obtain⟨i0,hi,hz0,hz1,hz2⟩:=info_parts info55;obtain⟨a,n,cc,rfl⟩:=hv.form;have hn:=hv.len;rw [List.length_map]at hn;subst hn;have HV:=zz hv;have HKI:=zz hkind;have HPAR:=zz hpar;have HNEW:=zz hnew;have HN:=zz hN;have HS1:=zz hs1;have HS2:=zz hs2;clear hv hd hkind hpar hnew hN hs1 hs2;generalize hn:E.length=n at*
 have HL:=zz hn;clear hn;have hmm:= @run_makeMap Tryz.prog;go_enter Tryz.func39,Tryz.ntmps39
 go_wp2;refine wp_loop_rounds 1 ?_;rw [rounds_succ];go_wp2;clear hmm
 go_loopg [33] n (fun gn t33 wr=>∃k:Nat,k+gn=n∧t33=.int .i64 k∧wr.heap[w.heap.size]? =some (.map (entsOf (adds (E.take k))) (adds (E.take k)).length)∧Below w.heap.size w wr)
 case atStart=>exact⟨0,by omega,rfl,zg _ _ _ rfl,(Below.refl _ _).alloc (Nat.le_refl _) _⟩
 case round=>
  obtain⟨G,rfl⟩:∃G,G=gk:=⟨_,rfl⟩;obtain⟨k,hk,rfl,hmp,hbel⟩:=hrel;have HK:=zz hk;have hsz:w.heap.size≤wr.heap.size:=hbel.size;have lmp:=zl hmp;have HMP:=zz hmp;have HBL:=zz hbel;clear hk
  by_cases hlt:k < n
  ·have hx:E[k]? =some (E[k]'(by rw [HL.out];exact hlt)):=List.getElem?_eq_getElem _;generalize E[k]'(by rw [HL.out];exact hlt)=e at hx;have hxd:(E.map (·.d))[k]? =some e.d:=by rw [List.getElem?_map,hx];rfl
   obtain⟨b,off,rfl,hr⟩:∃b off,a=some ⟨b,off,none⟩∧w.rangeAt b off (edY.flat (E.map (·.d))):=by
    rcases HV.out with⟨h1,h2⟩|⟨b,off,cap,h1,h2,h3⟩
    ·rw [h2]at hxd;cases hxd
    ·simp at h1;exact⟨b,off,h1.1,h3⟩
   have hrx:=edY.elem (rangeAt_below hr hbel) k e.d hxd;have hrx2:wr.rangeAt b (off+k*18) (edV e.d):=hrx;unfold edV at hrx2;have hpr:=(HKI.out k e hx).2;have hpa:e.d.parent.a=⟨#[]⟩:=by rw [hpr];rfl
   have hpn:e.d.parent.n=0:=by rw [hpr];rfl
   have hki:=(HKI.out k e hx).1;have HPR:=zz hpr;rw [hpa,hpn]at hrx2;have HX:=zz hx;have hltZ:(k:Int) < (n:Int):=by omega
   clear hx hxd hr hrx hpr hpa hpn hmp hbel
   rcases hki with hki|hki
   ·rw [hki]at hrx2;have HA:=zz (adds_snoc1 HX.out hki);have HM2:=zz (HNEW.out k e HX.out hki);clear hki
    go_wp2_with(first
     |refine wpList_store_new wr rfl 45 _ _ rfl _ _ rfl rfl (by kernel_rfl) (by rfl) (by simp [Value.oneCell']) ?_
     |refine wpList_load_mid rfl 45 _ rfl b (off+k*18) rfl _ _ hrx2 Tryz.underlying45 rfl (by kernel_rfl) ?_
     |(at_lookup;refine wpList_lookup_raw _ rfl _ _ 123 true rfl 38 55 und123 (.agg z55) (fun w=>by kernel_rfl) w.heap.size _ _ rfl (zo _ _ _ _ HMP.out) (.agg #[.string ⟨#[]⟩,.int .i64 0]) rfl (ck38 _ _) none (HPAR.out k e HX.out) (.tuple #[.agg #[.string ⟨#[]⟩,.int .i64 0,.string ⟨#[]⟩,.int .i64 0,.bool false,.string ⟨#[]⟩,.string ⟨#[]⟩,.string ⟨#[]⟩],.bool false]) rfl ?_)
     |(at_lookup;refine wpList_lookup_raw _ rfl _ _ 123 true rfl 38 55 und123 (.agg z55) (fun w=>by kernel_rfl) w.heap.size _ _ rfl (zo _ _ _ _ (zo _ _ _ _ HMP.out)) (.agg #[.string e.d.id.a,.int .i64 e.d.id.n]) rfl (ck38 _ _) none HM2.out (.tuple #[.agg #[.string ⟨#[]⟩,.int .i64 0,.string ⟨#[]⟩,.int .i64 0,.bool false,.string ⟨#[]⟩,.string ⟨#[]⟩,.string ⟨#[]⟩],.bool false]) rfl ?_)
     |(at_mapUpdate;refine wpList_update_raw _ rfl _ _ _ 123 (.inl rfl) 38 55 und123 w.heap.size _ _ rfl (zo _ _ _ _ (zo _ _ _ _ (zo _ _ _ _ HMP.out))) (.agg #[.string e.d.id.a,.int .i64 e.d.id.n]) _ rfl rfl (ck38 _ _) HM2.out ?_;intro w2 hm2 hg2 hsz2;have HG2:=zz hg2;have HH2:=zz hm2;clear hg2 hm2 hsz2))
    go_roundg (n - 1 - k)
    case rel=>
     refine⟨k+1,by have:=HK.out;omega,by go_num,?_,?_⟩
     ·have h1:entOf (tnOf e.d) (adds (E.take k)).length=⟨.agg #[.string e.d.id.a,.int .i64 e.d.id.n],.agg #[.string e.d.id.a,.int .i64 e.d.id.n,.string ⟨#[]⟩,.int .i64 0,.bool e.d.neg,.string e.d.num,.string e.d.den,.string e.d.value],(adds (E.take k)).length⟩:=by
       simp [entOf,tnOf,HPR.out,rootI]
      rw [HA.out,entsOf_snoc,List.length_append,h1];exact HH2.out
     ·exact((((HBL.out.alloc hsz _).alloc (by simp;omega) _).alloc (by simp;omega) _).grown HG2.out (by simp;omega) (fun j hj=>by cases hj;exact Nat.le_refl _))
    case measure=>have:=HK.out;omega
   ·rw [hki]at hrx2;have HA:=zz (adds_snoc0 HX.out (by rw [hki];decide));clear hki
    go_wp2_with(first
     |refine wpList_store_new wr rfl 45 _ _ rfl _ _ rfl rfl (by kernel_rfl) (by rfl) (by simp [Value.oneCell']) ?_
     |refine wpList_load_mid rfl 45 _ rfl b (off+k*18) rfl _ _ hrx2 Tryz.underlying45 rfl (by kernel_rfl) ?_
     |(at_lookup;refine wpList_lookup_raw _ rfl _ _ 123 true rfl 38 55 und123 (.agg z55) (fun w=>by kernel_rfl) w.heap.size _ _ rfl (zo _ _ _ _ HMP.out) (.agg #[.string ⟨#[]⟩,.int .i64 0]) rfl (ck38 _ _) none (HPAR.out k e HX.out) (.tuple #[.agg #[.string ⟨#[]⟩,.int .i64 0,.string ⟨#[]⟩,.int .i64 0,.bool false,.string ⟨#[]⟩,.string ⟨#[]⟩,.string ⟨#[]⟩],.bool false]) rfl ?_))
    go_roundg (n - 1 - k)
    case rel=>
     refine⟨k+1,by have:=HK.out;omega,by go_num,?_,?_⟩
     ·rw [HA.out];exact zo _ _ _ _ (zo _ _ _ _ HMP.out)
     ·exact(HBL.out.alloc hsz _).alloc (by simp;omega) _
    case measure=>have:=HK.out;omega
  ·obtain rfl:k=n:=by have:=HK.out;omega
   obtain⟨wb,rfl⟩:∃wb,wb=wr:=⟨_,rfl⟩
   have hmp1:wb.heap[w.heap.size]? =some (.map (entsOf N) N.length):=by
    have:=HMP.out;rw [←HL.out,List.take_length,HN.out]at this;exact this
   have HM1:=zz hmp1;clear hmp hmp1 hbel
   go_wp2_with(first
    |(at_len;refine wpList_len_raw _ rfl _ 123 rfl 38 55 und123 w.heap.size (entsOf N) N.length rfl HM1.out ?_)
    |(at_make;refine wpList_make_own _ rfl _ _ 25 rfl wb.heap.size 55 i0 (.agg z55) 8 Tryz.underlying25 hi hz0 hz1 .i64 .i64 _ N.length rfl rfl (by rw [ents_size]) (by rw [hz2];omega) (by unfold maxLen;omega) (Nat.le_refl _) ?_;intro w2 hown2 hg2;have HO2:=zz hown2;have HG2:=zz hg2;have HM2:=zz ((hg2.block w.heap.size lmp (by simp)).trans HM1.out);clear hown2 hg2)
    |(at_range;refine wpList_range_raw _ rfl _ 123 rfl 38 55 und123 w.heap.size (entsOf N) N.length rfl HM2.out ?_))
   go_frame
   have hw2:Below w.heap.size w w2:=HBL.out.grown HG2.out (by omega) (fun j hj=>by cases hj);have hs2:wb.heap.size≤w2.heap.size:=HG2.out.size;have hit0:(w2.alloc (.mapIter (some w.heap.size) N.length #[] N.length)).heap[w2.heap.size]? =_:=zg _ _ _ rfl;have HI0:=zz hit0;have HW2:=zz hw2;clear hit0 hw2
   go_loopg [16] N.length (fun gn t16 wq=>∃(J:List Nat) (s:SlV),J.length+gn=N.length∧t16=.slice s.a s.len s.cap∧J.Nodup∧(∀j∈J,j < N.length)∧wq.heap[w.heap.size]? =some (.map (entsOf N) N.length)∧wq.heap[w2.heap.size]? =some (.mapIter (some w.heap.size) N.length J.toArray N.length)∧wq.ownsRow wb.heap.size 55 8 s.v J.length (tnY.flat (picks N J))∧Below w.heap.size w wq)
   case atStart=>
    exact⟨[],⟨_,_,_⟩,by simp,rfl,by simp,by simp,zo _ _ _ _ HM2.out,HI0.out,HO2.out.alloc _,HW2.out.alloc (by omega) _⟩
   case round=>
    obtain⟨G,rfl⟩:∃G,G=gk:=⟨_,rfl⟩;obtain⟨J,s,hJ,rfl,hnd,hlt2,hmq,hiq,hown,hbel⟩:=hrel;have HJ:=zz hJ;have HND:=zz (And.intro hnd hlt2);have HMQ:=zz hmq;have HIQ:=zz hiq;have HOQ:=zz hown;have HBQ:=zz hbel;have hsq:w.heap.size≤wr.heap.size:=hbel.size;have hJ2:J.length≤N.length:=by omega
    have HNE:=zz (own_ne hown hiq);have lmq:=zl hmq;have liq:=zl hiq;clear hJ hnd hlt2 hmq hiq hown hbel;have hlm:w.heap.size < wb.heap.size:=lmp
    go_wp2_with(first
     |(at_next;refine wpList_next_raw _ rfl _ rfl w2.heap.size w.heap.size N.length J.toArray (entsOf N) rfl HIQ.out HMQ.out (ents_old N) (by omega) ?_ ?_))
    ·intro hd;have HD:=zz hd;clear hd
     go_wp2_with fail
     have hperm:=picks_two N hN2 J HND.out.1 HND.out.2 (left_done N J (by simpa using HD.out));have hown:wr.ownsRow wb.heap.size 55 8 s.v (picks N J).length (tnY.flat (picks N J)):=by rw [picks_len N J HND.out.2];exact HOQ.out
     have hsrt:sort2 (fun x y=>cmpId x.node y.node) (picks N J)=N:=by
      rcases hperm with h|h
      ·rw [h];exact HS1.out
      ·rw [h];exact HS2.out
     have hlen:(picks N J).length=N.length:=by
      rcases hperm with h|h
      ·rw [h]
      ·rw [h,List.length_reverse]
     refine(sortFunc_any 74 _ (picks N J) (by omega) s.v wb.heap.size wr hown (by omega) (fun a W=>by rfl) (fun x y _ W=>nodeCmp_any y x W)).mono ?_;rintro e w9 ⟨rfl,ho9,hb9⟩;rw [hsrt,hlen]at ho9;have HF:=zz (And.intro (ownsRow_mono ho9 (by omega:w.heap.size≤wb.heap.size)) (HBQ.out.trans (hb9.mono (by omega:w.heap.size≤wb.heap.size))));clear ho9 hb9 hsrt hlen hown hperm;go_wp2;go_ret
     exact⟨_,rfl,HF.out.1,HF.out.2⟩
    ·intro e w4 he hi4 hm4 hg4 hs4;obtain⟨j,t,hj,rfl,hnj⟩:=left_pick N J e (by simpa using he);have hi4':w4.heap[w2.heap.size]? =some (.mapIter (some w.heap.size) N.length (J.toArray.push (entOf t j).born) N.length):=by simpa using hi4
     have HI4:=zz hi4';have HM4:=zz hm4;have HG4:=zz hg4;have hje:entOf t j∈(entsOf N).toList:=by have:=entsFrom_get N 0 j t hj;rw [Nat.zero_add]at this;simpa [entsOf] using this
     have HJE:=zz hje;have HJN:=zz (And.intro hj hnj);clear hi4 hi4' hm4 hg4 he hj hnj hje
     go_wp2_with(first
      |refine wpList_entry_raw _ rfl _ rfl w2.heap.size w.heap.size N.length J.toArray (entsOf N) ⟨.agg #[.string t.node.a,.int .i64 t.node.n],.agg #[.string t.node.a,.int .i64 t.node.n,.string t.parent.a,.int .i64 t.parent.n,.bool t.neg,.string t.num,.string t.den,.string t.kind],j⟩ rfl HI4.out HM4.out HJE.out (ents_nodup N) ?_
      |(at_builtin;refine wpList_append_own_at _ rfl _ _ 25 rfl wb.heap.size 55 i0 (.agg z55) 8 104 Tryz.underlying25 hi hz0 hz1 hz2 rfl (by decide) s.v J.length (tnY.flat (picks N J)) rfl (((HOQ.out.kept HG4.out (.inr HNE.out)).alloc _).alloc _) ⟨wr.heap.size+1,0,none⟩ 1 1 (tnV t) rfl rfl (news_of (zg _ _ _ (by simp [hs4]))) (tnY.one t) (by unfold maxLen;omega) (by omega) (by simp;omega) ?_;intro v1 w6 hown1 hg1 _ hloc1))
     have hI6:=(hg1.block w2.heap.size (by simp;omega) (fun e=>HNE.out e.symm)).trans (zo _ _ _ _ (zo _ _ _ _ HI4.out));have hM6:=(hg1.block w.heap.size (by simp;omega) (fun e=>by have:=(HOQ.out.lt _ e.symm).1;omega)).trans (zo _ _ _ _ (zo _ _ _ _ HM4.out));have hB6:=(((HBQ.out.grown HG4.out (by omega) (fun j hj=>by cases hj;omega)).alloc (by omega) _).alloc (by simp;omega) _).grown hg1 (by simp;omega) (fun j hj=>by have:=(HOQ.out.lt _ hj).1;omega)
     have hO6:w6.ownsRow wb.heap.size 55 8 v1 (J++ [j]).length (tnY.flat (picks N (J++ [j]))):=by
      rw [picks_snoc N J j t HJN.out.1,tnY.flat_append,List.length_append];have:tnY.flat [t]=tnV t:=by simp [Lay.flat,tnY]
      rw [this];exact hown1
     have hnd:(J++ [j]).Nodup:=by
      rw [List.nodup_append];exact⟨HND.out.1,by simp,fun x hx y hy e=>by simp at hy;subst hy;subst e;exact HJN.out.2 hx⟩
     have hlt:∀x∈J++ [j],x < N.length:=by
      intro x hx;rw [List.mem_append]at hx
      rcases hx with hx|hx
      ·exact HND.out.2 x hx
      ·simp at hx;subst hx;exact(List.getElem?_eq_some_iff.1 HJN.out.1).1
     have hle:=nodup2 N.length hN2 _ hnd hlt;rw [List.length_append]at hle;obtain⟨s1,hs1⟩:=ownsForm hown1;subst hs1;have HREL:=zz (And.intro hI6 (And.intro hM6 (And.intro hB6 (And.intro hO6 (And.intro hnd hlt)))));clear hI6 hM6 hB6 hO6 hnd hlt hown1 hg1 hloc1;go_wp2
     go_roundg (N.length - (J.length+1))
     case rel=>
      refine⟨J++ [j],s1,by rw [List.length_append];simp at hle⊢;omega,rfl,HREL.out.2.2.2.2.1,HREL.out.2.2.2.2.2,HREL.out.2.1,?_,HREL.out.2.2.2.1,HREL.out.2.2.1⟩;rw [show(J++ [j]).toArray=J.toArray.push (entOf t j).born by simp [entOf]];exact HREL.out.1
     case measure=>have:=HJ.out;simp at hle;omega
end Go.Proofs.YteigcnamkfebgaaGreatDoor
