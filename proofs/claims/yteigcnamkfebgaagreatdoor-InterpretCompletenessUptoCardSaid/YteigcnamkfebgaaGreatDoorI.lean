import Derived.Test.YteigcnamkfebgaaGreatDoorE
import Derived.Maps.AppendAt
import Derived.Laws.OwnMore
set_option linter.all false
set_option maxHeartbeats 25600000
namespace Go.Proofs.YteigcnamkfebgaaGreatDoor
open Go.RowKit
set_option maxRecDepth 100000 in
theorem insWr_any (l:List WrD) (v:Value) (x:WrD) (base:Nat) (w:World) (hl:l.length≤1000000) (hv:w.ownsRow base 50 4 v l.length (wrY.flat l)) (hbase:base≤w.heap.size) (q:Nat) (hq:w.heap[q]? =some (.cells (wrV x).toArray 50 (0,0))):
  Calls Tryz.prog 128 #[v,.int .i64 l.length,.slice (some ⟨q,0,none⟩) 1 1] w fun e w'=>∃v',e=.returned v'∧w'.ownsRow base 50 4 v' (l.length+1) (wrY.flat (l++ [x]))∧Below base w w'∧w.grownBy w' v.ownBlock∧(v'.ownBlock=v.ownBlock∨v'.ownBlock=some w.heap.size):=by
 obtain⟨i0,hi,hz0,hz1,hz2⟩:=info_parts info50
 have hnews:∀j u,(wrV x)[j]? =some u→w.cell? ((⟨q,0,none⟩:Addr).add j)=some u:=fun j u hu=>by
  rw [Addr.add_mid,Nat.zero_add,zc _ _ j _ _ _ hq]
  simpa using hu
 have h1:∀u∈wrV x,u.oneCell'=true:=wrY.one x;have hfin:wrY.flat l++wrV x=wrY.flat (l++ [x]):=by rw [wrY.flat_append];simp [Lay.flat,wrY]
 have hlen:(wrY.flat l).length=l.length*4:=wrY.flat_length l
 rcases hv.2 with⟨rfl,hz⟩|⟨g,cap,cur,rfl,hgb,_,hnc,_⟩
 ·have HZ:=zz hz;rw [hz]at hv;rw [hz];clear hz;go_enter Tryz.func128,Tryz.ntmps128
  go_wp2_with(at_builtin;refine wpList_append_own_at _ rfl _ _ 46 rfl base 50 i0 (.agg z50) 4 48 Tryz.underlying46 hi hz0 hz1 hz2 rfl (by decide) (.slice none 0 0) 0 (wrY.flat l) rfl hv ⟨q,0,none⟩ 1 1 (wrV x) rfl rfl hnews h1 (by unfold maxLen;omega) (by omega) hbase ?_)
  intro v1 w1 hown1 hg1 _ hloc1;have hb1:Below base w w1:=(Below.refl _ _).grown hg1 hbase (by intro k hk;simp [Value.ownBlock]at hk);have HG:=zz hg1;have HL:=zz hloc1;clear hv hg1 hnews hloc1;go_wp2;go_ret
  exact⟨_,rfl,hown1,hb1,HG.out,HL.out⟩
 ·have hncZ:(l.length:Int)≤(cap:Int):=by omega
  have hsub:min cap l.length=l.length:=by omega
  go_enter Tryz.func128,Tryz.ntmps128
  go_wp2_with(at_builtin;refine wpList_append_own_at _ rfl _ _ 46 rfl base 50 i0 (.agg z50) 4 48 Tryz.underlying46 hi hz0 hz1 hz2 rfl (by decide) (.slice (some ⟨g,0,none⟩) l.length cap) l.length (wrY.flat l) rfl hv ⟨q,0,none⟩ 1 1 (wrV x) rfl rfl hnews h1 (by unfold maxLen;omega) (by omega) hbase ?_;intro v1 w1 hown1 hg1 _ hloc1;have HG:=zz hg1;have HL:=zz hloc1;clear hv hnews hg1 hloc1)
  all_goals go_ret
  all_goals exact⟨_,rfl,by rw [←hfin];exact hown1,(Below.refl _ _).grown HG.out hbase (by intro k hk;simp [Value.ownBlock]at hk;omega),HG.out,HL.out⟩
def z48:Array Value:=#[.string ⟨#[]⟩,.int .i64 0,.string ⟨#[]⟩,.slice none 0 0]
theorem info48:(Tryz.prog.info? 48).map (fun i=>(i.zero,i.size,i.bytes))=some (some (.agg z48),4,64):=by kernel_rfl
set_option maxRecDepth 100000 in
theorem insReg_any (l:List RegD) (v:Value) (x:RegD) (base:Nat) (w:World) (hl:l.length≤1000000) (hv:w.ownsRow base 48 4 v l.length (regY.flat l)) (hbase:base≤w.heap.size) (q:Nat) (hq:w.heap[q]? =some (.cells (regV x).toArray 48 (0,0))):
  Calls Tryz.prog 79 #[v,.int .i64 l.length,.slice (some ⟨q,0,none⟩) 1 1] w fun e w'=>∃v',e=.returned v'∧w'.ownsRow base 48 4 v' (l.length+1) (regY.flat (l++ [x]))∧Below base w w'∧w.grownBy w' v.ownBlock∧(v'.ownBlock=v.ownBlock∨v'.ownBlock=some w.heap.size):=by
 obtain⟨i0,hi,hz0,hz1,hz2⟩:=info_parts info48
 have hnews:∀j u,(regV x)[j]? =some u→w.cell? ((⟨q,0,none⟩:Addr).add j)=some u:=fun j u hu=>by
  rw [Addr.add_mid,Nat.zero_add,zc _ _ j _ _ _ hq]
  simpa using hu
 have h1:∀u∈regV x,u.oneCell'=true:=regY.one x;have hfin:regY.flat l++regV x=regY.flat (l++ [x]):=by rw [regY.flat_append];simp [Lay.flat,regY]
 have hlen:(regY.flat l).length=l.length*4:=regY.flat_length l
 rcases hv.2 with⟨rfl,hz⟩|⟨g,cap,cur,rfl,hgb,_,hnc,_⟩
 ·have HZ:=zz hz;rw [hz]at hv;rw [hz];clear hz;go_enter Tryz.func79,Tryz.ntmps79
  go_wp2_with(at_builtin;refine wpList_append_own_at _ rfl _ _ 26 rfl base 48 i0 (.agg z48) 4 64 Tryz.underlying26 hi hz0 hz1 hz2 rfl (by decide) (.slice none 0 0) 0 (regY.flat l) rfl hv ⟨q,0,none⟩ 1 1 (regV x) rfl rfl hnews h1 (by unfold maxLen;omega) (by omega) hbase ?_)
  intro v1 w1 hown1 hg1 _ hloc1;have hb1:Below base w w1:=(Below.refl _ _).grown hg1 hbase (by intro k hk;simp [Value.ownBlock]at hk);have HG:=zz hg1;have HL:=zz hloc1;clear hv hg1 hnews hloc1;go_wp2;go_ret
  exact⟨_,rfl,hown1,hb1,HG.out,HL.out⟩
 ·have hncZ:(l.length:Int)≤(cap:Int):=by omega
  have hsub:min cap l.length=l.length:=by omega
  go_enter Tryz.func79,Tryz.ntmps79
  go_wp2_with(at_builtin;refine wpList_append_own_at _ rfl _ _ 26 rfl base 48 i0 (.agg z48) 4 64 Tryz.underlying26 hi hz0 hz1 hz2 rfl (by decide) (.slice (some ⟨g,0,none⟩) l.length cap) l.length (regY.flat l) rfl hv ⟨q,0,none⟩ 1 1 (regV x) rfl rfl hnews h1 (by unfold maxLen;omega) (by omega) hbase ?_;intro v1 w1 hown1 hg1 _ hloc1;have HG:=zz hg1;have HL:=zz hloc1;clear hv hnews hg1 hloc1)
  all_goals go_ret
  all_goals exact⟨_,rfl,by rw [←hfin];exact hown1,(Below.refl _ _).grown HG.out hbase (by intro k hk;simp [Value.ownBlock]at hk;omega),HG.out,HL.out⟩
theorem ownsRow_mono {w:World} {base base' n size:Nat} {e:TypeId} {v:Value} {xs:List Value} (h:w.ownsRow base e size v n xs) (hb:base'≤base):w.ownsRow base' e size v n xs:=by
 obtain⟨h1,h2⟩:=h;refine⟨h1,?_⟩
 rcases h2 with h2|⟨g,cap,cur,hv,hg,r⟩
 ·exact .inl h2
 ·exact .inr ⟨g,cap,cur,hv,Nat.le_trans hb hg,r⟩
def keptW (e:EdD) (ids:List IdD) (l:List WrD):List WrD:=l.filter (fun m=>!(eqId m.id e.id||containsF ids m.id))
def newW (e:EdD):WrD:=⟨e.id,e.clock,e.value⟩
set_option maxRecDepth 100000 in
theorem written_any (l:List WrD) (v:Value) (e:EdD) (ids:List IdD) (w:World) (hl:l.length≤100000) (hv:wrY.Rd w v l) (hd:idY.Rd w e.deps.v ids) (hids:ids.length≤1000000)
  (hat:bs (fun x=>cmpWr x (newW e)) (keptW e ids l) 0 (keptW e ids l).length=(keptW e ids l).length):
  Calls Tryz.prog 80 #[v,.agg (edV e).toArray] w fun e' w'=>∃v',e'=.returned v'∧w'.ownsRow w.heap.size 50 4 v' ((keptW e ids l).length+1) (wrY.flat (keptW e ids l++ [newW e]))∧Below w.heap.size w w':=by
 have hm0:=zg w (.cells (edV e).toArray 45) w.heap.size rfl;have hb0:Below w.heap.size w (w.alloc (.cells (edV e).toArray 45)):=(Below.refl _ _).alloc (Nat.le_refl _) _;have hv0:=hv.alloc (.cells (edV e).toArray 45);have HD:=zz hd;clear hv hd;have HAT:=zz hat;clear hat;have hkl:(keptW e ids l).length≤l.length:=List.length_filter_le _ _;go_enter Tryz.func80,Tryz.ntmps80
 go_wp2_with fail
 generalize hW0:w.alloc (.cells (edV e).toArray 45)=W0 at*
 have hs0:W0.heap.size=w.heap.size+1:=by rw [←hW0];simp
 clear hW0;refine(cloneWr_any l v W0 (by omega) hv0).mono ?_;rintro e1 w1 ⟨v1,rfl,hown1,hb1⟩;have hm1:=(hb1.block _ (by omega)).trans hm0
 obtain⟨s1,hs1⟩:∃s:SlV,v1=.slice s.a s.len s.cap:=by
  obtain⟨a,n,c,rfl⟩:=(Lay.Rd.of_owns (Y:=wrY) hown1).form;exact⟨⟨a,n,c⟩,rfl⟩
 subst hs1;have hsz1:=hb1.size;have hbel1:Below w.heap.size w w1:=hb0.trans (hb1.mono (by omega));clear hb1 hm0 hv0 hb0
 go_wp2_with fail
 have hP:PredE wrY W0.heap.size 125 #[.pointer (some ⟨w.heap.size,0,none⟩)] (fun m=>eqId m.id e.id||containsF ids m.id) w1:=fun x W hB=>
  written1_any x w.heap.size e ids W ((hB.block _ (by omega)).trans hm1) (HD.out.below (hbel1.trans (hB.mono (by omega)))) hids
 refine(deleteWr_any 125 #[.pointer (some ⟨w.heap.size,0,none⟩)] _ l (.slice s1.a s1.len s1.cap) W0.heap.size w1 (by omega) hown1 hsz1 Tryz.call125 hP).mono ?_;rintro e2 w2 ⟨v2,rfl,hown2,hb2⟩;have hm2:=(hb2.block _ (by omega)).trans hm1;have hbel2:Below w.heap.size w w2:=hbel1.trans (hb2.mono (by omega));have hsz2:=hb2.size;rw [show l.filter (fun x=>!(eqId x.id e.id||containsF ids x.id))=keptW e ids l from rfl]at hown2;generalize hK:keptW e ids l=K at*
 have HKK:=zz hK;clear hK
 obtain⟨s2,hs2⟩:∃s:SlV,v2=.slice s.a s.len s.cap:=by
  obtain⟨a,n,c,rfl⟩:=(Lay.Rd.of_owns (Y:=wrY) hown2).form;exact⟨⟨a,n,c⟩,rfl⟩
 subst hs2;clear hP hown1 hm1 hbel1 hb2;have k0:w2.cell? ⟨w.heap.size,0,none⟩=some (.string e.id.a):=by rw [zc _ _ 0 _ _ _ hm2];rfl
 have k1:w2.cell? ⟨w.heap.size,1,none⟩=some (.int .i64 e.id.n):=by rw [zc _ _ 1 _ _ _ hm2];rfl
 have k2:w2.cell? ⟨w.heap.size,2,none⟩=some (.int .i64 e.clock):=by rw [zc _ _ 2 _ _ _ hm2];rfl
 have k14:w2.cell? ⟨w.heap.size,14,none⟩=some (.string e.value):=by rw [zc _ _ 14 _ _ _ hm2];rfl
 have lm2:=zl hm2;clear hm2
 go_wp2_with fail
 have hown3:=hown2.alloc (.cells #[.string e.id.a,.int .i64 e.id.n,.int .i64 e.clock,.string e.value] 50);have hmm3:=zg w2 (.cells #[.string e.id.a,.int .i64 e.id.n,.int .i64 e.clock,.string e.value] 50) w2.heap.size rfl;have hbel3:Below w.heap.size w (w2.alloc (.cells #[.string e.id.a,.int .i64 e.id.n,.int .i64 e.clock,.string e.value] 50)):=hbel2.alloc hbel2.size _;generalize hW3:w2.alloc (.cells #[.string e.id.a,.int .i64 e.id.n,.int .i64 e.clock,.string e.value] 50)=W3 at*
 have hs3:W3.heap.size=w2.heap.size+1:=by rw [←hW3];simp
 clear hW3 k0 k1 k2 k14 hbel2 hown2;refine(bsWr_any K (.slice s2.a s2.len s2.cap) (newW e) W3 (by omega) (Lay.Rd.of_owns (Y:=wrY) hown3)).mono ?_;rintro e3 w4 ⟨r,hr,_,rfl,hb4⟩;rw [HAT.out]at hr;subst hr;have hown4:=ownsRow_below hown3 hb4;have hmm4:=(hb4.block _ (by omega)).trans hmm3;have hbel4:Below w.heap.size w w4:=hbel3.trans (hb4.mono hbel3.size);have hsz4:=hb4.size;clear hown3 hmm3 hbel3 hb4;have k0:w4.cell? ⟨w2.heap.size,0,none⟩=some (.string e.id.a):=by rw [zc _ _ 0 _ _ _ hmm4];rfl
 have k1:w4.cell? ⟨w2.heap.size,1,none⟩=some (.int .i64 e.id.n):=by rw [zc _ _ 1 _ _ _ hmm4];rfl
 have k2:w4.cell? ⟨w2.heap.size,2,none⟩=some (.int .i64 e.clock):=by rw [zc _ _ 2 _ _ _ hmm4];rfl
 have k3:w4.cell? ⟨w2.heap.size,3,none⟩=some (.string e.value):=by rw [zc _ _ 3 _ _ _ hmm4];rfl
 clear hmm4;generalize found (fun x=>cmpWr x (newW e)) K K.length=f
 go_wp2_with fail
 have hown5:=hown4.alloc (.cells #[.string e.id.a,.int .i64 e.id.n,.int .i64 e.clock,.string e.value] 50);refine(insWr_any K (.slice s2.a s2.len s2.cap) (newW e) W0.heap.size _ (by omega) hown5 (by simp;omega) w4.heap.size (zg _ _ _ rfl)).mono ?_;rintro e4 w6 ⟨v6,rfl,hown6,hb6,_,_⟩;have hbel6:Below w.heap.size w w6:=(hbel4.alloc hbel4.size _).trans (hb6.mono (by omega));have hown7:w6.ownsRow w.heap.size 50 4 v6 (K.length+1) (wrY.flat (K++ [newW e])):=ownsRow_mono hown6 (by omega);clear hown6 hown5 hown4 k0 k1 k2 k3 hb6 hbel4;go_wp2;go_ret
 exact⟨_,rfl,by rw [HKK.out];exact hown7,hbel6⟩
structure RegP where
 node:IdD
 field:ByteArray
 w:List WrD
structure EdP where
 d:EdD
 ids:List IdD
def cmpKey (n:IdD) (f:ByteArray) (n':IdD) (f':ByteArray):Int:=or2 (cmpId n n') (cmpS f f')
theorem bs_map {E F:Type} (f:E→F) (c:F→Int) (l:List E) (i j:Nat):bs (fun x=>c (f x)) l i j=bs c (l.map f) i j:=by
 unfold bs;generalize j - i=n
 induction n generalizing i j with
 |zero=>rfl
 |succ n ih=>
  unfold bsearch
  by_cases hij:i < j
  ·rw [if_pos hij,if_pos hij,List.getElem?_map]
   cases l[(i+j) / 2]? with
   |none=>rfl
   |some x=>
    simp only [Option.map_some]
    by_cases hc:c (f x) < 0
    ·rw [if_pos hc,if_pos hc];exact ih _ _
    ·rw [if_neg hc,if_neg hc];exact ih _ _
  ·rw [if_neg hij,if_neg hij]
theorem found_map {E F:Type} (f:E→F) (c:F→Int) (l:List E) (r:Nat):found (fun x=>c (f x)) l r=found c (l.map f) r:=by
 unfold found;rw [List.getElem?_map];cases l[r]? <;>rfl
def keyOfR (r:RegP):IdD×ByteArray:=(r.node,r.field)
def keyOfD (d:RegD):IdD×ByteArray:=(d.node,d.field)
def cK (n:IdD) (f:ByteArray) (k:IdD×ByteArray):Int:=cmpKey k.1 k.2 n f
def Regs (w:World) (base:Nat) (v:Value) (R:List RegP):Prop:=
 ∃ds:List RegD,w.ownsRow base 48 4 v R.length (regY.flat ds)∧ds.length=R.length∧
  ∀(i:Nat) (d:RegD) (r:RegP),ds[i]? =some d→R[i]? =some r→d.node=r.node∧d.field=r.field∧wrY.Rd w d.w.v r.w∧∀a,d.w.a=some a→a.block < w.heap.size∧v.ownBlock≠some a.block
theorem keys_eq {ds:List RegD} {R:List RegP} (hl:ds.length=R.length) (h:∀(i:Nat) (d:RegD) (r:RegP),ds[i]? =some d→R[i]? =some r→d.node=r.node∧d.field=r.field):ds.map keyOfD=R.map keyOfR:=by
 apply List.ext_getElem?
 intro i;rw [List.getElem?_map,List.getElem?_map]
 by_cases hi:i < ds.length
 ·have h1:=List.getElem?_eq_getElem hi;have h2:R[i]? =some (R[i]'(by omega)):=List.getElem?_eq_getElem (by omega);obtain⟨e1,e2⟩:=h i _ _ h1 h2;rw [h1,h2];simp [keyOfD,keyOfR,e1,e2]
 ·rw [List.getElem?_eq_none (by omega),List.getElem?_eq_none (by omega)];rfl
theorem Regs.below {w w':World} {base:Nat} {v:Value} {R:List RegP} (h:Regs w base v R) (hb:Below w.heap.size w w'):Regs w' base v R:=by
 obtain⟨ds,h1,h2,h3⟩:=h;refine⟨ds,ownsRow_below h1 hb,h2,fun i d r hd hr=>?_⟩;obtain⟨e1,e2,e3,e4⟩:=h3 i d r hd hr;exact⟨e1,e2,e3.below hb,fun a ha=>⟨Nat.lt_of_lt_of_le (e4 a ha).1 hb.size,(e4 a ha).2⟩⟩
theorem Lay.Rd.away {E:Type} {Y:Lay E} {w w':World} {s:SlV} {l:List E} {row:Option Nat} (h:Y.Rd w s.v l) (hg:w.grownBy w' row) (ha:∀a,s.a=some a→row≠some a.block):Y.Rd w' s.v l:=by
 rcases h with h|⟨b,off,cap,h1,h2,h3⟩
 ·exact .inl h
 ·refine .inr ⟨b,off,cap,h1,h2,fun j u hj=>?_⟩;have h4:=h3 j u hj
  have hs:s.a=some ⟨b,off,none⟩:=by
   unfold SlV.v at h1;simp at h1;exact h1.1
  rw [World.cell?_of_block (w:=w) (hg.block b (block_lt_of_cell h4) (fun e=>ha _ hs e.symm))];exact h4
theorem flat_set_w (ds:List RegD):∀(i:Nat) (d:RegD) (s:SlV),ds[i]? =some d→(regY.flat ds).set (i*4+3) s.v=regY.flat (ds.set i {d with w:=s}):=by
 induction ds with
 |nil=>intro i d s h;simp at h
 |cons x r ih=>
  intro i d s h
  cases i with
  |zero=>
   simp at h;subst h;rw [regY.flat_cons,List.set_cons_zero,regY.flat_cons];rfl
  |succ i=>
   simp at h;rw [regY.flat_cons,List.set_cons_succ,regY.flat_cons,←ih i d s h,show(i+1)*4+3=4+(i*4+3) by omega];have e:(regY.V x).length=4:=rfl;rw [List.set_append_right _ _ (by rw [e];omega),e,Nat.add_sub_cancel_left]
theorem Regs.set {w:World} {base n cap g:Nat} {R:List RegP} (h:Regs w base (.slice (some ⟨g,0,none⟩) n cap) R) {i:Nat} {r:RegP} (hr:R[i]? =some r) {s:SlV} {W:List WrD} (hW:wrY.Rd w s.v W) (ha:∀a,s.a=some a→a.block < w.heap.size∧a.block≠g):
  Regs (w.setCell ⟨g,i*4+3,none⟩ s.v) base (.slice (some ⟨g,0,none⟩) n cap) (R.set i {r with w:=W}):=by
 obtain⟨ds,h1,h2,h3⟩:=h
 have hn:R.length=n:=by
  rcases h1.2 with⟨e,_⟩|⟨_,_,_,e,_⟩
  ·cases e
  ·simp at e;exact e.2.1.symm
 subst hn;have hi:i < R.length:=(List.getElem?_eq_some_iff.1 hr).1;obtain⟨d,hd⟩:∃d,ds[i]? =some d:=⟨_,List.getElem?_eq_getElem (by omega)⟩;obtain⟨hs1,hs2⟩:=h1.stored (i*4+3) s.v;rw [flat_set_w ds i d s hd]at hs1;refine⟨ds.set i {d with w:=s},by rw [List.length_set];exact hs1,by rw [List.length_set,List.length_set];exact h2,fun j d' r' hd' hr'=>?_⟩;obtain⟨e1,e2,e3,e4⟩:=h3 i d r hd hr
 by_cases hij:i=j
 ·subst hij;rw [List.getElem?_set_self (by omega)]at hd' hr';obtain rfl:=Option.some.inj hd';obtain rfl:=Option.some.inj hr';exact⟨e1,e2,hW.away hs2 (fun a h e=>(ha a h).2 (Option.some.inj e).symm),fun a h=>⟨by simpa using (ha a h).1,fun e=>(ha a h).2 (by simp [Value.ownBlock]at e;exact e.symm)⟩⟩
 ·rw [List.getElem?_set_ne hij]at hd' hr';obtain⟨f1,f2,f3,f4⟩:=h3 j d' r' hd' hr';exact⟨f1,f2,f3.away hs2 (fun a h e=>(f4 a h).2 (by simpa [Value.ownBlock] using e)),fun a h=>⟨by simpa using (f4 a h).1,(f4 a h).2⟩⟩
theorem Regs.snoc {w w':World} {base:Nat} {v v':Value} {R:List RegP} {ds:List RegD} {x:RegD} {r:RegP} (h1:ds.length=R.length) (h3:∀(i:Nat) (d:RegD) (r:RegP),ds[i]? =some d→R[i]? =some r→d.node=r.node∧d.field=r.field∧wrY.Rd w d.w.v r.w∧∀a,d.w.a=some a→a.block < w.heap.size∧v.ownBlock≠some a.block)
  (ho:w'.ownsRow base 48 4 v' (ds.length+1) (regY.flat (ds++ [x]))) (hg:w.grownBy w' v.ownBlock) (hloc:v'.ownBlock=v.ownBlock∨v'.ownBlock=some w.heap.size) (hx:x.node=r.node∧x.field=r.field∧x.w=SlV.nil∧r.w= []):Regs w' base v' (R++ [r]):=by
 refine⟨ds++ [x],by rw [List.length_append,List.length_singleton,←h1];exact ho,by simp [h1],fun i d r' hd hr=>?_⟩
 by_cases hi:i < ds.length
 ·rw [List.getElem?_append_left hi]at hd;rw [List.getElem?_append_left (by omega)]at hr;obtain⟨e1,e2,e3,e4⟩:=h3 i d r' hd hr;refine⟨e1,e2,e3.away hg (fun a ha=>(e4 a ha).2),fun a ha=>⟨Nat.lt_of_lt_of_le (e4 a ha).1 hg.size,?_⟩⟩
  rcases hloc with h|h
  ·rw [h];exact(e4 a ha).2
  ·rw [h];have:=(e4 a ha).1;intro e;simp at e;omega
 ·rw [List.getElem?_append_right (by omega)]at hd hr
  have h0:i - ds.length=0:=by
   by_cases h0:i - ds.length=0
   ·exact h0
   ·obtain⟨k,hk⟩:=Nat.exists_eq_succ_of_ne_zero h0;rw [hk]at hd;simp at hd
  rw [h0]at hd;rw [show i - R.length=0 by omega]at hr;simp at hd hr;subst hd hr;obtain⟨f1,f2,f3,f4⟩:=hx;rw [f3,f4];exact⟨f1,f2,.inl ⟨rfl,rfl⟩,fun a h=>by simp [SlV.nil]at h⟩
end Go.Proofs.YteigcnamkfebgaaGreatDoor
