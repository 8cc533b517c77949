import Derived.Test.YteigcnamkfebgaaGreatDoorAD
import Derived.RangeFuncBox
import Derived.Maps.OwnSet
import Derived.Maps.RangeWalk
set_option linter.all false
set_option maxHeartbeats 25600000
namespace Go.Proofs.YteigcnamkfebgaaGreatDoor
open Go.RowKit
def Kept2 (o m:Nat) (w1 wr:World):Prop:=w1.heap.size≤wr.heap.size∧∀i,i < w1.heap.size→i≠o→i≠m→wr.heap[i]? =w1.heap[i]?
theorem Kept2.refl (o m:Nat) (w:World):Kept2 o m w w:=⟨Nat.le_refl _,fun _ _ _ _=>rfl⟩
theorem Kept2.trans {o m:Nat} {a b c:World} (h:Kept2 o m a b) (h':Kept2 o m b c):Kept2 o m a c:=
 ⟨Nat.le_trans h.1 h'.1,fun i hi h1 h2=>(h'.2 i (Nat.lt_of_lt_of_le hi h.1) h1 h2).trans (h.2 i hi h1 h2)⟩
theorem set1 {W:World} {k:Nat} {x y:Value} {t:TypeId} (h:W.heap[k]? =some (.cells #[x] t (0,0))):(W.setCell ⟨k,0,none⟩ y).heap[k]? =some (.cells #[y] t (0,0)):=Boxed.set y (show Boxed W k t x from h)
theorem Kept2.of_below {o m:Nat} {a b:World} {n:Nat} (h:Below n a b) (hn:a.heap.size≤n):Kept2 o m a b:=⟨h.size,fun i hi _ _=>h.block i (by omega)⟩
set_option maxRecDepth 100000 in
theorem visitRoot (c:TnD→TnD→Int) (l:List TnD) (v:Value) (K:List IdD) (M:Nat→Array MapEntry) (w00 w:World) (hv:tnY.Rd w00 v l) (hl:l.length≤1000) (hf:(below l rootI l.length).length≤2) (hc:CmpF 130 c (below l rootI l.length))
  (hK:(sort2 c (below l rootI l.length)).map (·.node)=K) (hleaf:∀x∈K,below l x l.length= [])
  (hM:∀k x,K[k]? =some x→(∀w,(Instr.findKey 38 (.agg #[.string x.a,.int .i64 x.n]) (M k).toList).run Tryz.prog w=.ok none w)∧M (k+1)=(M k).push ⟨.agg #[.string x.a,.int .i64 x.n],.bool true,k+1⟩)
  (B:Nat) (hB:w00.heap.size=B) (hbel:Below B w00 w) (h0:w.heap[B]? =some (.cells #[v] 25 (0,0))) (h1:w.heap[B+1]? =some (.cells #[.slice none 0 0] 41 (0,0))) (h2:w.heap[B+2]? =some (.map (M 0) 1))
  (h3:w.heap[B+3]? =some (.cells #[.map (some (B+2))] 95 (0,0))) (h4:w.heap[B+4]? =some (.cells #[.func (.func 43) #[] #[.pointer (some ⟨B,0,none⟩),.pointer (some ⟨B+3,0,none⟩),.pointer (some ⟨B+1,0,none⟩),.pointer (some ⟨B+4,0,none⟩)]] 96 (0,0))):
  Calls Tryz.prog 43 #[.agg #[.string ⟨#[]⟩,.int .i64 0],.pointer (some ⟨B,0,none⟩),.pointer (some ⟨B+3,0,none⟩),.pointer (some ⟨B+1,0,none⟩),.pointer (some ⟨B+4,0,none⟩)] w fun e w'=>e=.returned (.tuple #[])∧Below B w00 w'∧
   ∃s:SlV,w'.heap[B+1]? =some (.cells #[.slice s.a s.len s.cap] 41 (0,0))∧w'.ownsRow (B+5) 38 2 s.v K.length (idY.flat K):=by
 obtain⟨i0,hi,hz0,hz1,hz2⟩:=info_parts info38;have hbA:Below w.heap.size w (w.alloc (.cells #[.string ⟨#[]⟩,.int .i64 0] 38)):=(Below.refl _ _).alloc (Nat.le_refl _) _;have HC:=zz (children_any c l v rootI (w.alloc (.cells #[.string ⟨#[]⟩,.int .i64 0] 38)) hl ((hv.below (by rw [hB];exact hbel)).alloc _) hf hc);have hn2:(below l rootI l.length).length=K.length:=by rw [←hK,List.length_map,sort2_len]
 have hK2:K.length≤2:=by rw [←hn2];exact hf
 rw [hK,hn2]at HC;have lB:B+5≤w.heap.size:=zl h4;have HLEAF:=zz (fun(x:IdD) (hx:x∈K) (W:World) (hb:W.heap[B]? =some (.cells #[v] 25 (0,0))) (hbl:Below B w00 W) (p1 p2 p3:Value)=>visitLeaf l v x w00 W hv hl (hleaf x hx) (by rw [hB];exact hb) (by rw [hB];exact hbl) p1 p2 p3);rw [hB]at HLEAF;obtain⟨a,n0,cc,rfl⟩:=hv.form;have c0:w.cell? ⟨B,0,none⟩=some (.slice a n0 cc):=zc _ _ 0 _ _ _ h0;have H0:=zz h0;have H1:=zz h1;have H2:=zz h2;have H3:=zz h3;have H4:=zz h4;have HBEL:=zz hbel;have HM:=zz hM;have l0:B < w.heap.size:=by omega
 generalize hn:K.length=n at*
 have HN:=zz hn;clear hv hf hc hK hleaf hM h0 h1 h2 h3 h4 hbel hn2 hn hB;go_enter Tryz.func43,Tryz.ntmps43
 go_wp2_with fail
 refine HC.out.mono ?_;rintro e w1 ⟨v1,rfl,ho1,hb1⟩;have hbB:=hbA.trans (hb1.mono (by simp));have hsz1:B+5≤w1.heap.size:=by have:=hbB.size;omega
 have HBB:=zz hbB;obtain⟨a1,n1,c1,rfl⟩:=(Lay.Rd.of_owns (Y:=idY) (by rw [HN.out];exact ho1)).form
 have hn1:n1=n:=by
  have:=(Lay.Rd.of_owns (Y:=idY) (by rw [HN.out];exact ho1)).len;rw [HN.out]at this;exact this
 subst hn1;have HROW:=zz ho1;clear HC hbA hb1 hbB ho1 c0 l0;go_wp2
 go_loopg [12] n1 (fun gn t12 wr=>∃(k:Nat) (s:SlV),k+gn=n1∧t12=.int .i64 k∧Kept2 (B+1) (B+2) w1 wr∧Below B w00 wr∧wr.heap[B+1]? =some (.cells #[.slice s.a s.len s.cap] 41 (0,0))∧wr.heap[B+2]? =some (.map (M k) (k+1))∧wr.ownsRow w1.heap.size 38 2 s.v k (idY.flat (K.take k)))
 case atStart=>
  refine⟨0,SlV.nil,by omega,rfl,Kept2.refl _ _ _,?_,?_,?_,owns_nil0 _ _ _ _⟩
  ·exact HBEL.out.trans (HBB.out.mono (by omega))
  ·exact(HBB.out.block _ (by omega)).trans H1.out
  ·exact(HBB.out.block _ (by omega)).trans H2.out
 case round=>
  obtain⟨G,rfl⟩:∃G,G=gk:=⟨_,rfl⟩;obtain⟨k,s,hk,rfl,hkep,hbel,hbo,hmp,hown⟩:=hrel;have HK:=zz hk;clear hk;have hsz:w1.heap.size≤wr.heap.size:=hkep.1;have R0:=(hkep.2 B (by omega) (by omega) (by omega)).trans ((HBB.out.block _ (by omega)).trans H0.out);have R3:=(hkep.2 (B+3) (by omega) (by omega) (by omega)).trans ((HBB.out.block _ (by omega)).trans H3.out);have R4:=(hkep.2 (B+4) (by omega) (by omega) (by omega)).trans ((HBB.out.block _ (by omega)).trans H4.out)
  by_cases hlt:k < n1
  ·have hx:K[k]? =some (K[k]'(by rw [HN.out];exact hlt)):=List.getElem?_eq_getElem _;generalize K[k]'(by rw [HN.out];exact hlt)=y at hx;have HX:=zz hx
   obtain⟨g,cap,cur,h1,hg1,hg2,_⟩:∃g cap cur,Value.slice a1 n1 c1=.slice (some ⟨g,0,none⟩) n1 cap∧(w.alloc (.cells #[.string ⟨#[]⟩,.int .i64 0] 38)).heap.size≤g∧w1.heap[g]? =some (.cells cur 38 (0,0))∧True:=by
    rcases HROW.out.2 with⟨_,h⟩|⟨g,cap,cur,h1,h2,h3,_⟩
    ·omega
    ·exact⟨g,cap,cur,h1,h2,h3,trivial⟩
   simp only [Value.slice.injEq]at h1;obtain⟨rfl,_,rfl⟩:=h1;have lg:=zl hg2;have hgB:B+5 < g:=by simp at hg1;omega
   have hrx1:w1.rangeAt g (0+k*2) (idV y):=idY.elem (ownsRow_rangeAt HROW.out) k y hx
   have hrx:wr.rangeAt g (k*2) (idV y):=fun j u hj=>by
    have h2:=hrx1 j u hj;rw [Nat.zero_add]at h2;exact(World.cell?_of_block (w:=w1) (w':=wr) (a:=⟨g,k*2+j,none⟩) (hkep.2 g lg (by omega) (by omega))).trans h2
   have hltZ:(k:Int) < (n1:Int):=by omega
   have e3:wr.cell? ⟨B+3,0,none⟩=some (.map (some (B+2))):=zc _ _ 0 _ _ _ R3;have l3:B+3 < wr.heap.size:=by omega
   unfold idV at hrx;have HMISS:=zz (HM.out k y HX.out);have YB:=zg wr (.cells #[.string y.a,.int .i64 y.n] 38) wr.heap.size rfl;have HOA:=zz (hown.alloc (.cells #[.string y.a,.int .i64 y.n] 38));have HKEP:=zz hkep;have HBL:=zz hbel;have HBO:=zz hbo;have HMP:=zz hmp;have hgm:g < wr.heap.size:=by omega
   have hob:∀j,s.v.ownBlock=some j→w1.heap.size≤j∧j < wr.heap.size:=fun j hj=>hown.lt j hj
   have HOB:=zz hob;have l1:B+1 < wr.heap.size:=by omega
   have HOK:=zz (fun(w2:World) (hg2:(wr.alloc (.cells #[.string y.a,.int .i64 y.n] 38)).grownBy w2 (some (B+2)))=>((hown.alloc (.cells #[.string y.a,.int .i64 y.n] 38)).kept hg2 (.inr (fun e=>by have h9:=(hob _ e).1;omega))).alloc (.cells #[.string y.a,.int .i64 y.n] 38));clear hx hrx1 hg1 hg2 hkep hbel hbo hmp hown R3 hob
   go_wp2_with(first
    |refine wpList_load_mid rfl 38 _ rfl g (k*2) rfl _ _ hrx Tryz.underlying38 rfl (by kernel_rfl) ?_
    |(at_lookup;refine wpList_lookup_raw _ rfl _ _ 95 false rfl 38 4 Tryz.underlying95 (.bool false) (fun w=>by kernel_rfl) (B+2) (M k) (k+1) rfl (zo _ _ _ _ HMP.out) (.agg #[.string y.a,.int .i64 y.n]) rfl (ck38 _ _) none HMISS.out.1 (.bool false) rfl ?_)
    |(at_mapUpdate;refine wpList_update_raw _ rfl _ _ _ 95 (.inl rfl) 38 4 Tryz.underlying95 (B+2) (M k) (k+1) rfl (zo _ _ _ _ HMP.out) (.agg #[.string y.a,.int .i64 y.n]) (.bool true) rfl rfl (ck38 _ _) HMISS.out.1 ?_;intro w2 hm2 hg2 hsz2;have YB2:=(hg2.block wr.heap.size (by simp) (by simp;omega)).trans YB;have y2:=two_cells YB2;have y20:=y2.1;have y21:=y2.2;have O2:=(hg2.block (B+1) (by simp;omega) (by simp)).trans (zo _ _ _ _ HBO.out);have o2:w2.cell? ⟨B+1,0,none⟩=some (.slice s.a s.len s.cap):=zc _ _ 0 _ _ _ O2;have ly:wr.heap.size < w2.heap.size:=(by simp at hsz2;omega);have HOW:=zz (HOK.out w2 hg2);have l12:B+1 < w2.heap.size:=(by omega);have HG2:=zz hg2;have HM2:=zz hm2;have HS2:=zz hsz2;clear hg2 hm2 hsz2 y2)
    |(
      at_builtin;refine wpList_append_own_at _ rfl _ _ 41 rfl w1.heap.size 38 i0 (.agg z38) 2 24 Tryz.underlying41 hi hz0 hz1 hz2 rfl (by decide) s.v k (idY.flat (K.take k)) rfl HOW.out ⟨w2.heap.size,0,none⟩ 1 1 (idV y) rfl rfl (news_of (zg _ _ _ rfl)) (idY.one y) (by unfold maxLen;omega) (by omega) (by simp;omega) ?_;intro v1 w3 hown1 hg3 _ hloc1;obtain⟨s1,hs1⟩:=ownsForm hown1;subst hs1
      have O3:=(hg3.block (B+1) (by simp;omega) (fun e=>by have:=(HOB.out _ e.symm).1;omega)).trans (zo _ _ _ _ O2);have o3:w3.cell? ⟨B+1,0,none⟩=some (.slice s.a s.len s.cap):=zc _ _ 0 _ _ _ O3;have f3:w3.frozen? ⟨B+1,0,none⟩=false:=frozen_of_row w3 (B+1) 0 _ _ O3;have YB3:=(hg3.block wr.heap.size (by simp;omega) (fun e=>by have:=(HOB.out _ e.symm).2;omega)).trans (zo _ _ _ _ YB2);have y3:=two_cells YB3;have F3:=(hg3.block (B+4) (by simp;omega) (fun e=>by have:=(HOB.out _ e.symm).1;omega)).trans (zo _ _ _ _ ((HG2.out.block (B+4) (by simp;omega) (by simp)).trans (zo _ _ _ _ R4)));have f34:w3.cell? ⟨B+4,0,none⟩=some (.func (.func 43) #[] #[.pointer (some ⟨B,0,none⟩),.pointer (some ⟨B+3,0,none⟩),.pointer (some ⟨B+1,0,none⟩),.pointer (some ⟨B+4,0,none⟩)]):=zc _ _ 0 _ _ _ F3
      have y30:=y3.1;have y31:=y3.2;have hney:¬(B+1=wr.heap.size):=(by omega);have HG3:=zz hg3;have HO3:=zz hown1;clear hg3 hown1 hloc1 y3 y20 y21 o2))
   have hstep:∀i,i < wr.heap.size→i≠B+1→i≠B+2→(∀j,s.v.ownBlock=some j→i≠j)→(w3.setCell ⟨B+1,0,none⟩ (.slice s1.a s1.len s1.cap)).heap[i]? =wr.heap[i]?:=fun i hi h1 h2 h3=>by
    have hs2:w2.heap.size=wr.heap.size+1:=by have:=HS2.out;simpa using this
    rw [heap_setCell_other _ _ _ _ h1,HG3.out.block i (by simp;omega) (fun e=>h3 i e.symm rfl),Below.heap_alloc w2 _ i (by omega),HG2.out.block i (by simp;omega) (by simp;omega),Below.heap_alloc wr _ i hi]
   have hkep4:Kept2 (B+1) (B+2) w1 (w3.setCell ⟨B+1,0,none⟩ (.slice s1.a s1.len s1.cap)):=by
    refine⟨?_,fun i hi h1 h2=>(hstep i (by omega) h1 h2 (fun j hj=>by have:=(HOB.out j hj).1;omega)).trans (HKEP.out.2 i hi h1 h2)⟩;have h1:=HG3.out.size;simp at h1⊢;omega
   have hbel4:Below B w00 (w3.setCell ⟨B+1,0,none⟩ (.slice s1.a s1.len s1.cap)):=by
    refine Below.setCell ?_ (p:=⟨B+1,0,none⟩) (by show B≤B+1;omega) _;refine Below.grown ?_ HG3.out (by simp;omega) (fun j hj=>by have:=(HOB.out j hj).1;omega);refine Below.alloc ?_ (by omega) _;refine Below.grown ?_ HG2.out (by simp;omega) (fun j hj=>by cases hj;omega);exact HBL.out.alloc (by omega) _
   have hbo4:=set1 (y:=.slice s1.a s1.len s1.cap) O3
   have hmp4:(w3.setCell ⟨B+1,0,none⟩ (.slice s1.a s1.len s1.cap)).heap[B+2]? =some (.map (M (k+1)) (k+1+1)):=by
    rw [heap_setCell_other _ _ _ _ (by show B+2≠B+1;omega),HG3.out.block (B+2) (by simp;omega) (fun e=>by have:=(HOB.out _ e.symm).1;omega),Below.heap_alloc w2 _ _ (by omega),HM2.out,HMISS.out.2]
   have hown4:(w3.setCell ⟨B+1,0,none⟩ (.slice s1.a s1.len s1.cap)).ownsRow w1.heap.size 38 2 s1.v (k+1) (idY.flat (K.take (k+1))):=by
    have h5:w3.ownsRow w1.heap.size 38 2 s1.v (k+1) (idY.flat (K.take (k+1))):=by
     rw [list_snoc K k y HX.out,idY.flat_append];have:idY.flat [y]=idV y:=by simp [Lay.flat,idY]
     rw [this];exact HO3.out
    exact h5.kept (grownBy_setCell' w3 (B+1) _) (.inr (fun e=>by have:=(h5.lt _ e).1;omega))
   have h04:=(hstep B (by omega) (by omega) (by omega) (fun j hj=>by have:=(HOB.out j hj).1;omega)).trans R0;have hsz4:w1.heap.size≤(w3.setCell ⟨B+1,0,none⟩ (.slice s1.a s1.len s1.cap)).heap.size:=hkep4.1;have HLF:=zz (HLEAF.out y (List.mem_of_getElem? HX.out) _ h04 hbel4 (.pointer (some ⟨B+3,0,none⟩)) (.pointer (some ⟨B+1,0,none⟩)) (.pointer (some ⟨B+4,0,none⟩)));clear hstep h04 O3 o3 f3 YB3 F3 f34 y30 y31 hney O2 YB2 HOW HO3 HG2 HM2 HS2 HG3 e3 YB hrx;generalize w3.setCell ⟨B+1,0,none⟩ (.slice s1.a s1.len s1.cap)=w4 at*
   refine HLF.out.mono ?_;rintro e w5 ⟨rfl,hb5⟩;have Q1:=hkep4.trans (Kept2.of_below hb5 (Nat.le_refl _));have Q2:=hbel4.trans (hb5.mono (by omega));have Q3:=(hb5.block _ (zl hbo4)).trans hbo4;have Q4:=(hb5.block _ (zl hmp4)).trans hmp4;have Q5:=ownsRow_below hown4 hb5;clear hkep4 hbel4 hbo4 hmp4 hown4 hb5 HLF;have HQ:=zz (And.intro Q1 (And.intro Q2 (And.intro Q3 (And.intro Q4 Q5))));clear Q1 Q2 Q3 Q4 Q5;go_wp2
   go_roundg (n1 - 1 - k)
   case rel=>exact⟨k+1,s1,by have:=HK.out;omega,by go_num,HQ.out.1,HQ.out.2.1,HQ.out.2.2.1,HQ.out.2.2.2.1,HQ.out.2.2.2.2⟩
   case measure=>have:=HK.out;omega
  ·obtain rfl:k=n1:=by have:=HK.out;omega
   have HQ:=zz (And.intro hbel (And.intro hbo hown));clear hkep hbel hbo hmp hown R0 R3 R4;go_wp2;go_end0
   refine⟨rfl,HQ.out.1,s,HQ.out.2.1,?_⟩;have h5:=HQ.out.2.2;rw [←HN.out,List.take_length]at h5;rw [←HN.out];exact ownsRow_mono h5 hsz1
theorem run_store_box {P:Program} {W:World} {k:Nat} {t:TypeId} {x:Value} (v:Value) (hv:v.oneCell'=true) (h:W.heap[k]? =some (.cells #[x] t (0,0))):(store ⟨k,0,none⟩ v).run P W=.ok () (W.setCell ⟨k,0,none⟩ v):=by
 have h1:W.cell? ⟨k,0,none⟩=some x:=zc _ _ 0 _ _ _ h;have h2:W.frozen? ⟨k,0,none⟩=false:=frozen_of_row _ _ 0 _ _ h;rw [run_store P W _ v .plain hv,h1];simp [h2]
set_option maxRecDepth 100000 in
theorem walk_any (c:TnD→TnD→Int) (l:List TnD) (v:Value) (K:List IdD) (M:Nat→Array MapEntry) (w:World) (hv:tnY.Rd w v l) (hl:l.length≤1000) (hf:(below l rootI l.length).length≤2) (hc:CmpF 130 c (below l rootI l.length))
  (hK:(sort2 c (below l rootI l.length)).map (·.node)=K) (hleaf:∀x∈K,below l x l.length= [])
  (hM:∀k x,K[k]? =some x→(∀w,(Instr.findKey 38 (.agg #[.string x.a,.int .i64 x.n]) (M k).toList).run Tryz.prog w=.ok none w)∧M (k+1)=(M k).push ⟨.agg #[.string x.a,.int .i64 x.n],.bool true,k+1⟩)
  (hM0:M 0=#[⟨.agg #[.string ⟨#[]⟩,.int .i64 0],.bool true,0⟩]):
  Calls Tryz.prog 17 #[v] w fun e w'=>∃v',e=.returned v'∧w'.ownsRow w.heap.size 38 2 v' K.length (idY.flat K)∧Below w.heap.size w w':=by
 have HR:=zz (fun(W:World)=>visitRoot c l v K M w W hv hl hf hc hK hleaf hM w.heap.size rfl);obtain⟨a,n0,cc,rfl⟩:=hv.form;have HM0:=zz hM0;clear hv hf hc hK hleaf hM hM0;have hmm:= @run_makeMap Tryz.prog;go_enter Tryz.func17,Tryz.ntmps17
 go_wp2_with(first
  |(refine wpList_update_raw _ rfl _ _ _ 95 (.inr rfl) 38 4 Tryz.underlying95 (w.heap.size+2) #[] 0 rfl (zg _ _ _ (by simp)) (.agg #[.string ⟨#[]⟩,.int .i64 0]) (.bool true) rfl rfl (ck38 _ _) (miss0 _ _) ?_;intro w2 hm2 hg2 hsz2;have HS2:=zz hsz2;have HM2:=zz hm2;have HG2:=zz hg2;clear hsz2 hm2 hg2;have B5:((w2.alloc (.cells #[.map (some (w.heap.size+1+1))] 95)).alloc (.cells #[.nilFunc] 96)).heap[w2.heap.size+1]? =_:=box2.2;have q5:((w2.alloc (.cells #[.map (some (w.heap.size+1+1))] 95)).alloc (.cells #[.nilFunc] 96)).cell? ⟨w2.heap.size+1,0,none⟩=some .nilFunc:=zc _ _ 0 _ _ _ B5;have hst:=run_store_box (P:=Tryz.prog) (.func (.func 43) #[] #[.pointer (some ⟨w.heap.size,0,none⟩),.pointer (some ⟨w2.heap.size,0,none⟩),.pointer (some ⟨w.heap.size+1,0,none⟩),.pointer (some ⟨w2.heap.size+1,0,none⟩)]) rfl B5))
 have hs:w2.heap.size=w.heap.size+3:=by have:=HS2.out;simpa using this
 clear hst q5 B5 hmm;rw [hs];have hw:Below w.heap.size w w2:=Below.grown (((((Below.refl _ w).alloc (Nat.le_refl _) _).alloc (by simp) _).alloc (by simp <;>omega) _)) HG2.out (by simp;omega) (fun j hj=>by cases hj;omega)
 refine(HR.out _ ((hw.alloc (by omega) _).alloc (by simp;omega) _) (zo _ _ _ _ (zo _ _ _ _ ((HG2.out.block w.heap.size (by simp <;>omega) (by simp)).trans (zo _ _ _ _ (zo _ _ _ _ (zg _ _ _ rfl))))))
  (zo _ _ _ _ (zo _ _ _ _ ((HG2.out.block (w.heap.size+1) (by simp <;>omega) (by simp)).trans (zo _ _ _ _ (zg _ _ _ (by simp))))))
  (zo _ _ _ _ (zo _ _ _ _ (HM2.out.trans (by rw [HM0.out];rfl)))) (zo _ _ _ _ (zg _ _ _ hs.symm)) (zg _ _ _ (by simp [hs]))).mono ?_
 rintro e w9 ⟨rfl,hb9,s,ho9,hown9⟩;have o9:w9.cell? ⟨w.heap.size+1,0,none⟩=some (.slice s.a s.len s.cap):=zc _ _ 0 _ _ _ ho9;have HQ:=zz (And.intro hb9 hown9);clear hb9 hown9 ho9 HR HM0;go_wp2;go_ret
 exact⟨_,rfl,ownsRow_mono HQ.out.2 (by omega),HQ.out.1⟩
def met0:Array MapEntry:=#[⟨.agg #[.string ⟨#[]⟩,.int .i64 0],.bool true,0⟩]
def met1:Array MapEntry:=met0.push ⟨.agg #[.string ⟨#[97,110,110]⟩,.int .i64 1],.bool true,1⟩
def metM:Nat→Array MapEntry
 |0=>met0
 |1=>met1
 |_=>met1.push ⟨.agg #[.string ⟨#[97,110,110]⟩,.int .i64 4],.bool true,2⟩
def cSib (_ _:TnD):Int:=1
theorem bel14r:below [node1,node4] rootI [node1,node4].length= [node1,node4]:=by kernel_rfl
theorem bel14a:below [node1,node4] ann1 [node1,node4].length= []:=by kernel_rfl
theorem bel14b:below [node1,node4] ann4 [node1,node4].length= []:=by kernel_rfl
theorem bel1r:below [node1] rootI [node1].length= [node1]:=by kernel_rfl
theorem bel1a:below [node1] ann1 [node1].length= []:=by kernel_rfl
theorem walk14 (v:Value) (w:World) (hv:tnY.Rd w v [node1,node4]):Calls Tryz.prog 17 #[v] w fun e w'=>∃v',e=.returned v'∧w'.ownsRow w.heap.size 38 2 v' 2 (idY.flat [ann1,ann4])∧Below w.heap.size w w':=by
 refine walk_any cSib [node1,node4] v [ann1,ann4] metM w hv (by simp) (by rw [bel14r];decide) ?_ (by rw [bel14r];rfl) ?_ ?_ rfl
 ·intro x y h W;rw [bel14r]at h;simp only [List.cons.injEq,and_true]at h;obtain⟨rfl,rfl⟩:=h;exact sibCmp41 W
 ·intro x hx;simp only [List.mem_cons,List.not_mem_nil,or_false]at hx
  rcases hx with rfl|rfl
  ·exact bel14a
  ·exact bel14b
 ·intro k x hx
  match k,hx with
  |0,hx=>simp at hx;subst hx;exact⟨miss1,rfl⟩
  |1,hx=>simp at hx;subst hx;exact⟨miss2,rfl⟩
theorem walk1 (v:Value) (w:World) (hv:tnY.Rd w v [node1]):Calls Tryz.prog 17 #[v] w fun e w'=>∃v',e=.returned v'∧w'.ownsRow w.heap.size 38 2 v' 1 (idY.flat [ann1])∧Below w.heap.size w w':=by
 refine walk_any cSib [node1] v [ann1] metM w hv (by simp) (by rw [bel1r];decide) ?_ (by rw [bel1r];rfl) ?_ ?_ rfl
 ·intro x y h W;rw [bel1r]at h;simp at h
 ·intro x hx;simp only [List.mem_cons,List.not_mem_nil,or_false]at hx;subst hx;exact bel1a
 ·intro k x hx
  match k,hx with
  |0,hx=>simp at hx;subst hx;exact⟨miss1,rfl⟩
section
variable {P:Program} (w:World) {ops:Array Oper} {rest:List Oper} {o:Oper} {a:Act} {Q:Exit→Act→World→Prop}
theorem wpList_len_raw (hg:o.guard=none) (m:Operand) (t:TypeId) (hop:o.op=Op.call {callee:=Callee.builtin Builtin.len,args:=#[m],argTypes:=#[t]}) (k e:TypeId) (ht:P.underlying t=some (.map k e))
  (b:Nat) (es:Array MapEntry) (clock:Nat) (hm:a.eval m=.map (some b)) (hb:w.heap[b]? =some (.map es clock)) (hK:wpList P ops Q rest (a.put o.dst (.int .i64 (es.size:Nat))) w):wpList P ops Q (o::rest) a w:=by
 refine wpList_plain hg fun K' hK'=>?_
 have hrun:(Builtin.len_ #[t] o.type #[.map (some b)]).run P w=.ok (.int .i64 (es.size:Nat)) w:=by
  simp [Builtin.len_,run_underlying ht,MapKept.run_getObj_map hb,goInt,Result.andThen]
 unfold Oper.wp;simp [execOp,hop,resolve,invoke,builtin,hm,hrun,Result.andThen];exact hK' _ _ hK
theorem wpList_range_raw (hg:o.guard=none) (m:Operand) (t:TypeId) (hop:o.op=Op.range t m) (k e:TypeId) (ht:P.underlying t=some (.map k e)) (b:Nat) (es:Array MapEntry) (clock:Nat) (hm:a.eval m=.map (some b)) (hb:w.heap[b]? =some (.map es clock))
  (hK:wpList P ops Q rest (a.put o.dst (.pointer (some ⟨w.heap.size,0,none⟩))) (w.alloc (.mapIter (some b) clock #[] clock))):wpList P ops Q (o::rest) a w:=by
 refine wpList_plain hg fun K' hK'=>?_
 have hrun:=run_range_map (P:=P) w t k e b es clock ht hb;unfold Oper.wp;simp [execOp,hop,hm,hrun,Result.andThen];exact hK' _ _ hK
theorem wpList_next_raw (hg:o.guard=none) (it:Operand) (hop:o.op=Op.next it false) (r bm since:Nat) (seen:Array Nat) (es:Array MapEntry) (hit:a.eval it=.pointer (some ⟨r,0,none⟩))
  (hr:w.heap[r]? =some (.mapIter (some bm) since seen since)) (hb:w.heap[bm]? =some (.map es since)) (hold:∀x∈es.toList,x.born < since) (hrb:r≠bm)
  (hDone:(leftOf es seen).size=0→wpList P ops Q rest (a.put o.dst (.tuple #[.bool false])) w)
  (hMore:∀(e:MapEntry) (w':World),e∈(leftOf es seen).toList→w'.heap[r]? =some (.mapIter (some bm) since (seen.push e.born) since)→w'.heap[bm]? =some (.map es since)→w.grownBy w' (some r)→w'.heap.size=w.heap.size→wpList P ops Q rest (a.put o.dst (.tuple #[.bool true,e.key,e.val])) w'):
  wpList P ops Q (o::rest) a w:=by
 refine wpList_plain hg fun K' hK'=>?_
 unfold Oper.wp
 rcases run_next_at (P:=P) w o.type r bm since since seen es since hr hb hold (Nat.le_refl _)with⟨h0,hrun⟩|⟨e,he,w1,hw1,hrun⟩
 ·simp [execOp,hop,hit,hrun,Result.andThen];exact hK' _ _ (hDone h0)
 ·have hr1:w1.heap[r]? =some (.mapIter (some bm) since seen since):=by rcases hw1 with rfl|rfl <;>exact hr
  have hb1:w1.heap[bm]? =some (.map es since):=by rcases hw1 with rfl|rfl <;>exact hb
  have hg1:w.grownBy w1 (some r):=by rcases hw1 with rfl|rfl <;>exact⟨rfl,rfl,rfl,Nat.le_refl _,fun _ _ _=>rfl⟩
  have hs1:w1.heap.size=w.heap.size:=by rcases hw1 with rfl|rfl <;>rfl
  have hrl:=zl hr1;simp [execOp,hop,hit,hrun,Result.andThen];refine hK' _ _ (hMore e _ he ?_ ?_ ?_ ?_)
  ·simp [ChangeMaps.setBlock,hrl]
  ·simp only [ChangeMaps.setBlock];rw [Array.getElem?_setIfInBounds_ne hrb];exact hb1
  ·exact⟨hg1.os,hg1.tape,hg1.output,by simp [ChangeMaps.setBlock,hs1],fun i hi hne=>by
    simp only [ChangeMaps.setBlock];rw [Array.getElem?_setIfInBounds_ne (fun e=>hne (by rw [e]))]
    exact hg1.block i hi hne⟩
  ·simp [ChangeMaps.setBlock,hs1]
end
def tnOf (e:EdD):TnD:=⟨e.id,e.parent,e.neg,e.num,e.den,e.value⟩
def adds (E:List EdP):List TnD:=E.filterMap (fun e=>if e.d.kind=1 then some (tnOf e.d)else none)
def entOf (t:TnD) (i:Nat):MapEntry:=⟨.agg #[.string t.node.a,.int .i64 t.node.n],.agg #[.string t.node.a,.int .i64 t.node.n,.string t.parent.a,.int .i64 t.parent.n,.bool t.neg,.string t.num,.string t.den,.string t.kind],i⟩
def entsFrom:List TnD→Nat→List MapEntry
 | [],_=> []
 |t::r,i=>entOf t i::entsFrom r (i+1)
theorem entsFrom_snoc (t:TnD):∀(N:List TnD) (i:Nat),entsFrom (N++ [t]) i=entsFrom N i++ [entOf t (i+N.length)]
 | [],i=>by simp [entsFrom]
 |x::r,i=>by simp [entsFrom,entsFrom_snoc t r (i+1),Nat.add_assoc,Nat.add_comm 1]
def entsOf (N:List TnD):Array MapEntry:=(entsFrom N 0).toArray
theorem entsOf_snoc (N:List TnD) (t:TnD):entsOf (N++ [t])=(entsOf N).push (entOf t N.length):=by
 simp [entsOf,entsFrom_snoc]
theorem adds_snoc1 {E:List EdP} {k:Nat} {e:EdP} (h:E[k]? =some e) (hk:e.d.kind=1):adds (E.take (k+1))=adds (E.take k)++ [tnOf e.d]:=by
 rw [list_snoc E k e h];simp [adds,hk]
theorem adds_snoc0 {E:List EdP} {k:Nat} {e:EdP} (h:E[k]? =some e) (hk:e.d.kind≠1):adds (E.take (k+1))=adds (E.take k):=by
 rw [list_snoc E k e h];simp [adds,hk]
theorem entsFrom_mem:∀(N:List TnD) (i:Nat) (x:MapEntry),x∈entsFrom N i→∃j t,N[j]? =some t∧x=entOf t (i+j)
 | [],i,x,h=>by simp [entsFrom]at h
 |y::r,i,x,h=>by
  simp only [entsFrom,List.mem_cons]at h
  rcases h with rfl|h
  ·exact⟨0,y,rfl,rfl⟩
  ·obtain⟨j,t,h1,h2⟩:=entsFrom_mem r (i+1) x h;exact⟨j+1,t,by simpa using h1,by rw [h2];congr 1;omega⟩
theorem entsFrom_get:∀(N:List TnD) (i j:Nat) (t:TnD),N[j]? =some t→entOf t (i+j)∈entsFrom N i
 | [],i,j,t,h=>by simp at h
 |y::r,i,0,t,h=>by simp at h;subst h;simp [entsFrom]
 |y::r,i,j+1,t,h=>by
  simp only [entsFrom,List.mem_cons]
  right
  have:=entsFrom_get r (i+1) j t (by simpa using h)
  rwa [show i+1+j=i+(j+1) by omega]at this
end Go.Proofs.YteigcnamkfebgaaGreatDoor
