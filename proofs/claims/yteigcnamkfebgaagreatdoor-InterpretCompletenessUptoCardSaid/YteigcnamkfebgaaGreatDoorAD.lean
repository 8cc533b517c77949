import Derived.Test.YteigcnamkfebgaaGreatDoorY
import Derived.Maps.OwnOps
import Derived.Maps.RangeRun
set_option linter.all false
set_option maxHeartbeats 25600000
namespace Go.Proofs.YteigcnamkfebgaaGreatDoor
open Go.RowKit
def rootI:IdD:=⟨⟨#[]⟩,0⟩
def ann1:IdD:=⟨⟨#[97,110,110]⟩,1⟩
def ann4:IdD:=⟨⟨#[97,110,110]⟩,4⟩
def node1:TnD:=⟨ann1,rootI,false,⟨#[]⟩,⟨#[]⟩,⟨#[112,97,114,97,109]⟩⟩
def node4:TnD:=⟨ann4,rootI,false,⟨#[1]⟩,⟨#[]⟩,⟨#[109,105,114,114,111,114]⟩⟩
theorem cells10 {W:World} {p q:Nat} {a0 a1 a2 a3 a4 a5 a6 a7 b0 b1 b2 b3 b4 b5 b6 b7:Value} {t:TypeId} (h:W.heap[p]? =some (.cells #[a0,a1,a2,a3,a4,a5,a6,a7] t (0,0))) (h':W.heap[q]? =some (.cells #[b0,b1,b2,b3,b4,b5,b6,b7] t (0,0))):
  W.cell? ⟨p,0,none⟩=some a0∧W.cell? ⟨p,1,none⟩=some a1∧W.cell? ⟨p,4,none⟩=some a4∧W.cell? ⟨p,5,none⟩=some a5∧W.cell? ⟨p,6,none⟩=some a6∧
  W.cell? ⟨q,0,none⟩=some b0∧W.cell? ⟨q,1,none⟩=some b1∧W.cell? ⟨q,4,none⟩=some b4∧W.cell? ⟨q,5,none⟩=some b5∧W.cell? ⟨q,6,none⟩=some b6:=
 ⟨zc _ _ _ _ _ _ h,zc _ _ _ _ _ _ h,zc _ _ _ _ _ _ h,zc _ _ _ _ _ _ h,zc _ _ _ _ _ _ h,zc _ _ _ _ _ _ h',zc _ _ _ _ _ _ h',zc _ _ _ _ _ _ h',zc _ _ _ _ _ _ h',zc _ _ _ _ _ _ h'⟩
set_option maxRecDepth 100000 in
theorem sibCmp41 (w:World):Calls Tryz.prog 130 #[.agg (tnV node4).toArray,.agg (tnV node1).toArray] w fun e w'=>e=.returned (.int .i64 1)∧Below w.heap.size w w':=by
 obtain⟨m2,m3⟩:=box2 (w:=w) (o:=.cells (tnV node4).toArray 55) (o':=.cells (tnV node1).toArray 55);have BL:=(below2 w (.cells (tnV node4).toArray 55) (.cells (tnV node1).toArray 55)).drew;have R2:(((w.alloc (.cells (tnV node4).toArray 55)).alloc (.cells (tnV node1).toArray 55)).drew).heap[w.heap.size]? =_:=m2;have R3:(((w.alloc (.cells (tnV node4).toArray 55)).alloc (.cells (tnV node1).toArray 55)).drew).heap[w.heap.size+1]? =_:=m3;clear m2 m3;unfold tnV node1 node4 ann1 ann4 rootI at*
 go_enter Tryz.func130,Tryz.ntmps130
 go_wp2_with fail
 go_region_held3 (fun w'=>w'.cell? ⟨w.heap.size,0,none⟩=some (.string ⟨#[97,110,110]⟩)∧w'.cell? ⟨w.heap.size,1,none⟩=some (.int .i64 4)∧w'.cell? ⟨w.heap.size,4,none⟩=some (.bool false)∧w'.cell? ⟨w.heap.size,5,none⟩=some (.string ⟨#[1]⟩)∧w'.cell? ⟨w.heap.size,6,none⟩=some (.string ⟨#[]⟩)∧w'.cell? ⟨w.heap.size+1,0,none⟩=some (.string ⟨#[97,110,110]⟩)∧w'.cell? ⟨w.heap.size+1,1,none⟩=some (.int .i64 1)∧w'.cell? ⟨w.heap.size+1,4,none⟩=some (.bool false)∧w'.cell? ⟨w.heap.size+1,5,none⟩=some (.string ⟨#[]⟩)∧w'.cell? ⟨w.heap.size+1,6,none⟩=some (.string ⟨#[]⟩))
  (first
   |with_reducible exact cells10 R2 R3
   |go_keep)
  (first
   |(go_at_call 131;with_reducible refine(ratCmp10 _).mono ?_;rintro e w4 ⟨rfl,hb⟩;have R2:=(hb.block _ (zl R2)).trans R2;have R3:=(hb.block _ (zl R3)).trans R3;have BL:=BL.trans (hb.mono BL.size))
   |(go_at_call 75;refine(less_any ⟨⟨#[97,110,110]⟩,4⟩ ⟨⟨#[97,110,110]⟩,1⟩ _).mono ?_;rintro e w5 ⟨rfl,hb⟩;have R2:=(hb.block _ (zl R2)).trans R2;have R3:=(hb.block _ (zl R3)).trans R3;have BL:=BL.trans (hb.mono BL.size))
   |(go_at_call 118;refine(or2_any 1 (cmpId ⟨⟨#[97,110,110]⟩,4⟩ ⟨⟨#[97,110,110]⟩,1⟩) _ 2 _ (arr2 _ _ _).1 (arr2 _ _ _).2).mono ?_;rintro e w6 ⟨rfl,rfl⟩))
 go_wp2;go_ret
 exact⟨rfl,BL.alloc BL.size _⟩
def z55:Array Value:=#[.string ⟨#[]⟩,.int .i64 0,.string ⟨#[]⟩,.int .i64 0,.bool false,.string ⟨#[]⟩,.string ⟨#[]⟩,.string ⟨#[]⟩]
theorem info55:(Tryz.prog.info? 55).map (fun i=>(i.zero,i.size,i.bytes))=some (some (.agg z55),8,104):=by kernel_rfl
theorem news_of {W:World} {Q:Nat} {cs:List Value} {t:TypeId} {fr:Nat×Nat} (h:W.heap[Q]? =some (.cells cs.toArray t fr)):∀j u,cs[j]? =some u→W.cell? ((⟨Q,0,none⟩:Addr).add j)=some u:=fun j u hu=>by
 rw [Addr.add_mid,Nat.zero_add,zc _ _ j _ _ _ h]
 simpa using hu
theorem owns_nil0 (w:World) (base:Nat) (e:TypeId) (size:Nat):w.ownsRow base e size (.slice none 0 0) 0 []:=World.ownsRow_nil _ _ _ _
theorem ownsForm {W:World} {base:Nat} {e:TypeId} {size:Nat} {v:Value} {k:Nat} {xs:List Value} (h:W.ownsRow base e size v k xs):∃s:SlV,v=.slice s.a s.len s.cap:=by
 rcases h.2 with⟨h,_⟩|⟨g,cap,_,h,_⟩
 ·exact⟨⟨none,0,0⟩,h⟩
 ·exact⟨⟨_,_,_⟩,h⟩
theorem owns_snoc {E:Type} {Y:Lay E} {W:World} {base:Nat} {e:TypeId} {v:Value} {L:List E} {x:E} (h:W.ownsRow base e Y.k v (L.length+1) (Y.flat L++Y.V x)):W.ownsRow base e Y.k v (L++ [x]).length (Y.flat (L++ [x])):=by
 rw [Y.flat_append,List.length_append];simpa [Lay.flat] using h
def below (l:List TnD) (x:IdD) (k:Nat):List TnD:=(l.take k).filter (fun t=>eqId t.parent x)
theorem below_no {l:List TnD} {x:IdD} {k:Nat} {t:TnD} (h:l[k]? =some t) (hp:eqId t.parent x=false):below l x (k+1)=below l x k:=by
 unfold below;rw [list_snoc l k t h,List.filter_append];simp [hp]
theorem below_yes {l:List TnD} {x:IdD} {k:Nat} {t:TnD} (h:l[k]? =some t) (hp:eqId t.parent x=true):below l x (k+1)=below l x k++ [t]:=by
 unfold below;rw [list_snoc l k t h,List.filter_append];simp [hp]
theorem below_le (l:List TnD) (x:IdD) (k:Nat):(below l x k).length≤k:=by
 unfold below;exact Nat.le_trans (List.length_filter_le _ _) (by rw [List.length_take];omega)
set_option maxRecDepth 100000 in
theorem siblings_any (c:TnD→TnD→Int) (l:List TnD) (v:Value) (x:IdD) (w:World) (hl:l.length≤1000) (hv:tnY.Rd w v l) (hf:(below l x l.length).length≤2) (hc:CmpF 130 c (below l x l.length)):
  Calls Tryz.prog 81 #[v,.agg #[.string x.a,.int .i64 x.n]] w fun e w'=>∃v',e=.returned v'∧w'.ownsRow w.heap.size 55 8 v' (below l x l.length).length (tnY.flat (sort2 c (below l x l.length)))∧Below w.heap.size w w':=by
 obtain⟨i0,hi,hz0,hz1,hz2⟩:=info_parts info55;obtain⟨a,n,cc,rfl⟩:=hv.form;have hn:=hv.len;subst hn;have HV:=zz hv;have HC:=zz hc;have hbx:(w.alloc (.cells #[.string x.a,.int .i64 x.n] 38)).heap[w.heap.size]? =_:=zg _ _ _ rfl;have HX0:=zz hbx;have hsz0:(w.alloc (.cells #[.string x.a,.int .i64 x.n] 38)).heap.size=w.heap.size+1:=by simp
 have HS:=zz hsz0;clear hv hc hbx hsz0;generalize hn:l.length=n at*
 have HN:=zz hn;clear hn;go_enter Tryz.func81,Tryz.ntmps81
 go_wp2;generalize hW0:w.alloc (.cells #[.string x.a,.int .i64 x.n] 38)=W0 at*
 have HW0:=zz hW0;clear hW0;generalize hB:w.heap.size=B at*
 have HB:=zz hB;clear hB
 go_loopg [5,10] n (fun gn t5 t10 wr=>∃(k:Nat) (s:SlV),k+gn=n∧t10=.int .i64 k∧t5=.slice s.a s.len s.cap∧wr.ownsRow (B+1) 55 8 s.v (below l x k).length (tnY.flat (below l x k))∧Below (B+1) W0 wr)
 case atStart=>exact⟨0,SlV.nil,by omega,rfl,rfl,owns_nil0 _ _ _ _,Below.refl _ _⟩
 case round=>
  obtain⟨G,rfl⟩:∃G,G=gk:=⟨_,rfl⟩;obtain⟨k,s,hk,rfl,rfl,hown,hbel⟩:=hrel;have HK:=zz hk;have hsz:B+1≤wr.heap.size:=by have:=hbel.size;rw [HS.out]at this;exact this
  clear hk
  by_cases hlt:k < n
  ·have hx:l[k]? =some (l[k]'(by rw [HN.out];exact hlt)):=List.getElem?_eq_getElem _;generalize l[k]'(by rw [HN.out];exact hlt)=t at hx;have HX:=zz hx
   obtain⟨b,off,rfl,hr⟩:∃b off,a=some ⟨b,off,none⟩∧w.rangeAt b off (tnY.flat l):=by
    rcases HV.out with⟨h1,h2⟩|⟨b,off,cap,h1,h2,h3⟩
    ·rw [h2]at hx;cases hx
    ·simp at h1;exact⟨b,off,h1.1,h3⟩
   have hr0:=tnY.elem hr k t hx
   have hrx:wr.rangeAt b (off+k*8) (tnV t):=by
    have h1:W0.rangeAt b (off+k*8) (tnV t):=by rw [←HW0.out];exact World.rangeAt_alloc hr0 _
    intro j u hj;have h2:=h1 j u hj;have h3:b < B:=by have:=World.block_lt_of_cell? _ _ (hr0 j u hj);rw [HB.out]at this;exact this
    exact(hbel.cell (p:=⟨b,off+k*8+j,none⟩) (by show b < B+1;omega)).trans h2
   clear hr hr0;have hbx:=(hbel.block B (by omega)).trans HX0.out;obtain⟨q0,q1⟩:=two_cells hbx;have lB:B < wr.heap.size:=by omega
   have hltZ:(k:Int) < (n:Int):=by omega
   unfold tnV at hrx;clear hx hbx;have ht:=zg wr (.cells #[.string t.node.a,.int .i64 t.node.n,.string t.parent.a,.int .i64 t.parent.n,.bool t.neg,.string t.num,.string t.den,.string t.kind] 55) wr.heap.size rfl;have hgo:∀W,Below wr.heap.size wr W→Below (B+1) W0 W:=fun W h=>hbel.trans (h.mono hsz)
   have HGO:=zz hgo;have HO:=zz hown;have HBEL:=zz hbel;clear hgo hown hbel
   cases hs:eqS t.parent.a x.a with
   |false=>
    have hs':(t.parent.a.toList==x.a.toList)=false:=hs;have HQ:=zz (below_no HX.out (show eqId t.parent x=false by unfold eqId;rw [hs];rfl));clear hs
    go_wp2_with(first
     |refine wpList_load_mid rfl 55 _ rfl b (off+k*8) rfl _ _ hrx Tryz.underlying55 rfl (by kernel_rfl) ?_)
    go_roundg (n - 1 - k)
    case rel=>exact⟨k+1,s,by have:=HK.out;omega,by go_num,rfl,by rw [HQ.out];exact HO.out.alloc _,HGO.out _ ((Below.refl _ _).alloc (Nat.le_refl _) _)⟩
    case measure=>have:=HK.out;omega
   |true=>
    have hs':(t.parent.a.toList==x.a.toList)=true:=hs
    cases hnn:(t.parent.n==x.n)with
    |false=>
     have HQ:=zz (below_no HX.out (show eqId t.parent x=false by unfold eqId;rw [hs,hnn];rfl));clear hs
     go_wp2_with(first
      |refine wpList_load_mid rfl 55 _ rfl b (off+k*8) rfl _ _ hrx Tryz.underlying55 rfl (by kernel_rfl) ?_)
     go_roundg (n - 1 - k)
     case rel=>exact⟨k+1,s,by have:=HK.out;omega,by go_num,rfl,by rw [HQ.out];exact HO.out.alloc _,HGO.out _ ((Below.refl _ _).alloc (Nat.le_refl _) _)⟩
     case measure=>have:=HK.out;omega
    |true=>
     have HQ:=zz (below_yes HX.out (show eqId t.parent x=true by unfold eqId;rw [hs,hnn];rfl));have hkl:=below_le l x k;clear hs;have hown2:=(HO.out.alloc (.cells #[.string t.node.a,.int .i64 t.node.n,.string t.parent.a,.int .i64 t.parent.n,.bool t.neg,.string t.num,.string t.den,.string t.kind] 55)).alloc (.cells #[.string t.node.a,.int .i64 t.node.n,.string t.parent.a,.int .i64 t.parent.n,.bool t.neg,.string t.num,.string t.den,.string t.kind] 55);have HOW:=zz hown2;clear hown2
     go_wp2_with(first
      |refine wpList_load_mid rfl 55 _ rfl b (off+k*8) rfl _ _ hrx Tryz.underlying55 rfl (by kernel_rfl) ?_
      |refine wpList_load_row rfl 55 _ rfl wr.heap.size rfl 55 _ (0,0) _ ht Tryz.underlying55 rfl (by kernel_rfl) ?_
      |(at_builtin;refine wpList_append_own_at _ rfl _ _ 25 rfl (B+1) 55 i0 (.agg z55) 8 104 Tryz.underlying25 hi hz0 hz1 hz2 rfl (by decide) s.v (below l x k).length (tnY.flat (below l x k)) rfl HOW.out ⟨wr.heap.size+1,0,none⟩ 1 1 (tnV t) rfl rfl (news_of (zg _ _ _ (by simp))) (tnY.one t) (by unfold maxLen;omega) (by omega) (by simp;omega) ?_;intro v1 w1 hown1 hg1 _ hloc1))
     have hb1:=HBEL.out.trans ((((Below.refl (B+1) wr).alloc hsz _).alloc (by simp;omega) _).grown hg1 (by simp;omega) (fun j hj=>(HOW.out.lt j hj).1));have hown3:=owns_snoc (Y:=tnY) hown1;obtain⟨s1,hs1⟩:=ownsForm hown1;subst hs1;clear hown1 hg1 hloc1 ht hrx;go_wp2
     go_roundg (n - 1 - k)
     case rel=>exact⟨k+1,s1,by have:=HK.out;omega,by go_num,rfl,by rw [HQ.out];exact hown3,hb1⟩
     case measure=>have:=HK.out;omega
  ·obtain rfl:k=n:=by have:=HK.out;omega
   have HD:=zz hown;have HE:=zz hbel;clear hown hbel
   go_wp2_with fail
   refine(sortStable_any 130 c (below l x k) hf s.v (B+1) wr HD.out hsz (fun a W=>by rfl) HC.out).mono ?_;rintro e w9 ⟨rfl,ho9,hb9⟩;go_wp2;go_ret
   refine⟨_,rfl,?_,?_⟩
   ·exact ownsRow_mono ho9 (by rw [HB.out];omega)
   ·rw [HB.out];have h0:Below B w W0:=by rw [←HW0.out,←HB.out];exact(Below.refl _ _).alloc (Nat.le_refl _) _
    exact(h0.trans (HE.out.mono (by omega))).trans (hb9.mono (by omega))
def z38:Array Value:=#[.string ⟨#[]⟩,.int .i64 0]
theorem info38:(Tryz.prog.info? 38).map (fun i=>(i.zero,i.size,i.bytes))=some (some (.agg z38),2,24):=by kernel_rfl
set_option maxRecDepth 100000 in
theorem children_any (c:TnD→TnD→Int) (l:List TnD) (v:Value) (x:IdD) (w:World) (hl:l.length≤1000) (hv:tnY.Rd w v l) (hf:(below l x l.length).length≤2) (hc:CmpF 130 c (below l x l.length)):
  Calls Tryz.prog 44 #[v,.agg #[.string x.a,.int .i64 x.n]] w fun e w'=>∃v',e=.returned v'∧w'.ownsRow w.heap.size 38 2 v' (below l x l.length).length (idY.flat ((sort2 c (below l x l.length)).map (·.node)))∧Below w.heap.size w w':=by
 obtain⟨i0,hi,hz0,hz1,hz2⟩:=info_parts info38;have HS:=zz (siblings_any c l v x (w.alloc (.cells #[.string x.a,.int .i64 x.n] 38)) hl (hv.alloc _) hf hc);have hbel0:Below w.heap.size w (w.alloc (.cells #[.string x.a,.int .i64 x.n] 38)):=(Below.refl _ _).alloc (Nat.le_refl _) _;have hsz0:w.heap.size≤(w.alloc (.cells #[.string x.a,.int .i64 x.n] 38)).heap.size:=by simp
 obtain⟨a,n0,cc,rfl⟩:=hv.form;have hlen:(sort2 c (below l x l.length)).length=(below l x l.length).length:=sort2_len _ _;clear hv hc;generalize sort2 c (below l x l.length)=L at*
 generalize hn:(below l x l.length).length=n at*
 clear hn;go_enter Tryz.func44,Tryz.ntmps44
 go_wp2_with fail
 refine HS.out.mono ?_;rintro e w1 ⟨v1,rfl,ho1,hb1⟩;have hbel1:=hbel0.trans (hb1.mono hsz0);have hB1:w.heap.size≤w1.heap.size:=hbel1.size;obtain⟨a1,n1,c1,rfl⟩:=(Lay.Rd.of_owns (Y:=tnY) (by rw [←hlen]at ho1;exact ho1)).form
 have hn1:n1=n:=by
  have:=(Lay.Rd.of_owns (Y:=tnY) (by rw [←hlen]at ho1;exact ho1)).len;rw [this,hlen]
 subst hn1;have HR:=zz (show tnY.Rd w1 (.slice a1 n1 c1) L from Lay.Rd.of_owns (Y:=tnY) (by rw [hlen];exact ho1));clear HS hb1 ho1 hbel0 hsz0;generalize hB:w.heap.size=B at*
 have HB:=zz hB;clear hB;have HL:=zz hlen;clear hlen;go_wp2
 go_loopg [5,12] n1 (fun gn t5 t12 wr=>∃(k:Nat) (s:SlV),k+gn=n1∧t12=.int .i64 k∧t5=.slice s.a s.len s.cap∧wr.ownsRow w1.heap.size 38 2 s.v k (idY.flat ((L.take k).map (·.node)))∧Below w1.heap.size w1 wr)
 case atStart=>exact⟨0,SlV.nil,by omega,rfl,rfl,owns_nil0 _ _ _ _,Below.refl _ _⟩
 case round=>
  obtain⟨G,rfl⟩:∃G,G=gk:=⟨_,rfl⟩;obtain⟨k,s,hk,rfl,rfl,hown,hbel⟩:=hrel;have HK:=zz hk;clear hk;have hsz:w1.heap.size≤wr.heap.size:=hbel.size
  by_cases hlt:k < n1
  ·have hx:L[k]? =some (L[k]'(by rw [HL.out];exact hlt)):=List.getElem?_eq_getElem _;generalize L[k]'(by rw [HL.out];exact hlt)=t at hx;have HX:=zz hx
   obtain⟨b,off,rfl,hr⟩:∃b off,a1=some ⟨b,off,none⟩∧w1.rangeAt b off (tnY.flat L):=by
    rcases HR.out with⟨h1,h2⟩|⟨b,off,cap,h1,h2,h3⟩
    ·rw [h2]at hx;cases hx
    ·simp at h1;exact⟨b,off,h1.1,h3⟩
   have hrx:wr.rangeAt b (off+k*8) (tnV t):=rangeAt_below (tnY.elem hr k t hx) hbel;clear hr hx;have hltZ:(k:Int) < (n1:Int):=by omega
   unfold tnV at hrx;have HOW:=zz ((hown.alloc (.cells #[.string t.node.a,.int .i64 t.node.n,.string t.parent.a,.int .i64 t.parent.n,.bool t.neg,.string t.num,.string t.den,.string t.kind] 55)).alloc (.cells #[.string t.node.a,.int .i64 t.node.n] 38));have HBEL:=zz hbel;clear hown hbel
   go_wp2_with(first
    |refine wpList_load_mid rfl 55 _ rfl b (off+k*8) rfl _ _ hrx Tryz.underlying55 rfl (by kernel_rfl) ?_
    |(at_builtin;refine wpList_append_own_at _ rfl _ _ 41 rfl w1.heap.size 38 i0 (.agg z38) 2 24 Tryz.underlying41 hi hz0 hz1 hz2 rfl (by decide) s.v k (idY.flat ((L.take k).map (·.node))) rfl HOW.out ⟨wr.heap.size+1,0,none⟩ 1 1 (idV t.node) rfl rfl (news_of (zg _ _ _ (by simp))) (idY.one t.node) (by unfold maxLen;omega) (by omega) (by simp;omega) ?_;intro v1 w2 hown1 hg1 _ hloc1))
   have hb1:=HBEL.out.trans ((((Below.refl w1.heap.size wr).alloc hsz _).alloc (by simp;omega) _).grown hg1 (by simp;omega) (fun j hj=>(HOW.out.lt j hj).1))
   have hown3:w2.ownsRow w1.heap.size 38 2 v1 (k+1) (idY.flat ((L.take (k+1)).map (·.node))):=by
    rw [list_snoc L k t HX.out,List.map_append,idY.flat_append];have:idY.flat ([t].map (·.node))=idV t.node:=by simp [Lay.flat,idY]
    rw [this];exact hown1
   obtain⟨s1,hs1⟩:=ownsForm hown1;subst hs1;clear hown1 hg1 hloc1 hrx;go_wp2
   go_roundg (n1 - 1 - k)
   case rel=>exact⟨k+1,s1,by have:=HK.out;omega,by go_num,rfl,hown3,hb1⟩
   case measure=>have:=HK.out;omega
  ·obtain rfl:k=n1:=by have:=HK.out;omega
   have HD:=zz hown;have HE:=zz hbel;clear hown hbel;go_wp2;go_ret
   refine⟨_,rfl,?_,?_⟩
   ·have h1:=ownsRow_mono HD.out hB1;rw [←HL.out,List.take_length]at h1;rw [HB.out,←HL.out];exact h1
   ·rw [HB.out];exact hbel1.trans (HE.out.mono hB1)
end Go.Proofs.YteigcnamkfebgaaGreatDoor
namespace Go.Proofs.YteigcnamkfebgaaGreatDoor
open Go.RowKit
section
variable {P:Program} (w:World) {ops:Array Oper} {rest:List Oper} {o:Oper} {a:Act} {Q:Exit→Act→World→Prop}
theorem wpList_lookup_raw (hg:o.guard=none) (m x:Operand) (t:TypeId) (c:Bool) (hop:o.op=Op.lookup t m x c) (k e:TypeId) (ht:P.underlying t=some (.map k e)) (z:Value) (hz:∀w,(zeroValue e).run P w=.ok z w)
  (b:Nat) (es:Array MapEntry) (clock:Nat) (hm:a.eval m=.map (some b)) (hb:w.heap[b]? =some (.map es clock)) (key:Value) (hx:a.eval x=key)
  (hck:∀em w,(Instr.checkKey em 10000 k key).run P w=.ok () w) (r:Option (Nat×Value)) (hf:∀w,(Instr.findKey k key es.toList).run P w=.ok r w) (res:Value)
  (hres:res=if c then .tuple #[(r.map (·.2)).getD z,.bool r.isSome]else(r.map (·.2)).getD z) (hK:wpList P ops Q rest (a.put o.dst res) w):wpList P ops Q (o::rest) a w:=by
 refine wpList_plain hg fun K' hK'=>?_
 have hrun:(Instr.lookup t (.map (some b)) key c).run P w=.ok res w:=by
  cases r with
  |none=>simp [Instr.lookup,run_underlying ht,MapKept.run_getObj_map hb,hck,hf,hz,Result.andThen,hres]
  |some r=>simp [Instr.lookup,run_underlying ht,MapKept.run_getObj_map hb,hck,hf,Result.andThen,hres]
 unfold Oper.wp;simp [execOp,hop,hm,hx,hrun,Result.andThen];exact hK' _ _ hK
theorem wpList_update_raw (hg:o.guard=none) (m x v:Operand) (t:TypeId) (hop:o.op=Op.mapUpdate t m x v∨o.op=Op.insert t m x v) (k e:TypeId) (ht:P.underlying t=some (.map k e))
  (b:Nat) (es:Array MapEntry) (clock:Nat) (hm:a.eval m=.map (some b)) (hb:w.heap[b]? =some (.map es clock)) (key val:Value) (hx:a.eval x=key) (hv:a.eval v=val)
  (hck:∀em w,(Instr.checkKey em 10000 k key).run P w=.ok () w) (hf:∀w,(Instr.findKey k key es.toList).run P w=.ok none w)
  (hK:∀w',w'.heap[b]? =some (.map (es.push ⟨key,val,clock⟩) (clock+1))→w.grownBy w' (some b)→w'.heap.size=w.heap.size→wpList P ops Q rest (a.put o.dst undef) w'):wpList P ops Q (o::rest) a w:=by
 refine wpList_plain hg fun K' hK'=>?_
 have hrun:(Instr.mapUpdate t (.map (some b)) key val).run P w=.ok () (ChangeMaps.setBlock w b (.map (es.push ⟨key,val,clock⟩) (clock+1))):=by
  simp [Instr.mapUpdate,run_underlying ht,MapKept.run_getObj_map hb,hck,hf,MapKept.run_setObj_map _ hb,Result.andThen,ChangeMaps.setBlock]
 have hK2:=hK _ (ChangeMaps.heap_setBlock_same hb _) ⟨rfl,rfl,rfl,by simp [ChangeMaps.setBlock],fun i _ hi=>ChangeMaps.heap_setBlock_other hb _ (fun e=>hi (by rw [e]))⟩ (by simp [ChangeMaps.setBlock]);unfold Oper.wp
 rcases hop with hop|hop
 ·simp [execOp,hop,hm,hx,hv,hrun,Result.andThen];exact hK' _ _ hK2
 ·simp [execOp,hop,hm,hx,hv,hrun,Result.andThen];exact hK' _ _ hK2
end
def idA (x:IdD):Value:=.agg #[.string x.a,.int .i64 x.n]
theorem ck38 (a:ByteArray) (n:Int) (em:Bool) (w:World):(Instr.checkKey em 10000 38 (.agg #[.string a,.int .i64 n])).run Tryz.prog w=.ok () w:=by cases em <;>kernel_rfl
theorem miss0 (a:ByteArray) (n:Int) (w:World):(Instr.findKey 38 (.agg #[.string a,.int .i64 n]) []).run Tryz.prog w=.ok none w:=by kernel_rfl
theorem miss1 (w:World):(Instr.findKey 38 (.agg #[.string ⟨#[97,110,110]⟩,.int .i64 1]) [⟨.agg #[.string ⟨#[]⟩,.int .i64 0],.bool true,0⟩]).run Tryz.prog w=.ok none w:=by kernel_rfl
theorem miss2 (w:World):(Instr.findKey 38 (.agg #[.string ⟨#[97,110,110]⟩,.int .i64 4]) [⟨.agg #[.string ⟨#[]⟩,.int .i64 0],.bool true,0⟩,⟨.agg #[.string ⟨#[97,110,110]⟩,.int .i64 1],.bool true,1⟩]).run Tryz.prog w=.ok none w:=by kernel_rfl
set_option maxRecDepth 100000 in
theorem visitLeaf (l:List TnD) (v:Value) (x:IdD) (w00 w:World) (hv:tnY.Rd w00 v l) (hl:l.length≤1000) (hx:below l x l.length= []) (hb:w.heap[w00.heap.size]? =some (.cells #[v] 25 (0,0))) (hbel:Below w00.heap.size w00 w) (p1 p2 p3:Value):
  Calls Tryz.prog 43 #[.agg #[.string x.a,.int .i64 x.n],.pointer (some ⟨w00.heap.size,0,none⟩),p1,p2,p3] w fun e w'=>e=.returned (.tuple #[])∧Below w.heap.size w w':=by
 have hbA:Below w.heap.size w (w.alloc (.cells #[.string x.a,.int .i64 x.n] 38)):=(Below.refl _ _).alloc (Nat.le_refl _) _;have HC:=zz (children_any (fun _ _=>0) l v x (w.alloc (.cells #[.string x.a,.int .i64 x.n] 38)) hl ((hv.below hbel).alloc _) (by rw [hx];simp) (by intro a b h;rw [hx]at h;cases h));obtain⟨a,n,cc,rfl⟩:=hv.form;have HX:=zz hx;have c0:w.cell? ⟨w00.heap.size,0,none⟩=some (.slice a n cc):=zc _ _ 0 _ _ _ hb;have l0:=zl hb;clear hv hx hb hbel;generalize w00.heap.size=B at*
 go_enter Tryz.func43,Tryz.ntmps43
 go_wp2_with fail
 refine HC.out.mono ?_;rintro e w1 ⟨v1,rfl,ho1,hb1⟩;rw [HX.out]at ho1;have hb2:=hbA.trans (hb1.mono (by simp));clear HC hbA hb1;obtain⟨s1,hs1⟩:=ownsForm ho1;subst hs1
 have hz:s1.len=0:=by
  rcases ho1.2 with⟨h,_⟩|⟨g,cap,_,h,_⟩
  ·simp at h;exact h.2.1
  ·simp at h;exact h.2.1
 obtain⟨sa,sl,sc⟩:=s1;simp only at hz;subst hz;clear ho1;go_wp2;refine wp_loop_rounds 1 ?_;rw [rounds_succ];go_wp2;go_end0
 exact⟨rfl,hb2⟩
end Go.Proofs.YteigcnamkfebgaaGreatDoor
