import Derived.Test.YteigcnamkfebgaaGreatDoorFI
import Derived.Test.YteigcnamkfebgaaGreatDoorEM
import Derived.Test.YteigcnamkfebgaaGreatDoorCP
import Derived.WideKeyRuns
set_option linter.all false
set_option maxHeartbeats 25600000
namespace Go.Proofs.YteigcnamkfebgaaGreatDoor
open Go.RowKit
def sibL (l:List TnD) (x:IdD):List TnD:=stabR sibC (below l x l.length).length (below l x l.length)
theorem below_mem {l:List TnD} {x:IdD} {k:Nat}:∀t∈below l x k,t∈l:=fun t ht=>List.mem_of_mem_take (List.mem_filter.1 ht).1
theorem sibL_mem (l:List TnD) (x:IdD) (hl:l.length≤40):∀t∈sibL l x,t∈below l x l.length:=(stabR_mem sibC (below l x l.length) (Nat.le_trans (below_le l x l.length) hl)).1
theorem sibL_len (l:List TnD) (x:IdD) (hl:l.length≤40):(sibL l x).length=(below l x l.length).length:=(stabR_mem sibC (below l x l.length) (Nat.le_trans (below_le l x l.length) hl)).2
theorem sibCmpP:CmpP 130 sibC TnSm:=fun x y hx hy W=>sibCmp_any x y hx hy W
theorem stabR_nil (c:TnD→TnD→Int):stabR c 0 []= []:=by
 unfold stabR insR;rfl
set_option maxRecDepth 100000 in
theorem sortSib (l:List TnD) (x:IdD) (k:Nat) (hk:k=l.length) (hl:k≤40) (hs:∀t∈l,TnSm t) (s:SlV) (B:Nat) (wr:World) (hown:wr.ownsRow B 55 8 s.v (below l x k).length (tnY.flat (below l x k))) (hB:B≤wr.heap.size):
  Calls Tryz.prog 129 #[.slice s.a s.len s.cap,.func (.func 130) #[] #[]] wr fun e w'=>e=.returned (.tuple #[])∧w'.ownsRow B 55 8 s.v (below l x k).length (tnY.flat (sibL l x))∧Below B wr w':=by
 subst hk;have hle:=below_le l x l.length
 rcases hown.2 with⟨h1,h2⟩|⟨g,cap,cur,h1,_⟩
 ·have hnil:below l x l.length= []:=List.eq_nil_of_length_eq_zero h2;have hS:sibL l x= []:=by unfold sibL;rw [hnil];exact stabR_nil _
  rw [hS,hnil];have ho:wr.ownsRow B 55 8 s.v ([]:List TnD).length (tnY.flat []):=by rw [hnil]at hown;exact hown
  exact sortStable_any 130 (fun _ _=>0) [] (by simp) s.v B wr ho hB (fun a W=>by rfl) (fun a b h=>by cases h)
 ·have h2:(.slice s.a s.len s.cap:Value)=.slice (some ⟨g,0,none⟩) (below l x l.length).length cap:=h1;have hown2:=hown;rw [show s.v=.slice (some ⟨g,0,none⟩) (below l x l.length).length cap from h1]at hown2⊢;rw [h2];exact sortS_any 130 sibC TnSm sibCmpP (fun a W=>by rfl) (below l x l.length).length cap g B (below l x l.length) wr rfl (by omega) (fun t ht=>hs t (below_mem t ht)) hown2 hB
set_option maxRecDepth 100000 in
theorem siblingsN_any (l:List TnD) (v:Value) (x:IdD) (w:World) (hl:l.length≤40) (hv:tnY.Rd w v l) (hs:∀t∈l,TnSm t):
  Calls Tryz.prog 81 #[v,.agg #[.string x.a,.int .i64 x.n]] w fun e w'=>∃v',e=.returned v'∧w'.ownsRow w.heap.size 55 8 v' (below l x l.length).length (tnY.flat (sibL l x))∧Below w.heap.size w w':=by
 obtain⟨i0,hi,hz0,hz1,hz2⟩:=info_parts info55;obtain⟨a,n,cc,rfl⟩:=hv.form;have hn:=hv.len;subst hn;have HV:=zz hv;have HC:=zz hs;have hbx:(w.alloc (.cells #[.string x.a,.int .i64 x.n] 38)).heap[w.heap.size]? =_:=zg _ _ _ rfl;have HX0:=zz hbx;have hsz0:(w.alloc (.cells #[.string x.a,.int .i64 x.n] 38)).heap.size=w.heap.size+1:=by simp
 have HS:=zz hsz0;clear hv hs hbx hsz0;have hl40:l.length≤40:=hl;generalize hn:l.length=n at*
 have HN:=zz hn;clear hn;go_enter Tryz.func81,Tryz.ntmps81
 go_wp2;generalize hW0:w.alloc (.cells #[.string x.a,.int .i64 x.n] 38)=W0 at*
 have HW0:=zz hW0;clear hW0;generalize hB:w.heap.size=B at*
 have HB:=zz hB;clear hB
 go_loopg [5,10] n (fun gn t5 t10 wr=>∃(k:Nat) (s:SlV),k+gn=n∧t10=.int .i64 k∧t5=.slice s.a s.len s.cap∧wr.ownsRow (B+1) 55 8 s.v (below l x k).length (tnY.flat (below l x k))∧Below (B+1) W0 wr)
 case atStart=>exact⟨0,SlV.nil,by omega,rfl,rfl,owns_nil0 _ _ _ _,Below.refl _ _⟩
 case round=>
  obtain⟨G,rfl⟩:∃G,G=gk:=⟨_,rfl⟩;obtain⟨k,s,hk,rfl,rfl,hown,hbel⟩:=hrel;have HK:=zz hk;have hsz:B+1≤wr.heap.size:=by have:=hbel.size;rw [HS.out]at this;exact this
  clear hk
  by_cases hlt:k < n
  ·have hx:l[k]? =some (l[k]'(by rw [HN.out];exact hlt)):=List.getElem?_eq_getElem _;generalize l[k]'(by rw [HN.out];exact hlt)=t at hx;have HX:=zz hx
   obtain⟨b,off,rfl,hr⟩:∃b off,a=some ⟨b,off,none⟩∧w.rangeAt b off (tnY.flat l):=by
    rcases HV.out with⟨h1,h2⟩|⟨b,off,cap,h1,h2,h3⟩
    ·rw [h2]at hx;cases hx
    ·simp at h1;exact⟨b,off,h1.1,h3⟩
   have hr0:=tnY.elem hr k t hx
   have hrx:wr.rangeAt b (off+k*8) (tnV t):=by
    have h1:W0.rangeAt b (off+k*8) (tnV t):=by rw [←HW0.out];exact World.rangeAt_alloc hr0 _
    intro j u hj;have h2:=h1 j u hj;have h3:b < B:=by have:=World.block_lt_of_cell? _ _ (hr0 j u hj);rw [HB.out]at this;exact this
    exact(hbel.cell (p:=⟨b,off+k*8+j,none⟩) (by show b < B+1;omega)).trans h2
   clear hr hr0;have hbx:=(hbel.block B (by omega)).trans HX0.out;obtain⟨q0,q1⟩:=two_cells hbx;have lB:B < wr.heap.size:=by omega
   have hltZ:(k:Int) < (n:Int):=by omega
   unfold tnV at hrx;clear hx hbx;have ht:=zg wr (.cells #[.string t.node.a,.int .i64 t.node.n,.string t.parent.a,.int .i64 t.parent.n,.bool t.neg,.string t.num,.string t.den,.string t.kind] 55) wr.heap.size rfl;have hgo:∀W,Below wr.heap.size wr W→Below (B+1) W0 W:=fun W h=>hbel.trans (h.mono hsz)
   have HGO:=zz hgo;have HO:=zz hown;have HBEL:=zz hbel;clear hgo hown hbel
   cases hs:eqS t.parent.a x.a with
   |false=>
    have hs':(t.parent.a.toList==x.a.toList)=false:=hs;have HQ:=zz (below_no HX.out (show eqId t.parent x=false by unfold eqId;rw [hs];rfl));clear hs
    go_wp2_with(first
     |refine wpList_load_mid rfl 55 _ rfl b (off+k*8) rfl _ _ hrx Tryz.underlying55 rfl (by kernel_rfl) ?_)
    go_roundg (n - 1 - k)
    case rel=>exact⟨k+1,s,by have:=HK.out;omega,by go_num,rfl,by rw [HQ.out];exact HO.out.alloc _,HGO.out _ ((Below.refl _ _).alloc (Nat.le_refl _) _)⟩
    case measure=>have:=HK.out;omega
   |true=>
    have hs':(t.parent.a.toList==x.a.toList)=true:=hs
    cases hnn:(t.parent.n==x.n)with
    |false=>
     have HQ:=zz (below_no HX.out (show eqId t.parent x=false by unfold eqId;rw [hs,hnn];rfl));clear hs
     go_wp2_with(first
      |refine wpList_load_mid rfl 55 _ rfl b (off+k*8) rfl _ _ hrx Tryz.underlying55 rfl (by kernel_rfl) ?_)
     go_roundg (n - 1 - k)
     case rel=>exact⟨k+1,s,by have:=HK.out;omega,by go_num,rfl,by rw [HQ.out];exact HO.out.alloc _,HGO.out _ ((Below.refl _ _).alloc (Nat.le_refl _) _)⟩
     case measure=>have:=HK.out;omega
    |true=>
     have HQ:=zz (below_yes HX.out (show eqId t.parent x=true by unfold eqId;rw [hs,hnn];rfl));have hkl:=below_le l x k;clear hs;have hown2:=(HO.out.alloc (.cells #[.string t.node.a,.int .i64 t.node.n,.string t.parent.a,.int .i64 t.parent.n,.bool t.neg,.string t.num,.string t.den,.string t.kind] 55)).alloc (.cells #[.string t.node.a,.int .i64 t.node.n,.string t.parent.a,.int .i64 t.parent.n,.bool t.neg,.string t.num,.string t.den,.string t.kind] 55);have HOW:=zz hown2;clear hown2
     go_wp2_with(first
      |refine wpList_load_mid rfl 55 _ rfl b (off+k*8) rfl _ _ hrx Tryz.underlying55 rfl (by kernel_rfl) ?_
      |refine wpList_load_row rfl 55 _ rfl wr.heap.size rfl 55 _ (0,0) _ ht Tryz.underlying55 rfl (by kernel_rfl) ?_
      |(at_builtin;refine wpList_append_own_at _ rfl _ _ 25 rfl (B+1) 55 i0 (.agg z55) 8 104 Tryz.underlying25 hi hz0 hz1 hz2 rfl (by decide) s.v (below l x k).length (tnY.flat (below l x k)) rfl HOW.out ⟨wr.heap.size+1,0,none⟩ 1 1 (tnV t) rfl rfl (news_of (zg _ _ _ (by simp))) (tnY.one t) (by unfold maxLen;omega) (by omega) (by simp;omega) ?_;intro v1 w1 hown1 hg1 _ hloc1))
     have hb1:=HBEL.out.trans ((((Below.refl (B+1) wr).alloc hsz _).alloc (by simp;omega) _).grown hg1 (by simp;omega) (fun j hj=>(HOW.out.lt j hj).1));have hown3:=owns_snoc (Y:=tnY) hown1;obtain⟨s1,hs1⟩:=ownsForm hown1;subst hs1;clear hown1 hg1 hloc1 ht hrx;go_wp2
     go_roundg (n - 1 - k)
     case rel=>exact⟨k+1,s1,by have:=HK.out;omega,by go_num,rfl,by rw [HQ.out];exact hown3,hb1⟩
     case measure=>have:=HK.out;omega
  ·obtain rfl:k=n:=by have:=HK.out;omega
   have HD:=zz hown;have HE:=zz hbel;clear hown hbel;have HSO:=zz (sortSib l x k (by rw [HN.out]) hl HC.out s (B+1) wr HD.out hsz)
   go_wp2_with fail
   refine HSO.out.mono ?_;rintro e w9 ⟨rfl,ho9,hb9⟩;go_wp2;go_ret
   refine⟨_,rfl,?_,?_⟩
   ·exact ownsRow_mono ho9 (by rw [HB.out];omega)
   ·rw [HB.out];have h0:Below B w W0:=by rw [←HW0.out,←HB.out];exact(Below.refl _ _).alloc (Nat.le_refl _) _
    exact(h0.trans (HE.out.mono (by omega))).trans (hb9.mono (by omega))
set_option maxRecDepth 100000 in
theorem childrenN_any (l:List TnD) (v:Value) (x:IdD) (w:World) (hl:l.length≤40) (hv:tnY.Rd w v l) (hs:∀t∈l,TnSm t):
  Calls Tryz.prog 44 #[v,.agg #[.string x.a,.int .i64 x.n]] w fun e w'=>∃v',e=.returned v'∧w'.ownsRow w.heap.size 38 2 v' (below l x l.length).length (idY.flat ((sibL l x).map (·.node)))∧Below w.heap.size w w':=by
 obtain⟨i0,hi,hz0,hz1,hz2⟩:=info_parts info38;have HS:=zz (siblingsN_any l v x (w.alloc (.cells #[.string x.a,.int .i64 x.n] 38)) hl (hv.alloc _) hs);have hbel0:Below w.heap.size w (w.alloc (.cells #[.string x.a,.int .i64 x.n] 38)):=(Below.refl _ _).alloc (Nat.le_refl _) _;have hsz0:w.heap.size≤(w.alloc (.cells #[.string x.a,.int .i64 x.n] 38)).heap.size:=by simp
 obtain⟨a,n0,cc,rfl⟩:=hv.form;have hlen:(sibL l x).length=(below l x l.length).length:=sibL_len l x hl;have hbl:=below_le l x l.length;clear hv hs;generalize sibL l x=L at*
 generalize hn:(below l x l.length).length=n at*
 clear hn;go_enter Tryz.func44,Tryz.ntmps44
 go_wp2_with fail
 refine HS.out.mono ?_;rintro e w1 ⟨v1,rfl,ho1,hb1⟩;have hbel1:=hbel0.trans (hb1.mono hsz0);have hB1:w.heap.size≤w1.heap.size:=hbel1.size;obtain⟨a1,n1,c1,rfl⟩:=(Lay.Rd.of_owns (Y:=tnY) (by rw [←hlen]at ho1;exact ho1)).form
 have hn1:n1=n:=by
  have:=(Lay.Rd.of_owns (Y:=tnY) (by rw [←hlen]at ho1;exact ho1)).len;rw [this,hlen]
 subst hn1;have HR:=zz (show tnY.Rd w1 (.slice a1 n1 c1) L from Lay.Rd.of_owns (Y:=tnY) (by rw [hlen];exact ho1));clear HS hb1 ho1 hbel0 hsz0;generalize hB:w.heap.size=B at*
 have HB:=zz hB;clear hB;have HL:=zz hlen;clear hlen;go_wp2
 go_loopg [5,12] n1 (fun gn t5 t12 wr=>∃(k:Nat) (s:SlV),k+gn=n1∧t12=.int .i64 k∧t5=.slice s.a s.len s.cap∧wr.ownsRow w1.heap.size 38 2 s.v k (idY.flat ((L.take k).map (·.node)))∧Below w1.heap.size w1 wr)
 case atStart=>exact⟨0,SlV.nil,by omega,rfl,rfl,owns_nil0 _ _ _ _,Below.refl _ _⟩
 case round=>
  obtain⟨G,rfl⟩:∃G,G=gk:=⟨_,rfl⟩;obtain⟨k,s,hk,rfl,rfl,hown,hbel⟩:=hrel;have HK:=zz hk;clear hk;have hsz:w1.heap.size≤wr.heap.size:=hbel.size
  by_cases hlt:k < n1
  ·have hx:L[k]? =some (L[k]'(by rw [HL.out];exact hlt)):=List.getElem?_eq_getElem _;generalize L[k]'(by rw [HL.out];exact hlt)=t at hx;have HX:=zz hx
   obtain⟨b,off,rfl,hr⟩:∃b off,a1=some ⟨b,off,none⟩∧w1.rangeAt b off (tnY.flat L):=by
    rcases HR.out with⟨h1,h2⟩|⟨b,off,cap,h1,h2,h3⟩
    ·rw [h2]at hx;cases hx
    ·simp at h1;exact⟨b,off,h1.1,h3⟩
   have hrx:wr.rangeAt b (off+k*8) (tnV t):=rangeAt_below (tnY.elem hr k t hx) hbel;clear hr hx;have hltZ:(k:Int) < (n1:Int):=by omega
   unfold tnV at hrx;have HOW:=zz ((hown.alloc (.cells #[.string t.node.a,.int .i64 t.node.n,.string t.parent.a,.int .i64 t.parent.n,.bool t.neg,.string t.num,.string t.den,.string t.kind] 55)).alloc (.cells #[.string t.node.a,.int .i64 t.node.n] 38));have HBEL:=zz hbel;clear hown hbel
   go_wp2_with(first
    |refine wpList_load_mid rfl 55 _ rfl b (off+k*8) rfl _ _ hrx Tryz.underlying55 rfl (by kernel_rfl) ?_
    |(at_builtin;refine wpList_append_own_at _ rfl _ _ 41 rfl w1.heap.size 38 i0 (.agg z38) 2 24 Tryz.underlying41 hi hz0 hz1 hz2 rfl (by decide) s.v k (idY.flat ((L.take k).map (·.node))) rfl HOW.out ⟨wr.heap.size+1,0,none⟩ 1 1 (idV t.node) rfl rfl (news_of (zg _ _ _ (by simp))) (idY.one t.node) (by unfold maxLen;omega) (by omega) (by simp;omega) ?_;intro v1 w2 hown1 hg1 _ hloc1))
   have hb1:=HBEL.out.trans ((((Below.refl w1.heap.size wr).alloc hsz _).alloc (by simp;omega) _).grown hg1 (by simp;omega) (fun j hj=>(HOW.out.lt j hj).1))
   have hown3:w2.ownsRow w1.heap.size 38 2 v1 (k+1) (idY.flat ((L.take (k+1)).map (·.node))):=by
    rw [list_snoc L k t HX.out,List.map_append,idY.flat_append];have:idY.flat ([t].map (·.node))=idV t.node:=by simp [Lay.flat,idY]
    rw [this];exact hown1
   obtain⟨s1,hs1⟩:=ownsForm hown1;subst hs1;clear hown1 hg1 hloc1 hrx;go_wp2
   go_roundg (n1 - 1 - k)
   case rel=>exact⟨k+1,s1,by have:=HK.out;omega,by go_num,rfl,hown3,hb1⟩
   case measure=>have:=HK.out;omega
  ·obtain rfl:k=n1:=by have:=HK.out;omega
   have HD:=zz hown;have HE:=zz hbel;clear hown hbel;go_wp2;go_ret
   refine⟨_,rfl,?_,?_⟩
   ·have h1:=ownsRow_mono HD.out hB1;rw [←HL.out,List.take_length]at h1;rw [HB.out,←HL.out];exact h1
   ·rw [HB.out];exact hbel1.trans (HE.out.mono hB1)
theorem eq38 (w:World) (x y:IdD):(Op.equal 38 (idA x) (idA y)).run Tryz.prog w=.ok (eqId x y) w:=by
 have h:=eql38 w x.a y.a x.n y.n;rw [run_eql_struct]at h;have e:(Op.equal 38 (idA x) (idA y)).run Tryz.prog w=(Op.equalIn 10000 38 (idA x) (idA y)).run Tryz.prog w:=by simp [Op.equal,Op.maxDepth]
 rw [e];cases hq:(Op.equalIn 10000 38 (idA x) (idA y)).run Tryz.prog w <;>simp [idA,Result.andThen]at hq h⊢ <;>simp_all [same38,eqId,eqS]
theorem bytes_inj {a b:ByteArray} (h:a.toList=b.toList):a=b:=by
 rw [ByteArray.toList_eq,ByteArray.toList_eq]at h;obtain⟨x⟩:=a;obtain⟨y⟩:=b;have h2:x=y:=Array.toList_inj.1 h;rw [h2]
theorem eqId_iff (x y:IdD):eqId x y=true↔x=y:=by
 unfold eqId eqS
 constructor
 ·intro h;simp only [Bool.and_eq_true,beq_iff_eq]at h;obtain⟨a,n⟩:=x;obtain⟨b,m⟩:=y;simp only at h;rw [h.2,bytes_inj h.1]
 ·rintro rfl;simp
def metF:List IdD→Nat→List MapEntry
 | [],_=> []
 |y::O,i=>⟨idA y,.bool true,i⟩::metF O (i+1)
theorem metF_snoc (y:IdD):∀(O:List IdD) (i:Nat),metF (O++ [y]) i=metF O i++ [⟨idA y,.bool true,i+O.length⟩]
 | [],i=>by simp [metF]
 |x::r,i=>by simp [metF,metF_snoc y r (i+1),Nat.add_assoc,Nat.add_comm 1]
theorem find_no (x:IdD) (w:World):∀(O:List IdD) (i j:Nat),(∀y∈O,y≠x)→(Instr.findAsking 38 (idA x) (metF O i) j).run Tryz.prog w=.ok none w
 | [],_,_,_=>by simp [metF,Instr.findAsking]
 |y::O,i,j,h=>by
  have h1:eqId x y=false:=by
   cases he:eqId x y with
   |false=>rfl
   |true=>exact absurd ((eqId_iff x y).1 he).symm (h y List.mem_cons_self)
  have ih:=find_no x w O (i+1) (j+1) (fun z hz=>h z (List.mem_cons_of_mem _ hz));simp [metF,Instr.findAsking,eq38,h1,ih,Result.andThen]
theorem find_yes (x:IdD) (w:World):∀(O:List IdD) (i j:Nat),x∈O→∃k,∀w,(Instr.findAsking 38 (idA x) (metF O i) j).run Tryz.prog w=.ok (some (k,.bool true)) w
 | [],_,_,h=>by simp at h
 |y::O,i,j,h=>by
  cases he:eqId x y with
  |true=>exact⟨j,fun w=>by simp [metF,Instr.findAsking,eq38,he,Result.andThen]⟩
  |false=>
   have hx:x∈O:=by
    rcases List.mem_cons.1 h with h1|h1
    ·rw [(eqId_iff x y).2 h1]at he;cases he
    ·exact h1
   obtain⟨k,hk⟩:=find_yes x w O (i+1) (j+1) hx;exact⟨k,fun w=>by simp [metF,Instr.findAsking,eq38,he,hk,Result.andThen]⟩
theorem wide38:(match Tryz.prog.underlying 38 with|some (.array _ _)|some (.struct _)=>true|_=>false)=true:=by kernel_rfl
def metT (O:List IdD):Array MapEntry:=(metF (rootI::O) 0).toArray
theorem metT_snoc (O:List IdD) (y:IdD):metT (O++ [y])=(metT O).push ⟨idA y,.bool true,O.length+1⟩:=by
 unfold metT;rw [show rootI::(O++ [y])=(rootI::O)++ [y]from rfl,metF_snoc];simp
set_option maxRecDepth 100000 in
theorem findKey38 (x:IdD) (es:List MapEntry) (w:World):(Instr.findKey 38 (idA x) es).run Tryz.prog w=(Instr.findAsking 38 (idA x) es).run Tryz.prog w:=run_findKey_eq (P:=Tryz.prog) (k:=38) w wide38 (idA x) es
theorem met_no {O:List IdD} {x:IdD} (h:x≠rootI) (h2:x∉O) (w:World):(Instr.findKey 38 (.agg #[.string x.a,.int .i64 x.n]) (metT O).toList).run Tryz.prog w=.ok none w:=by
 refine(findKey38 x (metF (rootI::O) 0) w).trans (find_no x w (rootI::O) 0 0 ?_);intro y hy e;subst e
 rcases List.mem_cons.1 hy with h3|h3
 ·exact h h3
 ·exact h2 h3
theorem met_yes {O:List IdD} {x:IdD} (h:x=rootI∨x∈O):∃k,∀w,(Instr.findKey 38 (.agg #[.string x.a,.int .i64 x.n]) (metT O).toList).run Tryz.prog w=.ok (some (k,.bool true)) w:=by
 obtain⟨k,hk⟩:=find_yes x default (rootI::O) 0 0 (List.mem_cons.2 h);exact⟨k,fun w=>(findKey38 x (metF (rootI::O) 0) w).trans (hk w)⟩
open Classical in
noncomputable def visitK (go:List IdD→IdD→List IdD):List IdD→List IdD→List IdD
 | [],O=>O
 |y::r,O=>visitK go r (if y=rootI∨y∈O then O else go (O++ [y]) y)
noncomputable def visitF (l:List TnD):Nat→List IdD→IdD→List IdD
 |0,O,_=>O
 |f+1,O,x=>visitK (visitF l f) ((sibL l x).map (·.node)) O
structure OInv (l:List TnD) (O:List IdD):Prop where
 sub:∀x∈O,∃t∈l,t.node=x
 nd:O.Nodup
 root:rootI∉O
theorem OInv.nil (l:List TnD):OInv l []:=⟨fun x hx=>by simp at hx,List.nodup_nil,by simp⟩
theorem OInv.snoc {l:List TnD} {O:List IdD} {y:IdD} (h:OInv l O) (hy:∃t∈l,t.node=y) (h1:y≠rootI) (h2:y∉O):OInv l (O++ [y]):=by
 refine⟨fun x hx=>?_,?_,?_⟩
 ·rcases List.mem_append.1 hx with h3|h3
  ·exact h.sub x h3
  ·rw [List.mem_singleton]at h3;rw [h3];exact hy
 ·rw [List.nodup_append];refine⟨h.nd,by simp,fun a ha b hb e=>?_⟩;rw [List.mem_singleton]at hb;rw [e,hb]at ha;exact h2 ha
 ·intro h3
  rcases List.mem_append.1 h3 with h4|h4
  ·exact h.root h4
  ·rw [List.mem_singleton]at h4;exact h1 h4.symm
open Classical in
theorem nodup_le:∀(O L:List IdD),O.Nodup→(∀x∈O,x∈L)→O.length≤L.length
 | [],_,_,_=>Nat.zero_le _
 |x::r,L,hn,hs=>by
  have hx:=hs x List.mem_cons_self;have h1:=List.nodup_cons.1 hn
  have ih:=nodup_le r (L.erase x) h1.2 (fun z hz=>by
   have hz2:=hs z (List.mem_cons_of_mem _ hz);refine(List.mem_erase_of_ne ?_).2 hz2
   intro e;rw [e]at hz;exact h1.1 hz)
  rw [List.length_erase_of_mem hx]at ih;have:0 < L.length:=List.length_pos_of_mem hx;simp only [List.length_cons];omega
theorem OInv.len {l:List TnD} {O:List IdD} (h:OInv l O):O.length≤l.length:=by
 have:=nodup_le O (l.map (·.node)) h.nd (fun x hx=>by
  obtain⟨t,ht,he⟩:=h.sub x hx
  rw [←he];exact List.mem_map_of_mem ht)
 simpa using this
theorem kid_node {l:List TnD} {x y:IdD} (hl:l.length≤40) (hy:y∈(sibL l x).map (·.node)):∃t∈l,t.node=y:=by
 obtain⟨t,ht,he⟩:=List.mem_map.1 hy;exact⟨t,below_mem t (sibL_mem l x hl t ht),he⟩
theorem visitK_inv {l:List TnD} (go:List IdD→IdD→List IdD) (hgo:∀O y,OInv l O→OInv l (go O y)∧O.length≤(go O y).length):∀(K O:List IdD),(∀y∈K,∃t∈l,t.node=y)→OInv l O→OInv l (visitK go K O)∧O.length≤(visitK go K O).length
 | [],O,_,h=>⟨h,Nat.le_refl _⟩
 |y::r,O,hK,h=>by
  unfold visitK
  by_cases hm:y=rootI∨y∈O
  ·rw [if_pos hm];exact visitK_inv go hgo r O (fun z hz=>hK z (List.mem_cons_of_mem _ hz)) h
  ·rw [if_neg hm];have h1:=hgo (O++ [y]) y (h.snoc (hK y List.mem_cons_self) (fun e=>hm (.inl e)) (fun e=>hm (.inr e)));have h2:=visitK_inv go hgo r (go (O++ [y]) y) (fun z hz=>hK z (List.mem_cons_of_mem _ hz)) h1.1;refine⟨h2.1,?_⟩;have:=h1.2;simp at this;omega
theorem visitF_inv {l:List TnD} (hl:l.length≤40):∀(f:Nat) (O:List IdD) (x:IdD),OInv l O→OInv l (visitF l f O x)∧O.length≤(visitF l f O x).length
 |0,O,_,h=>⟨h,Nat.le_refl _⟩
 |f+1,O,x,h=>by
  unfold visitF;exact visitK_inv (visitF l f) (fun O y ho=>visitF_inv hl f O y ho) _ O (fun y hy=>kid_node hl hy) h
theorem visitK_drop {go:List IdD→IdD→List IdD} {K:List IdD} {k:Nat} {y:IdD} (h:K[k]? =some y) (O:List IdD):
  (¬(y=rootI∨y∈O)→visitK go (K.drop k) O=visitK go (K.drop (k+1)) (go (O++ [y]) y))∧((y=rootI∨y∈O)→visitK go (K.drop k) O=visitK go (K.drop (k+1)) O):=by
 have h1:=(List.getElem?_eq_some_iff.1 h);have e:K.drop k=y::K.drop (k+1):=by rw [List.drop_eq_getElem_cons h1.1,h1.2]
 constructor
 ·intro hm;rw [e];conv=>lhs;unfold visitK
  rw [if_neg hm]
 ·intro hm;rw [e];conv=>lhs;unfold visitK
  rw [if_pos hm]
structure StV (v:Value) (w00:World) (B:Nat) (w:World) (O:List IdD) (s:SlV):Prop where
 bel:Below B w00 w
 h0:w.heap[B]? =some (.cells #[v] 25 (0,0))
 h1:w.heap[B+1]? =some (.cells #[.slice s.a s.len s.cap] 41 (0,0))
 h2:w.heap[B+2]? =some (.map (metT O) (O.length+1))
 h3:w.heap[B+3]? =some (.cells #[.map (some (B+2))] 95 (0,0))
 h4:w.heap[B+4]? =some (.cells #[.func (.func 43) #[] #[.pointer (some ⟨B,0,none⟩),.pointer (some ⟨B+3,0,none⟩),.pointer (some ⟨B+1,0,none⟩),.pointer (some ⟨B+4,0,none⟩)]] 96 (0,0))
 own:w.ownsRow (B+5) 38 2 s.v O.length (idY.flat O)
theorem StV.below {v:Value} {w00:World} {B:Nat} {w w':World} {O:List IdD} {s:SlV} (h:StV v w00 B w O s) (hb:Below w.heap.size w w'):StV v w00 B w' O s:=
 ⟨h.bel.trans (hb.mono (by have:=zl h.h4;omega)),(hb.block _ (zl h.h0)).trans h.h0,(hb.block _ (zl h.h1)).trans h.h1,(hb.block _ (zl h.h2)).trans h.h2,(hb.block _ (zl h.h3)).trans h.h3,(hb.block _ (zl h.h4)).trans h.h4,ownsRow_below h.own hb⟩
def KeptV (B:Nat) (w w':World) (s s':SlV):Prop:=
 w.heap.size≤w'.heap.size∧(∀i,i < w.heap.size→i≠B+1→i≠B+2→(∀j,s.v.ownBlock=some j→i≠j)→w'.heap[i]? =w.heap[i]?)∧(∀j,s'.v.ownBlock=some j→s.v.ownBlock=some j∨w.heap.size≤j)
theorem KeptV.refl (B:Nat) (w:World) (s:SlV):KeptV B w w s s:=⟨Nat.le_refl _,fun _ _ _ _ _=>rfl,fun _ h=>.inl h⟩
theorem KeptV.trans {B:Nat} {w w' w'':World} {s s' s'':SlV} (h:KeptV B w w' s s') (h':KeptV B w' w'' s' s''):KeptV B w w'' s s'':=by
 refine⟨Nat.le_trans h.1 h'.1,fun i hi h1 h2 h3=>(h'.2.1 i (Nat.lt_of_lt_of_le hi h.1) h1 h2 (fun j hj=>?_)).trans (h.2.1 i hi h1 h2 h3),fun j hj=>?_⟩
 ·rcases h.2.2 j hj with h4|h4
  ·exact h3 j h4
  ·omega
 ·rcases h'.2.2 j hj with h4|h4
  ·exact h.2.2 j h4
  ·exact .inr (Nat.le_trans h.1 h4)
theorem KeptV.of_below {B:Nat} {w w':World} (s:SlV) (hb:Below w.heap.size w w'):KeptV B w w' s s:=⟨hb.size,fun i hi _ _ _=>hb.block i hi,fun _ h=>.inl h⟩
def VisitOk (l:List TnD) (v:Value) (w00:World) (B:Nat) (f:Nat):Prop:=
 ∀(O:List IdD) (x:IdD) (w:World) (s:SlV),OInv l O→l.length < f+O.length→StV v w00 B w O s→
  Calls Tryz.prog 43 #[.agg #[.string x.a,.int .i64 x.n],.pointer (some ⟨B,0,none⟩),.pointer (some ⟨B+3,0,none⟩),.pointer (some ⟨B+1,0,none⟩),.pointer (some ⟨B+4,0,none⟩)] w fun e w'=>e=.returned (.tuple #[])∧∃s',StV v w00 B w' (visitF l f O x) s'∧KeptV B w w' s s'
set_option maxRecDepth 100000 in
theorem visit_step (l:List TnD) (v:Value) (w00:World) (B f:Nat) (hB:w00.heap.size=B) (hv:tnY.Rd w00 v l) (hl:l.length≤40) (hs:∀t∈l,TnSm t) (ih:VisitOk l v w00 B f):VisitOk l v w00 B (f+1):=by
 intro O x w s hO hf hst;obtain⟨i0,hi,hz0,hz1,hz2⟩:=info_parts info38;have hbA:Below w.heap.size w (w.alloc (.cells #[.string x.a,.int .i64 x.n] 38)):=(Below.refl _ _).alloc (Nat.le_refl _) _;have HC:=zz (childrenN_any l v x (w.alloc (.cells #[.string x.a,.int .i64 x.n] 38)) hl ((hv.below (by rw [hB];exact hst.bel)).alloc _) hs);obtain⟨K,hK⟩:∃K,K=(sibL l x).map (·.node):=⟨_,rfl⟩;have hKl:(below l x l.length).length=K.length:=by rw [hK,List.length_map,sibL_len l x hl]
 have hKn:∀y∈K,∃t∈l,t.node=y:=fun y hy=>kid_node hl (by rw [←hK];exact hy)
 have hV:visitF l (f+1) O x=visitK (visitF l f) K O:=by rw [hK];rfl
 rw [←hK,hKl]at HC;have hK40:K.length≤40:=by rw [←hKl];exact Nat.le_trans (below_le l x l.length) hl
 have lB:B+5≤w.heap.size:=zl hst.h4;have c0:w.cell? ⟨B,0,none⟩=some v:=zc _ _ 0 _ _ _ hst.h0;obtain⟨a,n0,cc,rfl⟩:=hv.form;have HST:=zz hst;have HIH:=zz ih;have HV:=zz hV;have HKN:=zz hKn;have HO:=zz hO;have HF:=zz hf;have l0:B < w.heap.size:=by omega
 generalize hn:K.length=n at*
 have HN:=zz hn;clear hv hs ih hO hf hst hK hKl hKn hV hn hB;go_enter Tryz.func43,Tryz.ntmps43
 go_wp2_with fail
 refine HC.out.mono ?_;rintro e w1 ⟨v1,rfl,ho1,hb1⟩;have hbB:=hbA.trans (hb1.mono (by simp));have hsz1:B+5≤w1.heap.size:=by have:=hbB.size;omega
 have HBB:=zz hbB;obtain⟨a1,n1,c1,rfl⟩:=(Lay.Rd.of_owns (Y:=idY) (by rw [HN.out];exact ho1)).form
 have hn1:n1=n:=by
  have:=(Lay.Rd.of_owns (Y:=idY) (by rw [HN.out];exact ho1)).len;rw [HN.out]at this;exact this
 subst hn1;have HROW:=zz ho1;clear HC hbA hb1 hbB ho1 c0 l0;go_wp2
 go_loopg [12] n1 (fun gn t12 wr=>∃(k:Nat) (P:List IdD) (s2:SlV),k+gn=n1∧t12=.int .i64 k∧StV (.slice a n0 cc) w00 B wr P s2∧KeptV B w1 wr s s2∧OInv l P∧O.length≤P.length∧visitK (visitF l f) (K.drop k) P=visitF l (f+1) O x)
 case atStart=>exact⟨0,O,s,by omega,rfl,HST.out.below HBB.out,KeptV.refl _ _ _,HO.out,Nat.le_refl _,HV.out.symm⟩
 case round=>
  obtain⟨G,rfl⟩:∃G,G=gk:=⟨_,rfl⟩;obtain⟨k,P,s2,hk,rfl,hst2,hkep,hP,hOP,hvis⟩:=hrel;have HK:=zz hk;have HPI:=zz hP;have HOP:=zz hOP;have HVI:=zz hvis;have HS2:=zz hst2;have HKEP:=zz hkep;have hP40:P.length≤40:=Nat.le_trans hP.len hl;have hsz:w1.heap.size≤wr.heap.size:=hkep.1;clear hk hP hOP hvis
  by_cases hlt:k < n1
  ·have hx:K[k]? =some (K[k]'(by rw [HN.out];exact hlt)):=List.getElem?_eq_getElem _;generalize K[k]'(by rw [HN.out];exact hlt)=y at hx;have HX:=zz hx
   obtain⟨g,cap,cur,h1,hg1,hg2,_⟩:∃g cap cur,Value.slice a1 n1 c1=.slice (some ⟨g,0,none⟩) n1 cap∧(w.alloc (.cells #[.string x.a,.int .i64 x.n] 38)).heap.size≤g∧w1.heap[g]? =some (.cells cur 38 (0,0))∧True:=by
    rcases HROW.out.2 with⟨_,h⟩|⟨g,cap,cur,h1,h2,h3,_⟩
    ·omega
    ·exact⟨g,cap,cur,h1,h2,h3,trivial⟩
   simp only [Value.slice.injEq]at h1;obtain⟨rfl,_,rfl⟩:=h1;have lg:=zl hg2;have hgw:w.heap.size < g:=by simp at hg1;omega
   have hgs:∀j,s.v.ownBlock=some j→g≠j:=fun j hj=>by have:=(HST.out.own.lt j hj).2;omega
   have hrx1:w1.rangeAt g (0+k*2) (idV y):=idY.elem (ownsRow_rangeAt HROW.out) k y hx;have hgk:=hkep.2.1 g lg (by omega) (by omega) hgs
   have hrx:wr.rangeAt g (k*2) (idV y):=fun j u hj=>by
    have h2:=hrx1 j u hj;rw [Nat.zero_add]at h2;exact(World.cell?_of_block (w:=w1) (w':=wr) (a:=⟨g,k*2+j,none⟩) hgk).trans h2
   have hltZ:(k:Int) < (n1:Int):=by omega
   have e3:wr.cell? ⟨B+3,0,none⟩=some (.map (some (B+2))):=zc _ _ 0 _ _ _ hst2.h3;have l3:B+3 < wr.heap.size:=by omega
   unfold idV at hrx;have YB:=zg wr (.cells #[.string y.a,.int .i64 y.n] 38) wr.heap.size rfl;have hgm:g < wr.heap.size:=by omega
   have l1:B+1 < wr.heap.size:=by omega
   have hob:∀j,s2.v.ownBlock=some j→B+5≤j∧j < wr.heap.size:=fun j hj=>hst2.own.lt j hj
   have HOB:=zz hob;have HSB:=zz (hst2.below (w':=wr.alloc (.cells #[.string y.a,.int .i64 y.n] 38)) ((Below.refl _ _).alloc (Nat.le_refl _) _))
   by_cases hm:y=rootI∨y∈P
   ·obtain⟨fi,hfi⟩:=met_yes hm;have HFI:=zz hfi;have HSTEP:=zz ((visitK_drop (go:=visitF l f) HX.out P).2 hm);have HKA:=zz (hkep.trans (KeptV.of_below s2 (w':=wr.alloc (.cells #[.string y.a,.int .i64 y.n] 38)) ((Below.refl _ _).alloc (Nat.le_refl _) _)));have HMP:=zz hst2.h2;clear hx hrx1 hg1 hg2 hkep hst2 hob hm hfi hgs hgk
    go_wp2_with(first
     |refine wpList_load_mid rfl 38 _ rfl g (k*2) rfl _ _ hrx Tryz.underlying38 rfl (by kernel_rfl) ?_
     |(at_lookup;refine wpList_lookup_raw _ rfl _ _ 95 false rfl 38 4 Tryz.underlying95 (.bool false) (fun w=>by kernel_rfl) (B+2) (metT P) (P.length+1) rfl (zo _ _ _ _ HMP.out) (.agg #[.string y.a,.int .i64 y.n]) rfl (ck38 _ _) (some (fi,.bool true)) HFI.out (.bool true) rfl ?_))
    go_roundg (n1 - 1 - k)
    case rel=>exact⟨k+1,P,s2,by have:=HK.out;omega,by go_num,HSB.out,HKA.out,HPI.out,HOP.out,by rw [←HVI.out,HSTEP.out]⟩
    case measure=>have:=HK.out;omega
   ·have hmiss:=fun w=>met_no (O:=P) (x:=y) (fun e=>hm (.inl e)) (fun e=>hm (.inr e)) w
    have HMISS:=zz hmiss;have HM:=zz hm;have HSTEP:=zz ((visitK_drop (go:=visitF l f) HX.out P).1 hm);have HMP:=zz hst2.h2;have HBO:=zz hst2.h1;have HOA:=zz (hst2.own.alloc (.cells #[.string y.a,.int .i64 y.n] 38));have HOK:=zz (fun(w2:World) (hg2:(wr.alloc (.cells #[.string y.a,.int .i64 y.n] 38)).grownBy w2 (some (B+2)))=>((hst2.own.alloc (.cells #[.string y.a,.int .i64 y.n] 38)).kept hg2 (.inr (fun e=>by have h9:=(hob _ e).1;omega))).alloc (.cells #[.string y.a,.int .i64 y.n] 38));have R4:=zz hst2.h4;clear hx hrx1 hg1 hg2 hkep hst2 hob hm hmiss hgs hgk
    go_wp2_with(first
     |refine wpList_load_mid rfl 38 _ rfl g (k*2) rfl _ _ hrx Tryz.underlying38 rfl (by kernel_rfl) ?_
     |(at_lookup;refine wpList_lookup_raw _ rfl _ _ 95 false rfl 38 4 Tryz.underlying95 (.bool false) (fun w=>by kernel_rfl) (B+2) (metT P) (P.length+1) rfl (zo _ _ _ _ HMP.out) (.agg #[.string y.a,.int .i64 y.n]) rfl (ck38 _ _) none HMISS.out (.bool false) rfl ?_)
     |(at_mapUpdate;refine wpList_update_raw _ rfl _ _ _ 95 (.inl rfl) 38 4 Tryz.underlying95 (B+2) (metT P) (P.length+1) rfl (zo _ _ _ _ HMP.out) (.agg #[.string y.a,.int .i64 y.n]) (.bool true) rfl rfl (ck38 _ _) HMISS.out ?_;intro w2 hm2 hg2 hsz2;have YB2:=(hg2.block wr.heap.size (by simp) (by simp;omega)).trans YB;have y2:=two_cells YB2;have y20:=y2.1;have y21:=y2.2;have O2:=(hg2.block (B+1) (by simp;omega) (by simp)).trans (zo _ _ _ _ HBO.out);have o2:w2.cell? ⟨B+1,0,none⟩=some (.slice s2.a s2.len s2.cap):=zc _ _ 0 _ _ _ O2;have ly:wr.heap.size < w2.heap.size:=(by simp at hsz2;omega);have HOW:=zz (HOK.out w2 hg2);have l12:B+1 < w2.heap.size:=(by omega);have HG2:=zz hg2;have HM2:=zz hm2;have HZ2:=zz hsz2;clear hg2 hm2 hsz2 y2)
     |(at_builtin;refine wpList_append_own_at _ rfl _ _ 41 rfl (B+5) 38 i0 (.agg z38) 2 24 Tryz.underlying41 hi hz0 hz1 hz2 rfl (by decide) s2.v P.length (idY.flat P) rfl HOW.out ⟨w2.heap.size,0,none⟩ 1 1 (idV y) rfl rfl (news_of (zg _ _ _ rfl)) (idY.one y) (by unfold maxLen;omega) (by omega) (by simp;omega) ?_;intro v1 w3 hown1 hg3 _ hloc1;obtain⟨s1,hs1⟩:=ownsForm hown1;subst hs1;have O3:=(hg3.block (B+1) (by simp;omega) (fun e=>by have:=(HOB.out _ e.symm).1;omega)).trans (zo _ _ _ _ O2);have o3:w3.cell? ⟨B+1,0,none⟩=some (.slice s2.a s2.len s2.cap):=zc _ _ 0 _ _ _ O3;have f3:w3.frozen? ⟨B+1,0,none⟩=false:=frozen_of_row w3 (B+1) 0 _ _ O3;have YB3:=(hg3.block wr.heap.size (by simp;omega) (fun e=>by have:=(HOB.out _ e.symm).2;omega)).trans (zo _ _ _ _ YB2);have y3:=two_cells YB3;have F3:=(hg3.block (B+4) (by simp;omega) (fun e=>by have:=(HOB.out _ e.symm).1;omega)).trans (zo _ _ _ _ ((HG2.out.block (B+4) (by simp;omega) (by simp)).trans (zo _ _ _ _ R4.out)));have f34:w3.cell? ⟨B+4,0,none⟩=some (.func (.func 43) #[] #[.pointer (some ⟨B,0,none⟩),.pointer (some ⟨B+3,0,none⟩),.pointer (some ⟨B+1,0,none⟩),.pointer (some ⟨B+4,0,none⟩)]):=zc _ _ 0 _ _ _ F3;have y30:=y3.1;have y31:=y3.2;have hney:¬(B+1=wr.heap.size):=(by omega);have HG3:=zz hg3;have HO3:=zz hown1;have HLC:=zz hloc1;clear hg3 hown1 hloc1 y3 y20 y21 o2))
    have hsw:w2.heap.size=wr.heap.size+1:=by have:=HZ2.out;simpa using this
    have hstep:∀i,i < wr.heap.size→i≠B+1→i≠B+2→(∀j,s2.v.ownBlock=some j→i≠j)→(w3.setCell ⟨B+1,0,none⟩ (.slice s1.a s1.len s1.cap)).heap[i]? =wr.heap[i]?:=fun i hi h1 h2 h3=>by
     rw [heap_setCell_other _ _ _ _ h1,HG3.out.block i (by simp;omega) (fun e=>h3 i e.symm rfl),Below.heap_alloc w2 _ i (by omega),HG2.out.block i (by simp;omega) (by simp;omega),Below.heap_alloc wr _ i hi]
    have hwz:wr.heap.size≤(w3.setCell ⟨B+1,0,none⟩ (.slice s1.a s1.len s1.cap)).heap.size:=by
     have h1:=HG3.out.size;simp at h1⊢;omega
    have hob5:∀i,i < B+5→∀j,s2.v.ownBlock=some j→i≠j:=fun i hi j hj=>by have:=(HOB.out j hj).1;omega
    have st4:StV (.slice a n0 cc) w00 B (w3.setCell ⟨B+1,0,none⟩ (.slice s1.a s1.len s1.cap)) (P++ [y]) s1:=by
     refine⟨?_,(hstep B (by omega) (by omega) (by omega) (hob5 _ (by omega))).trans HS2.out.h0,set1 (y:=.slice s1.a s1.len s1.cap) O3,?_,(hstep (B+3) (by omega) (by omega) (by omega) (hob5 _ (by omega))).trans HS2.out.h3,(hstep (B+4) (by omega) (by omega) (by omega) (hob5 _ (by omega))).trans HS2.out.h4,?_⟩
     ·refine Below.setCell ?_ (p:=⟨B+1,0,none⟩) (by show B≤B+1;omega) _;refine Below.grown ?_ HG3.out (by simp;omega) (fun j hj=>by have:=(HOB.out j hj).1;omega);refine Below.alloc ?_ (by omega) _;refine Below.grown ?_ HG2.out (by simp;omega) (fun j hj=>by cases hj;omega);exact HS2.out.bel.alloc (by omega) _
     ·rw [heap_setCell_other _ _ _ _ (by show B+2≠B+1;omega),HG3.out.block (B+2) (by simp;omega) (fun e=>by have:=(HOB.out _ e.symm).1;omega),Below.heap_alloc w2 _ _ (by omega),HM2.out,metT_snoc,List.length_append];rfl
     ·have h5:w3.ownsRow (B+5) 38 2 s1.v (P++ [y]).length (idY.flat (P++ [y])):=by
       rw [List.length_append,idY.flat_append];have:idY.flat [y]=idV y:=by simp [Lay.flat,idY]
       rw [this];exact HO3.out
      exact h5.kept (grownBy_setCell' w3 (B+1) _) (.inr (fun e=>by have:=(h5.lt _ e).1;omega))
    have kp4:KeptV B wr (w3.setCell ⟨B+1,0,none⟩ (.slice s1.a s1.len s1.cap)) s2 s1:=by
     refine⟨hwz,hstep,fun j hj=>?_⟩
     rcases HLC.out with h1|h1
     ·exact .inl (by rw [←h1];exact hj)
     ·right
      have h2:some j=some (w2.alloc (.cells #[.string y.a,.int .i64 y.n] 38)).heap.size:=by rw [←h1];exact hj.symm
      simp at h2;omega
    have HST4:=zz st4;have HKP4:=zz (HKEP.out.trans kp4);have hin4:=HPI.out.snoc (HKN.out y (List.mem_of_getElem? HX.out)) (fun e=>HM.out (.inl e)) (fun e=>HM.out (.inr e));have HIN5:=zz (visitF_inv hl f (P++ [y]) y hin4);have HCALL:=zz (HIH.out (P++ [y]) y _ s1 hin4 (by rw [List.length_append];have:=HF.out;have:=HOP.out;simp;omega) st4);clear hstep hwz hob5 st4 kp4 hin4 O3 o3 f3 YB3 F3 f34 y30 y31 hney O2 YB2 HOW HO3 HG2 HM2 HZ2 HG3 e3 YB hrx;generalize w3.setCell ⟨B+1,0,none⟩ (.slice s1.a s1.len s1.cap)=w4 at*
    refine HCALL.out.mono ?_;rintro e w5 ⟨rfl,s5,hst5,hk5⟩;have HST5:=zz hst5;have HK5:=zz (HKP4.out.trans hk5);clear hst5 hk5;go_wp2
    go_roundg (n1 - 1 - k)
    case rel=>exact⟨k+1,visitF l f (P++ [y]) y,s5,by have:=HK.out;omega,by go_num,HST5.out,HK5.out,HIN5.out.1,by have h1:=HIN5.out.2;have h2:=HOP.out;rw [List.length_append]at h1;omega,by rw [←HVI.out,HSTEP.out]⟩
    case measure=>have:=HK.out;omega
  ·obtain rfl:k=n1:=by have:=HK.out;omega
   have hd:K.drop k= []:=List.drop_eq_nil_of_le (by rw [HN.out];exact Nat.le_refl _);have HE:=zz (show P=visitF l (f+1) O x by rw [←HVI.out,hd];rfl);have HKF:=zz ((KeptV.of_below s HBB.out).trans hkep);clear hkep hst2 hd;go_wp2;go_end0
   exact⟨rfl,s2,by rw [←HE.out];exact HS2.out,HKF.out⟩
theorem visit_ok (l:List TnD) (v:Value) (w00:World) (B:Nat) (hB:w00.heap.size=B) (hv:tnY.Rd w00 v l) (hl:l.length≤40) (hs:∀t∈l,TnSm t):∀f,VisitOk l v w00 B f
 |0=>fun O x w s hO hf hst=>by have:=hO.len;omega
 |f+1=>visit_step l v w00 B f hB hv hl hs (visit_ok l v w00 B hB hv hl hs f)
noncomputable def walkL (l:List TnD):List IdD:=visitF l (l.length+1) [] rootI
theorem walkL_inv {l:List TnD} (hl:l.length≤40):OInv l (walkL l):=(visitF_inv hl _ [] rootI (OInv.nil l)).1
set_option maxRecDepth 100000 in
theorem walkN_any (l:List TnD) (v:Value) (w:World) (hv:tnY.Rd w v l) (hl:l.length≤40) (hs:∀t∈l,TnSm t):
  Calls Tryz.prog 17 #[v] w fun e w'=>∃v',e=.returned v'∧w'.ownsRow w.heap.size 38 2 v' (walkL l).length (idY.flat (walkL l))∧Below w.heap.size w w':=by
 have HR:=zz (fun(W:World) (s:SlV) (hst:StV v w w.heap.size W [] s)=>visit_ok l v w w.heap.size rfl hv hl hs (l.length+1) [] rootI W s (OInv.nil l) (by simp) hst);obtain⟨W,hW⟩:∃W,W=visitF l (l.length+1) [] rootI:=⟨_,rfl⟩;have hWL:walkL l=W:=hW.symm;rw [←hW]at HR;rw [hWL];obtain⟨a,n0,cc,rfl⟩:=hv.form;clear hv hs hW hWL;have hmm:= @run_makeMap Tryz.prog;go_enter Tryz.func17,Tryz.ntmps17
 go_wp2_with(first
  |(refine wpList_update_raw _ rfl _ _ _ 95 (.inr rfl) 38 4 Tryz.underlying95 (w.heap.size+2) #[] 0 rfl (zg _ _ _ (by simp)) (.agg #[.string ⟨#[]⟩,.int .i64 0]) (.bool true) rfl rfl (ck38 _ _) (miss0 _ _) ?_;intro w2 hm2 hg2 hsz2;have HS2:=zz hsz2;have HM2:=zz hm2;have HG2:=zz hg2;clear hsz2 hm2 hg2;have B5:((w2.alloc (.cells #[.map (some (w.heap.size+1+1))] 95)).alloc (.cells #[.nilFunc] 96)).heap[w2.heap.size+1]? =_:=box2.2;have q5:((w2.alloc (.cells #[.map (some (w.heap.size+1+1))] 95)).alloc (.cells #[.nilFunc] 96)).cell? ⟨w2.heap.size+1,0,none⟩=some .nilFunc:=zc _ _ 0 _ _ _ B5;have hst:=run_store_box (P:=Tryz.prog) (.func (.func 43) #[] #[.pointer (some ⟨w.heap.size,0,none⟩),.pointer (some ⟨w2.heap.size,0,none⟩),.pointer (some ⟨w.heap.size+1,0,none⟩),.pointer (some ⟨w2.heap.size+1,0,none⟩)]) rfl B5))
 have hs:w2.heap.size=w.heap.size+3:=by have:=HS2.out;simpa using this
 clear hst q5 B5 hmm;rw [hs];have hw:Below w.heap.size w w2:=Below.grown (((((Below.refl _ w).alloc (Nat.le_refl _) _).alloc (by simp) _).alloc (by simp <;>omega) _)) HG2.out (by simp;omega) (fun j hj=>by cases hj;omega)
 refine(HR.out _ SlV.nil ⟨(hw.alloc (by omega) _).alloc (by simp;omega) _,zo _ _ _ _ (zo _ _ _ _ ((HG2.out.block w.heap.size (by simp <;>omega) (by simp)).trans (zo _ _ _ _ (zo _ _ _ _ (zg _ _ _ rfl))))),
  zo _ _ _ _ (zo _ _ _ _ ((HG2.out.block (w.heap.size+1) (by simp <;>omega) (by simp)).trans (zo _ _ _ _ (zg _ _ _ (by simp))))),
  zo _ _ _ _ (zo _ _ _ _ (HM2.out.trans rfl)),zo _ _ _ _ (zg _ _ _ hs.symm),zg _ _ _ (by simp [hs]),owns_nil0 _ _ _ _⟩).mono ?_
 rintro e w9 ⟨rfl,s,hst9,hk9⟩;have o9:w9.cell? ⟨w.heap.size+1,0,none⟩=some (.slice s.a s.len s.cap):=zc _ _ 0 _ _ _ hst9.h1;have HQ:=zz hst9;clear hst9 hk9 HR;go_wp2;go_ret
 exact⟨_,rfl,ownsRow_mono HQ.out.own (by omega),HQ.out.bel⟩
end Go.Proofs.YteigcnamkfebgaaGreatDoor
