import Derived.Test.YteigcnamkfebgaaGreatDoorI
set_option linter.all false
set_option maxHeartbeats 25600000
namespace Go.Proofs.YteigcnamkfebgaaGreatDoor
open Go.RowKit
structure TnD where
 node:IdD
 parent:IdD
 neg:Bool
 num:ByteArray
 den:ByteArray
 kind:ByteArray
def tnV (x:TnD):List Value:= [.string x.node.a,.int .i64 x.node.n,.string x.parent.a,.int .i64 x.parent.n,.bool x.neg,.string x.num,.string x.den,.string x.kind]
def tnY:Lay TnD:=⟨8,tnV,fun _=>rfl,by
 intro x u hu;simp only [tnV,List.mem_cons,List.not_mem_nil,or_false]at hu
 rcases hu with rfl|rfl|rfl|rfl|rfl|rfl|rfl|rfl <;>rfl⟩
set_option maxRecDepth 100000 in
theorem indexReg_any (g:FuncId) (lb:Array Value) (p:RegD→Bool) (l:List RegD) (v:Value) (w:World) (B:Nat) (hB:B≤w.heap.size) (hl:l.length≤1000000) (hv:regY.Rd w v l)
  (heg:∀(a:Array Value) (W:World),Sem.run Tryz.prog (callFunc g a) W=.ok (.enter g a) W) (hp:PredE regY B g lb p w):
  Calls Tryz.prog 136 #[v,.func (.func g) #[] lb] w fun e w'=>e=.returned (.int .i64 (idxL p l 0))∧Below w.heap.size w w':=by
 have HP:=zz hp;clear hp
 rcases hv with⟨rfl,rfl⟩|⟨b,off,cap,rfl,hcap,hr⟩
 ·go_enter Tryz.func136,Tryz.ntmps136
  go_wp2
  go_loopg [8] 0 (fun gn t wr=>t=.int .i64 0∧wr=w)
  case atStart=>exact⟨rfl,rfl⟩
  case round=>
   obtain⟨rfl,rfl⟩:=hrel;go_wp2;go_ret
   exact⟨rfl,Below.refl _ _⟩
 ·have HR:=zz hr;clear hr;generalize hn:l.length=n at*
  have HN:=zz hn;clear hn;go_enter Tryz.func136,Tryz.ntmps136
  go_wp2
  go_loopg [8] n (fun gn t wr=>∃k:Nat,k+gn=n∧t=.int .i64 k∧(∀i x,i < k→l[i]? =some x→p x=false)∧Below w.heap.size w wr)
  case atStart=>exact⟨0,by omega,rfl,fun i x h=>absurd h (by omega),Below.refl _ _⟩
  case round=>
   obtain⟨k,hk,rfl,hno,hbel⟩:=hrel;have HK:=zz hk;have HNO:=zz hno;clear hk hno
   by_cases hlt:k < n
   ·have hx:l[k]? =some (l[k]'(by rw [HN.out];exact hlt)):=List.getElem?_eq_getElem _;generalize l[k]'(by rw [HN.out];exact hlt)=x at hx;have HX:=zz hx;clear hx;have hrx:=regY.elem (rangeAt_below HR.out hbel) k x HX.out
    go_wp2_with(refine wpList_load_mid rfl 48 _ rfl b (off+k*4) rfl (regV x) _ hrx Tryz.underlying48 rfl (by kernel_rfl) ?_)
    clear hrx;refine(HP.out x wr (hbel.mono hB)).mono ?_;rintro e w1 ⟨rfl,hb1⟩;have hbel1:=hbel.trans (hb1.mono hbel.size)
    cases hpx:p x with
    |true=>
     have HPX:=zz hpx;clear hpx;go_wp2;go_ret
     have e:idxL p l 0=(k:Int):=by
      rw [idxL_skip p l k 0 HNO.out (by rw [HN.out];omega),Nat.zero_add];have h2:=HX.out
      have hd:l.drop k=x::l.drop (k+1):=by
       obtain⟨h3,h4⟩:=List.getElem?_eq_some_iff.1 h2;rw [←h4];exact List.drop_eq_getElem_cons h3
      rw [hd];unfold idxL;rw [if_pos HPX.out]
     exact⟨by rw [e];rfl,hbel1⟩
    |false=>
     have HPX:=zz hpx;clear hpx;go_wp2;have hkk:=HK.out
     go_roundg (n - 1 - k)
     case rel=>
      refine⟨k+1,by omega,by go_num,fun i y hi hy=>?_,hbel1⟩
      by_cases hik:i < k
      ·exact HNO.out i y hik hy
      ·obtain rfl:i=k:=by omega
       have h2:=HX.out;rw [hy]at h2;obtain rfl:=Option.some.inj h2;exact HPX.out
     case measure=>omega
   ·have hkk:=HK.out;obtain rfl:k=n:=by omega
    go_wp2;go_ret
    have e:idxL p l 0= -1:=by
     rw [idxL_skip p l k 0 HNO.out (by rw [HN.out];omega),List.drop_of_length_le (by rw [HN.out];omega)];rfl
    exact⟨by rw [e];rfl,hbel⟩
set_option maxRecDepth 100000 in
theorem indexTn_any (g:FuncId) (lb:Array Value) (p:TnD→Bool) (l:List TnD) (v:Value) (w:World) (B:Nat) (hB:B≤w.heap.size) (hl:l.length≤1000000) (hv:tnY.Rd w v l)
  (heg:∀(a:Array Value) (W:World),Sem.run Tryz.prog (callFunc g a) W=.ok (.enter g a) W) (hp:PredE tnY B g lb p w):
  Calls Tryz.prog 26 #[v,.func (.func g) #[] lb] w fun e w'=>e=.returned (.int .i64 (idxL p l 0))∧Below w.heap.size w w':=by
 have HP:=zz hp;clear hp
 rcases hv with⟨rfl,rfl⟩|⟨b,off,cap,rfl,hcap,hr⟩
 ·go_enter Tryz.func26,Tryz.ntmps26
  go_wp2
  go_loopg [8] 0 (fun gn t wr=>t=.int .i64 0∧wr=w)
  case atStart=>exact⟨rfl,rfl⟩
  case round=>
   obtain⟨rfl,rfl⟩:=hrel;go_wp2;go_ret
   exact⟨rfl,Below.refl _ _⟩
 ·have HR:=zz hr;clear hr;generalize hn:l.length=n at*
  have HN:=zz hn;clear hn;go_enter Tryz.func26,Tryz.ntmps26
  go_wp2
  go_loopg [8] n (fun gn t wr=>∃k:Nat,k+gn=n∧t=.int .i64 k∧(∀i x,i < k→l[i]? =some x→p x=false)∧Below w.heap.size w wr)
  case atStart=>exact⟨0,by omega,rfl,fun i x h=>absurd h (by omega),Below.refl _ _⟩
  case round=>
   obtain⟨k,hk,rfl,hno,hbel⟩:=hrel;have HK:=zz hk;have HNO:=zz hno;clear hk hno
   by_cases hlt:k < n
   ·have hx:l[k]? =some (l[k]'(by rw [HN.out];exact hlt)):=List.getElem?_eq_getElem _;generalize l[k]'(by rw [HN.out];exact hlt)=x at hx;have HX:=zz hx;clear hx;have hrx:=tnY.elem (rangeAt_below HR.out hbel) k x HX.out
    go_wp2_with(refine wpList_load_mid rfl 55 _ rfl b (off+k*8) rfl (tnV x) _ hrx Tryz.underlying55 rfl (by kernel_rfl) ?_)
    clear hrx;refine(HP.out x wr (hbel.mono hB)).mono ?_;rintro e w1 ⟨rfl,hb1⟩;have hbel1:=hbel.trans (hb1.mono hbel.size)
    cases hpx:p x with
    |true=>
     have HPX:=zz hpx;clear hpx;go_wp2;go_ret
     have e:idxL p l 0=(k:Int):=by
      rw [idxL_skip p l k 0 HNO.out (by rw [HN.out];omega),Nat.zero_add];have h2:=HX.out
      have hd:l.drop k=x::l.drop (k+1):=by
       obtain⟨h3,h4⟩:=List.getElem?_eq_some_iff.1 h2;rw [←h4];exact List.drop_eq_getElem_cons h3
      rw [hd];unfold idxL;rw [if_pos HPX.out]
     exact⟨by rw [e];rfl,hbel1⟩
    |false=>
     have HPX:=zz hpx;clear hpx;go_wp2;have hkk:=HK.out
     go_roundg (n - 1 - k)
     case rel=>
      refine⟨k+1,by omega,by go_num,fun i y hi hy=>?_,hbel1⟩
      by_cases hik:i < k
      ·exact HNO.out i y hik hy
      ·obtain rfl:i=k:=by omega
       have h2:=HX.out;rw [hy]at h2;obtain rfl:=Option.some.inj h2;exact HPX.out
     case measure=>omega
   ·have hkk:=HK.out;obtain rfl:k=n:=by omega
    go_wp2;go_ret
    have e:idxL p l 0= -1:=by
     rw [idxL_skip p l k 0 HNO.out (by rw [HN.out];omega),List.drop_of_length_le (by rw [HN.out];omega)];rfl
    exact⟨by rw [e];rfl,hbel⟩
def isReg (n:IdD) (f:ByteArray) (d:RegD):Bool:=eqId d.node n&&eqS d.field f
theorem look1_any (x:RegD) (nb fb:Nat) (n:IdD) (f:ByteArray) (w:World) (hn:w.heap[nb]? =some (.cells #[.string n.a,.int .i64 n.n] 38 (0,0))) (hf:w.heap[fb]? =some (.cells #[.string f] 9 (0,0))):
  Calls Tryz.prog 137 #[.agg (regV x).toArray,.pointer (some ⟨nb,0,none⟩),.pointer (some ⟨fb,0,none⟩)] w fun e' w'=>e'=.returned (.bool (isReg n f x))∧Below w.heap.size w w':=by
 have l1:=zl hn;have l2:=zl hf;have k0:w.cell? ⟨nb,0,none⟩=some (.string n.a):=by rw [zc _ _ 0 _ _ _ hn];rfl
 have k1:w.cell? ⟨nb,1,none⟩=some (.int .i64 n.n):=by rw [zc _ _ 1 _ _ _ hn];rfl
 have kf:w.cell? ⟨fb,0,none⟩=some (.string f):=by rw [zc _ _ 0 _ _ _ hf];rfl
 have hb:Below w.heap.size w (w.alloc (.cells (regV x).toArray 48)):=(Below.refl _ _).alloc (Nat.le_refl _) _;clear hn hf;unfold regV at*
 cases hs:eqS x.node.a n.a with
 |false=>
  have hs':(x.node.a.toList==n.a.toList)=false:=hs;have HQ:=zz (show isReg n f x=false by unfold isReg eqId;rw [hs];rfl);clear hs;go_enter Tryz.func137,Tryz.ntmps137
  go_wp2;go_ret
  exact⟨by rw [HQ.out];rfl,hb⟩
 |true=>
  have hs':(x.node.a.toList==n.a.toList)=true:=hs
  cases hn:(x.node.n==n.n)with
  |false=>
   have HQ:=zz (show isReg n f x=false by unfold isReg eqId;rw [hs,hn];rfl);clear hs;go_enter Tryz.func137,Tryz.ntmps137
   go_wp2;go_ret
   exact⟨by rw [HQ.out];rfl,hb⟩
  |true=>
   have HQ:=zz (show isReg n f x=eqS x.field f by unfold isReg eqId;rw [hs,hn];rfl);clear hs;go_enter Tryz.func137,Tryz.ntmps137
   go_wp2
   all_goals go_ret
   all_goals exact⟨by rw [HQ.out];rfl,hb⟩
def RRegs (w:World) (v:Value) (R:List RegP):Prop:=
 ∃ds:List RegD,regY.Rd w v ds∧ds.length=R.length∧∀(i:Nat) (d:RegD) (r:RegP),ds[i]? =some d→R[i]? =some r→d.node=r.node∧d.field=r.field∧wrY.Rd w d.w.v r.w
theorem Regs.read {w:World} {base:Nat} {v:Value} {R:List RegP} (h:Regs w base v R):RRegs w v R:=by
 obtain⟨ds,h1,h2,h3⟩:=h;exact⟨ds,Lay.Rd.of_owns (Y:=regY) (by rw [h2];exact h1),h2,fun i d r a b=>⟨(h3 i d r a b).1,(h3 i d r a b).2.1,(h3 i d r a b).2.2.1⟩⟩
theorem RRegs.below {w w':World} {v:Value} {R:List RegP} (h:RRegs w v R) (hb:Below w.heap.size w w'):RRegs w' v R:=by
 obtain⟨ds,h1,h2,h3⟩:=h;exact⟨ds,h1.below hb,h2,fun i d r a b=>⟨(h3 i d r a b).1,(h3 i d r a b).2.1,(h3 i d r a b).2.2.below hb⟩⟩
def winF (l:List WrD):ByteArray×Bool:=match l.getLast? with|some x=>(x.text,true)|none=>(⟨#[]⟩,false)
theorem winner_any (l:List WrD) (v:Value) (w:World) (hl:l.length≤1000000) (hv:wrY.Rd w v l):
  Calls Tryz.prog 57 #[v] w fun e' w'=>e'=.returned (.tuple #[.string (winF l).1,.bool (winF l).2])∧w=w':=by
 rcases hv with⟨rfl,rfl⟩|⟨b,off,cap,rfl,hcap,hr⟩
 ·go_enter Tryz.func57,Tryz.ntmps57
  go_wp2
  go_ret2
  exact⟨rfl,rfl⟩
 ·by_cases h0:l.length=0
  ·have HZ:=zz (List.length_eq_zero_iff.1 h0);rw [h0];clear h0 hr hcap hl;go_enter Tryz.func57,Tryz.ntmps57
   go_wp2
   go_ret2
   exact⟨by rw [HZ.out];rfl,rfl⟩
  ·obtain⟨m,hm⟩:∃m,l.length=m+1:=⟨l.length - 1,by omega⟩;have hx:l[m]? =some (l[m]'(by omega)):=List.getElem?_eq_getElem _;generalize l[m]'(by omega)=x at hx;have k3:w.cell? ⟨b,off+m*4+3,none⟩=some (.string x.text):=(wrY.elem hr m x hx) 3 _ rfl;have HW:=zz (show winF l=(x.text,true) by unfold winF;rw [List.getLast?_eq_getElem?,hm,Nat.add_sub_cancel,hx]);have hne:(((m+1:Nat):Int)==0)=false:=by simp;omega
   have hsub:((m+1:Nat):Int) - 1=(m:Int):=by omega
   have hwr:wrap64 (((m+1:Nat):Int) - 1)=(m:Int):=by unfold wrap64;omega
   rw [hm];rw [hm]at hl;clear hm h0 hr hcap hx;go_enter Tryz.func57,Tryz.ntmps57
   go_wp2
   go_ret2
   exact⟨by rw [HW.out];rfl,rfl⟩
def lookF (n:IdD) (f:ByteArray) (R:List RegP):List WrD:=match R.find? (fun r=>eqId r.node n&&eqS r.field f)with|some r=>r.w|none=> []
theorem idx_find (n:IdD) (f:ByteArray):∀(ds:List RegD) (R:List RegP) (k:Nat),ds.length=R.length→(∀(i:Nat) (d:RegD) (r:RegP),ds[i]? =some d→R[i]? =some r→d.node=r.node∧d.field=r.field)→
  (idxL (isReg n f) ds k= -1∧lookF n f R= [])∨∃(i:Nat) (d:RegD) (r:RegP),idxL (isReg n f) ds k=((k+i:Nat):Int)∧ds[i]? =some d∧R[i]? =some r∧lookF n f R=r.w
 | [], [],k,_,_=>.inl ⟨rfl,rfl⟩
 | [],_::_,_,h,_=>by simp at h
 |_::_, [],_,h,_=>by simp at h
 |d::ds,r::R,k,hl,h=>by
  obtain⟨e1,e2⟩:=h 0 d r rfl rfl
  cases hp:isReg n f d with
  |true=>
   right
   refine⟨0,d,r,by simp [idxL,hp],rfl,rfl,?_⟩;unfold isReg at hp;rw [e1,e2]at hp;simp [lookF,hp]
  |false=>
   have hp2:(eqId r.node n&&eqS r.field f)=false:=by unfold isReg at hp;rw [e1,e2]at hp;exact hp
   have hlk:lookF n f (r::R)=lookF n f R:=by unfold lookF;rw [List.find?_cons,hp2]
   rcases idx_find n f ds R (k+1) (by simpa using hl) (fun i d' r' h1 h2=>h (i+1) d' r' (by simpa using h1) (by simpa using h2))with⟨h1,h2⟩|⟨i,d',r',h1,h2,h3,h4⟩
   ·left;exact⟨by simp [idxL,hp,h1],by rw [hlk];exact h2⟩
   ·right;exact⟨i+1,d',r',by simp only [idxL,hp];rw [if_neg (by simp),h1];congr 1;omega,by simpa using h2,by simpa using h3,by rw [hlk];exact h4⟩
theorem lookup_any (R:List RegP) (v:Value) (n:IdD) (f:ByteArray) (w:World) (hl:R.length≤100000) (hwl:∀r∈R,r.w.length≤100000) (hv:RRegs w v R):
  Calls Tryz.prog 94 #[v,.agg #[.string n.a,.int .i64 n.n],.string f] w fun e' w'=>∃v',e'=.returned v'∧wrY.Rd w' v' (lookF n f R)∧Below w.heap.size w w':=by
 obtain⟨m2,m3⟩:=box2 (w:=w) (o:=.cells #[.string n.a,.int .i64 n.n] 38) (o':=.cells #[.string f] 9);have hb:=below2 w (.cells #[.string n.a,.int .i64 n.n] 38) (.cells #[.string f] 9);obtain⟨ds,h1,h2,h3⟩:=hv.below hb;have hform:=h1.form;obtain⟨a,nn,c,rfl⟩:=hform;obtain rfl:=h1.len;have HF:=zz (idx_find n f ds R 0 h2 (fun i d r x y=>⟨(h3 i d r x y).1,(h3 i d r x y).2.1⟩));have H3:=zz h3;have H2:=zz h2;have hdl:ds.length≤100000:=by omega
 have HR:=zz h1;clear h2 h3 hv h1;generalize hn:ds.length=nn at*
 have HN:=zz hn;clear hn;go_enter Tryz.func94,Tryz.ntmps94
 go_wp2_with fail
 change Calls Tryz.prog 136 _ ((w.alloc (.cells #[.string n.a,.int .i64 n.n] 38)).alloc (.cells #[.string f] 9)) _;generalize(w.alloc (.cells #[.string n.a,.int .i64 n.n] 38)).alloc (.cells #[.string f] 9)=W at*
 have hP:PredE regY W.heap.size 137 #[.pointer (some ⟨w.heap.size,0,none⟩),.pointer (some ⟨w.heap.size+1,0,none⟩)] (isReg n f) W:=fun x V hB=>
  look1_any x w.heap.size (w.heap.size+1) n f V ((hB.block _ (zl m2)).trans m2) ((hB.block _ (zl m3)).trans m3)
 refine(indexReg_any 137 _ (isReg n f) ds _ W W.heap.size (Nat.le_refl _) (by rw [HN.out];omega) HR.out Tryz.call137 hP).mono ?_;rintro e w1 ⟨rfl,hb1⟩;have hbel1:Below w.heap.size w w1:=hb.trans (hb1.mono hb.size);clear hP m2 m3
 rcases HF.out with⟨hi,hlk⟩|⟨i,d,r,hi,hd,hr,hlk⟩
 ·rw [hi];have HL:=zz hlk;clear hi hlk;go_wp2;go_ret
  exact⟨_,rfl,by rw [HL.out];exact .inl ⟨rfl,rfl⟩,hbel1⟩
 ·rw [hi,Nat.zero_add];have HL:=zz hlk;have hil:i < nn:=by rw [←HN.out];exact(List.getElem?_eq_some_iff.1 hd).1
  obtain⟨b,off,rfl,hra⟩:∃b off,a=some ⟨b,off,none⟩∧W.rangeAt b off (regY.flat ds):=by
   rcases HR.out with⟨q1,q2⟩|⟨b,off,cap,q1,q2,q3⟩
   ·rw [q2]at hd;cases hd
   ·simp at q1;exact⟨b,off,q1.1,q3⟩
  have k3:w1.cell? ⟨b,off+i*4+3,none⟩=some (.slice d.w.a d.w.len d.w.cap):=(regY.elem (rangeAt_below hra hb1) i d hd) 3 _ rfl;have hrd:=(H3.out i d r hd hr).2.2.below hb1;have hrw:=hwl r (List.mem_of_getElem? hr);have hilZ:(i:Int) < (nn:Int):=by omega
  have hi0:decide ((i:Int) < 0)=false:=by simp
  clear hi hlk hra hd hr
  go_wp2_with fail
  refine(cloneWr_any r.w d.w.v w1 (by omega) hrd).mono ?_;rintro e w2 ⟨v2,rfl,hown2,hb2⟩;have hbel2:=hbel1.trans (hb2.mono hbel1.size);have HRd:=zz (Lay.Rd.of_owns (Y:=wrY) hown2);clear hown2 k3 hrd;go_wp2;go_ret
  exact⟨_,rfl,by rw [HL.out];exact HRd.out,hbel2⟩
theorem less_any (x y:IdD) (w:World):Calls Tryz.prog 75 #[.agg #[.string x.a,.int .i64 x.n],.agg #[.string y.a,.int .i64 y.n]] w fun e w'=>e=.returned (.int .i64 (cmpId x y))∧Below w.heap.size w w':=by
 obtain⟨m2,m3⟩:=box2 (w:=w) (o:=.cells #[.string x.a,.int .i64 x.n] 38) (o':=.cells #[.string y.a,.int .i64 y.n] 38);have hb:=below2 w (.cells #[.string x.a,.int .i64 x.n] 38) (.cells #[.string y.a,.int .i64 y.n] 38);go_enter Tryz.func75,Tryz.ntmps75
 go_wp2_with fail
 generalize((w.alloc (.cells #[.string x.a,.int .i64 x.n] 38)).alloc (.cells #[.string y.a,.int .i64 y.n] 38))=W at*
 generalize hp:w.heap.size=p at*
 have HP:=zz hp;clear hp;have c20:W.cell? ⟨p,0,none⟩=some (.string x.a):=by rw [zc _ _ 0 _ _ _ m2];rfl
 have c21:W.cell? ⟨p,1,none⟩=some (.int .i64 x.n):=by rw [zc _ _ 1 _ _ _ m2];rfl
 have c30:W.cell? ⟨p+1,0,none⟩=some (.string y.a):=by rw [zc _ _ 0 _ _ _ m3];rfl
 have c31:W.cell? ⟨p+1,1,none⟩=some (.int .i64 y.n):=by rw [zc _ _ 1 _ _ _ m3];rfl
 have l2:=zl m2;have l3:=zl m3;clear m2 m3
 go_region_held3 (fun w'=>w'.cell? ⟨p,0,none⟩=some (.string x.a)∧w'.cell? ⟨p,1,none⟩=some (.int .i64 x.n)∧w'.cell? ⟨p+1,0,none⟩=some (.string y.a)∧w'.cell? ⟨p+1,1,none⟩=some (.int .i64 y.n)) (go_keep)
  (first
   |(go_at_call 119;refine(genstr_any _ _ _).mono ?_;rintro e w1 ⟨rfl,rfl⟩)
   |(go_at_call 120;refine(intcmp_any _ _ _).mono ?_;rintro e w1 ⟨rfl,rfl⟩)
   |(go_at_call 118;refine(or2_any (cmpS x.a y.a) (Lib.compareInt x.n y.n) W.heap.size 2 _ (arr2 W.drew _ _).1 (arr2 W.drew _ _).2).mono ?_;rintro e w1 ⟨rfl,rfl⟩))
 all_goals go_wp2
 all_goals go_ret
 all_goals exact⟨rfl,by rw [HP.out];exact(hb.alloc (by have:=hb.size;rw [HP.out]at this;exact this) _).drew⟩
set_option maxRecDepth 100000 in
theorem nodeCmp_any (x y:TnD) (w:World):Calls Tryz.prog 74 #[.agg (tnV x).toArray,.agg (tnV y).toArray] w fun e' w'=>e'=.returned (.int .i64 (cmpId x.node y.node))∧Below w.heap.size w w':=by
 obtain⟨m2,m3⟩:=box2 (w:=w) (o:=.cells (tnV x).toArray 55) (o':=.cells (tnV y).toArray 55);have hb:=below2 w (.cells (tnV x).toArray 55) (.cells (tnV y).toArray 55);have c20:((w.alloc (.cells (tnV x).toArray 55)).alloc (.cells (tnV y).toArray 55)).cell? ⟨w.heap.size,0,none⟩=some (.string x.node.a):=by rw [zc _ _ 0 _ _ _ m2];rfl
 have c21:((w.alloc (.cells (tnV x).toArray 55)).alloc (.cells (tnV y).toArray 55)).cell? ⟨w.heap.size,1,none⟩=some (.int .i64 x.node.n):=by rw [zc _ _ 1 _ _ _ m2];rfl
 have c30:((w.alloc (.cells (tnV x).toArray 55)).alloc (.cells (tnV y).toArray 55)).cell? ⟨w.heap.size+1,0,none⟩=some (.string y.node.a):=by rw [zc _ _ 0 _ _ _ m3];rfl
 have c31:((w.alloc (.cells (tnV x).toArray 55)).alloc (.cells (tnV y).toArray 55)).cell? ⟨w.heap.size+1,1,none⟩=some (.int .i64 y.node.n):=by rw [zc _ _ 1 _ _ _ m3];rfl
 clear m2 m3;unfold tnV at*
 go_enter Tryz.func74,Tryz.ntmps74
 go_wp2_with(go_at_call 75;refine(less_any x.node y.node _).mono ?_;rintro e w1 ⟨rfl,hb1⟩)
 go_ret
 exact⟨rfl,hb.trans (hb1.mono hb.size)⟩
end Go.Proofs.YteigcnamkfebgaaGreatDoor
