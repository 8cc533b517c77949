import Derived.Test.YteigcnamkfebgaaGreatDoorA
import Derived.WalkSpells
set_option linter.all false
set_option maxHeartbeats 25600000
namespace Go.Proofs.YteigcnamkfebgaaGreatDoor
open Go.RowKit
def PredE {E:Type} (Y:Lay E) (B:Nat) (g:FuncId) (lb:Array Value) (p:E→Bool) (w:World):Prop:=
 ∀(x:E) (W:World),Below B w W→Calls Tryz.prog g (#[.agg (Y.V x).toArray]++lb) W fun e W'=>e=.returned (.bool (p x))∧Below W.heap.size W W'
set_option maxRecDepth 100000 in
theorem indexWr_any (g:FuncId) (lb:Array Value) (p:WrD→Bool) (l:List WrD) (v:Value) (w:World) (B:Nat) (hB:B≤w.heap.size) (hl:l.length≤1000000) (hv:wrY.Rd w v l)
  (heg:∀(a:Array Value) (W:World),Sem.run Tryz.prog (callFunc g a) W=.ok (.enter g a) W) (hp:PredE wrY B g lb p w):
  Calls Tryz.prog 167 #[v,.func (.func g) #[] lb] w fun e w'=>e=.returned (.int .i64 (idxL p l 0))∧Below w.heap.size w w':=by
 have HP:=zz hp;clear hp
 rcases hv with⟨rfl,rfl⟩|⟨b,off,cap,rfl,hcap,hr⟩
 ·go_enter Tryz.func167,Tryz.ntmps167
  go_wp2
  go_loopg [8] 0 (fun gn t wr=>t=.int .i64 0∧wr=w)
  case atStart=>exact⟨rfl,rfl⟩
  case round=>
   obtain⟨rfl,rfl⟩:=hrel;go_wp2;go_ret
   exact⟨rfl,Below.refl _ _⟩
 ·have HR:=zz hr;clear hr;generalize hn:l.length=n at*
  have HN:=zz hn;clear hn;go_enter Tryz.func167,Tryz.ntmps167
  go_wp2
  go_loopg [8] n (fun gn t wr=>∃k:Nat,k+gn=n∧t=.int .i64 k∧(∀i x,i < k→l[i]? =some x→p x=false)∧Below w.heap.size w wr)
  case atStart=>exact⟨0,by omega,rfl,fun i x h=>absurd h (by omega),Below.refl _ _⟩
  case round=>
   obtain⟨k,hk,rfl,hno,hbel⟩:=hrel;have HK:=zz hk;have HNO:=zz hno;clear hk hno
   by_cases hlt:k < n
   ·have hx:l[k]? =some (l[k]'(by rw [HN.out];exact hlt)):=List.getElem?_eq_getElem _;generalize l[k]'(by rw [HN.out];exact hlt)=x at hx;have HX:=zz hx;clear hx;have hrx:=wrY.elem (rangeAt_below HR.out hbel) k x HX.out
    go_wp2_with(refine wpList_load_mid rfl 50 _ rfl b (off+k*4) rfl (wrV x) _ hrx Tryz.underlying50 rfl (by kernel_rfl) ?_)
    clear hrx;refine(HP.out x wr (hbel.mono hB)).mono ?_;rintro e w1 ⟨rfl,hb1⟩;have hbel1:=hbel.trans (hb1.mono hbel.size)
    cases hpx:p x with
    |true=>
     have HPX:=zz hpx;clear hpx;go_wp2;go_ret
     have e:idxL p l 0=(k:Int):=by
      rw [idxL_skip p l k 0 HNO.out (by rw [HN.out];omega),Nat.zero_add];have h2:=HX.out
      have hd:l.drop k=x::l.drop (k+1):=by
       obtain⟨h3,h4⟩:=List.getElem?_eq_some_iff.1 h2;rw [←h4];exact List.drop_eq_getElem_cons h3
      rw [hd];unfold idxL;rw [if_pos HPX.out]
     exact⟨by rw [e];rfl,hbel1⟩
    |false=>
     have HPX:=zz hpx;clear hpx;go_wp2;have hkk:=HK.out
     go_roundg (n - 1 - k)
     case rel=>
      refine⟨k+1,by omega,by go_num,fun i y hi hy=>?_,hbel1⟩
      by_cases hik:i < k
      ·exact HNO.out i y hik hy
      ·obtain rfl:i=k:=by omega
       have h2:=HX.out;rw [hy]at h2;obtain rfl:=Option.some.inj h2;exact HPX.out
     case measure=>omega
   ·have hkk:=HK.out;obtain rfl:k=n:=by omega
    go_wp2;go_ret
    have e:idxL p l 0= -1:=by
     rw [idxL_skip p l k 0 HNO.out (by rw [HN.out];omega),List.drop_of_length_le (by rw [HN.out];omega)];rfl
    exact⟨by rw [e];rfl,hbel⟩
def z50:Array Value:=#[.string ⟨#[]⟩,.int .i64 0,.int .i64 0,.string ⟨#[]⟩]
theorem info50:(Tryz.prog.info? 50).map (fun i=>(i.zero,i.size,i.bytes))=some (some (.agg z50),4,48):=by kernel_rfl
def DelInv (p:WrD→Bool) (l:List WrD) (base g cap:Nat) (w wr:World) (i j:Nat):Prop:=
 ∃L:List WrD,L.length=l.length∧wr.ownsRow base 50 4 (.slice (some ⟨g,0,none⟩) l.length cap) l.length (wrY.flat L)∧L.take i=(l.take j).filter (fun x=>!p x)∧L.drop j=l.drop j∧Below base w wr
theorem del_take (L l:List WrD) (p:WrD→Bool) (i j:Nat) (x:WrD) (hL:L.length=l.length) (hx:l[j]? =some x) (hij:i < j) (h:L.take i=(l.take j).filter (fun x=>!p x)):
  (L.set i x).take (i+1)=if p x then(L.set i x).take (i+1)else(l.take (j+1)).filter (fun x=>!p x):=by
 cases hp:p x with
 |true=>simp
 |false=>
  have hj:j < l.length:=(List.getElem?_eq_some_iff.1 hx).1;rw [if_neg (by simp),list_snoc l j x hx,List.filter_append,←h];rw [list_snoc (L.set i x) i x (by simp [List.getElem?_set];omega),List.take_set_of_le (by omega)];simp [hp]
set_option maxRecDepth 100000 in
theorem deleteWr_any (g0:FuncId) (lb:Array Value) (p:WrD→Bool) (l:List WrD) (v:Value) (base:Nat) (w:World) (hl:l.length≤1000000) (hv:w.ownsRow base 50 4 v l.length (wrY.flat l)) (hbase:base≤w.heap.size)
  (heg:∀(a:Array Value) (W:World),Sem.run Tryz.prog (callFunc g0 a) W=.ok (.enter g0 a) W) (hp:PredE wrY base g0 lb p w):
  Calls Tryz.prog 124 #[v,.func (.func g0) #[] lb] w fun e w'=>∃v',e=.returned v'∧w'.ownsRow base 50 4 v' (l.filter (fun x=>!p x)).length (wrY.flat (l.filter (fun x=>!p x)))∧Below base w w':=by
 have HP:=zz hp;clear hp
 rcases idxL_spec p l 0 with⟨hidx,hall⟩|⟨i0,x0,hidx,hx0,hpx0,hall⟩
 ·have hf:l.filter (fun x=>!p x)=l:=List.filter_eq_self.2 (fun x hx=>by rw [hall x hx];rfl);have HF:=zz hf;have HI:=zz hidx;clear hf hidx
  have hrd:wrY.Rd w v l:=by
   rcases hv.2 with⟨h1,h2⟩|⟨g,cap,cur,h1,_,_,h4,_⟩
   ·exact .inl ⟨h1,List.length_eq_zero_iff.1 h2⟩
   ·subst h1;exact .inr ⟨g,0,cap,rfl,h4,ownsRow_rangeAt hv⟩
  go_enter Tryz.func124,Tryz.ntmps124
  go_wp2_with(go_at_call 167;refine(indexWr_any g0 lb p l v w base hbase hl hrd heg (HP.out)).mono ?_;rw [HI.out];rintro e w1 ⟨rfl,hb1⟩)
  go_ret
  rw [HF.out];refine⟨v,rfl,?_,hb1.mono hbase⟩;exact hv.kept (row:=none) ⟨hb1.os,hb1.tape,hb1.output,hb1.size,fun k hk _=>hb1.block k hk⟩ (by cases v.ownBlock <;>simp)
 ·have hi0:i0 < l.length:=(List.getElem?_eq_some_iff.1 hx0).1;have hne:l≠ []:=by intro h;rw [h]at hi0;simp at hi0
  obtain⟨g,cap,rfl,hcap,hgb,hgs⟩:∃g cap,v=.slice (some ⟨g,0,none⟩) l.length cap∧l.length≤cap∧base≤g∧g < w.heap.size:=by
   rcases hv.2 with⟨h1,h2⟩|⟨g,cap,cur,h1,h2,h3,h4,_⟩
   ·exact absurd (List.length_eq_zero_iff.1 h2) hne
   ·exact⟨g,cap,h1,h4,h2,zl h3⟩
  have hrd:wrY.Rd w (.slice (some ⟨g,0,none⟩) l.length cap) l:=.inr ⟨g,0,cap,rfl,hcap,ownsRow_rangeAt hv⟩
  have hpref:l.take i0=(l.take (i0+1)).filter (fun x=>!p x):=by
   rw [List.take_succ_eq_append_getElem hi0,List.filter_append];have e:l[i0]=x0:=(List.getElem?_eq_some_iff.1 hx0).2;rw [e,List.filter_eq_self.2 (fun x hx=>by rw [hall x hx];rfl)];simp [hpx0]
  have hinv0:∀w1,Below w.heap.size w w1→DelInv p l base g cap w w1 i0 (i0+1):=fun w1 hb1=>
   ⟨l,rfl,hv.kept (row:=none) ⟨hb1.os,hb1.tape,hb1.output,hb1.size,fun k hk _=>hb1.block k hk⟩ (by right;simp [Value.ownBlock]),hpref,rfl,hb1.mono hbase⟩
  have HINV:=zz hinv0;have HI:=zz hidx;clear hinv0 hidx hpref hall hx0 hpx0 hne hv;generalize hn:l.length=n at*
  have HN:=zz hn;clear hn;have hneg:(((i0:Nat):Int)== -1)=false:=by simp
  go_enter Tryz.func124,Tryz.ntmps124
  go_wp2_with(go_at_call 167;refine(indexWr_any g0 lb p l _ w base hbase (by rw [HN.out];exact hl) hrd heg (HP.out)).mono ?_;rw [HI.out,Nat.zero_add];rintro e w1 ⟨rfl,hb1⟩)
  have hinv1:=HINV.out w1 hb1;clear hrd HINV HI hb1
  go_loopg [5,6] (n - i0 - 1) (fun gn a b wr=>∃i j:Nat,j+gn=n∧a=.int .i64 i∧b=.int .i64 j∧i < j∧DelInv p l base g cap w wr i j)
  case atStart=>exact⟨i0,i0+1,by omega,rfl,by go_num,by omega,hinv1⟩
  case round=>
   clear hinv1;obtain⟨i,j,hj,rfl,rfl,hij,hinv⟩:=hrel;have HJ:=zz hj;clear hj
   by_cases hlt:j < n
   ·have hxj:l[j]? =some (l[j]'(by rw [HN.out];exact hlt)):=List.getElem?_eq_getElem _;generalize l[j]'(by rw [HN.out];exact hlt)=x at hxj;have HX:=zz hxj;clear hxj;obtain⟨L,hL,hown,htk,hdr,hbel⟩:=id hinv
    have hLj:L[j]? =some x:=by
     have:=congrArg (fun t:List WrD=>t[0]?) hdr;simp only [List.getElem?_drop,Nat.add_zero]at this;rw [this];exact HX.out
    have hrx:wr.rangeAt g (j*4) [.string x.id.a,.int .i64 x.id.n,.int .i64 x.clock,.string x.text]:=by
     have:=wrY.elem (ownsRow_rangeAt hown) j x hLj;rw [Nat.zero_add]at this;exact this
    have HD:=zz (And.intro hL (And.intro htk hdr));rw [HN.out]at hown;clear hL htk hdr hLj
    go_wp2_with(refine wpList_load_mid rfl 50 _ rfl g (j*4) rfl _ _ hrx Tryz.underlying50 rfl (by kernel_rfl) ?_)
    have hbA:=hbel.alloc (by have:=hbel.size;omega) (.cells (wrV x).toArray 50);have hOA:=hown.alloc (.cells (wrV x).toArray 50);clear hrx;refine(HP.out x _ hbA).mono ?_;rintro e w2 ⟨rfl,hb2⟩;have hbox2:w2.heap[wr.heap.size]? =some (.cells (wrV x).toArray 50 (0,0)):=(hb2.block _ (by simp)).trans (Go.heap_alloc_new wr _);have hown2:w2.ownsRow base 50 4 (.slice (some ⟨g,0,none⟩) n cap) n (wrY.flat L):=hOA.kept (row:=none) ⟨hb2.os,hb2.tape,hb2.output,hb2.size,fun k hk _=>hb2.block k hk⟩ (by right;simp [Value.ownBlock]);have hbel2:=hbA.trans (hb2.mono (by simp;have:=hbel.size;omega))
    cases hpx:p x with
    |true=>
     have HPX:=zz hpx;clear hpx;go_wp2;have hjj:=HJ.out
     go_roundg (n - 1 - j)
     case rel=>
      refine⟨i,j+1,by omega,rfl,by go_num,by omega,L,HD.out.1,by rw [HN.out];exact hown2,?_,?_,hbel2⟩
      ·have h1:=HD.out.2.1;rw [list_snoc l j x HX.out,List.filter_append,←h1];simp [HPX.out]
      ·have:=congrArg (List.drop 1) HD.out.2.2
       simpa [List.drop_drop,Nat.add_comm] using this
     case measure=>omega
    |false=>
     have HPX:=zz hpx;clear hpx;have hsz:(wrV x).toArray.size=4:=rfl;have hbox3:w2.heap[wr.heap.size]? =some (.cells #[.string x.id.a,.int .i64 x.id.n,.int .i64 x.clock,.string x.text] 50 (0,0)):=hbox2;have hI:(Tryz.prog.info? 50).map (·.size)=some (wrV x).toArray.size:=by rw [hsz];kernel_rfl
     have hOne:(wrV x).toArray.all (·.oneCell')=true:=by simp [wrV,Value.oneCell']
     have hLe:i*4+(wrV x).toArray.size≤n*4:=by rw [hsz];omega
     go_wp2_with(first
      |refine wpList_load_row rfl 50 _ rfl wr.heap.size rfl 50 _ (0,0) _ hbox3 Tryz.underlying50 rfl (by kernel_rfl) ?_
      |refine wpList_store_own rfl 50 (.tmp 33) (.tmp 32) rfl g (i*4) (wrV x).toArray rfl rfl base 50 4 n cap (wrY.flat L) hown2 hI hLe hOne ?_)
     intro w3 hown3 hg3;clear hbox2 hbox3 hI hOne hLe hown2 hOA hown;have hjj:=HJ.out;have hL:=HD.out.1
     have hown4:w3.ownsRow base 50 4 (.slice (some ⟨g,0,none⟩) n cap) n (wrY.flat (L.set i x)):=by
      rw [←wrY.flat_set L i x (by rw [hL,HN.out];omega),List.append_assoc];exact hown3
     have hbel3:Below base w w3:=hbel2.grown hg3 (Nat.le_trans hbase hbel2.size) (by intro k hk;simp at hk;omega);clear hown3 hg3 hsz;go_wp2
     go_roundg (n - 1 - j)
     case rel=>
      refine⟨i+1,j+1,by omega,by go_num,by go_num,by omega,L.set i x,by rw [List.length_set];exact hL,by rw [HN.out];exact hown4,?_,?_,hbel3⟩
      ·rw [del_take L l p i j x hL HX.out (by omega) HD.out.2.1,HPX.out];rfl
      ·rw [List.drop_set_of_lt (by omega)];have:=congrArg (List.drop 1) HD.out.2.2
       simpa [List.drop_drop,Nat.add_comm] using this
     case measure=>omega
   ·have hjj:=HJ.out;obtain rfl:j=n:=by omega
    clear HJ hjj hlt;obtain⟨L,hL,hown,htk,hdr,hbel⟩:=hinv;rw [HN.out]at hown;have HT:=zz htk;clear htk hdr;have hic:¬(cap=i):=by omega
    have hij':i < j:=hij;obtain⟨w9,hclr,hown9,hg9⟩:=run_clear_own (P:=Tryz.prog) (size:=4) (z:=.agg z50) 0 Tryz.underlying46 Tryz.zeroValue50 rfl (by simp [z50,Value.cells,Value.oneCell']) hown i (cap - i) hij;have hbel9:Below base w w9:=hbel.grown hg9 (Nat.le_trans hbase hbel.size) (by intro k hk;simp at hk;omega);have hcut:=ownsRow_cut hown9 i (by omega);have hlen:(wrY.flat L).length=j*4:=(wrY.flat_length L).trans (by rw [hL,HN.out];rfl)
    have e1:((wrY.flat L).take (i*4)++(Builtin.zeroCells z50 (j - i)).toList).take (i*4)=wrY.flat (L.take i):=by
     rw [List.take_append_of_le_length (by rw [List.length_take,hlen];omega),List.take_take,Nat.min_self];exact wrY.flat_take L i
    have e2:l.filter (fun x=>!p x)=L.take i:=by rw [HT.out,←HN.out,List.take_length]
    have e3:(L.take i).length=i:=by rw [List.length_take,hL,HN.out];omega
    have hfin:w9.ownsRow base 50 4 (.slice (some ⟨g,0,none⟩) i cap) (l.filter (fun x=>!p x)).length (wrY.flat (l.filter (fun x=>!p x))):=by
     rw [e2,e3,←e1];exact hcut
    have HFIN:=zz hfin;clear hfin e1 e2 e3 hlen hcut hown9 hg9 hown hbel hL;go_wp2;go_ret
    exact⟨_,rfl,HFIN.out,hbel9⟩
set_option maxRecDepth 100000 in
theorem cloneWr_any (l:List WrD) (v:Value) (w:World) (hl:l.length≤1000000) (hv:wrY.Rd w v l):
  Calls Tryz.prog 29 #[v] w fun e w'=>∃v',e=.returned v'∧w'.ownsRow w.heap.size 50 4 v' l.length (wrY.flat l)∧Below w.heap.size w w':=by
 obtain⟨i0,hi,hz0,hz1,hz2⟩:=info_parts info50;have hnil:∀(a:Option Addr) (n c:Nat),Sem.run Tryz.prog (binOp .eql 46 (.slice a n c) (.slice none 0 0)) w=.ok (.bool a.isNone) w:=fun a n c=>Lib.run_eql_slice_nil w 46 50 a n c 0 0 Tryz.underlying46
 rcases hv with⟨rfl,rfl⟩|⟨b,off,cap,rfl,hcap,hr⟩
 ·go_enter Tryz.func29,Tryz.ntmps29
  go_wp2;go_ret
  exact⟨_,rfl,World.ownsRow_nil _ _ _ _,Below.refl _ _⟩
 ·have HN:=hnil (some ⟨b,off,none⟩) l.length cap;clear hnil;have hown0:(w.alloc (.cells #[] 50)).ownsRow w.heap.size 50 4 (.slice (some ⟨w.heap.size,0,none⟩) 0 0) 0 []:=World.ownsRow_made w #[] 0 (Nat.le_refl _) (by decide) rfl;have hr2:=World.rangeAt_alloc hr (.cells #[] 50);go_enter Tryz.func29,Tryz.ntmps29
  go_wp2_with(at_builtin;refine wpList_append_own _ rfl _ _ 46 rfl w.heap.size 50 i0 (.agg z50) 4 48 Tryz.underlying46 hi hz0 hz1 hz2 rfl (by decide) (.slice (some ⟨w.heap.size,0,none⟩) 0 0) 0 [] rfl hown0 ⟨b,off,none⟩ l.length cap (wrY.flat l) rfl (wrY.flat_length l) ?c1 (wrY.flat_one l) ?c3 ?c4 ?c5 ?_)
  case c1=>intro j u hu;rw [Addr.add_mid];exact hr2 j u hu
  case c3=>unfold maxLen;omega
  case c4=>omega
  case c5=>simp
  intro v1 w1 hown1 hg1 _;have hb1:Below w.heap.size w w1:=((Below.refl _ _).alloc (Nat.le_refl _) _).grown hg1 (by simp) (by intro k hk;simp [Value.ownBlock]at hk;omega);clear hr hr2 hown0 HN hg1;go_wp2;go_ret
  exact⟨_,rfl,hown1,hb1⟩
structure EdD where
 id:IdD
 clock:Int
 floor:Int
 deps:SlV
 kind:Int
 node:IdD
 parent:IdD
 neg:Bool
 num:ByteArray
 den:ByteArray
 field:ByteArray
 value:ByteArray
 target:IdD
 who:ByteArray
def edV (e:EdD):List Value:= [.string e.id.a,.int .i64 e.id.n,.int .i64 e.clock,.int .i64 e.floor,.slice e.deps.a e.deps.len e.deps.cap,.int .i64 e.kind,.string e.node.a,.int .i64 e.node.n,.string e.parent.a,.int .i64 e.parent.n,
 .bool e.neg,.string e.num,.string e.den,.string e.field,.string e.value,.string e.target.a,.int .i64 e.target.n,.string e.who]
def edY:Lay EdD:=⟨18,edV,fun _=>rfl,by
 intro x u hu;simp only [edV,List.mem_cons,List.not_mem_nil,or_false]at hu
 rcases hu with rfl|rfl|rfl|rfl|rfl|rfl|rfl|rfl|rfl|rfl|rfl|rfl|rfl|rfl|rfl|rfl|rfl|rfl <;>rfl⟩
def eqS (a b:ByteArray):Bool:=a.toList==b.toList
def eqId (x y:IdD):Bool:=eqS x.a y.a&&(x.n==y.n)
theorem written1_any (m:WrD) (eb:Nat) (e:EdD) (ids:List IdD) (w:World) (he:w.heap[eb]? =some (.cells (edV e).toArray 45 (0,0))) (hd:idY.Rd w e.deps.v ids) (hl:ids.length≤1000000):
  Calls Tryz.prog 125 #[.agg (wrV m).toArray,.pointer (some ⟨eb,0,none⟩)] w fun e' w'=>e'=.returned (.bool (eqId m.id e.id||containsF ids m.id))∧Below w.heap.size w w':=by
 have hlt:=zl he;have k0:w.cell? ⟨eb,0,none⟩=some (.string e.id.a):=by rw [zc _ _ 0 _ _ _ he];rfl
 have k1:w.cell? ⟨eb,1,none⟩=some (.int .i64 e.id.n):=by rw [zc _ _ 1 _ _ _ he];rfl
 have k4:w.cell? ⟨eb,4,none⟩=some (.slice e.deps.a e.deps.len e.deps.cap):=by rw [zc _ _ 4 _ _ _ he];rfl
 have hb:Below w.heap.size w (w.alloc (.cells (wrV m).toArray 50)):=(Below.refl _ _).alloc (Nat.le_refl _) _;have HC:=zz (contains_any ids e.deps.v m.id (w.alloc (.cells (wrV m).toArray 50)) hl (hd.alloc _));clear he hd;unfold wrV at*
 cases hs:eqS m.id.a e.id.a with
 |false=>
  have hs':(m.id.a.toList==e.id.a.toList)=false:=hs;have HQ:=zz (show eqId m.id e.id=false by unfold eqId;rw [hs];rfl);clear hs;go_enter Tryz.func125,Tryz.ntmps125
  go_wp2_with fail
  refine(HC.out).mono ?_;rintro e' w1 ⟨rfl,hb1⟩;have HB1:=zz (hb.trans (hb1.mono (by simp)));clear hb hb1 k0 k1 k4;obtain⟨f,hf⟩:∃f,f=containsF ids m.id:=⟨_,rfl⟩;rw [←hf];have HF:=zz hf;clear hf;go_wp2;go_ret
  exact⟨by rw [HQ.out,←HF.out];rfl,HB1.out⟩
 |true=>
  have hs':(m.id.a.toList==e.id.a.toList)=true:=hs
  cases hn:(m.id.n==e.id.n)with
  |false=>
   have HQ:=zz (show eqId m.id e.id=false by unfold eqId;rw [hs,hn];rfl);clear hs;go_enter Tryz.func125,Tryz.ntmps125
   go_wp2_with fail
   refine(HC.out).mono ?_;rintro e' w1 ⟨rfl,hb1⟩;have HB1:=zz (hb.trans (hb1.mono (by simp)));clear hb hb1 k0 k1 k4;obtain⟨f,hf⟩:∃f,f=containsF ids m.id:=⟨_,rfl⟩;rw [←hf];have HF:=zz hf;clear hf;go_wp2;go_ret
   exact⟨by rw [HQ.out,←HF.out];rfl,HB1.out⟩
  |true=>
   have HQ:=zz (show eqId m.id e.id=true by unfold eqId;rw [hs,hn];rfl);clear hs HC;go_enter Tryz.func125,Tryz.ntmps125
   go_wp2;go_ret
   exact⟨by rw [HQ.out];rfl,hb⟩
set_option maxRecDepth 100000 in
theorem bsWr_any (l:List WrD) (v:Value) (t:WrD) (w:World) (hl:l.length≤1000000) (hv:wrY.Rd w v l):
  Calls Tryz.prog 126 #[v,.agg #[.string t.id.a,.int .i64 t.id.n,.int .i64 t.clock,.string t.text],.func (.func 127) #[] #[]] w fun e w'=>∃r:Nat,r=bs (fun x=>cmpWr x t) l 0 l.length∧r≤l.length∧e=.returned (.tuple #[.int .i64 r,.bool (found (fun x=>cmpWr x t) l r)])∧Below w.heap.size w w':=by
 obtain⟨a,n,c,rfl⟩:=hv.form;obtain rfl:=hv.len;have HV:=zz hv;clear hv;generalize hn:l.length=n at*
 have HN:=zz hn;clear hn;have hT0:=zg w (.cells #[.string t.id.a,.int .i64 t.id.n,.int .i64 t.clock,.string t.text] 50) w.heap.size rfl;have hb0:Below w.heap.size w (w.alloc (.cells #[.string t.id.a,.int .i64 t.id.n,.int .i64 t.clock,.string t.text] 50)):=(Below.refl _ _).alloc (Nat.le_refl _) _;go_enter Tryz.func126,Tryz.ntmps126
 go_wp2;generalize w.alloc (.cells #[.string t.id.a,.int .i64 t.id.n,.int .i64 t.clock,.string t.text] 50)=w0 at*
 generalize hp:w.heap.size=p at*
 have HP:=zz hp;clear hp
 go_loopg [9,10] n (fun gn t1 t2 wr=>∃i j:Nat,i+gn=j∧j≤n∧t1=.int .i64 i∧t2=.int .i64 j∧bs (fun x=>cmpWr x t) l i j=bs (fun x=>cmpWr x t) l 0 n∧Below p w wr∧wr.heap[p]? =some (.cells #[.string t.id.a,.int .i64 t.id.n,.int .i64 t.clock,.string t.text] 50 (0,0)))
 case atStart=>exact⟨0,n,by omega,Nat.le_refl _,rfl,rfl,rfl,hb0,hT0⟩
 case round=>
  clear hT0 hb0;obtain⟨i,j,hij,hjn,rfl,rfl,hbs,hbel0,hT⟩:=hrel;have HBS:=zz hbs;have HIJ:=zz hij;have HT:=zz hT;have hbel:Below w.heap.size w wr:=by rw [HP.out];exact hbel0
  have lp:=zl hT;have hps:p≤wr.heap.size:=Nat.le_of_lt lp;clear hbs hij hbel0;have t0:wr.cell? ⟨p,0,none⟩=some (.string t.id.a):=by rw [zc _ _ 0 _ _ _ hT];rfl
  have t1:wr.cell? ⟨p,1,none⟩=some (.int .i64 t.id.n):=by rw [zc _ _ 1 _ _ _ hT];rfl
  have t2:wr.cell? ⟨p,2,none⟩=some (.int .i64 t.clock):=by rw [zc _ _ 2 _ _ _ hT];rfl
  have t3:wr.cell? ⟨p,3,none⟩=some (.string t.text):=by rw [zc _ _ 3 _ _ _ hT];rfl
  clear hT
  by_cases hlt:i < j
  ·obtain⟨m,hm⟩:∃m,m=(i+j) / 2:=⟨_,rfl⟩;have hmj:m < j:=by omega
   have him:i≤m:=by omega
   have hx:l[m]? =some (l[m]'(by rw [HN.out];omega)):=List.getElem?_eq_getElem _;generalize l[m]'(by rw [HN.out];omega)=x at hx
   have hr:∃b off cap,a=some ⟨b,off,none⟩∧c=cap∧w.rangeAt b off (wrY.flat l):=by
    rcases HV.out with⟨h1,h2⟩|⟨b,off,cap,h1,h2,h3⟩
    ·rw [h2]at hx;cases hx
    ·simp at h1;exact⟨b,off,cap,h1.1,h1.2.2,h3⟩
   obtain⟨b,off,cap,rfl,rfl,hr⟩:=hr;have hrx:wr.rangeAt b (off+m*4) [.string x.id.a,.int .i64 x.id.n,.int .i64 x.clock,.string x.text]:=wrY.elem (rangeAt_below hr hbel) m x hx;have HX:=zz hx;have HM:=zz hm;clear hx hr;have hltZ:(i:Int) < (j:Int):=by omega
   have hmn:(m:Int) < (n:Int):=by omega
   have hmz:((i:Int)+j) / 2=(m:Int):=by omega
   have hu:IntKind.u64.wrap ((i:Int)+j)=(i:Int)+j:=by rw [IntKind.wrap_u64];omega
   have k0:wr.cell? ⟨b,off+m*4,none⟩=some (.string x.id.a):=hrx 0 _ rfl;have k1:wr.cell? ⟨b,off+m*4+1,none⟩=some (.int .i64 x.id.n):=hrx 1 _ rfl;have k2:wr.cell? ⟨b,off+m*4+2,none⟩=some (.int .i64 x.clock):=hrx 2 _ rfl;have k3:wr.cell? ⟨b,off+m*4+3,none⟩=some (.string x.text):=hrx 3 _ rfl;have lb:=block_lt_of_cell k0;clear hm hrx
   go_wp2_with fail
   go_region_held3 (fun w'=>w'.cell? ⟨b,off+m*4,none⟩=some (.string x.id.a)∧w'.cell? ⟨b,off+m*4+1,none⟩=some (.int .i64 x.id.n)∧w'.cell? ⟨b,off+m*4+2,none⟩=some (.int .i64 x.clock)∧w'.cell? ⟨b,off+m*4+3,none⟩=some (.string x.text)∧w'.cell? ⟨p,0,none⟩=some (.string t.id.a)∧w'.cell? ⟨p,1,none⟩=some (.int .i64 t.id.n)∧w'.cell? ⟨p,2,none⟩=some (.int .i64 t.clock)∧w'.cell? ⟨p,3,none⟩=some (.string t.text)) (first|go_keep|exact⟨(hb1.cell (p:=⟨b,off+m*4,none⟩) lb).trans k0,(hb1.cell (p:=⟨b,off+m*4+1,none⟩) lb).trans k1,(hb1.cell (p:=⟨b,off+m*4+2,none⟩) lb).trans k2,(hb1.cell (p:=⟨b,off+m*4+3,none⟩) lb).trans k3,(hb1.cell (p:=⟨p,0,none⟩) lp).trans t0,(hb1.cell (p:=⟨p,1,none⟩) lp).trans t1,(hb1.cell (p:=⟨p,2,none⟩) lp).trans t2,(hb1.cell (p:=⟨p,3,none⟩) lp).trans t3⟩)
    (first
     |(go_at_call 127;refine(compareMarks_any x t _).mono ?_;rintro e w1 ⟨rfl,hb1⟩))
   have hbel1:Below p w w1:=by rw [←HP.out];exact hbel.drew.trans (hb1.mono hbel.size)
   have hT1:=(hb1.block p lp).trans HT.out
   by_cases hc:cmpWr x t < 0
   ·have HB:=zz (bs_lt (c:=fun x:WrD=>cmpWr x t) hlt (by rw [←HM.out];exact HX.out) hc);clear hb1 hbel k0 t0 k1 t1 k2 t2 k3 t3 lb lp;go_wp2
    go_roundg (j - (m+1))
    case rel=>exact⟨m+1,j,by omega,hjn,by go_num,rfl,by rw [←HBS.out,HB.out,←HM.out],hbel1,hT1⟩
    case measure=>have:=HIJ.out;omega
   ·have HB:=zz (bs_ge (c:=fun x:WrD=>cmpWr x t) hlt (by rw [←HM.out];exact HX.out) hc);have hc2:0≤cmpWr x t:=by omega
    clear hb1 hbel k0 t0 k1 t1 k2 t2 k3 t3 lb lp;go_wp2
    go_roundg (m - i)
    case rel=>exact⟨i,m,by omega,by omega,rfl,rfl,by rw [←HBS.out,HB.out,←HM.out],hbel1,hT1⟩
    case measure=>have:=HIJ.out;omega
  ·have hr:i=bs (fun x=>cmpWr x t) l 0 n:=by rw [←HBS.out,bs_end hlt]
   have HR:=zz hr;clear hr;have hge:(j:Int)≤(i:Int):=by omega
   by_cases hin:i < n
   ·have hinZ:(i:Int) < (n:Int):=by omega
    have hx:l[i]? =some (l[i]'(by rw [HN.out];omega)):=List.getElem?_eq_getElem _;generalize l[i]'(by rw [HN.out];omega)=x at hx
    have hr:∃b off cap,a=some ⟨b,off,none⟩∧c=cap∧w.rangeAt b off (wrY.flat l):=by
     rcases HV.out with⟨h1,h2⟩|⟨b,off,cap,h1,h2,h3⟩
     ·rw [h2]at hx;cases hx
     ·simp at h1;exact⟨b,off,cap,h1.1,h1.2.2,h3⟩
    obtain⟨b,off,cap,rfl,rfl,hr⟩:=hr;have hrx:wr.rangeAt b (off+i*4) [.string x.id.a,.int .i64 x.id.n,.int .i64 x.clock,.string x.text]:=wrY.elem (rangeAt_below hr hbel) i x hx;have HX:=zz hx;clear hx hr;have k0:wr.cell? ⟨b,off+i*4,none⟩=some (.string x.id.a):=hrx 0 _ rfl;have k1:wr.cell? ⟨b,off+i*4+1,none⟩=some (.int .i64 x.id.n):=hrx 1 _ rfl;have k2:wr.cell? ⟨b,off+i*4+2,none⟩=some (.int .i64 x.clock):=hrx 2 _ rfl;have k3:wr.cell? ⟨b,off+i*4+3,none⟩=some (.string x.text):=hrx 3 _ rfl;have lb:=block_lt_of_cell k0;clear hrx
    go_wp2_with fail
    go_region_held3 (fun w'=>w'.cell? ⟨b,off+i*4,none⟩=some (.string x.id.a)∧w'.cell? ⟨b,off+i*4+1,none⟩=some (.int .i64 x.id.n)∧w'.cell? ⟨b,off+i*4+2,none⟩=some (.int .i64 x.clock)∧w'.cell? ⟨b,off+i*4+3,none⟩=some (.string x.text)∧w'.cell? ⟨p,0,none⟩=some (.string t.id.a)∧w'.cell? ⟨p,1,none⟩=some (.int .i64 t.id.n)∧w'.cell? ⟨p,2,none⟩=some (.int .i64 t.clock)∧w'.cell? ⟨p,3,none⟩=some (.string t.text)) (first|go_keep|exact⟨(hb1.cell (p:=⟨b,off+i*4,none⟩) lb).trans k0,(hb1.cell (p:=⟨b,off+i*4+1,none⟩) lb).trans k1,(hb1.cell (p:=⟨b,off+i*4+2,none⟩) lb).trans k2,(hb1.cell (p:=⟨b,off+i*4+3,none⟩) lb).trans k3,(hb1.cell (p:=⟨p,0,none⟩) lp).trans t0,(hb1.cell (p:=⟨p,1,none⟩) lp).trans t1,(hb1.cell (p:=⟨p,2,none⟩) lp).trans t2,(hb1.cell (p:=⟨p,3,none⟩) lp).trans t3⟩)
     (first
      |(go_at_call 127;refine(compareMarks_any x t _).mono ?_;rintro e w1 ⟨rfl,hb1⟩))
    all_goals go_wp2
    all_goals go_ret2
    all_goals exact⟨i,HR.out,by omega,by unfold found;rw [HX.out];rfl,by rw [HP.out];exact(by rw [←HP.out];exact hbel.drew.trans (hb1.mono hbel.size))⟩
   ·have hinZ:decide ((i:Int) < (n:Int))=false:=by simp;omega
    go_wp2_with fail
    go_quiet (fail)
    go_wp2
    go_ret2
    exact⟨i,HR.out,by have:=HIJ.out;omega,by unfold found;rw [List.getElem?_eq_none (by rw [HN.out];omega)];rfl,by rw [HP.out];rw [HP.out]at hbel;exact Below_drewN hbel _⟩
set_option maxRecDepth 100000 in
theorem bsReg_any (l:List RegD) (v:Value) (t:RegD) (w:World) (hl:l.length≤1000000) (hv:regY.Rd w v l):
  Calls Tryz.prog 77 #[v,.agg #[.string t.node.a,.int .i64 t.node.n,.string t.field,.slice t.w.a t.w.len t.w.cap],.func (.func 78) #[] #[]] w fun e w'=>∃r:Nat,r=bs (fun x=>cmpReg x t) l 0 l.length∧r≤l.length∧e=.returned (.tuple #[.int .i64 r,.bool (found (fun x=>cmpReg x t) l r)])∧Below w.heap.size w w':=by
 obtain⟨a,n,c,rfl⟩:=hv.form;obtain rfl:=hv.len;have HV:=zz hv;clear hv;generalize hn:l.length=n at*
 have HN:=zz hn;clear hn;have hT0:=zg w (.cells #[.string t.node.a,.int .i64 t.node.n,.string t.field,.slice t.w.a t.w.len t.w.cap] 48) w.heap.size rfl;have hb0:Below w.heap.size w (w.alloc (.cells #[.string t.node.a,.int .i64 t.node.n,.string t.field,.slice t.w.a t.w.len t.w.cap] 48)):=(Below.refl _ _).alloc (Nat.le_refl _) _;go_enter Tryz.func77,Tryz.ntmps77
 go_wp2;generalize w.alloc (.cells #[.string t.node.a,.int .i64 t.node.n,.string t.field,.slice t.w.a t.w.len t.w.cap] 48)=w0 at*
 generalize hp:w.heap.size=p at*
 have HP:=zz hp;clear hp
 go_loopg [9,10] n (fun gn t1 t2 wr=>∃i j:Nat,i+gn=j∧j≤n∧t1=.int .i64 i∧t2=.int .i64 j∧bs (fun x=>cmpReg x t) l i j=bs (fun x=>cmpReg x t) l 0 n∧Below p w wr∧wr.heap[p]? =some (.cells #[.string t.node.a,.int .i64 t.node.n,.string t.field,.slice t.w.a t.w.len t.w.cap] 48 (0,0)))
 case atStart=>exact⟨0,n,by omega,Nat.le_refl _,rfl,rfl,rfl,hb0,hT0⟩
 case round=>
  clear hT0 hb0;obtain⟨i,j,hij,hjn,rfl,rfl,hbs,hbel0,hT⟩:=hrel;have HBS:=zz hbs;have HIJ:=zz hij;have HT:=zz hT;have hbel:Below w.heap.size w wr:=by rw [HP.out];exact hbel0
  have lp:=zl hT;have hps:p≤wr.heap.size:=Nat.le_of_lt lp;clear hbs hij hbel0;have t0:wr.cell? ⟨p,0,none⟩=some (.string t.node.a):=by rw [zc _ _ 0 _ _ _ hT];rfl
  have t1:wr.cell? ⟨p,1,none⟩=some (.int .i64 t.node.n):=by rw [zc _ _ 1 _ _ _ hT];rfl
  have t2:wr.cell? ⟨p,2,none⟩=some (.string t.field):=by rw [zc _ _ 2 _ _ _ hT];rfl
  have t3:wr.cell? ⟨p,3,none⟩=some (.slice t.w.a t.w.len t.w.cap):=by rw [zc _ _ 3 _ _ _ hT];rfl
  clear hT
  by_cases hlt:i < j
  ·obtain⟨m,hm⟩:∃m,m=(i+j) / 2:=⟨_,rfl⟩;have hmj:m < j:=by omega
   have him:i≤m:=by omega
   have hx:l[m]? =some (l[m]'(by rw [HN.out];omega)):=List.getElem?_eq_getElem _;generalize l[m]'(by rw [HN.out];omega)=x at hx
   have hr:∃b off cap,a=some ⟨b,off,none⟩∧c=cap∧w.rangeAt b off (regY.flat l):=by
    rcases HV.out with⟨h1,h2⟩|⟨b,off,cap,h1,h2,h3⟩
    ·rw [h2]at hx;cases hx
    ·simp at h1;exact⟨b,off,cap,h1.1,h1.2.2,h3⟩
   obtain⟨b,off,cap,rfl,rfl,hr⟩:=hr;have hrx:wr.rangeAt b (off+m*4) [.string x.node.a,.int .i64 x.node.n,.string x.field,.slice x.w.a x.w.len x.w.cap]:=regY.elem (rangeAt_below hr hbel) m x hx;have HX:=zz hx;have HM:=zz hm;clear hx hr;have hltZ:(i:Int) < (j:Int):=by omega
   have hmn:(m:Int) < (n:Int):=by omega
   have hmz:((i:Int)+j) / 2=(m:Int):=by omega
   have hu:IntKind.u64.wrap ((i:Int)+j)=(i:Int)+j:=by rw [IntKind.wrap_u64];omega
   have k0:wr.cell? ⟨b,off+m*4,none⟩=some (.string x.node.a):=hrx 0 _ rfl;have k1:wr.cell? ⟨b,off+m*4+1,none⟩=some (.int .i64 x.node.n):=hrx 1 _ rfl;have k2:wr.cell? ⟨b,off+m*4+2,none⟩=some (.string x.field):=hrx 2 _ rfl;have k3:wr.cell? ⟨b,off+m*4+3,none⟩=some (.slice x.w.a x.w.len x.w.cap):=hrx 3 _ rfl;have lb:=block_lt_of_cell k0;clear hm hrx
   go_wp2_with fail
   go_region_held3 (fun w'=>w'.cell? ⟨b,off+m*4,none⟩=some (.string x.node.a)∧w'.cell? ⟨b,off+m*4+1,none⟩=some (.int .i64 x.node.n)∧w'.cell? ⟨b,off+m*4+2,none⟩=some (.string x.field)∧w'.cell? ⟨b,off+m*4+3,none⟩=some (.slice x.w.a x.w.len x.w.cap)∧w'.cell? ⟨p,0,none⟩=some (.string t.node.a)∧w'.cell? ⟨p,1,none⟩=some (.int .i64 t.node.n)∧w'.cell? ⟨p,2,none⟩=some (.string t.field)∧w'.cell? ⟨p,3,none⟩=some (.slice t.w.a t.w.len t.w.cap)) (first|go_keep|exact⟨(hb1.cell (p:=⟨b,off+m*4,none⟩) lb).trans k0,(hb1.cell (p:=⟨b,off+m*4+1,none⟩) lb).trans k1,(hb1.cell (p:=⟨b,off+m*4+2,none⟩) lb).trans k2,(hb1.cell (p:=⟨b,off+m*4+3,none⟩) lb).trans k3,(hb1.cell (p:=⟨p,0,none⟩) lp).trans t0,(hb1.cell (p:=⟨p,1,none⟩) lp).trans t1,(hb1.cell (p:=⟨p,2,none⟩) lp).trans t2,(hb1.cell (p:=⟨p,3,none⟩) lp).trans t3⟩)
    (first
     |(go_at_call 78;refine(compareRegs_any x t _).mono ?_;rintro e w1 ⟨rfl,hb1⟩))
   have hbel1:Below p w w1:=by rw [←HP.out];exact hbel.drew.trans (hb1.mono hbel.size)
   have hT1:=(hb1.block p lp).trans HT.out
   by_cases hc:cmpReg x t < 0
   ·have HB:=zz (bs_lt (c:=fun x:RegD=>cmpReg x t) hlt (by rw [←HM.out];exact HX.out) hc);clear hb1 hbel k0 t0 k1 t1 k2 t2 k3 t3 lb lp;go_wp2
    go_roundg (j - (m+1))
    case rel=>exact⟨m+1,j,by omega,hjn,by go_num,rfl,by rw [←HBS.out,HB.out,←HM.out],hbel1,hT1⟩
    case measure=>have:=HIJ.out;omega
   ·have HB:=zz (bs_ge (c:=fun x:RegD=>cmpReg x t) hlt (by rw [←HM.out];exact HX.out) hc);have hc2:0≤cmpReg x t:=by omega
    clear hb1 hbel k0 t0 k1 t1 k2 t2 k3 t3 lb lp;go_wp2
    go_roundg (m - i)
    case rel=>exact⟨i,m,by omega,by omega,rfl,rfl,by rw [←HBS.out,HB.out,←HM.out],hbel1,hT1⟩
    case measure=>have:=HIJ.out;omega
  ·have hr:i=bs (fun x=>cmpReg x t) l 0 n:=by rw [←HBS.out,bs_end hlt]
   have HR:=zz hr;clear hr;have hge:(j:Int)≤(i:Int):=by omega
   by_cases hin:i < n
   ·have hinZ:(i:Int) < (n:Int):=by omega
    have hx:l[i]? =some (l[i]'(by rw [HN.out];omega)):=List.getElem?_eq_getElem _;generalize l[i]'(by rw [HN.out];omega)=x at hx
    have hr:∃b off cap,a=some ⟨b,off,none⟩∧c=cap∧w.rangeAt b off (regY.flat l):=by
     rcases HV.out with⟨h1,h2⟩|⟨b,off,cap,h1,h2,h3⟩
     ·rw [h2]at hx;cases hx
     ·simp at h1;exact⟨b,off,cap,h1.1,h1.2.2,h3⟩
    obtain⟨b,off,cap,rfl,rfl,hr⟩:=hr;have hrx:wr.rangeAt b (off+i*4) [.string x.node.a,.int .i64 x.node.n,.string x.field,.slice x.w.a x.w.len x.w.cap]:=regY.elem (rangeAt_below hr hbel) i x hx;have HX:=zz hx;clear hx hr;have k0:wr.cell? ⟨b,off+i*4,none⟩=some (.string x.node.a):=hrx 0 _ rfl;have k1:wr.cell? ⟨b,off+i*4+1,none⟩=some (.int .i64 x.node.n):=hrx 1 _ rfl;have k2:wr.cell? ⟨b,off+i*4+2,none⟩=some (.string x.field):=hrx 2 _ rfl;have k3:wr.cell? ⟨b,off+i*4+3,none⟩=some (.slice x.w.a x.w.len x.w.cap):=hrx 3 _ rfl;have lb:=block_lt_of_cell k0;clear hrx
    go_wp2_with fail
    go_region_held3 (fun w'=>w'.cell? ⟨b,off+i*4,none⟩=some (.string x.node.a)∧w'.cell? ⟨b,off+i*4+1,none⟩=some (.int .i64 x.node.n)∧w'.cell? ⟨b,off+i*4+2,none⟩=some (.string x.field)∧w'.cell? ⟨b,off+i*4+3,none⟩=some (.slice x.w.a x.w.len x.w.cap)∧w'.cell? ⟨p,0,none⟩=some (.string t.node.a)∧w'.cell? ⟨p,1,none⟩=some (.int .i64 t.node.n)∧w'.cell? ⟨p,2,none⟩=some (.string t.field)∧w'.cell? ⟨p,3,none⟩=some (.slice t.w.a t.w.len t.w.cap)) (first|go_keep|exact⟨(hb1.cell (p:=⟨b,off+i*4,none⟩) lb).trans k0,(hb1.cell (p:=⟨b,off+i*4+1,none⟩) lb).trans k1,(hb1.cell (p:=⟨b,off+i*4+2,none⟩) lb).trans k2,(hb1.cell (p:=⟨b,off+i*4+3,none⟩) lb).trans k3,(hb1.cell (p:=⟨p,0,none⟩) lp).trans t0,(hb1.cell (p:=⟨p,1,none⟩) lp).trans t1,(hb1.cell (p:=⟨p,2,none⟩) lp).trans t2,(hb1.cell (p:=⟨p,3,none⟩) lp).trans t3⟩)
     (first
      |(go_at_call 78;refine(compareRegs_any x t _).mono ?_;rintro e w1 ⟨rfl,hb1⟩))
    all_goals go_wp2
    all_goals go_ret2
    all_goals exact⟨i,HR.out,by omega,by unfold found;rw [HX.out];rfl,by rw [HP.out];exact(by rw [←HP.out];exact hbel.drew.trans (hb1.mono hbel.size))⟩
   ·have hinZ:decide ((i:Int) < (n:Int))=false:=by simp;omega
    go_wp2_with fail
    go_quiet (fail)
    go_wp2
    go_ret2
    exact⟨i,HR.out,by have:=HIJ.out;omega,by unfold found;rw [List.getElem?_eq_none (by rw [HN.out];omega)];rfl,by rw [HP.out];rw [HP.out]at hbel;exact Below_drewN hbel _⟩
end Go.Proofs.YteigcnamkfebgaaGreatDoor
