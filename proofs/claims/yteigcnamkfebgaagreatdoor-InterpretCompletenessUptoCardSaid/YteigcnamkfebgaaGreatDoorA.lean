import Derived.WalkKit
import Derived.KernelRfl
import Derived.Lib.Hide
import Derived.Laws.AppendOwn
import Derived.Laws.CopyRow
import Derived.Deep.MidRow
import Derived.Deep.RegionHeld3
import Derived.Test.YteigcnamkfebgaaGreatDoorProg
import Derived.Deep.QuietTactic
import Derived.BigQuiet
import Derived.Deep.WholeRow
import Derived.Deep.RegionWith
import Derived.Deep.LoopGhost
import Derived.Lib.Strings
import Derived.Lib.Slices
import Derived.Lib.Walk
import Derived.Lib.Bytealg
import Derived.Lib.Small
import Derived.Laws.Cover1
set_option linter.all false
set_option maxHeartbeats 25600000
namespace Go.Proofs.YteigcnamkfebgaaGreatDoor
open Go.RowKit
theorem zz {p:Prop} (h:p):Go.RowKit.Hid p:=h
def zc:= @Go.cell_of_row
def zl:= @lt_of_block
section
variable {P:Program}
theorem run_store_own {w:World} {base:Nat} {e:TypeId} {size n cap g:Nat} {xs:List Value} (h:w.ownsRow base e size (.slice (some ⟨g,0,none⟩) n cap) n xs) (o:Nat) (vs:List Value) (ho:o+vs.length≤n*size) (h1:∀v∈vs,v.oneCell'=true):
  ∃w',(storeCells ⟨g,o,none⟩ vs).run P w=.ok () w'∧w'.ownsRow base e size (.slice (some ⟨g,0,none⟩) n cap) n (xs.take o++vs++xs.drop (o+vs.length))∧w.grownBy w' (some g):=by
 obtain⟨hx,h2⟩:=h
 rcases h2 with⟨h2,_⟩|⟨g',cap',cur,hv,hb,hg,hn,hm,hcs,htake⟩
 ·cases h2
 ·simp at hv;obtain⟨rfl,rfl⟩:=hv;have hle:n*size≤cur.size:=by rw [hcs];exact Nat.mul_le_mul_right _ hn
  have hr:=run_storeCells_at P g o e vs 0 cur w hg (by omega) h1;simp only [Nat.add_zero]at hr;refine⟨_,hr,⟨?_,.inr ⟨g,cap,_,rfl,hb,setRow_heap w g cur _ e _ hg,hn,hm,?_,?_⟩⟩,⟨rfl,rfl,rfl,by simp,fun k _ hk=>setRow_other w g k _ (fun e=>hk (by simp [e]))⟩⟩
  ·simp only [List.length_append,List.length_take,List.length_drop];omega
  ·simp only [List.size_toArray,List.length_append,List.length_take,List.length_drop,Array.length_toList];omega
  ·subst htake;have hl:cur.toList.length=cur.size:=Array.length_toList;apply List.ext_getElem?
   intro k;simp only [List.getElem?_take,List.getElem?_append,List.length_append,List.length_take,List.getElem?_drop,hl];have e1:min o cur.size=o:=by omega
   have e2:min o (min (n*size) cur.size)=o:=by omega
   simp only [e1,e2]
   by_cases hk:k < n*size
   ·rw [if_pos hk]
    by_cases hk1:k < o+vs.length
    ·rw [if_pos hk1,if_pos hk1]
     by_cases hk2:k < o
     ·rw [if_pos hk2,if_pos hk2,if_pos hk2,if_pos hk2,if_pos hk]
     ·rw [if_neg hk2,if_neg hk2]
    ·rw [if_neg hk1,if_neg hk1,if_pos (by omega)]
   ·rw [if_neg hk,if_neg (by omega),if_neg (by omega)]
theorem wpList_store_own {ops:Array Oper} {rest:List Oper} {o:Oper} {a:Act} {w:World} {Q:Exit→Act→World→Prop} (hgd:o.guard=none) (ty:TypeId) (x y:Operand) (ho:o.op=.store ty x y)
  (g off:Nat) (cells:Array Value) (hx:a.eval x=.pointer (some ⟨g,off,none⟩)) (hy:a.eval y=.agg cells)
  (base:Nat) (e:TypeId) (size n cap:Nat) (xs:List Value) (hown:w.ownsRow base e size (.slice (some ⟨g,0,none⟩) n cap) n xs) (hi:(P.info? ty).map (·.size)=some cells.size) (hle:off+cells.size≤n*size) (h1:cells.all (·.oneCell')=true)
  (h:∀w',w'.ownsRow base e size (.slice (some ⟨g,0,none⟩) n cap) n (xs.take off++cells.toList++xs.drop (off+cells.size))→w.grownBy w' (some g)→wpList P ops Q rest (a.put o.dst undef) w'):wpList P ops Q (o::rest) a w:=by
 refine wpList_plain hgd fun K hK=>?_
 obtain⟨w',hr,h2,h3⟩:=run_store_own (P:=P) hown off cells.toList (by simpa using hle) (fun v hv=>(Array.all_eq_true_iff_forall_mem.1 h1) v (by simpa using hv))
 have hs:(storeVar ty ⟨g,off,none⟩ (.agg cells)).run P w=.ok () w':=by
  cases hq:P.info? ty with
  |none=>simp [hq]at hi
  |some i=>
   have hs:cells.size=i.size:=by simp [hq]at hi;omega
   simp [storeVar,sizeOf,typeInfo,hq,Value.cells,hs,hr]
 unfold Oper.wp execOp;simp only [ho,hx,hy,Instr.storeAt,Instr.sureAddr,Sem.run_bind,Sem.run_pure,Result.andThen_ok,hs];refine hK _ _ (h w' ?_ h3);rw [Array.length_toList]at h2;exact h2
theorem run_clear_own {w:World} {base:Nat} {t e:TypeId} {size n cap g:Nat} {xs:List Value} {z:Value} (ty:TypeId) (ht:P.underlying t=some (.slice e)) (hz:∀w,(zeroValue e).run P w=.ok z w) (hzs:z.cells.size=size) (hz1:∀v∈z.cells,v.oneCell'=true)
  (h:w.ownsRow base e size (.slice (some ⟨g,0,none⟩) n cap) n xs) (k c:Nat) (hk:k < n):
  ∃w',(Builtin.clear_ #[t] ty #[.slice (some ⟨g,k*size,none⟩) (n - k) c]).run P w=.ok (.tuple #[]) w'∧w'.ownsRow base e size (.slice (some ⟨g,0,none⟩) n cap) n (xs.take (k*size)++(Builtin.zeroCells z.cells (n - k)).toList)∧w.grownBy w' (some g):=by
 have hl:(Builtin.zeroCells z.cells (n - k)).toList.length=(n - k)*size:=by rw [Array.length_toList,size_zeroCells,hzs]
 have hmul:k*size+(n - k)*size=n*size:=by rw [←Nat.add_mul];congr 1;omega
 obtain⟨w',hr,h2,h3⟩:=run_store_own (P:=P) h (k*size) (Builtin.zeroCells z.cells (n - k)).toList (by rw [hl,hmul];exact Nat.le_refl _) (fun v hv=>by
  have hv':v∈Builtin.zeroCells z.cells (n - k):=by simpa using hv
  simp [Builtin.zeroCells]at hv';obtain⟨q,hq,rfl⟩:=hv'
  have hp:0 < z.cells.size:=by
   rcases Nat.eq_zero_or_pos z.cells.size with h0|h0
   ·rw [h0]at hq;omega
   ·exact h0
  have hm:q%z.cells.size < z.cells.size:=Nat.mod_lt _ hp;rw [getElem!_pos z.cells _ hm]
  exact hz1 _ (Array.getElem_mem hm))
 refine⟨w',?_,?_,h3⟩
 ·obtain⟨m,hm⟩:∃m,n - k=m+1:=⟨n - k - 1,by omega⟩;rw [hm]at hr⊢;simp [Builtin.clear_,run_underlying ht,hz,hr]
 ·rw [hl,hmul,List.drop_of_length_le (by rw [h.1];exact Nat.le_refl _),List.append_nil]at h2;exact h2
end
section
variable {P:Program} (w:World)
theorem run_append_src (base:Nat) (t ty e:TypeId) (i:TypeInfo) (z:Value) (size bytes:Nat) (ht:P.underlying t=some (.slice e)) (hi:P.info? e=some i) (hz:i.zero=some z)
  (hsize:i.size=size) (hby:i.bytes=bytes) (hzs:z.cells.size=size) (hsz:0 < size)
  (v:Value) (n:Nat) (xs:List Value) (hown:w.ownsRow base e size v n xs)
  (ao:Option Addr) (m c:Nat) (news:List Value) (hl:news.length=m*size) (hnews:0 < m→∃ad,ao=some ad∧∀j u,news[j]? =some u→w.cell? (ad.add j)=some u) (h1:∀u∈news,u.oneCell'=true)
  (h63:n+m≤maxLen) (hbytes:(n+m)*bytes≤140737488355328) (hbase:base≤w.heap.size):
  ∃v' w',(Builtin.append_ #[t,t] ty #[v,.slice ao m c]).run P w=.ok v' w'∧w'.ownsRow base e size v' (n+m) (xs++news)∧w.grownBy w' v.ownBlock:=by
 by_cases hm:0 < m
 ·obtain⟨ad,rfl,hn⟩:=hnews hm;obtain⟨v',w',h1,h2,h3,_⟩:=run_append_own (P:=P) w base t ty e i z size bytes ht hi hz hsize hby hzs hsz v n xs hown ad m c news hl hn h1 h63 hbytes hbase;exact⟨v',w',h1,h2,h3⟩
 ·obtain rfl:m=0:=by omega
  have hn:news= []:=List.eq_nil_of_length_eq_zero (by simpa using hl);subst hn;refine⟨v,w,?_,by simpa using hown,⟨rfl,rfl,rfl,Nat.le_refl _,fun _ _ _=>rfl⟩⟩
  have hf:(Builtin.firstCells i.size 0 (.slice ao 0 c)).run P w=.ok #[] w:=by
   cases ao with
   |none=>simp [Builtin.firstCells]
   |some ad=>simp [Builtin.firstCells,loadCells,loadCellsFrom]
  rcases hown.2 with⟨rfl,rfl⟩|⟨g,cap,cur,rfl,_,_,hc,_⟩
  ·simp [Builtin.append_,run_underlying ht,sizeOf,typeInfo,hi,Builtin.lenOf,hf]
  ·simp [Builtin.append_,run_underlying ht,sizeOf,typeInfo,hi,Builtin.lenOf,hf,hc,storeCells]
theorem step_append_src {ops:Array Oper} {o:Oper} {a:Act} {K:Act→World→Prop} {Q:Exit→Act→World→Prop} {E:Prop} (hgd:o.guard=none) (s x:Operand) (t:TypeId)
  (ho:o.op=.call {callee:=.builtin .append,args:=#[s,x],argTypes:=#[t,t]})
  (base:Nat) (e:TypeId) (i:TypeInfo) (z:Value) (size bytes:Nat) (ht:P.underlying t=some (.slice e)) (hi:P.info? e=some i) (hz:i.zero=some z)
  (hsize:i.size=size) (hby:i.bytes=bytes) (hzs:z.cells.size=size) (hsz:0 < size)
  (v:Value) (n:Nat) (xs:List Value) (hs:a.eval s=v) (hown:w.ownsRow base e size v n xs)
  (ao:Option Addr) (m c:Nat) (news:List Value) (hx:a.eval x=.slice ao m c) (hl:news.length=m*size) (hnews:0 < m→∃ad,ao=some ad∧∀j u,news[j]? =some u→w.cell? (ad.add j)=some u) (h1:∀u∈news,u.oneCell'=true)
  (h63:n+m≤maxLen) (hbytes:(n+m)*bytes≤140737488355328) (hbase:base≤w.heap.size)
  (h:∀v' w',w'.ownsRow base e size v' (n+m) (xs++news)→w.grownBy w' v.ownBlock→K (a.put o.dst v') w'):
  if Region.wanted o (yielded ops a.tmps)=true then Oper.wp P o a w K Q else E:=by
 have hw:Region.wanted o (yielded ops a.tmps)=true:=by simp [Region.wanted,hgd]
 rw [if_pos hw];obtain⟨v',w',hr,h2,h3⟩:=run_append_src (P:=P) w base t o.type e i z size bytes ht hi hz hsize hby hzs hsz v n xs hown ao m c news hl hnews h1 h63 hbytes hbase;unfold Oper.wp execOp;simp only [ho,resolve,invoke,builtin,Sem.run_bind,Sem.run_pure,Result.andThen_ok,List.map_toArray,List.map_cons,List.map_nil,hs,hx,hr];exact h v' w' h2 h3
end
theorem rangeAt_below {w w':World} {b o:Nat} {cs:List Value} (h:w.rangeAt b o cs) (hb:Below w.heap.size w w'):w'.rangeAt b o cs:=fun j v hj=>by
 have h1:=h j v hj;exact(hb.cell (p:=⟨b,o+j,none⟩) (World.block_lt_of_cell? w _ h1)).trans h1
theorem ownsRow_cut {w:World} {base:Nat} {e:TypeId} {size n cap g:Nat} {xs:List Value} (h:w.ownsRow base e size (.slice (some ⟨g,0,none⟩) n cap) n xs) (i:Nat) (hi:i≤n):
  w.ownsRow base e size (.slice (some ⟨g,0,none⟩) i cap) i (xs.take (i*size)):=by
 obtain⟨hx,h2⟩:=h;have him:i*size≤n*size:=Nat.mul_le_mul_right _ hi
 rcases h2 with⟨h2,_⟩|⟨g',cap',cur,hv,hb,hg,hn,hm,hcs,htake⟩
 ·cases h2
 ·simp at hv;obtain⟨rfl,rfl⟩:=hv;refine⟨by rw [List.length_take,hx];omega,.inr ⟨g,cap,cur,rfl,hb,hg,by omega,hm,hcs,?_⟩⟩;rw [←htake,List.take_take,Nat.min_eq_left him]
theorem ownsRow_rangeAt {w:World} {base:Nat} {e:TypeId} {size n cap g:Nat} {xs:List Value} (h:w.ownsRow base e size (.slice (some ⟨g,0,none⟩) n cap) n xs):w.rangeAt g 0 xs:=fun j v hj=>by
 have:=h.cells (g:=g) rfl j v hj;have hadd:(⟨g,0,none⟩:Addr).add j=⟨g,0+j,none⟩:=by unfold Addr.add;split <;>simp_all
 rw [hadd]at this;exact this
structure Lay (E:Type) where
 k:Nat
 V:E→List Value
 len:∀x,(V x).length=k
 one:∀x,∀u∈V x,u.oneCell'=true
section
variable {E:Type} (Y:Lay E)
def Lay.flat (l:List E):List Value:=l.flatMap Y.V
theorem Lay.flat_cons (x:E) (l:List E):Y.flat (x::l)=Y.V x++Y.flat l:=rfl
theorem Lay.flat_append (l m:List E):Y.flat (l++m)=Y.flat l++Y.flat m:=by simp [Lay.flat]
theorem Lay.flat_length (l:List E):(Y.flat l).length=l.length*Y.k:=by
 induction l with
 |nil=>simp [Lay.flat]
 |cons x l ih=>rw [Y.flat_cons,List.length_append,ih,Y.len,List.length_cons,Nat.add_mul,Nat.one_mul,Nat.add_comm]
theorem Lay.flat_get (l:List E):∀(i j:Nat) (x:E),l[i]? =some x→j < Y.k→(Y.flat l)[i*Y.k+j]? =(Y.V x)[j]?:=by
 induction l with
 |nil=>intro i j x h;simp at h
 |cons y l ih=>
  intro i j x h hj
  cases i with
  |zero=>
   simp at h;subst h;rw [Y.flat_cons,List.getElem?_append_left (by rw [Y.len];omega)];simp
  |succ i=>
   simp at h;rw [Y.flat_cons,List.getElem?_append_right (by rw [Y.len,Nat.add_mul];omega),Y.len,show(i+1)*Y.k+j - Y.k=i*Y.k+j by rw [Nat.add_mul];omega];exact ih i j x h hj
theorem Lay.flat_one (l:List E):∀u∈Y.flat l,u.oneCell'=true:=by
 intro u hu;simp only [Lay.flat,List.mem_flatMap]at hu;obtain⟨x,_,hu⟩:=hu;exact Y.one x u hu
theorem Lay.flat_set (L:List E) (i:Nat) (x:E) (hi:i < L.length):(Y.flat L).take (i*Y.k)++Y.V x++(Y.flat L).drop (i*Y.k+Y.k)=Y.flat (L.set i x):=by
 induction L generalizing i with
 |nil=>simp at hi
 |cons y r ih=>
  cases i with
  |zero=>
   rw [List.set_cons_zero,Y.flat_cons,Y.flat_cons,Nat.zero_mul,List.take_zero,Nat.zero_add,List.drop_append,List.drop_of_length_le (by rw [Y.len];omega),Y.len];simp
  |succ i=>
   have h:=ih i (by simpa using hi);rw [List.set_cons_succ,Y.flat_cons,Y.flat_cons,←h,Nat.add_mul,Nat.one_mul];rw [List.take_append,List.take_of_length_le (by rw [Y.len];omega),Y.len,List.drop_append,List.drop_of_length_le (by rw [Y.len];omega),Y.len];rw [show i*Y.k+Y.k - Y.k=i*Y.k by omega,show i*Y.k+Y.k+Y.k - Y.k=i*Y.k+Y.k by omega];simp
theorem Lay.flat_take (L:List E) (i:Nat):(Y.flat L).take (i*Y.k)=Y.flat (L.take i):=by
 induction L generalizing i with
 |nil=>simp [Lay.flat]
 |cons y r ih=>
  cases i with
  |zero=>simp [Lay.flat]
  |succ i=>
   rw [List.take_succ_cons,Y.flat_cons,Y.flat_cons,Nat.add_mul,Nat.one_mul,List.take_append,List.take_of_length_le (by rw [Y.len];omega),Y.len,show i*Y.k+Y.k - Y.k=i*Y.k by omega,ih]
def Lay.Rd (w:World) (v:Value) (l:List E):Prop:=
 (v=.slice none 0 0∧l= [])∨∃b off cap,v=.slice (some ⟨b,off,none⟩) l.length cap∧l.length≤cap∧w.rangeAt b off (Y.flat l)
theorem Lay.Rd.below {Y:Lay E} {w w':World} {v:Value} {l:List E} (h:Y.Rd w v l) (hb:Below w.heap.size w w'):Y.Rd w' v l:=by
 rcases h with h|⟨b,off,cap,h1,h2,h3⟩
 ·exact .inl h
 ·exact .inr ⟨b,off,cap,h1,h2,rangeAt_below h3 hb⟩
theorem Lay.Rd.alloc {Y:Lay E} {w:World} {v:Value} {l:List E} (h:Y.Rd w v l) (o:Obj):Y.Rd (w.alloc o) v l:=h.below ((Below.refl _ _).alloc (Nat.le_refl _) o)
theorem Lay.Rd.drew {Y:Lay E} {w:World} {v:Value} {l:List E} (h:Y.Rd w v l):Y.Rd w.drew v l:=h.below (Below.refl _ _).drew
theorem Lay.Rd.form {Y:Lay E} {w:World} {v:Value} {l:List E} (h:Y.Rd w v l):∃a n c,v=.slice a n c:=by
 rcases h with⟨rfl,_⟩|⟨b,off,cap,rfl,_⟩
 ·exact⟨_,_,_,rfl⟩
 ·exact⟨_,_,_,rfl⟩
theorem Lay.Rd.len {Y:Lay E} {w:World} {a:Option Addr} {n c:Nat} {l:List E} (h:Y.Rd w (.slice a n c) l):n=l.length:=by
 rcases h with⟨h1,h2⟩|⟨b,off,cap,h1,_⟩
 ·simp at h1;rw [h2];exact h1.2.1
 ·simp at h1;exact h1.2.1
theorem Lay.elem {w:World} {b off:Nat} {l:List E} (h:w.rangeAt b off (Y.flat l)) (i:Nat) (x:E) (hx:l[i]? =some x):w.rangeAt b (off+i*Y.k) (Y.V x):=fun j v hj=>by
 have hjk:j < Y.k:=by
  have:=(List.getElem?_eq_some_iff.1 hj).1;rw [Y.len]at this;exact this
 rw [Nat.add_assoc];exact h (i*Y.k+j) v (by rw [Y.flat_get l i j x hx hjk];exact hj)
theorem Lay.Rd.of_owns {Y:Lay E} {w:World} {base:Nat} {e:TypeId} {v:Value} {l:List E} (h:w.ownsRow base e Y.k v l.length (Y.flat l)):Y.Rd w v l:=by
 rcases h.2 with⟨h1,h2⟩|⟨g,cap,cur,h1,_,_,h4,_⟩
 ·exact .inl ⟨h1,List.length_eq_zero_iff.1 h2⟩
 ·subst h1;exact .inr ⟨g,0,cap,rfl,h4,ownsRow_rangeAt h⟩
end
theorem below_none {w w':World} (hb:Below w.heap.size w w'):w.grownBy w' none:=⟨hb.os,hb.tape,hb.output,hb.size,fun i hi _=>hb.block i hi⟩
theorem ownsRow_below {w w':World} {base n size:Nat} {e:TypeId} {v:Value} {xs:List Value} (h:w.ownsRow base e size v n xs) (hb:Below w.heap.size w w'):w'.ownsRow base e size v n xs:=
 h.kept (row:=none) (below_none hb) (by cases v.ownBlock <;>simp)
theorem list_snoc {E:Type} (l:List E) (j:Nat) (x:E) (h:l[j]? =some x):l.take (j+1)=l.take j++ [x]:=by
 obtain⟨h1,h2⟩:=List.getElem?_eq_some_iff.1 h;rw [List.take_succ_eq_append_getElem h1,h2]
def idxL {E:Type} (p:E→Bool):List E→Nat→Int
 | [],_=> -1
 |x::r,k=>if p x then(k:Int)else idxL p r (k+1)
theorem idxL_skip {E:Type} (p:E→Bool) (l:List E):∀(n k:Nat),(∀i x,i < n→l[i]? =some x→p x=false)→n≤l.length→idxL p l k=idxL p (l.drop n) (k+n):=by
 induction l with
 |nil=>intro n k _ h;simp at h;subst h;rfl
 |cons y r ih=>
  intro n k h hn
  cases n with
  |zero=>rfl
  |succ n=>
   have h0:=h 0 y (by omega) rfl;simp only [idxL,h0,List.drop_succ_cons];rw [if_neg (by simp),ih n (k+1) (fun i x hi hx=>h (i+1) x (by omega) (by simpa using hx)) (by simpa using hn)]
   congr 1;omega
theorem idxL_spec {E:Type} (p:E→Bool) (l:List E):∀k:Nat,(idxL p l k= -1∧∀x∈l,p x=false)∨∃i x,idxL p l k=((k+i:Nat):Int)∧l[i]? =some x∧p x=true∧∀y∈l.take i,p y=false:=by
 induction l with
 |nil=>intro k;left;exact⟨rfl,by simp⟩
 |cons y r ih=>
  intro k
  cases hy:p y with
  |true=>right;exact⟨0,y,by simp [idxL,hy],rfl,hy,by simp⟩
  |false=>
   rcases ih (k+1)with⟨h1,h2⟩|⟨i,x,h1,h2,h3,h4⟩
   ·left
    refine⟨by simp [idxL,hy,h1],?_⟩;intro x hx
    rcases List.mem_cons.1 hx with rfl|hx
    ·exact hy
    ·exact h2 x hx
   ·right
    refine⟨i+1,x,by simp only [idxL,hy];rw [if_neg (by simp),h1];congr 1;omega,by simpa using h2,h3,?_⟩;intro z hz
    rcases List.mem_cons.1 (by simpa using hz)with rfl|hz
    ·exact hy
    ·exact h4 z hz
def bsearch {E:Type} (c:E→Int) (l:List E):Nat→Nat→Nat→Nat
 |0,i,_=>i
 |f+1,i,j=>if i < j then(match l[(i+j) / 2]? with|some x=>if c x < 0 then bsearch c l f ((i+j) / 2+1) j else bsearch c l f i ((i+j) / 2)|none=>i)else i
/-! a drawn region,an operation a line -/
section
variable {P:Program} {ops:Array Oper} {Q:Exit→Act→World→Prop} {md:Region.Mode} {S:World→Prop} {fuel:Nat} {listed:Array Bool} {a:Act} {w:World}
theorem tk (i:Nat) (v:Value) {o:Oper} (hi:ops[i]? =some o) (hS:S w) (h:wpAnyH P md ops Q S fuel (listed.setIfInBounds i true) (a.put o.dst v) w) (hc:(Region.wanted o (yielded ops a.tmps)&&(Region.noSelect ops&&(Region.free md ops listed i&&(Region.ready md ops listed).contains i)))=true:=by kernel_rfl)
  (hq:∀c a w,Q (.panic c) (a.put o.dst v) w→Q (.panic c) a w:=by exact fun _ _ _ h=>h) (hy:∀w,S w→(execOp a.eval o).run P w=.ok (.value v) w:=by intro _ s;(try dsimp only at s);go_simp):wpAnyH P md ops Q S (fuel+1) listed a w:=by
 simp only [Bool.and_eq_true]at hc;exact wpAnyH_take hi hc.2.1 hc.2.2.1 hc.2.2.2 hq (.inl ⟨hc.1,hy⟩) hS h
theorem tu (i:Nat) {o:Oper} (hi:ops[i]? =some o) (hS:S w) (h:wpAnyH P md ops Q S fuel (listed.setIfInBounds i true) (a.put o.dst undef) w) (hc:(!(Region.wanted o (yielded ops a.tmps))&&(Region.noSelect ops&&(Region.free md ops listed i&&(Region.ready md ops listed).contains i)))=true:=by kernel_rfl)
  (hq:∀c a w,Q (.panic c) (a.put o.dst undef) w→Q (.panic c) a w:=by exact fun _ _ _ h=>h):wpAnyH P md ops Q S (fuel+1) listed a w:=by
 simp only [Bool.and_eq_true,Bool.not_eq_true']at hc;exact wpAnyH_take hi hc.2.1 hc.2.2.1 hc.2.2.2 hq (.inr ⟨hc.1,rfl⟩) hS h
theorem rd (i:Nat) {o:Oper} (ho:ops[i]? =some o) (h:∀K':Act→World→Prop,Shut (∀a w,S w→(S w→wpAnyH P md ops Q S fuel (listed.setIfInBounds i true) a w)→K' a w)→if Region.wanted o (yielded ops a.tmps)=true then Oper.wp P o a w K' Q else K' (a.put o.dst undef) w) (hr:Region.ready md ops listed= [i]:=by kernel_rfl):wpAnyH P md ops Q S (fuel+1) listed a w:=
 wpAnyH_ready hr (by simp) (AllReadyH.cons ho h AllReadyH.nil)
end
theorem PU:(∀(l:List Oper) (i:Nat) (h:i < l.toArray.size),l.toArray[i]'h=l[i]'(by simpa using h))∧(∀(a:Oper) (l:List Oper) (i:Nat) (h:i+1 < (a::l).length),(a::l)[i+1]'h=l[i]'(by simpa using h))∧(∀(a:Oper) (l:List Oper) (h:0 < (a::l).length),(a::l)[0]'h=a)∧
  (∀(a:Act) (d:Tmp) (v:Value),a.put (some d) v= {tmps:=a.tmps.setIfInBounds d v,defers:=a.defers})∧(∀(a:Act) (v:Value),a.put none v=a)∧
  (∀(l:List Value) (i:Nat) (a:Value),l.toArray.setIfInBounds i a=(l.set i a).toArray)∧(∀(x a:Value) (l:List Value),(x::l).set 0 a=a::l)∧(∀(x a:Value) (l:List Value) (i:Nat),(x::l).set (i+1) a=x::l.set i a)∧
  (∀(l:List Bool) (i:Nat) (a:Bool),l.toArray.setIfInBounds i a=(l.set i a).toArray)∧(∀(x a:Bool) (l:List Bool),(x::l).set 0 a=a::l)∧(∀(x a:Bool) (l:List Bool) (i:Nat),(x::l).set (i+1) a=x::l.set i a):=
 ⟨fun _ _ _=>by simp,fun _ _ _ _=>rfl,fun _ _ _=>rfl,fun _ _ _=>rfl,fun _ _=>rfl,fun _ _ _=>by simp,fun _ _ _=>rfl,fun _ _ _ _=>rfl,fun _ _ _=>by simp,fun _ _ _=>rfl,fun _ _ _ _=>rfl⟩
theorem zg (w:World) (o:Obj) (k:Nat) (h:k=w.heap.size):(w.alloc o).heap[k]? =some o:=by subst h;exact Go.heap_alloc_new w o
theorem zo (w:World) (o o':Obj) (k:Nat) (h:w.heap[k]? =some o):(w.alloc o').heap[k]? =some o:=(Below.heap_alloc w o' k (zl h)).trans h
theorem box2 {w:World} {o o':Obj}:((w.alloc o).alloc o').heap[w.heap.size]? =some o∧((w.alloc o).alloc o').heap[w.heap.size+1]? =some o':=
 ⟨zo _ _ _ _ (zg _ _ _ rfl),zg _ _ _ (by simp)⟩
theorem below2 (w:World) (o o':Obj):Below w.heap.size w ((w.alloc o).alloc o'):=((Below.refl _ _).alloc (Nat.le_refl _) _).alloc (by simp) _
theorem arr2 (W:World) (x y:Int):(W.alloc (.cells #[.int .i64 x,.int .i64 y] 3)).cell? ⟨W.heap.size,0,none⟩=some (.int .i64 x)∧(W.alloc (.cells #[.int .i64 x,.int .i64 y] 3)).cell? ⟨W.heap.size,1,none⟩=some (.int .i64 y):=by
 refine⟨?_,?_⟩
 ·rw [zc _ _ 0 _ _ _ (zg _ _ _ rfl)];rfl
 ·rw [zc _ _ 1 _ _ _ (zg _ _ _ rfl)];rfl
def cmpS (a b:ByteArray):Int:=Lib.compareBytes a.data.toList b.data.toList
def or2 (x y:Int):Int:=if x=0 then y else x
set_option maxRecDepth 100000 in
theorem cmpstr_any (a b:ByteArray) (w:World):Calls Tryz.prog 61 #[.string a,.string b] w fun e w'=>e=.returned (.int .i64 (cmpS a b))∧w=w':=by
 go_enter Tryz.func61,Tryz.ntmps61
 go_wp2;rw [run_callFunc_extern Tryz.func105 (by kernel_rfl) (by kernel_rfl) (by kernel_rfl) (e:=Extern.BytealgCompare.compare) (by kernel_rfl),Lib.run_compareString];simp only [Result.andThen];rw [Oper.upon_value];go_wp2;go_ret
 exact⟨rfl,rfl⟩
theorem strcmp_any (a b:ByteArray) (w:World):Calls Tryz.prog 32 #[.string a,.string b] w fun e w'=>e=.returned (.int .i64 (cmpS a b))∧w=w':=by
 go_enter Tryz.func32,Tryz.ntmps32
 go_wp2_with(go_at_call 61;refine(cmpstr_any _ _ _).mono ?_;rintro e w' ⟨rfl,rfl⟩)
 go_ret
 exact⟨rfl,rfl⟩
theorem intcmp_any (x y:Int) (w:World):Calls Tryz.prog 120 #[.int .i64 x,.int .i64 y] w fun e w'=>e=.returned (.int .i64 (Lib.compareInt x y))∧w=w':=by
 go_enter Tryz.func120,Tryz.ntmps120
 go_wp2
 all_goals (go_ret;refine⟨?_,rfl⟩;unfold Lib.compareInt;(repeat' split) <;>first|rfl|(exfalso;omega))
theorem or2_any (x y:Int) (b cap:Nat) (w:World) (c0:w.cell? ⟨b,0,none⟩=some (.int .i64 x)) (c1:w.cell? ⟨b,1,none⟩=some (.int .i64 y)):
  Calls Tryz.prog 118 #[.slice (some ⟨b,0,none⟩) 2 cap] w fun e w'=>e=.returned (.int .i64 (or2 x y))∧w=w':=by
 go_enter Tryz.func118,Tryz.ntmps118
 go_wp2
 go_loopg [8] 2 (fun gn t wr=>∃k:Nat,k+gn=2∧t=.int .i64 k∧(1≤k→x=0)∧(2≤k→y=0)∧wr=w)
 case atStart=>exact⟨0,rfl,rfl,fun h=>absurd h (by omega),fun h=>absurd h (by omega),rfl⟩
 case round=>
  obtain⟨k,hk,rfl,hx,hy,rfl⟩:=hrel;have HX:=zz hx;have HY:=zz hy;clear hx hy
  rcases(show k=0∨k=1∨k=2 by omega)with rfl|rfl|rfl
  ·by_cases hx:x=0
   ·have hx2:(x !=0)=false:=by simp [hx]
    have HX0:=zz hx;clear hx;go_wp2
    go_roundg 1
    case rel=>exact⟨1,rfl,by go_num,fun _=>HX0.out,fun h=>absurd h (by omega),rfl⟩
    case measure=>omega
   ·have hx2:(x !=0)=true:=by simp [hx]
    have HX0:=zz hx;clear hx;go_wp2;go_ret
    exact⟨by unfold or2;rw [if_neg HX0.out];rfl,rfl⟩
  ·by_cases hy:y=0
   ·have hy2:(y !=0)=false:=by simp [hy]
    have HY0:=zz hy;clear hy;go_wp2
    go_roundg 0
    case rel=>exact⟨2,rfl,by go_num,fun _=>HX.out (by omega),fun _=>HY0.out,rfl⟩
    case measure=>omega
   ·have hy2:(y !=0)=true:=by simp [hy]
    have HY0:=zz hy;clear hy;go_wp2;go_ret
    exact⟨by unfold or2;rw [if_pos (HX.out (by omega))];rfl,rfl⟩
  ·go_wp2;go_ret
   exact⟨by unfold or2;rw [if_pos (HX.out (by omega)),HY.out (by omega)];rfl,rfl⟩
structure IdD where
 a:ByteArray
 n:Int
def idV (x:IdD):List Value:= [.string x.a,.int .i64 x.n]
def idY:Lay IdD:=⟨2,idV,fun _=>rfl,by intro x u hu;simp [idV]at hu;rcases hu with rfl|rfl <;>rfl⟩
def cmpId (a b:IdD):Int:=or2 (cmpS a.a b.a) (Lib.compareInt a.n b.n)
theorem compareIds_any (x y:IdD) (w:World):Calls Tryz.prog 121 #[.agg #[.string x.a,.int .i64 x.n],.agg #[.string y.a,.int .i64 y.n]] w fun e w'=>e=.returned (.int .i64 (cmpId x y))∧Below w.heap.size w w':=by
 obtain⟨m2,m3⟩:=box2 (w:=w) (o:=.cells #[.string x.a,.int .i64 x.n] 38) (o':=.cells #[.string y.a,.int .i64 y.n] 38);have hb:=below2 w (.cells #[.string x.a,.int .i64 x.n] 38) (.cells #[.string y.a,.int .i64 y.n] 38);go_enter Tryz.func121,Tryz.ntmps121
 go_wp2_with fail
 generalize((w.alloc (.cells #[.string x.a,.int .i64 x.n] 38)).alloc (.cells #[.string y.a,.int .i64 y.n] 38))=W at*
 generalize hp:w.heap.size=p at*
 have HP:=zz hp;clear hp;have c20:W.cell? ⟨p,0,none⟩=some (.string x.a):=by rw [zc _ _ 0 _ _ _ m2];rfl
 have c21:W.cell? ⟨p,1,none⟩=some (.int .i64 x.n):=by rw [zc _ _ 1 _ _ _ m2];rfl
 have c30:W.cell? ⟨p+1,0,none⟩=some (.string y.a):=by rw [zc _ _ 0 _ _ _ m3];rfl
 have c31:W.cell? ⟨p+1,1,none⟩=some (.int .i64 y.n):=by rw [zc _ _ 1 _ _ _ m3];rfl
 have l2:=zl m2;have l3:=zl m3;clear m2 m3
 go_region_held3 (fun w'=>w'.cell? ⟨p,0,none⟩=some (.string x.a)∧w'.cell? ⟨p,1,none⟩=some (.int .i64 x.n)∧w'.cell? ⟨p+1,0,none⟩=some (.string y.a)∧w'.cell? ⟨p+1,1,none⟩=some (.int .i64 y.n)) (go_keep)
  (first
   |(go_at_call 32;refine(strcmp_any _ _ _).mono ?_;rintro e w1 ⟨rfl,rfl⟩)
   |(go_at_call 120;refine(intcmp_any _ _ _).mono ?_;rintro e w1 ⟨rfl,rfl⟩)
   |(go_at_call 118;refine(or2_any (cmpS x.a y.a) (Lib.compareInt x.n y.n) W.heap.size 2 _ (arr2 W.drew _ _).1 (arr2 W.drew _ _).2).mono ?_;rintro e w1 ⟨rfl,rfl⟩))
 all_goals go_wp2
 all_goals go_ret
 all_goals exact⟨rfl,by rw [HP.out];exact(hb.alloc (by have:=hb.size;rw [HP.out]at this;exact this) _).drew⟩
structure SlV where
 a:Option Addr
 len:Nat
 cap:Nat
def SlV.v (s:SlV):Value:=.slice s.a s.len s.cap
def SlV.nil:SlV:=⟨none,0,0⟩
structure RegD where
 node:IdD
 field:ByteArray
 w:SlV
def regV (x:RegD):List Value:= [.string x.node.a,.int .i64 x.node.n,.string x.field,.slice x.w.a x.w.len x.w.cap]
def regY:Lay RegD:=⟨4,regV,fun _=>rfl,by intro x u hu;simp [regV]at hu;rcases hu with rfl|rfl|rfl|rfl <;>rfl⟩
def cmpReg (x y:RegD):Int:=or2 (cmpId x.node y.node) (cmpS x.field y.field)
structure WrD where
 id:IdD
 clock:Int
 text:ByteArray
def wrV (x:WrD):List Value:= [.string x.id.a,.int .i64 x.id.n,.int .i64 x.clock,.string x.text]
def wrY:Lay WrD:=⟨4,wrV,fun _=>rfl,by intro x u hu;simp [wrV]at hu;rcases hu with rfl|rfl|rfl|rfl <;>rfl⟩
def cmpWr (x y:WrD):Int:=or2 (Lib.compareInt x.clock y.clock) (cmpId x.id y.id)
theorem compareRegs_any (x y:RegD) (w:World):Calls Tryz.prog 78 #[.agg #[.string x.node.a,.int .i64 x.node.n,.string x.field,.slice x.w.a x.w.len x.w.cap],.agg #[.string y.node.a,.int .i64 y.node.n,.string y.field,.slice y.w.a y.w.len y.w.cap]] w fun e w'=>e=.returned (.int .i64 (cmpReg x y))∧Below w.heap.size w w':=by
 obtain⟨m2,m3⟩:=box2 (w:=w) (o:=.cells #[.string x.node.a,.int .i64 x.node.n,.string x.field,.slice x.w.a x.w.len x.w.cap] 48) (o':=.cells #[.string y.node.a,.int .i64 y.node.n,.string y.field,.slice y.w.a y.w.len y.w.cap] 48);have hb:=below2 w (.cells #[.string x.node.a,.int .i64 x.node.n,.string x.field,.slice x.w.a x.w.len x.w.cap] 48) (.cells #[.string y.node.a,.int .i64 y.node.n,.string y.field,.slice y.w.a y.w.len y.w.cap] 48);go_enter Tryz.func78,Tryz.ntmps78
 go_wp2_with fail
 generalize((w.alloc (.cells #[.string x.node.a,.int .i64 x.node.n,.string x.field,.slice x.w.a x.w.len x.w.cap] 48)).alloc (.cells #[.string y.node.a,.int .i64 y.node.n,.string y.field,.slice y.w.a y.w.len y.w.cap] 48))=W at*
 generalize hp:w.heap.size=p at*
 have HP:=zz hp;clear hp;have c20:W.cell? ⟨p,0,none⟩=some (.string x.node.a):=by rw [zc _ _ 0 _ _ _ m2];rfl
 have c21:W.cell? ⟨p,1,none⟩=some (.int .i64 x.node.n):=by rw [zc _ _ 1 _ _ _ m2];rfl
 have c22:W.cell? ⟨p,2,none⟩=some (.string x.field):=by rw [zc _ _ 2 _ _ _ m2];rfl
 have c23:W.cell? ⟨p,3,none⟩=some (.slice x.w.a x.w.len x.w.cap):=by rw [zc _ _ 3 _ _ _ m2];rfl
 have c30:W.cell? ⟨p+1,0,none⟩=some (.string y.node.a):=by rw [zc _ _ 0 _ _ _ m3];rfl
 have c31:W.cell? ⟨p+1,1,none⟩=some (.int .i64 y.node.n):=by rw [zc _ _ 1 _ _ _ m3];rfl
 have c32:W.cell? ⟨p+1,2,none⟩=some (.string y.field):=by rw [zc _ _ 2 _ _ _ m3];rfl
 have c33:W.cell? ⟨p+1,3,none⟩=some (.slice y.w.a y.w.len y.w.cap):=by rw [zc _ _ 3 _ _ _ m3];rfl
 have l2:=zl m2;have l3:=zl m3;clear m2 m3
 go_region_held3 (fun w'=>w'.cell? ⟨p,0,none⟩=some (.string x.node.a)∧w'.cell? ⟨p,1,none⟩=some (.int .i64 x.node.n)∧w'.cell? ⟨p,2,none⟩=some (.string x.field)∧w'.cell? ⟨p,3,none⟩=some (.slice x.w.a x.w.len x.w.cap)∧w'.cell? ⟨p+1,0,none⟩=some (.string y.node.a)∧w'.cell? ⟨p+1,1,none⟩=some (.int .i64 y.node.n)∧w'.cell? ⟨p+1,2,none⟩=some (.string y.field)∧w'.cell? ⟨p+1,3,none⟩=some (.slice y.w.a y.w.len y.w.cap)) (first|go_keep|exact⟨(hb1.cell (p:=⟨p,0,none⟩) l2).trans c20,(hb1.cell (p:=⟨p,1,none⟩) l2).trans c21,(hb1.cell (p:=⟨p,2,none⟩) l2).trans c22,(hb1.cell (p:=⟨p,3,none⟩) l2).trans c23,(hb1.cell (p:=⟨p+1,0,none⟩) l3).trans c30,(hb1.cell (p:=⟨p+1,1,none⟩) l3).trans c31,(hb1.cell (p:=⟨p+1,2,none⟩) l3).trans c32,(hb1.cell (p:=⟨p+1,3,none⟩) l3).trans c33⟩)
  (first
   |(go_at_call 121;refine(compareIds_any x.node y.node _).mono ?_;rintro e w1 ⟨rfl,hb1⟩)
   |(go_at_call 32;refine(strcmp_any _ _ _).mono ?_;rintro e w2 ⟨rfl,rfl⟩)
   |(go_at_call 118;refine(or2_any (cmpId x.node y.node) (cmpS x.field y.field) w1.heap.size 2 _ (arr2 w1 _ _).1 (arr2 w1 _ _).2).mono ?_;rintro e w3 ⟨rfl,rfl⟩))
 all_goals go_wp2
 all_goals go_ret
 all_goals exact⟨rfl,by rw [HP.out];exact((hb.drew.trans (hb1.mono (by have:=hb.size;rw [HP.out]at this;exact this))).alloc (by have h1:=hb.size;have h2:=hb1.size;rw [HP.out]at h1;exact Nat.le_trans h1 h2) _)⟩
theorem compareMarks_any (x y:WrD) (w:World):Calls Tryz.prog 127 #[.agg #[.string x.id.a,.int .i64 x.id.n,.int .i64 x.clock,.string x.text],.agg #[.string y.id.a,.int .i64 y.id.n,.int .i64 y.clock,.string y.text]] w fun e w'=>e=.returned (.int .i64 (cmpWr x y))∧Below w.heap.size w w':=by
 obtain⟨m2,m3⟩:=box2 (w:=w) (o:=.cells #[.string x.id.a,.int .i64 x.id.n,.int .i64 x.clock,.string x.text] 50) (o':=.cells #[.string y.id.a,.int .i64 y.id.n,.int .i64 y.clock,.string y.text] 50);have hb:=below2 w (.cells #[.string x.id.a,.int .i64 x.id.n,.int .i64 x.clock,.string x.text] 50) (.cells #[.string y.id.a,.int .i64 y.id.n,.int .i64 y.clock,.string y.text] 50);go_enter Tryz.func127,Tryz.ntmps127
 go_wp2_with fail
 generalize((w.alloc (.cells #[.string x.id.a,.int .i64 x.id.n,.int .i64 x.clock,.string x.text] 50)).alloc (.cells #[.string y.id.a,.int .i64 y.id.n,.int .i64 y.clock,.string y.text] 50))=W at*
 generalize hp:w.heap.size=p at*
 have HP:=zz hp;clear hp;have c20:W.cell? ⟨p,0,none⟩=some (.string x.id.a):=by rw [zc _ _ 0 _ _ _ m2];rfl
 have c21:W.cell? ⟨p,1,none⟩=some (.int .i64 x.id.n):=by rw [zc _ _ 1 _ _ _ m2];rfl
 have c22:W.cell? ⟨p,2,none⟩=some (.int .i64 x.clock):=by rw [zc _ _ 2 _ _ _ m2];rfl
 have c23:W.cell? ⟨p,3,none⟩=some (.string x.text):=by rw [zc _ _ 3 _ _ _ m2];rfl
 have c30:W.cell? ⟨p+1,0,none⟩=some (.string y.id.a):=by rw [zc _ _ 0 _ _ _ m3];rfl
 have c31:W.cell? ⟨p+1,1,none⟩=some (.int .i64 y.id.n):=by rw [zc _ _ 1 _ _ _ m3];rfl
 have c32:W.cell? ⟨p+1,2,none⟩=some (.int .i64 y.clock):=by rw [zc _ _ 2 _ _ _ m3];rfl
 have c33:W.cell? ⟨p+1,3,none⟩=some (.string y.text):=by rw [zc _ _ 3 _ _ _ m3];rfl
 have l2:=zl m2;have l3:=zl m3;clear m2 m3
 go_region_held3 (fun w'=>w'.cell? ⟨p,0,none⟩=some (.string x.id.a)∧w'.cell? ⟨p,1,none⟩=some (.int .i64 x.id.n)∧w'.cell? ⟨p,2,none⟩=some (.int .i64 x.clock)∧w'.cell? ⟨p,3,none⟩=some (.string x.text)∧w'.cell? ⟨p+1,0,none⟩=some (.string y.id.a)∧w'.cell? ⟨p+1,1,none⟩=some (.int .i64 y.id.n)∧w'.cell? ⟨p+1,2,none⟩=some (.int .i64 y.clock)∧w'.cell? ⟨p+1,3,none⟩=some (.string y.text)) (first|go_keep|exact⟨(hb1.cell (p:=⟨p,0,none⟩) l2).trans c20,(hb1.cell (p:=⟨p,1,none⟩) l2).trans c21,(hb1.cell (p:=⟨p,2,none⟩) l2).trans c22,(hb1.cell (p:=⟨p,3,none⟩) l2).trans c23,(hb1.cell (p:=⟨p+1,0,none⟩) l3).trans c30,(hb1.cell (p:=⟨p+1,1,none⟩) l3).trans c31,(hb1.cell (p:=⟨p+1,2,none⟩) l3).trans c32,(hb1.cell (p:=⟨p+1,3,none⟩) l3).trans c33⟩)
  (first
   |(go_at_call 121;refine(compareIds_any x.id y.id _).mono ?_;rintro e w1 ⟨rfl,hb1⟩)
   |(go_at_call 120;refine(intcmp_any _ _ _).mono ?_;rintro e w2 ⟨rfl,rfl⟩)
   |(go_at_call 118;refine(or2_any (Lib.compareInt x.clock y.clock) (cmpId x.id y.id) w1.heap.size 2 _ (arr2 w1 _ _).1 (arr2 w1 _ _).2).mono ?_;rintro e w3 ⟨rfl,rfl⟩))
 all_goals go_wp2
 all_goals go_ret
 all_goals exact⟨rfl,by rw [HP.out];exact((hb.drew.trans (hb1.mono (by have:=hb.size;rw [HP.out]at this;exact this))).alloc (by have h1:=hb.size;have h2:=hb1.size;rw [HP.out]at h1;exact Nat.le_trans h1 h2) _)⟩
theorem cmp_less:∀(l m:List UInt8),Lib.compareBytes l m=if Op.bytesLess l m then -1 else if !(Op.bytesLess l m||l==m)then 1 else 0
 | [], []=>by simp [Lib.compareBytes,Op.bytesLess]
 | [],_::_=>by simp [Lib.compareBytes,Op.bytesLess]
 |_::_, []=>by simp [Lib.compareBytes,Op.bytesLess]
 |a::l,b::m=>by
  have ih:=cmp_less l m;rw [Lib.compareBytes,Op.bytesLess]
  by_cases h1:a < b
  ·simp [h1]
  ·by_cases h2:b < a
   ·have hne:a≠b:=by rintro rfl;exact h1 h2
    simp [h1,h2,hne]
   ·have he:a=b:=by
     have e1:¬a.toNat < b.toNat:=fun h=>h1 h
     have e2:¬b.toNat < a.toNat:=fun h=>h2 h
     exact UInt8.toNat_inj.1 (by omega)
    subst he;simp [ih]
theorem genstr_any (a b:ByteArray) (w:World):Calls Tryz.prog 119 #[.string a,.string b] w fun e w'=>e=.returned (.int .i64 (cmpS a b))∧w=w':=by
 have hc:cmpS a b=if Op.bytesLess a.toList b.toList then -1 else if !(Op.bytesLess a.toList b.toList||a.toList==b.toList)then 1 else 0:=by
  rw [ByteArray.toList_eq,ByteArray.toList_eq];exact cmp_less _ _
 have HC:=zz hc;clear hc;go_enter Tryz.func119,Tryz.ntmps119
 go_wp2
 all_goals (go_ret;refine⟨?_,rfl⟩;rw [HC.out];(repeat' split) <;>first|rfl|(exfalso;simp_all))
theorem bsearch_enough {E:Type} (c:E→Int) (l:List E):∀(f f' i j:Nat),j - i≤f→j - i≤f'→bsearch c l f i j=bsearch c l f' i j
 |0,0,_,_,_,_=>rfl
 |0,f'+1,i,j,h,_=>by
  unfold bsearch;rw [if_neg (by omega)]
 |f+1,0,i,j,_,h=>by
  unfold bsearch;rw [if_neg (by omega)]
 |f+1,f'+1,i,j,h,h'=>by
  unfold bsearch
  by_cases hij:i < j
  ·rw [if_pos hij,if_pos hij]
   split
   ·split
    ·exact bsearch_enough c l f f' _ _ (by omega) (by omega)
    ·exact bsearch_enough c l f f' _ _ (by omega) (by omega)
   ·rfl
  ·rw [if_neg hij,if_neg hij]
def bs {E:Type} (c:E→Int) (l:List E) (i j:Nat):Nat:=bsearch c l (j - i) i j
theorem bs_lt {E:Type} {c:E→Int} {l:List E} {i j:Nat} {x:E} (hij:i < j) (hx:l[(i+j) / 2]? =some x) (hc:c x < 0):bs c l i j=bs c l ((i+j) / 2+1) j:=by
 obtain⟨f,hf⟩:∃f,j - i=f+1:=⟨j - i - 1,by omega⟩;unfold bs;rw [hf,bsearch,if_pos hij,hx];simp only [if_pos hc];exact bsearch_enough c l _ _ _ _ (by omega) (Nat.le_refl _)
theorem bs_ge {E:Type} {c:E→Int} {l:List E} {i j:Nat} {x:E} (hij:i < j) (hx:l[(i+j) / 2]? =some x) (hc:¬c x < 0):bs c l i j=bs c l i ((i+j) / 2):=by
 obtain⟨f,hf⟩:∃f,j - i=f+1:=⟨j - i - 1,by omega⟩;unfold bs;rw [hf,bsearch,if_pos hij,hx];simp only [if_neg hc];exact bsearch_enough c l _ _ _ _ (by omega) (Nat.le_refl _)
theorem bs_end {E:Type} {c:E→Int} {l:List E} {i j:Nat} (hij:¬i < j):bs c l i j=i:=by
 unfold bs;rw [show j - i=0 by omega];rfl
def found {E:Type} (c:E→Int) (l:List E) (r:Nat):Bool:=match l[r]? with|some x=>c x==0|none=>false
theorem placeCmp_any (x:IdD) (s:ByteArray) (w:World):Calls Tryz.prog 191 #[.agg #[.string x.a,.int .i64 x.n],.string s] w fun e w'=>e=.returned (.int .i64 (cmpS x.a s))∧Below w.heap.size w w':=by
 go_enter Tryz.func191,Tryz.ntmps191
 go_wp2_with(go_at_call 32;refine(strcmp_any _ _ _).mono ?_;rintro e w1 ⟨rfl,rfl⟩)
 go_ret
 exact⟨rfl,(Below.refl _ _).alloc (Nat.le_refl _) _⟩
theorem bsId_any (l:List IdD) (v:Value) (s:ByteArray) (w:World) (hl:l.length≤1000000) (hv:idY.Rd w v l):
  Calls Tryz.prog 190 #[v,.string s,.func (.func 191) #[] #[]] w fun e w'=>∃r:Nat,r=bs (fun x=>cmpS x.a s) l 0 l.length∧r≤l.length∧e=.returned (.tuple #[.int .i64 r,.bool (found (fun x=>cmpS x.a s) l r)])∧Below w.heap.size w w':=by
 obtain⟨a,n,c,rfl⟩:=hv.form;obtain rfl:=hv.len;have HV:=zz hv;clear hv;generalize hn:l.length=n at*
 have HN:=zz hn;clear hn;go_enter Tryz.func190,Tryz.ntmps190
 go_wp2
 go_loopg [9,10] n (fun gn t1 t2 wr=>∃i j:Nat,i+gn=j∧j≤n∧t1=.int .i64 i∧t2=.int .i64 j∧bs (fun x=>cmpS x.a s) l i j=bs (fun x=>cmpS x.a s) l 0 n∧Below w.heap.size w wr)
 case atStart=>exact⟨0,n,by omega,Nat.le_refl _,rfl,rfl,rfl,Below.refl _ _⟩
 case round=>
  obtain⟨i,j,hij,hjn,rfl,rfl,hbs,hbel⟩:=hrel;have HBS:=zz hbs;have HIJ:=zz hij;clear hbs hij
  by_cases hlt:i < j
  ·obtain⟨m,hm⟩:∃m,m=(i+j) / 2:=⟨_,rfl⟩;have hmj:m < j:=by omega
   have him:i≤m:=by omega
   have hx:l[m]? =some (l[m]'(by rw [HN.out];omega)):=List.getElem?_eq_getElem _;generalize l[m]'(by rw [HN.out];omega)=x at hx
   have hr:∃b off cap,a=some ⟨b,off,none⟩∧c=cap∧w.rangeAt b off (idY.flat l):=by
    rcases HV.out with⟨h1,h2⟩|⟨b,off,cap,h1,h2,h3⟩
    ·rw [h2]at hx;cases hx
    ·simp at h1;exact⟨b,off,cap,h1.1,h1.2.2,h3⟩
   obtain⟨b,off,cap,rfl,rfl,hr⟩:=hr;have hrx:wr.rangeAt b (off+m*2) [.string x.a,.int .i64 x.n]:=idY.elem (rangeAt_below hr hbel) m x hx;have HX:=zz hx;have HM:=zz hm;clear hx hr;have hltZ:(i:Int) < (j:Int):=by omega
   have hmz:((i:Int)+j) / 2=(m:Int):=by omega
   have hu:IntKind.u64.wrap ((i:Int)+j)=(i:Int)+j:=by rw [IntKind.wrap_u64];omega
   clear hm
   go_wp2_with(first
    |refine wpList_load_mid rfl 38 _ rfl b (off+m*2) rfl _ _ hrx Tryz.underlying38 rfl (by kernel_rfl) ?_)
   refine(placeCmp_any x s wr).mono ?_;rintro e w1 ⟨rfl,hb1⟩;have hbel1:=hbel.trans (hb1.mono hbel.size);clear hrx hb1 hbel
   by_cases hc:cmpS x.a s < 0
   ·have HB:=zz (bs_lt (c:=fun x:IdD=>cmpS x.a s) hlt (by rw [←HM.out];exact HX.out) hc);go_wp2
    go_roundg (j - (m+1))
    case rel=>exact⟨m+1,j,by omega,hjn,by go_num,rfl,by rw [←HBS.out,HB.out,←HM.out],hbel1⟩
    case measure=>have:=HIJ.out;omega
   ·have HB:=zz (bs_ge (c:=fun x:IdD=>cmpS x.a s) hlt (by rw [←HM.out];exact HX.out) hc);have hc2:decide (cmpS x.a s < 0)=false:=by simpa using hc
    clear hc;go_wp2
    go_roundg (m - i)
    case rel=>exact⟨i,m,by omega,by omega,rfl,rfl,by rw [←HBS.out,HB.out,←HM.out],hbel1⟩
    case measure=>have:=HIJ.out;omega
  ·have hr:i=bs (fun x=>cmpS x.a s) l 0 n:=by rw [←HBS.out,bs_end hlt]
   have HR:=zz hr;clear hr;have hge:(j:Int)≤(i:Int):=by omega
   by_cases hin:i < n
   ·have hinZ:(i:Int) < (n:Int):=by omega
    have hx:l[i]? =some (l[i]'(by rw [HN.out];omega)):=List.getElem?_eq_getElem _;generalize l[i]'(by rw [HN.out];omega)=x at hx
    have hr:∃b off cap,a=some ⟨b,off,none⟩∧c=cap∧w.rangeAt b off (idY.flat l):=by
     rcases HV.out with⟨h1,h2⟩|⟨b,off,cap,h1,h2,h3⟩
     ·rw [h2]at hx;cases hx
     ·simp at h1;exact⟨b,off,cap,h1.1,h1.2.2,h3⟩
    obtain⟨b,off,cap,rfl,rfl,hr⟩:=hr;have hrx:wr.rangeAt b (off+i*2) [.string x.a,.int .i64 x.n]:=idY.elem (rangeAt_below hr hbel) i x hx;have HX:=zz hx;clear hx hr;have k0:wr.cell? ⟨b,off+i*2,none⟩=some (.string x.a):=hrx 0 _ rfl;have k1:wr.cell? ⟨b,off+i*2+1,none⟩=some (.int .i64 x.n):=hrx 1 _ rfl;clear hrx
    go_wp2_with fail
    refine(placeCmp_any x s wr).mono ?_;rintro e w1 ⟨rfl,hb1⟩;have hbel1:=hbel.trans (hb1.mono hbel.size);clear k0 k1 hb1 hbel;go_wp2
    go_ret2
    exact⟨i,HR.out,by omega,by unfold found;rw [HX.out];rfl,hbel1⟩
   ·have hinZ:decide ((i:Int) < (n:Int))=false:=by simp;omega
    go_wp2
    go_ret2
    exact⟨i,HR.out,by have:=HIJ.out;omega,by unfold found;rw [List.getElem?_eq_none (by rw [HN.out];omega)];rfl,hbel⟩
theorem place_any (l:List IdD) (v:Value) (s:ByteArray) (w:World) (hl:l.length≤1000000) (hv:idY.Rd w v l):
  Calls Tryz.prog 153 #[v,.string s] w fun e w'=>∃r:Nat,r=bs (fun x=>cmpS x.a s) l 0 l.length∧r≤l.length∧e=.returned (.tuple #[.int .i64 r,.bool (found (fun x=>cmpS x.a s) l r)])∧Below w.heap.size w w':=by
 go_enter Tryz.func153,Tryz.ntmps153
 go_wp2_with fail
 refine(bsId_any l v s w hl hv).mono ?_;rintro e w1 ⟨r,hr,hrl,rfl,hb⟩;have HR:=zz hr;clear hr;obtain⟨f,hf⟩:∃f,f=found (fun x=>cmpS x.a s) l r:=⟨_,rfl⟩;rw [←hf];have HF:=zz hf;clear hf;go_wp2
 go_ret2
 exact⟨r,HR.out,hrl,by rw [←HF.out];rfl,hb⟩
theorem Below_drewN {B:Nat} {a w:World} (h:Below B a w) (n:Nat):Below B a (w.drewN n):=⟨h.os,h.tape,h.output,h.size,h.block⟩
def containsF (l:List IdD) (x:IdD):Bool:=
 found (fun y=>cmpS y.a x.a) l (bs (fun y=>cmpS y.a x.a) l 0 l.length)&&(decide (1≤x.n)&&match l[bs (fun y:IdD=>cmpS y.a x.a) l 0 l.length]? with|some y=>decide (x.n≤y.n)|none=>false)
theorem contains_any (l:List IdD) (v:Value) (x:IdD) (w:World) (hl:l.length≤1000000) (hv:idY.Rd w v l):
  Calls Tryz.prog 114 #[v,.agg #[.string x.a,.int .i64 x.n]] w fun e w'=>e=.returned (.bool (containsF l x))∧Below w.heap.size w w':=by
 obtain⟨a,n,c,rfl⟩:=hv.form;obtain rfl:=hv.len;have hbA:Below w.heap.size w (w.alloc (.cells #[.string x.a,.int .i64 x.n] 38)):=(Below.refl _ _).alloc (Nat.le_refl _) _;go_enter Tryz.func114,Tryz.ntmps114
 go_wp2_with fail
 refine(place_any l _ x.a _ hl (hv.alloc _)).mono ?_;rintro e w1 ⟨r,hr,hrl,rfl,hb⟩;have hm:w1.heap[w.heap.size]? =some (.cells #[.string x.a,.int .i64 x.n] 38 (0,0)):=(hb.block _ (by simp)).trans (zg _ _ _ rfl);have k0:w1.cell? ⟨w.heap.size,0,none⟩=some (.string x.a):=by rw [zc _ _ 0 _ _ _ hm];rfl
 have k1:w1.cell? ⟨w.heap.size,1,none⟩=some (.int .i64 x.n):=by rw [zc _ _ 1 _ _ _ hm];rfl
 have hbel:Below w.heap.size w w1:=hbA.trans (hb.mono (by simp));have hV:=(hv.alloc (.cells #[.string x.a,.int .i64 x.n] 38)).below hb
 have hF:containsF l x=(found (fun y=>cmpS y.a x.a) l r&&(decide (1≤x.n)&&match l[r]? with|some y=>decide (x.n≤y.n)|none=>false)):=by
  unfold containsF;rw [←hr]
 have HF:=zz hF;clear hF hb hbA hm hr hv;generalize hf:found (fun y=>cmpS y.a x.a) l r=f at*
 cases f with
 |false=>
  clear hf
  go_wp2_with fail
  go_quiet (fail)
  go_wp2;go_ret
  exact⟨by rw [HF.out];rfl,Below_drewN hbel _⟩
 |true=>
  by_cases h1:1≤x.n
  ·have hd:decide ((1:Int)≤x.n)=true:=by simpa using h1
   obtain⟨y,hy⟩:∃y,l[r]? =some y:=by
    unfold found at hf
    cases hy:l[r]? with
    |none=>rw [hy]at hf;cases hf
    |some y=>exact⟨y,rfl⟩
   have hr2:∃b off cap,a=some ⟨b,off,none⟩∧c=cap∧w1.rangeAt b off (idY.flat l):=by
    rcases hV with⟨h1,h2⟩|⟨b,off,cap,h1,h2,h3⟩
    ·rw [h2]at hy;cases hy
    ·simp at h1;exact⟨b,off,cap,h1.1,h1.2,h3⟩
   obtain⟨b,off,cap,rfl,rfl,hr2⟩:=hr2;have hrx:w1.rangeAt b (off+r*2) [.string y.a,.int .i64 y.n]:=idY.elem hr2 r y hy;have j1:w1.cell? ⟨b,off+r*2+1,none⟩=some (.int .i64 y.n):=hrx 1 _ rfl;have hrl2:(r:Int) < (l.length:Int):=by have:=(List.getElem?_eq_some_iff.1 hy).1;omega
   have HY:=zz hy;clear hf hy hrx hr2 hV h1
   go_wp2_with fail
   go_quiet (fail)
   go_wp2;go_ret
   exact⟨by rw [HF.out,HY.out,hd];rfl,Below_drewN hbel _⟩
  ·have hd:decide ((1:Int)≤x.n)=false:=by simpa using h1
   clear hf h1 hV
   go_wp2_with fail
   go_quiet (fail)
   go_wp2;go_ret
   exact⟨by rw [HF.out,hd];rfl,Below_drewN hbel _⟩
end Go.Proofs.YteigcnamkfebgaaGreatDoor
