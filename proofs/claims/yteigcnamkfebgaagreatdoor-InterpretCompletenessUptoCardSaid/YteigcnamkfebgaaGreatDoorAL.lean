import Derived.Test.YteigcnamkfebgaaGreatDoorAK
import Derived.RangeFuncNested
import Derived.RangeFuncCalls
import Derived.RangeFuncLeaves
import Derived.Shelf.Abstract
import Derived.OwnWalkIn
import Derived.TacticsInMore
import Derived.LoopNIn
import Derived.LoopIn
import Derived.RegionIn
import Derived.Shelf.RegionOpen
set_option linter.all false
set_option maxHeartbeats 25600000
namespace Go.Proofs.YteigcnamkfebgaaGreatDoor
open Go.RowKit Go.Shelf
section
attribute [local go_sem] Oper.semAt_some
theorem backward_any (a:Option Addr) (n c:Nat) (w:World):Calls Tryz.prog 68 #[.slice a n c] w fun e w'=>e=.returned (.func (.func 112) #[] #[.pointer (some ⟨w.heap.size,0,none⟩)])∧w'=w.alloc (.cells #[.slice a n c] 22):=by
 go_enter Tryz.func68,Tryz.ntmps68
 go_wp2;go_ret
 exact⟨rfl,rfl⟩
theorem indexNil (f:FuncId) (x y:Array Value) (w:World):Calls Tryz.prog 113 #[.slice none 0 0,.func (.func f) x y] w fun e w'=>e=.returned (.int .i64 (-1))∧w=w':=by
 go_enter Tryz.func113,Tryz.ntmps113
 go_wp2;refine wp_loop_rounds 1 ?_;rw [rounds_succ];go_wp2;go_ret
 exact⟨rfl,rfl⟩
theorem containsNil (f:FuncId) (x y:Array Value) (w:World):Calls Tryz.prog 69 #[.slice none 0 0,.func (.func f) x y] w fun e w'=>e=.returned (.bool false)∧w=w':=by
 go_enter Tryz.func69,Tryz.ntmps69
 go_wp2_with(go_at_call 113;refine(indexNil _ _ _ _).mono ?_;rintro e w' ⟨rfl,rfl⟩)
 go_ret
 exact⟨rfl,rfl⟩
theorem wpListIn_load_mid {F:Fence} {n:Nat} {P:Program} {ops:Array Oper} {rest:List Oper} {o:Oper} {a:Act} {w:World} {Q:Exit→Act→World→Prop} (hgd:o.guard=none) (ty:TypeId) (x:Operand) (ho:o.op=.load ty x)
  (b off:Nat) (hx:a.eval x=.pointer (some ⟨b,off,none⟩)) (cs:List Value) (d:TypeDesc) (hc:w.rangeAt b off cs) (hu:P.underlying ty=some d) (hd:d.isRow=true) (hi:(P.info? ty).map (·.size)=some cs.length)
  (h:wpListIn F n P ops Q rest (a.put o.dst (.agg cs.toArray)) w):wpListIn F n P ops Q (o::rest) a w:=by
 refine wpListIn_plain hgd fun K hK=>?_
 have hr:=run_loadAt_mid (P:=P) w b off ty cs d hc hu hd hi;unfold Oper.wpIn;refine⟨?_,?_⟩
 ·simp [Oper.about,ho]
 ·rw [Oper.semAt_plain F _ _ (by rw [ho];intro c hc';cases hc')];simp [execOp,ho,hx,hr,Result.andThen];exact hK _ _ h
theorem wpListIn_store_new {F:Fence} {n:Nat} {P:Program} {ops:Array Oper} {rest:List Oper} {o:Oper} {a:Act} {Q:Exit→Act→World→Prop} (w0:World) (hgd:o.guard=none) (ty:TypeId) (x y:Operand) (ho:o.op=.store ty x y) (c c':Array Value)
  (hx:a.eval x=.pointer (some ⟨w0.heap.size,0,none⟩)) (hy:a.eval y=.agg c') (hi:(P.info? ty).map (·.size)=some c'.size) (hs:c.size=c'.size) (h1:c'.all (·.oneCell')=true)
  (h:wpListIn F n P ops Q rest (a.put o.dst undef) (w0.alloc (.cells c' ty))):wpListIn F n P ops Q (o::rest) a (w0.alloc (.cells c ty)):=by
 refine wpListIn_plain hgd fun K hK=>?_
 have hr:=run_storeAt_new (P:=P) w0 ty c c' hi hs h1;unfold Oper.wpIn;refine⟨?_,?_⟩
 ·simp [Oper.about,ho]
 ·rw [Oper.semAt_plain F _ _ (by rw [ho];intro c hc';cases hc')];simp [execOp,ho,hx,hy,hr,Result.andThen];exact hK _ _ h
def KeepsBut (m d:Nat) (W W':World):Prop:=W.heap.size≤W'.heap.size∧∀i,i < m→i≠d→W'.heap[i]? =W.heap[i]?
theorem KeepsBut.trans {m d:Nat} {A B C:World} (h:KeepsBut m d A B) (h':KeepsBut m d B C):KeepsBut m d A C:=⟨Nat.le_trans h.1 h'.1,fun i hi hd=>(h'.2 i hi hd).trans (h.2 i hi hd)⟩
theorem KeepsBut.refl (m d:Nat) (A:World):KeepsBut m d A A:=⟨Nat.le_refl _,fun _ _ _=>rfl⟩
theorem KeepsBut.cell {m d:Nat} {A B:World} (h:KeepsBut m d A B) {p:Addr} (hp:p.block < m) (hd:p.block≠d):B.cell? p=A.cell? p:=World.cell?_of_block (h.2 _ hp hd)
def backAt (n k:Nat):List (Fin n):=(List.range k).filterMap fun j=>if h:n - 1 - j < n then some ⟨n - 1 - j,h⟩else none
theorem backAt_succ (n k:Nat) (j:Fin n) (h:j.val+1+k=n):backAt n (k+1)=backAt n k++ [j]:=by
 have h1:n - 1 - k=j.val:=by omega
 have h2:n - 1 - k < n:=by omega
 have h3:(if h:n - 1 - k < n then some (⟨n - 1 - k,h⟩:Fin n)else none)=some j:=by
  rw [dif_pos h2];congr 1;exact Fin.ext h1
 simp only [backAt,List.range_succ,List.filterMap_append,List.filterMap_cons,h3,List.filterMap_nil]
theorem backAt_len (n k:Nat) (hk:k≤n):(backAt n k).length=k:=by
 induction k with
 |zero=>rfl
 |succ k ih=>rw [backAt_succ n k ⟨n - 1 - k,by omega⟩ (by simp;omega),List.length_append,ih (by omega)];rfl
theorem backAt_all (n:Nat) (j:Fin n):j∈backAt n n:=by
 have hp:=j.isLt;simp only [backAt,List.mem_filterMap,List.mem_range];exact⟨n - 1 - j.val,by omega,by rw [dif_pos (by omega)];congr 1;apply Fin.ext;simp;omega⟩
def encE (E:List EdD) (j:Fin E.length):Array Value:=#[.int .i64 (j.val:Int),.agg (edV E[j]).toArray]
set_option maxRecDepth 100000 in
theorem back1_in (n:Nat) (hn:1≤n) (l Bs m d b off cap:Nat) (E:List EdD) (hl:E.length≤1000) (hb:b < m) (hbd:b≠d) (hBm:Bs < m) (hBd:Bs≠d) (J Jx:List (Fin E.length)→World→Prop)
  (hY:∀pre x W,J pre W→pre.length < E.length→YieldAt Fence.wide (n - 1) Tryz.prog l (encE E x) W fun e W'=>
   (e=.returned (.bool true)∧J (pre++ [x]) W'∧KeepsBut m d W W')∨(e=.returned (.bool false)∧Jx (pre++ [x]) W'))
  (W:World) (hBs:W.cell? ⟨Bs,0,none⟩=some (.slice (some ⟨b,off,none⟩) E.length cap)) (hr:W.rangeAt b off (edY.flat E)) (h0:J [] W):
  CallsIn Fence.wide n Tryz.prog 112 #[.func (.yield l) #[] #[],.pointer (some ⟨Bs,0,none⟩)] W fun e W'=>(∃v,e=.returned v)∧
   ((∃ys,ys=backAt E.length E.length∧J ys W')∨(∃pre,(∃k,k≤E.length∧pre=backAt E.length k)∧Jx pre W')):=by
 have HR:=zz hr;have HBs:=zz hBs;have HY:=zz hY;clear hr hY;refine callsIn_of_wp Tryz.func112 rfl trivial ?_ rfl;simp only [Tryz.ntmps112,List.size_toArray,List.length_cons,List.length_nil,Nat.reduceAdd,Nat.reduceSub,Array.replicate_succ,Array.replicate_zero,List.push_toArray,List.append_toArray,List.nil_append,List.cons_append];obtain⟨q,hq⟩:∃q,q=E.length:=⟨_,rfl⟩;have HQ:=zz hq;rw [←hq]at hBs hl;clear hq;have hwr:IntKind.i64.wrap ((q:Int) - 1)=(q:Int) - 1:=by rw [IntKind.wrap_i64];omega
 gi_wp2
 gi_loopw [3] (fun i wr=>∃k:Nat,k≤q∧i=.int .i64 ((q:Int) - 1 - k)∧J (backAt E.length k) wr∧KeepsBut m d W wr)
  (fun i _=>(intOf i+1).toNat)
 case atStart=>exact⟨0,Nat.zero_le _,by simp,h0,KeepsBut.refl _ _ _⟩
 case round=>
  obtain⟨k,hk,rfl,hJs,hkp⟩:=hrel
  by_cases hlt:k < q
  ·obtain⟨j,hj⟩:∃j:Nat,j+1+k=q:=⟨q - 1 - k,by omega⟩;have hji:(q:Int) - 1 - (k:Int)=(j:Int):=by omega
   have hjl:j < E.length:=by rw [←HQ.out];omega
   have HB:=zz (backAt_succ E.length k ⟨j,hjl⟩ (hj.trans HQ.out));have hpl:(backAt E.length k).length < E.length:=by rw [backAt_len E.length k (by rw [←HQ.out];omega),←HQ.out];exact hlt
   have hrx:wr.rangeAt b (off+j*18) (edV E[j]):=fun i u hi=>by
    have h2:=edY.elem HR.out j E[j] (List.getElem?_eq_getElem hjl) i u hi;exact(hkp.cell (p:=⟨b,off+j*18+i,none⟩) hb hbd).trans h2
   have hbs:=(hkp.cell (p:=⟨Bs,0,none⟩) hBm hBd).trans HBs.out;rw [←HQ.out]at hbs;obtain⟨fn,tmps,assign,body,hy,hR⟩:=HY.out _ ⟨j,hjl⟩ wr hJs hpl;have HJ:=zz hj;have hjq:(j:Int) < (q:Int):=by omega
   have hw1:IntKind.i64.wrap ((j:Int) - 1)=(j:Int) - 1:=by rw [IntKind.wrap_i64];omega
   have HKP:=zz hkp;have HRR:=zz hR;rw [hji];unfold encE at hy;dsimp only [Fin.getElem_fin]at hy;generalize E[j]=e at hrx hy;unfold edV at hrx hy;clear hkp hR hJs hj HBs hBs h0 hji hpl
   gi_wp2_with (first
    |refine wpListIn_load_mid rfl 45 _ rfl b (off+j*18) rfl _ _ hrx Tryz.underlying45 rfl (by kernel_rfl) ?_)
   refine HRR.out.mono ?_;rintro e0 W3 (⟨rfl,hJ3,hk3⟩|⟨rfl,hJx3⟩)
   ·have HJ3:=zz hJ3;have HK3:=zz hk3;clear hJ3 hk3 hy hrx
    gi_wp2
    go_roundw
    case rel=>exact⟨k+1,by omega,by have:=HJ.out;congr 1 <;>omega,by rw [HB.out];exact HJ3.out,HKP.out.trans HK3.out⟩
    case measure=>have:=HJ.out;simp [intOf] <;>omega
   ·have HJ3:=zz hJx3;clear hJx3 hy hrx
    gi_wp2
    refine bodyPost_ret (results_none rfl _ _ _) rfl ?_;exact⟨⟨_,rfl⟩,.inr ⟨_,⟨k+1,by rw [←HQ.out];omega,HB.out.symm⟩,HJ3.out⟩⟩
  ·obtain rfl:k=q:=by omega
   have HJS:=zz hJs;have hneg:(k:Int) - 1 - (k:Int)= -1:=by omega
   rw [hneg];clear hJs hkp h0 hBs HBs hneg
   gi_wp2
   go_end0
   exact⟨⟨_,rfl⟩,.inl ⟨_,by rw [←HQ.out],HJS.out⟩⟩
theorem back_stops (n:Nat) (hn:1≤n) (Bs d b off cap:Nat) (E:List EdD) (hl:E.length≤1000) (w:World) (hBs:Bs < w.heap.size) (hBd:Bs≠d) (hb:b < w.heap.size) (hbd:b≠d)
  (hc:w.cell? ⟨Bs,0,none⟩=some (.slice (some ⟨b,off,none⟩) E.length cap)) (hr:w.rangeAt b off (edY.flat E)):
  SeqStopsK Fence.wide n Tryz.prog 112 #[.pointer (some ⟨Bs,0,none⟩)] (encE E) (KeepsBut w.heap.size d) (fun ys=>ys=backAt E.length E.length) (fun pre=>∃k,k≤E.length∧pre=backAt E.length k) E.length w:=fun l J Jx W hW _ _ hY h0=>
 back1_in n hn l Bs w.heap.size d b off cap E hl hb hbd hBs hBd J Jx hY W ((hW.cell (p:=⟨Bs,0,none⟩) hBs).trans hc) (rangeAt_below hr hW) h0
end
section
attribute [local go_sem] Oper.semAt_some
section
variable {P:Program} {ops:Array Oper} {Q:Exit→Act→World→Prop} {md:Region.Mode}
theorem uponIn_of_upon (l n:Nat) (o:Oper) (a:Act) {K K':Act→World→Prop} (hK:∀a w,K a w→K' a w) (r:Result Next) (h:o.upon P a K Q r):o.uponIn (Fence.wide.inRound l) n P a K' Q r:=by
 match r,h with
 | .ok (.value v) w',h=>exact hK _ _ h
 | .ok .skip w',h=>exact hK _ _ h
 | .ok (.defer d) w',h=>exact hK _ _ h
 | .ok (.enter f args) w',h=>
  refine⟨fun hc=>by simp [Fence.wide]at hc,CallsIn.inRound l (callsIn_wide.2 (h.mono ?_))⟩;intro e w'' he
  cases e with
  |returned v=>exact hK _ _ he
  |panicked c=>exact he
  |outgrown=>exact he
 | .ok (.row row args) w',h=>
  refine⟨fun hc=>by simp [Fence.wide]at hc,fun c cs hroom=>?_⟩;obtain⟨v,w'',r,s⟩:=h c cs;exact⟨v,w'',hK _ _ r,stepsIn_wide.2 s⟩
 | .halt (.panic v) w',h=>exact h
theorem wpAnyIn_of_wpAny (l n:Nat) (hd:∀(i:Nat) (o:Oper),ops[i]? =some o→∀c,o.op≠.defer c) (hlo:¬LetsOut Q):∀(fuel:Nat) (listed:Array Bool) (a:Act) (w:World),wpAny P md ops Q fuel listed a w→wpAnyIn (Fence.wide.inRound l) n P md ops Q fuel listed a w
 |0,listed,a,w,h=>h
 |fuel+1,listed,a,w,h=>by
  refine⟨h.1,fun i hi=>?_⟩;have h2:=h.2 i hi;unfold wpOp at h2;unfold wpOpIn
  split
  ·rename_i ho;rw [ho]at h2;exact wpAnyIn_of_wpAny l n hd hlo fuel _ a w h2
  ·rename_i o ho;rw [ho]at h2;simp only at h2
   split
   ·rename_i hw;rw [if_pos hw]at h2
    rcases h2 with h2|⟨_,h2⟩
    ·refine⟨fun f _=>trivial,?_⟩;have hs:o.semAt (Fence.wide.inRound l).round a.eval=execOp a.eval o:=Oper.semAt_some l a.eval o (hd i o ho);rw [hs];exact uponIn_of_upon l n o a (fun a w h=>wpAnyIn_of_wpAny l n hd hlo fuel _ a w h) _ h2
    ·exact absurd h2 hlo
   ·rename_i hw;rw [if_neg hw]at h2;exact⟨fun f _=>trivial,wpAnyIn_of_wpAny l n hd hlo fuel _ _ w h2⟩
theorem wpIn_region_round {id:Nat} {a:Act} {w:World} (l n:Nat) (S:World→Prop) (hm:P.follows .mixedOrders=true) (hd:(ops.all fun o=>match o.op with| .defer _=>false|_=>true)=true) (hlo:¬LetsOut Q) (hS:S w.drew)
  (h:S w.drew→wpAnyH P .any ops Q S ops.size (Array.replicate ops.size false) a w.drew):(Code.region id ops true).wpIn (Fence.wide.inRound l) n P Q a w:=
 wpIn_region_any hm (wpAnyIn_of_wpAny l n (fun i o ho c hc=>by
  have h1:=(Array.all_eq_true_iff_forall_mem.1 hd) o (Array.mem_of_getElem? ho);rw [hc]at h1
  cases h1) hlo _ _ _ _ (wpAny_of_held _ _ _ _ (h hS)))
end
theorem run_lookup_raw {P:Program} {w:World} (t:TypeId) (c:Bool) (k e:TypeId) (ht:P.underlying t=some (.map k e)) (z:Value) (hz:∀w,(zeroValue e).run P w=.ok z w)
  (b:Nat) (es:Array MapEntry) (clock:Nat) (hb:w.heap[b]? =some (.map es clock)) (key:Value)
  (hck:∀em w,(Instr.checkKey em 10000 k key).run P w=.ok () w) (r:Option (Nat×Value)) (hf:∀w,(Instr.findKey k key es.toList).run P w=.ok r w):
  (Instr.lookup t (.map (some b)) key c).run P w=.ok (if c then .tuple #[(r.map (·.2)).getD z,.bool r.isSome]else(r.map (·.2)).getD z) w:=by
 cases r with
 |none=>simp [Instr.lookup,run_underlying ht,MapKept.run_getObj_map hb,hck,hf,hz,Result.andThen]
 |some r=>simp [Instr.lookup,run_underlying ht,MapKept.run_getObj_map hb,hck,hf,Result.andThen]
theorem und91:Tryz.prog.underlying 91=some (.slice 4):=by kernel_rfl
theorem und117:Tryz.prog.underlying 117=some (.map 38 22):=by kernel_rfl
theorem info4:(Tryz.prog.info? 4).map (fun i=>(i.zero,i.size,i.bytes))=some (some (.bool false),1,1):=by kernel_rfl
def boolsV (D:List Bool):Array Value:=(D.map Value.bool).toArray
def LiveI (n B:Nat) (w:World) (pre:List (Fin n)) (W:World):Prop:=
 (∃D:List Bool,D.length=n∧W.heap[B]? =some (.cells (boolsV D) 4 (0,0))∧∀j∈pre,D[j.val]? =some true)∧
 W.heap[B+1]? =some (.cells #[.slice (some ⟨B,0,none⟩) n n] 91 (0,0))∧W.heap[B+2]? =some (.map #[] 0)∧W.heap[B+3]? =some (.cells #[.map (some (B+2))] 117 (0,0))∧Below B w W∧B+5≤W.heap.size
theorem LiveI.own {n B:Nat} {w:World} (m:Nat) (hm:B+5≤m):OwnFrom m (LiveI n B w):=fun pre W W' row h hg hr=>by
 obtain⟨⟨D,h1,h2,h3⟩,h4,h5,h6,h7,h8⟩:=h;have hne:∀i,i < m→some i≠row:=fun i hi e=>by have:=(hr i e.symm).1;omega
 exact⟨⟨D,h1,(hg.block _ (zl h2) (hne _ (by omega))).trans h2,h3⟩,(hg.block _ (zl h4) (hne _ (by omega))).trans h4,(hg.block _ (zl h5) (hne _ (by omega))).trans h5,
  (hg.block _ (zl h6) (hne _ (by omega))).trans h6,h7.grown hg (by have:=zl h2;omega) (fun j hj=>by have:=(hr j hj).1;omega),Nat.le_trans h8 hg.size⟩
set_option maxRecDepth 100000 in
theorem live_any (E:List EdD) (b off cap:Nat) (w:World) (hr:w.rangeAt b off (edY.flat E)) (hl:E.length≤1000) (hpos:0 < E.length) (hk:∀e∈E,e.kind=1∨e.kind=3):
  Calls Tryz.prog 38 #[.slice (some ⟨b,off,none⟩) E.length cap] w fun e w'=>∃v',e=.returned v'∧w'.ownsRow w.heap.size 4 1 v' E.length ((List.replicate E.length true).map Value.bool)∧Below w.heap.size w w':=by
 have hb:b < w.heap.size:=by
  obtain⟨e,r,rfl⟩:∃e r,E=e::r:=by cases E with|nil=>simp at hpos|cons e r=>exact⟨e,r,rfl⟩
  have h0:w.cell? ⟨b,off+0,none⟩=some (.string e.id.a):=hr 0 (.string e.id.a) rfl;exact World.block_lt_of_cell? w _ h0
 have HR:=zz hr;have HK:=zz hk;have hmk:=run_make_row' (P:=Tryz.prog) 91 4 (.bool false) 1 und91 info4 rfl .i64 .i64 E.length (by omega) (by omega);have hmm:= @run_makeMap Tryz.prog;clear hr hk;refine(callsIn_wide (n:=3)).1 ?_;refine callsIn_of_wp_marks Tryz.func38 rfl trivial ?_ rfl;simp only [Tryz.ntmps38,List.size_toArray,List.length_cons,List.length_nil,Nat.reduceAdd,Nat.reduceSub,Array.replicate_succ,Array.replicate_zero,List.push_toArray,List.append_toArray,List.nil_append,List.cons_append]
 gi_wp2_with (refine⟨trivial,?_⟩;gi_at_call 68;refine(callsIn_wide.2 (backward_any _ _ _ _)).mono ?_;rintro e w' ⟨rfl,rfl⟩)
 have hcell:(((((w.alloc (.cells (madeCells #[Value.bool false] E.length) 4)).alloc (.cells #[.slice (some ⟨w.heap.size,0,none⟩) E.length E.length] 91)).alloc (.map #[] 0)).alloc (.cells #[.map (some (w.heap.size+1+1))] 117)).alloc (.cells #[.slice (some ⟨b,off,none⟩) E.length cap] 22)).cell? ⟨w.heap.size+1+1+1+1,0,none⟩=some (.slice (some ⟨b,off,none⟩) E.length cap):=zc _ _ 0 _ _ _ (zg _ _ _ (by simp))
 have hrange:(((((w.alloc (.cells (madeCells #[Value.bool false] E.length) 4)).alloc (.cells #[.slice (some ⟨w.heap.size,0,none⟩) E.length E.length] 91)).alloc (.map #[] 0)).alloc (.cells #[.map (some (w.heap.size+1+1))] 117)).alloc (.cells #[.slice (some ⟨b,off,none⟩) E.length cap] 22)).rangeAt b off (edY.flat E):=
  World.rangeAt_alloc (World.rangeAt_alloc (World.rangeAt_alloc (World.rangeAt_alloc (World.rangeAt_alloc HR.out _) _) _) _) _
 have hbel:Below w.heap.size w (((((w.alloc (.cells (madeCells #[Value.bool false] E.length) 4)).alloc (.cells #[.slice (some ⟨w.heap.size,0,none⟩) E.length E.length] 91)).alloc (.map #[] 0)).alloc (.cells #[.map (some (w.heap.size+1+1))] 117)).alloc (.cells #[.slice (some ⟨b,off,none⟩) E.length cap] 22)):=
  ((((((Below.refl _ w).alloc (Nat.le_refl _) _).alloc (by simp) _).alloc (by simp <;>omega) _).alloc (by simp <;>omega) _).alloc (by simp <;>omega) _)
 have hdone0:∃D:List Bool,D.length=E.length∧madeCells #[Value.bool false] E.length=boolsV D:=⟨List.replicate E.length false,by simp,by apply Array.toList_inj.1;rw [toList_madeCells_one];simp [boolsV]⟩;obtain⟨D0,hD1,hD2⟩:=hdone0
 have hI0:LiveI E.length w.heap.size w [] (((((w.alloc (.cells (madeCells #[Value.bool false] E.length) 4)).alloc (.cells #[.slice (some ⟨w.heap.size,0,none⟩) E.length E.length] 91)).alloc (.map #[] 0)).alloc (.cells #[.map (some (w.heap.size+1+1))] 117)).alloc (.cells #[.slice (some ⟨b,off,none⟩) E.length cap] 22)):=by
  refine⟨⟨D0,hD1,?_,by simp⟩,?_,?_,?_,hbel,by simp⟩
  ·rw [←hD2];exact zo _ _ _ _ (zo _ _ _ _ (zo _ _ _ _ (zo _ _ _ _ (zg _ _ _ rfl))))
  ·exact zo _ _ _ _ (zo _ _ _ _ (zo _ _ _ _ (zg _ _ _ (by simp))))
  ·exact zo _ _ _ _ (zo _ _ _ _ (zg _ _ _ (by simp)))
  ·exact zo _ _ _ _ (zg _ _ _ (by simp))
 have hsz5:(((((w.alloc (.cells (madeCells #[Value.bool false] E.length) 4)).alloc (.cells #[.slice (some ⟨w.heap.size,0,none⟩) E.length E.length] 91)).alloc (.map #[] 0)).alloc (.cells #[.map (some (w.heap.size+1+1))] 117)).alloc (.cells #[.slice (some ⟨b,off,none⟩) E.length cap] 22)).heap.size=w.heap.size+5:=by simp
 clear hmk hmm hD2 hbel;generalize(((((w.alloc (.cells (madeCells #[Value.bool false] E.length) 4)).alloc (.cells #[.slice (some ⟨w.heap.size,0,none⟩) E.length E.length] 91)).alloc (.map #[] 0)).alloc (.cells #[.map (some (w.heap.size+1+1))] 117)).alloc (.cells #[.slice (some ⟨b,off,none⟩) E.length cap] 22))=W5 at*
 refine wpIn_rangeFunc_ownH rfl (by omega) (gf:=112) (lb:=#[.pointer (some ⟨w.heap.size+1+1+1+1,0,none⟩)]) rfl trivial (enters_of Tryz.func112 (by kernel_rfl) rfl)
  (back_stops 2 (by omega) (w.heap.size+1+1+1+1) w.heap.size b off cap E hl W5 (by omega) (by omega) (by omega) (by omega) hcell hrange)
  (fun h h'=>h.trans h') (fun W l o o' hle hlo _ _=>⟨by simp,fun i hi _=>World.putObj_heap_other (by omega)⟩) (Below.refl _ _) (fun _=>rfl)
  (LiveI E.length w.heap.size w) (fun _ _ _=>False) (LiveI.own _ (by omega)) (fun _ _ _ _ _ h _ _=>h) hI0
  (fun x a' W=>∃q,w.heap.size+5≤q∧W.heap[q]? =some (.cells (edV E[x]).toArray 45 (0,0))∧a'= {tmps:=#[.slice (some ⟨b,off,none⟩) E.length cap,undef,.slice none 0 0,.pointer (some ⟨w.heap.size+1,0,none⟩),.pointer (some ⟨w.heap.size+1+1+1,0,none⟩),.int .i64 (x.val:Int),.pointer (some ⟨q,0,none⟩),.slice (some ⟨b,off,none⟩) E.length cap,.int .i64 (E.length:Nat),.slice (some ⟨w.heap.size,0,none⟩) E.length E.length,.map (some (w.heap.size+1+1)),.slice (some ⟨b,off,none⟩) E.length cap,.func (.func 112) #[] #[.pointer (some ⟨w.heap.size+1+1+1+1,0,none⟩)],.int .i64 (x.val:Int),.agg (edV E[x]).toArray,undef,undef,undef,undef,undef,undef,undef,undef,undef,undef,undef,undef,undef,undef,undef,undef,undef,undef,undef,undef,undef,undef,undef,undef,undef,undef,undef,undef,undef],defers:= []})
  (fun x a' u W W' row h hg hrow=>by
   obtain⟨q,h1,h2,h3⟩:=h
   exact⟨q,h1,(hg.block q (zl h2) (fun e=>by obtain⟨_,o,ho,hc⟩:=hrow q e.symm;rw [h2]at ho;cases ho;cases hc)).trans h2,h3⟩) ?assign ?body ?done ?stop
 case assign=>
  intro l pre x W K hI hK;have HI:=zz hI;have HKK:=zz hK;clear hI hK hcell hrange hI0;have hfr:(#[13,14].zip (encE E x)).foldl (fun t (p,v)=>t.setIfInBounds p v) (#[.slice (some ⟨b,off,none⟩) E.length cap,undef,.slice none 0 0,.pointer (some ⟨w.heap.size+1,0,none⟩),.pointer (some ⟨w.heap.size+1+1+1,0,none⟩),undef,undef,.slice (some ⟨b,off,none⟩) E.length cap,.int .i64 (E.length:Nat),.slice (some ⟨w.heap.size,0,none⟩) E.length E.length,.map (some (w.heap.size+1+1)),.slice (some ⟨b,off,none⟩) E.length cap,.func (.func 112) #[] #[.pointer (some ⟨w.heap.size+1+1+1+1,0,none⟩)],undef,undef,undef,undef,undef,undef,undef,undef,undef,undef,undef,undef,undef,undef,undef,undef,undef,undef,undef,undef,undef,undef,undef,undef,undef,undef,undef,undef,undef,undef,undef]:Array Value)=#[.slice (some ⟨b,off,none⟩) E.length cap,undef,.slice none 0 0,.pointer (some ⟨w.heap.size+1,0,none⟩),.pointer (some ⟨w.heap.size+1+1+1,0,none⟩),undef,undef,.slice (some ⟨b,off,none⟩) E.length cap,.int .i64 (E.length:Nat),.slice (some ⟨w.heap.size,0,none⟩) E.length E.length,.map (some (w.heap.size+1+1)),.slice (some ⟨b,off,none⟩) E.length cap,.func (.func 112) #[] #[.pointer (some ⟨w.heap.size+1+1+1+1,0,none⟩)],.int .i64 (x.val:Int),.agg (edV E[x]).toArray,undef,undef,undef,undef,undef,undef,undef,undef,undef,undef,undef,undef,undef,undef,undef,undef,undef,undef,undef,undef,undef,undef,undef,undef,undef,undef,undef,undef,undef]:=by simp [encE]
  rw [hfr];clear hfr
  gi_wp2_with (first
   |refine wpListIn_store_new W rfl 45 _ _ rfl _ _ rfl rfl (by kernel_rfl) (by rfl) (all_oneCell_toArray (edY.one _)) ?_)
  exact HKK.out _ _ ((KeepsOthers.alloc W _).from _) ⟨by simp,fun i hi _=>Below.heap_alloc W _ i (by have:=HI.out.2.2.2.2.2;omega)⟩ (OwnFrom.alloc (LiveI.own W5.heap.size (by omega)) _ HI.out) ⟨W.heap.size,HI.out.2.2.2.2.2,zg _ _ _ rfl,rfl⟩
 case body=>
  rintro l pre x a' W hle hlp hI ⟨q,hq,hqb,rfl⟩ hlen;have hki:E[x].kind=1∨E[x].kind=3:=HK.out _ (by simp);generalize E[x]=e at hki hqb⊢;obtain⟨⟨D,h1,h2,h3⟩,h4,h5,h6,h7,h8⟩:=hI;have hxl:x.val < D.length:=by rw [h1];exact x.isLt
  have e0:W.cell? ⟨w.heap.size,x.val,none⟩=some (.bool D[x.val]):=by rw [zc _ _ _ _ _ _ h2];simp [boolsV,hxl]
  have f0:W.frozen? ⟨w.heap.size,x.val,none⟩=false:=frozen_of_row W w.heap.size x.val _ _ h2;have e1:W.cell? ⟨w.heap.size+1,0,none⟩=some (.slice (some ⟨w.heap.size,0,none⟩) E.length E.length):=zc _ _ 0 _ _ _ h4;have e3:W.cell? ⟨w.heap.size+1+1+1,0,none⟩=some (.map (some (w.heap.size+1+1))):=zc _ _ 0 _ _ _ h6;have q0:W.cell? ⟨q,0,none⟩=some (.string e.id.a):=zc _ _ 0 _ _ _ hqb;have q1:W.cell? ⟨q,1,none⟩=some (.int .i64 e.id.n):=zc _ _ 1 _ _ _ hqb;have q5:W.cell? ⟨q,5,none⟩=some (.int .i64 e.kind):=zc _ _ 5 _ _ _ hqb;have hxi:(x.val:Int) < (E.length:Int):=by have:=x.isLt;omega
  have hmx:Tryz.prog.follows .mixedOrders=true:=by kernel_rfl
  have hd:1≤3 - 1 - 1:=by omega
  have H2:=zz h2;have H3:=zz h3;have H4:=zz h4;have H5:=zz h5;have H6:=zz h6;have H7:=zz h7;have H1:=zz h1;clear h1 h2 h3 h4 h5 h6 h7 hqb hlp hcell hrange hI0 hD1 D0
  gi_wp2
  refine wpIn_region_round l _ (fun w'=>w'.cell? ⟨q,0,none⟩=some (.string e.id.a)∧w'.cell? ⟨q,1,none⟩=some (.int .i64 e.id.n)∧w'.cell? ⟨w.heap.size+1,0,none⟩=some (.slice (some ⟨w.heap.size,0,none⟩) E.length E.length)∧w'.cell? ⟨w.heap.size+1+1+1,0,none⟩=some (.map (some (w.heap.size+1+1)))∧w'.heap[w.heap.size+1+1]? =some (.map #[] 0)∧(∃bb,w'.cell? ⟨w.heap.size,x.val,none⟩=some (.bool bb))∧w'.frozen? ⟨w.heap.size,x.val,none⟩=false) (by kernel_rfl) (by kernel_rfl) (by rintro⟨a9,w9,h9⟩;exact h9) ⟨q0,q1,e1,e3,H5.out,⟨_,e0⟩,f0⟩ (fun hS=>?_);refine tk 0 (.slice (some ⟨w.heap.size,0,none⟩) E.length E.length) rfl hS ?_ (hy:=fun _ hS=>by obtain⟨q0,q1,e1,e3,h5,e0,f0⟩:=hS;go_simp);simp only [Act.put,List.setIfInBounds_toArray,List.set_cons_zero,List.set_cons_succ];refine tk 1 (.int .i64 (x.val:Int)) rfl hS ?_;simp only [Act.put,List.setIfInBounds_toArray,List.set_cons_zero,List.set_cons_succ];refine tk 2 (.map (some (w.heap.size+1+1))) rfl hS ?_ (hy:=fun _ hS=>by obtain⟨q0,q1,e1,e3,h5,e0,f0⟩:=hS;go_simp);simp only [Act.put,List.setIfInBounds_toArray,List.set_cons_zero,List.set_cons_succ];refine tk 3 (.pointer (some ⟨q,0,none⟩)) rfl hS ?_;simp only [Act.put,List.setIfInBounds_toArray,List.set_cons_zero,List.set_cons_succ];refine tk 4 (.agg #[.string e.id.a,.int .i64 e.id.n]) rfl hS ?_ (hy:=fun _ hS=>by obtain⟨q0,q1,e1,e3,h5,e0,f0⟩:=hS;go_simp);simp only [Act.put,List.setIfInBounds_toArray,List.set_cons_zero,List.set_cons_succ];refine tk 5 (.slice none 0 0) rfl hS ?_ (hy:=fun w' hS=>by obtain⟨q0,q1,e1,e3,h5,e0,f0⟩:=hS;have hlk:=run_lookup_raw (P:=Tryz.prog) (w:=w') 117 false 38 22 und117 (.slice none 0 0) (fun w=>by kernel_rfl) (w.heap.size+1+1) #[] 0 h5 (.agg #[.string e.id.a,.int .i64 e.id.n]) (ck38 _ _) none (miss0 _ _);simp only [Option.map_none,Option.getD_none,Bool.false_eq_true,if_false]at hlk;go_simp);simp only [Act.put,List.setIfInBounds_toArray,List.set_cons_zero,List.set_cons_succ];refine tk 6 (.func (.func 70) #[] #[.pointer (some ⟨q,0,none⟩)]) rfl hS ?_;simp only [Act.put,List.setIfInBounds_toArray,List.set_cons_zero,List.set_cons_succ];refine rd 7 rfl (fun K9 hK9=>?_);go_simp;refine(containsNil _ _ _ _).mono ?_;rintro e9 w9 ⟨rfl,rfl⟩;refine hK9.out _ _ hS (fun _=>?_);clear hK9;(try simp only [PU]);refine tk 8 (.bool true) rfl hS ?_;simp only [Act.put,List.setIfInBounds_toArray,List.set_cons_zero,List.set_cons_succ];refine tk 9 (.pointer (some ⟨w.heap.size,x.val,none⟩)) rfl hS ?_;simp only [Act.put,List.setIfInBounds_toArray,List.set_cons_zero,List.set_cons_succ];refine rd 10 rfl (fun K9 hK9=>?_);go_simp;have hqB:w.heap.size≠q:=by omega
  have g0:(W.setCell ⟨w.heap.size,x.val,none⟩ (.bool true)).drew.cell? ⟨w.heap.size,x.val,none⟩=some (.bool true):=World.cell?_setCell_same' W ⟨w.heap.size,x.val,none⟩ (.bool true) (by rw [e0];rfl)
  have g1:(W.setCell ⟨w.heap.size,x.val,none⟩ (.bool true)).drew.cell? ⟨w.heap.size+1,0,none⟩=some (.slice (some ⟨w.heap.size,0,none⟩) E.length E.length):=by
   show(W.setCell _ _).cell? _=_;rw [World.cell?_setCell_far _ _ _ _ (by show w.heap.size≠w.heap.size+1;omega)];exact e1
  have g3:(W.setCell ⟨w.heap.size,x.val,none⟩ (.bool true)).drew.cell? ⟨w.heap.size+1+1+1,0,none⟩=some (.map (some (w.heap.size+1+1))):=by
   show(W.setCell _ _).cell? _=_;rw [World.cell?_setCell_far _ _ _ _ (by show w.heap.size≠w.heap.size+1+1+1;omega)];exact e3
  have gq0:(W.setCell ⟨w.heap.size,x.val,none⟩ (.bool true)).drew.cell? ⟨q,0,none⟩=some (.string e.id.a):=by
   show(W.setCell _ _).cell? _=_;rw [World.cell?_setCell_far _ _ _ _ hqB];exact q0
  have gq1:(W.setCell ⟨w.heap.size,x.val,none⟩ (.bool true)).drew.cell? ⟨q,1,none⟩=some (.int .i64 e.id.n):=by
   show(W.setCell _ _).cell? _=_;rw [World.cell?_setCell_far _ _ _ _ hqB];exact q1
  have gq5:(W.setCell ⟨w.heap.size,x.val,none⟩ (.bool true)).drew.cell? ⟨q,5,none⟩=some (.int .i64 e.kind):=by
   show(W.setCell _ _).cell? _=_;rw [World.cell?_setCell_far _ _ _ _ hqB];exact q5
  have gf:(W.setCell ⟨w.heap.size,x.val,none⟩ (.bool true)).drew.frozen? ⟨w.heap.size,x.val,none⟩=false:=by
   show(W.setCell _ _).frozen? _=_;rw [World.frozen?_setCell];exact f0
  have gh:∀i,i≠w.heap.size→(W.setCell ⟨w.heap.size,x.val,none⟩ (.bool true)).drew.heap[i]? =W.heap[i]?:=fun i hi=>heap_setCell_other W ⟨w.heap.size,x.val,none⟩ i _ hi
  have gB:(W.setCell ⟨w.heap.size,x.val,none⟩ (.bool true)).drew.heap[w.heap.size]? =some (.cells (boolsV (D.set x.val true)) 4 (0,0)):=by
   show(W.setCell ⟨w.heap.size,x.val,none⟩ (.bool true)).heap[w.heap.size]? =_
   rw [setCell_eq_setRow W w.heap.size x.val _ 4 (0,0) (.bool true) H2.out,setRow_heap _ _ _ _ _ _ H2.out]
   congr 2
   apply Array.toList_inj.1
   simp [boolsV,List.map_set]
  have gk:KeepsFrom W5.heap.size W (W.setCell ⟨w.heap.size,x.val,none⟩ (.bool true)).drew:=((KeepsOthers.setCell _ _ _).trans (KeepsOthers.drew _)).from _
  have gb:Below w.heap.size w (W.setCell ⟨w.heap.size,x.val,none⟩ (.bool true)).drew:=(H7.out.setCell (p:=⟨w.heap.size,x.val,none⟩) (Nat.le_refl _) _).drew;have gs:(W.setCell ⟨w.heap.size,x.val,none⟩ (.bool true)).drew.heap.size=W.heap.size:=by simp [World.drew]
  refine hK9.out _ _ ⟨gq0,gq1,g1,g3,(gh _ (by omega)).trans H5.out,⟨_,g0⟩,gf⟩ (fun _=>?_);clear e0 f0 e1 e3 q0 q1 q5 hS;generalize(W.setCell ⟨w.heap.size,x.val,none⟩ (.bool true)).drew=W2 at*
  (try simp only [PU]);refine wpAnyH_done (by kernel_rfl) ?_ _
  have hpost:KeepsFrom W5.heap.size W W2∧KeepsBut W5.heap.size w.heap.size W W2∧LiveI E.length w.heap.size w (pre++ [x]) W2:=by
   refine⟨gk,⟨by omega,fun i _ hd=>gh i hd⟩,⟨D.set x.val true,by rw [List.length_set];exact H1.out,gB,?_⟩,(gh _ (by omega)).trans H4.out,(gh _ (by omega)).trans H5.out,(gh _ (by omega)).trans H6.out,gb,by omega⟩;intro j hj
   by_cases h:x.val=j.val
   ·rw [List.getElem?_set,if_pos h,if_pos hxl]
   ·rw [List.getElem?_set,if_neg h];rw [List.mem_append]at hj
    rcases hj with hj|hj
    ·exact H3.out j hj
    ·simp at hj;subst hj;exact absurd rfl h
  have HPOST:=zz hpost;clear hpost gh gB gk gb gs g3 gq0 gq1 gf
  rcases hki with hki|hki
  ·rw [hki]at gq5
   gi_wp2
   exact HPOST.out
  ·rw [hki]at gq5
   gi_wp2
   exact HPOST.out
 case done=>
  rintro D xs W hD rfl hI hK;obtain⟨⟨L,h1,h2,h3⟩,h4,h5,h6,h7,h8⟩:=hI;have e1:W.cell? ⟨w.heap.size+1,0,none⟩=some (.slice (some ⟨w.heap.size,0,none⟩) E.length E.length):=zc _ _ 0 _ _ _ h4
  have hL:L=List.replicate E.length true:=by
   apply List.ext_getElem?
   intro i
   by_cases hi:i < E.length
   ·rw [h3 ⟨i,hi⟩ (backAt_all E.length ⟨i,hi⟩)];simp [hi]
   ·rw [List.getElem?_eq_none (by omega),List.getElem?_eq_none (by simp;omega)]
  have H2:=zz h2;have H7:=zz h7;have HLL:=zz hL;clear h1 h2 h3 h4 h5 h6 h7 hL hcell hrange hI0
  gi_wp2
  refine⟨by simp,.inl ⟨_,_,rfl,run_takeDeferred hK,?_⟩⟩;refine⟨_,results_tmp rfl _ _ _,_,rfl,?_,?_⟩
  ·refine⟨by simp,.inr ⟨w.heap.size,E.length,boolsV L,rfl,Nat.le_refl _,?_,Nat.le_refl _,by unfold maxLen;omega,?_,?_⟩⟩
   ·exact(World.putObj_heap_other (by omega)).trans H2.out
   ·rw [HLL.out];simp [boolsV]
   ·rw [HLL.out];simp [boolsV]
  ·exact H7.out.grown (grownBy_putObj' _ _ _) (by omega) (fun j hj=>by cases hj;omega)
 case stop=>
  rintro D c pre W _ _ h _;exact h.elim
end
section
open Go.RowKit
def z45:Array Value:=#[.string ⟨#[]⟩,.int .i64 0,.int .i64 0,.int .i64 0,.slice none 0 0,.int .i64 0,.string ⟨#[]⟩,.int .i64 0,.string ⟨#[]⟩,.int .i64 0,.bool false,.string ⟨#[]⟩,.string ⟨#[]⟩,.string ⟨#[]⟩,.string ⟨#[]⟩,.string ⟨#[]⟩,.int .i64 0,.string ⟨#[]⟩]
theorem info45:(Tryz.prog.info? 45).map (fun i=>(i.zero,i.size,i.bytes))=some (some (.agg z45),18,232):=by kernel_rfl
theorem Edits.below {w w':World} {v:Value} {E:List EdP} (h:Edits w v E) (hb:Below w.heap.size w w'):Edits w' v E:=⟨h.1.below hb,fun e he=>⟨(h.2 e he).1.below hb,(h.2 e he).2⟩⟩
theorem Lay.Rd.past {E:Type} {Y:Lay E} {w w':World} {v:Value} {l:List E} (h:Y.Rd w v l) (k:Nat) (hk:∀j u,w.cell? ⟨k,j,none⟩=some u→∃a n c,u=.slice a n c) (hf:∀x,∃s,(Y.V x)[0]? =some (.string s)) (hw:∀i,i≠k→w'.heap[i]? =w.heap[i]?):Y.Rd w' v l:=by
 rcases h with h|⟨b,off,cap,h1,h2,h3⟩
 ·exact .inl h
 ·refine .inr ⟨b,off,cap,h1,h2,?_⟩
  cases l with
  |nil=>intro j u hj;simp [Lay.flat]at hj
  |cons x r=>
   have hb:b≠k:=by
    rintro rfl;obtain⟨s,hs⟩:=hf x
    have h4:(Y.flat (x::r))[0]? =some (.string s):=by
     rw [Y.flat_cons,List.getElem?_append_left (by have:=(List.getElem?_eq_some_iff.1 hs).1;exact this)];exact hs
    obtain⟨a,n,c,hc⟩:=hk _ _ (h3 0 _ h4);cases hc
   intro j u hj;exact(World.cell?_of_block (w:=w) (w':=w') (a:=⟨b,off+j,none⟩) (hw b hb)).trans (h3 j u hj)
theorem RRegs.past {w w':World} {v:Value} {R:List RegP} (h:RRegs w v R) (k:Nat) (hk:∀j u,w.cell? ⟨k,j,none⟩=some u→∃a n c,u=.slice a n c) (hw:∀i,i≠k→w'.heap[i]? =w.heap[i]?):RRegs w' v R:=by
 obtain⟨ds,h1,h2,h3⟩:=h;exact⟨ds,h1.past k hk (fun x=>⟨_,rfl⟩) hw,h2,fun i d r a b=>⟨(h3 i d r a b).1,(h3 i d r a b).2.1,(h3 i d r a b).2.2.past k hk (fun x=>⟨_,rfl⟩) hw⟩⟩
theorem box_slices {W:World} {k:Nat} {x y:SlV} {t:TypeId} (h:W.heap[k]? =some (.cells #[.slice x.a x.len x.cap,.slice y.a y.len y.cap] t (0,0))):∀j u,W.cell? ⟨k,j,none⟩=some u→∃a n c,u=.slice a n c:=fun j u hu=>by
 rw [zc _ _ j _ _ _ h]at hu
 match j,hu with
 |0,hu=>simp at hu;exact⟨_,_,_,hu.symm⟩
 |1,hu=>simp at hu;exact⟨_,_,_,hu.symm⟩
 |j+2,hu=>simp at hu
set_option maxRecDepth 100000 in
theorem stApply_any (E:List EdP) (v:Value) (w:World) (hE:Edits w v E) (hl:E.length≤1000) (hpos:0 < E.length) (N:List TnD) (hN:adds E=N) (hN2:N.length≤2)
  (hkind:∀(k:Nat) (e:EdP),E[k]? =some e→(e.d.kind=1∨e.d.kind=3)∧e.d.parent=rootI)
  (hpar:∀(k:Nat) (e:EdP),E[k]? =some e→∀w,(Instr.findKey 38 (.agg #[.string ⟨#[]⟩,.int .i64 0]) (entsOf (adds (E.take k))).toList).run Tryz.prog w=.ok none w)
  (hnew:∀(k:Nat) (e:EdP),E[k]? =some e→e.d.kind=1→∀w,(Instr.findKey 38 (.agg #[.string e.d.id.a,.int .i64 e.d.id.n]) (entsOf (adds (E.take k))).toList).run Tryz.prog w=.ok none w)
  (hs1:sort2 (fun x y=>cmpId x.node y.node) N=N) (hs2:sort2 (fun x y=>cmpId x.node y.node) N.reverse=N) (hok:∀k e,E[k]? =some e→StepOk (regRun (E.take k)) e):
  Calls Tryz.prog 15 #[.agg #[.slice none 0 0,.slice none 0 0],v] w fun e w'=>∃s1 s2:SlV,e=.returned (.agg #[.slice s1.a s1.len s1.cap,.slice s2.a s2.len s2.cap])∧tnY.Rd w' s1.v N∧RRegs w' s2.v (regRun E)∧Below w.heap.size w w':=by
 obtain⟨i0,hi,hz0,hz1,hz2⟩:=info_parts info45;have HMT:=zz (fun(v:Value) (W:World) (hW:Edits W v E)=>mtApply_any E v W hW hl N hN hN2 hkind hpar hnew hs1 hs2);have HRG:=zz (fun(v:Value) (W:World) (hW:Edits W v E)=>regApply_any E v W hW hl hok);obtain⟨hv,hd⟩:=hE
 obtain⟨b,off,cap,rfl,hrange⟩:∃b off cap,v=.slice (some ⟨b,off,none⟩) E.length cap∧w.rangeAt b off (edY.flat (E.map (·.d))):=by
  rcases hv with⟨_,h2⟩|⟨b,off,cap,h1,_,h3⟩
  ·have:E.length=0:=by have:=congrArg List.length h2;simpa using this
   omega
  ·exact⟨b,off,cap,by rw [h1,List.length_map],h3⟩
 have hkk:∀e∈E.map (·.d),e.kind=1∨e.kind=3:=by
  intro e he;obtain⟨x,hx,rfl⟩:=List.mem_map.1 he;obtain⟨k,hk⟩:=List.getElem?_of_mem hx;exact(hkind k x hk).1
 have hb0:=below2 w (.cells #[.slice none 0 0,.slice none 0 0] 28) (.cells #[.slice none 0 0,.slice none 0 0] 28);have HLV:=zz (live_any (E.map (·.d)) b off cap ((w.alloc (.cells #[.slice none 0 0,.slice none 0 0] 28)).alloc (.cells #[.slice none 0 0,.slice none 0 0] 28)) (rangeAt_below hrange hb0) (by simpa using hl) (by simpa using hpos) hkk);rw [List.length_map]at HLV;have R2:((w.alloc (.cells #[.slice none 0 0,.slice none 0 0] 28)).alloc (.cells #[.slice none 0 0,.slice none 0 0] 28)).heap[w.heap.size]? =_:=box2.1;have R4:((w.alloc (.cells #[.slice none 0 0,.slice none 0 0] 28)).alloc (.cells #[.slice none 0 0,.slice none 0 0] 28)).heap[w.heap.size+1]? =_:=box2.2;have HRA:=zz hrange;have HD:=zz hd;clear hv hd hkind hpar hnew hs1 hs2 hok hrange hkk hN;generalize hn:E.length=n at*
 have HN:=zz hn;clear hn;go_enter Tryz.func15,Tryz.ntmps15
 go_wp2_with fail
 refine HLV.out.mono ?_;rintro e w1 ⟨v1,rfl,ho1,hb1⟩;have R2:=(hb1.block _ (zl R2)).trans R2;have R4:=(hb1.block _ (zl R4)).trans R4;have hbw:Below w.heap.size w w1:=hb0.trans (hb1.mono hb0.size)
 obtain⟨g1,c1,hv1⟩:∃g c,v1=.slice (some ⟨g,0,none⟩) n c:=by
  rcases ho1.2 with⟨_,h⟩|⟨g,cap,cur,h,_⟩
  ·omega
  ·exact⟨g,cap,h⟩
 subst hv1;have hb2:=ownsRow_rangeAt ho1;have HB2:=zz hb2;have HBW:=zz hbw;have HR2:=zz R2;have HR4:=zz R4;clear ho1 hb1 hb2 hbw R2 R4 hb0 HLV;go_wp2
 go_loopg [5,11] n (fun gn t5 t11 wr=>∃(k:Nat) (s:SlV),k+gn=n∧t11=.int .i64 k∧t5=.slice s.a s.len s.cap∧wr.ownsRow w1.heap.size 45 18 s.v k (edY.flat ((E.take k).map (·.d)))∧Below w1.heap.size w1 wr)
 case atStart=>exact⟨0,SlV.nil,by omega,rfl,rfl,owns_nil0 _ _ _ _,Below.refl _ _⟩
 case round=>
  obtain⟨G,rfl⟩:∃G,G=gk:=⟨_,rfl⟩;obtain⟨k,s,hk,rfl,rfl,hown,hbel⟩:=hrel;have HK:=zz hk;have hsz:w1.heap.size≤wr.heap.size:=hbel.size;have HBEL:=zz hbel;have HOWN:=zz hown;clear hk
  by_cases hlt:k < n
  ·have hx:E[k]? =some (E[k]'(by rw [HN.out];exact hlt)):=List.getElem?_eq_getElem _;generalize E[k]'(by rw [HN.out];exact hlt)=e at hx;have HX:=zz hx;have hxd:(E.map (·.d))[k]? =some e.d:=by rw [List.getElem?_map,hx];rfl
   have hrx:wr.rangeAt b (off+k*18) (edV e.d):=rangeAt_below (rangeAt_below (edY.elem HRA.out k e.d hxd) (HBW.out)) hbel
   have hlv:wr.cell? ⟨g1,k,none⟩=some (.bool true):=by
    have h1:w1.cell? ⟨g1,0+k,none⟩=some (.bool true):=HB2.out k (.bool true) (by simp [hlt]);rw [Nat.zero_add]at h1;exact(hbel.cell (p:=⟨g1,k,none⟩) (World.block_lt_of_cell? _ _ h1)).trans h1
   have hltZ:(k:Int) < (n:Int):=by omega
   have HOA:=zz (hown.alloc (.cells (edV e.d).toArray 45));unfold edV at hrx;clear hx hxd hown hbel
   go_wp2_with(first
    |refine wpList_load_mid rfl 45 _ rfl b (off+k*18) rfl _ _ hrx Tryz.underlying45 rfl (by kernel_rfl) ?_
    |(at_builtin;refine wpList_append_own_at _ rfl _ _ 22 rfl w1.heap.size 45 i0 (.agg z45) 18 232 Tryz.underlying22 hi hz0 hz1 hz2 rfl (by decide) s.v k _ rfl HOA.out ⟨wr.heap.size,0,none⟩ 1 1 (edV e.d) rfl rfl (news_of (zg _ _ _ rfl)) (edY.one e.d) (by unfold maxLen;omega) (by omega) (by simp;omega) ?_;intro v2 w2 hown1 hg1 _ hloc1))
   have hb1:=(HBEL.out.alloc hsz (.cells (edV e.d).toArray 45)).grown hg1 (by simp;omega) (fun j hj=>(HOA.out.lt j hj).1)
   have hown3:w2.ownsRow w1.heap.size 45 18 v2 (k+1) (edY.flat ((E.take (k+1)).map (·.d))):=by
    rw [list_snoc E k e HX.out,List.map_append,edY.flat_append];have:edY.flat ([e].map (·.d))=edV e.d:=by simp [Lay.flat,edY]
    rw [this];exact hown1
   obtain⟨s1,hs1⟩:=ownsForm hown1;subst hs1;clear hown1 hg1 hloc1 hrx hlv;go_wp2
   go_roundg (n - 1 - k)
   case rel=>exact⟨k+1,s1,by have:=HK.out;omega,by go_num,rfl,hown3,hb1⟩
   case measure=>have:=HK.out;omega
  ·obtain rfl:k=n:=by have:=HK.out;omega
   have hEd:Edits wr (.slice s.a s.len s.cap) E:=by
    refine⟨?_,fun e he=>?_⟩
    ·have h1:=HOWN.out;rw [←HN.out,List.take_length]at h1;exact Lay.Rd.of_owns (Y:=edY) (by rw [List.length_map];exact h1)
    ·have h2:=HD.out e he;exact⟨(h2.1.below HBW.out).below HBEL.out,h2.2⟩
   have ED:=Edits.below hEd (Below.refl _ _).drew;have R2:wr.drew.heap[w.heap.size]? =_:=(HBEL.out.block _ (zl HR2.out)).trans HR2.out;have R4:wr.drew.heap[w.heap.size+1]? =_:=(HBEL.out.block _ (zl HR4.out)).trans HR4.out;have BL:Below w.heap.size w wr.drew:=(HBW.out.trans (HBEL.out.mono HBW.out.size)).drew;clear hown hbel hEd
   go_wp2_with fail
   go_region_held3 (fun w'=>w'.cell? ⟨w.heap.size,0,none⟩=some (.slice none 0 0)∧w'.cell? ⟨w.heap.size,1,none⟩=some (.slice none 0 0))
    (first
     |with_reducible exact two_cells R2
     |exact⟨far1 (two_cells R2).1 (by omega),far1 (two_cells R2).2 (by omega)⟩
     |go_keep)
    (first
     |(go_at_call 39;have gd:=RR;refine(HMT.out _ _ ED).mono ?_;rintro e w4 ⟨v3,rfl,ho,hb⟩;obtain⟨s3,hs3⟩:=ownsForm ho;subst hs3;have NN:=Lay.Rd.of_owns (Y:=tnY) ho;have RR:=RR.below hb;have ED:=ED.below hb;have R2:=(hb.block _ (zl R2)).trans R2;have R4:=(hb.block _ (zl R4)).trans R4;have BL:=BL.trans (hb.mono BL.size);have q1:=two_cells R4;have q10:=q1.1;have q11:=q1.2;have q2:=two_free R4;have q20:=q2.1;have q21:=q2.2)
     |(go_at_call 39;refine(HMT.out _ _ ED).mono ?_;rintro e w4 ⟨v3,rfl,ho,hb⟩;obtain⟨s3,hs3⟩:=ownsForm ho;subst hs3;have NN:=Lay.Rd.of_owns (Y:=tnY) ho;have ED:=ED.below hb;have R2:=(hb.block _ (zl R2)).trans R2;have R4:=(hb.block _ (zl R4)).trans R4;have BL:=BL.trans (hb.mono BL.size))
     |(go_at_call 40;have gd:=NN;refine(HRG.out _ _ ED).mono ?_;rintro e w5 ⟨v4,rfl,ho,hb⟩;have hoo:=ho;obtain⟨ds4,ho4,hr4⟩:=hoo;obtain⟨s4,hs4⟩:=ownsForm ho4;subst hs4;have RR:=ho.read;have NN:=NN.below hb;have ED:=ED.below hb;have R2:=(hb.block _ (zl R2)).trans R2;have R4:=(hb.block _ (zl R4)).trans R4;have BL:=BL.trans (hb.mono BL.size);have q1:=two_cells R4;have q10:=q1.1;have q11:=q1.2;have q2:=two_free R4;have q20:=q2.1;have q21:=q2.2)
     |(go_at_call 40;refine(HRG.out _ _ ED).mono ?_;rintro e w5 ⟨v4,rfl,ho,hb⟩;have hoo:=ho;obtain⟨ds4,ho4,hr4⟩:=hoo;obtain⟨s4,hs4⟩:=ownsForm ho4;subst hs4;have RR:=ho.read;have ED:=ED.below hb;have R2:=(hb.block _ (zl R2)).trans R2;have R4:=(hb.block _ (zl R4)).trans R4;have BL:=BL.trans (hb.mono BL.size)))
   all_goals go_wp2
   all_goals exact bodyPost_ret (results_cell_row Tryz.results15 _ _ (w.heap.size+1) 28 _ (0,0) _ rfl (set2 R4) Tryz.underlying28 rfl (by kernel_rfl)) rfl ⟨s3,s4,rfl,
    NN.past (w.heap.size+1) (box_slices (x:=SlV.nil) (y:=SlV.nil) R4) (fun x=>⟨_,rfl⟩) (fun i hi=>(heap_setCell_other _ _ _ _ hi).trans (heap_setCell_other _ _ _ _ hi)),
    RR.past (w.heap.size+1) (box_slices (x:=SlV.nil) (y:=SlV.nil) R4) (fun i hi=>(heap_setCell_other _ _ _ _ hi).trans (heap_setCell_other _ _ _ _ hi)),(BL.setCell (by simp) _).setCell (by simp) _⟩
end
end Go.Proofs.YteigcnamkfebgaaGreatDoor
