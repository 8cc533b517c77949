import Derived.Test.YteigcnamkfebgaaGreatDoorGA
set_option linter.all false
set_option maxHeartbeats 25600000
namespace Go.Proofs.YteigcnamkfebgaaGreatDoor
open Go.RowKit
theorem own_empty (W:World) (g base:Nat) (e:TypeId) (size:Nat) (hg:W.heap.size=g) (hb:base≤g):(W.alloc (.cells #[] e)).ownsRow base e size (.slice (some ⟨g,0,none⟩) 0 0) 0 []:=by
 subst hg;exact⟨by simp,.inr ⟨W.heap.size,0,#[],rfl,hb,zg _ _ _ rfl,Nat.zero_le _,Nat.zero_le _,by simp,by simp⟩⟩
theorem ex_app1 {E:Type} {Y:Lay E} {o:Oper} {a:Act} {w:World} {K:Act→World→Prop} {Q:Exit→Act→World→Prop} (s t:Operand) (ty e:TypeId) (bytes:Nat) (z:Value) (ho:o.op=.call {callee:=.builtin .append,args:=#[s,t],argTypes:=#[ty,ty]})
  (hu:Tryz.prog.underlying ty=some (.slice e)) (hinfo:(Tryz.prog.info? e).map (fun i=>(i.zero,i.size,i.bytes))=some (some z,Y.k,bytes)) (hzc:z.cells.size=Y.k) (hk:0 < Y.k) (base:Nat) (v:Value) (L:List E) (hs:a.eval s=v)
  (hown:w.ownsRow base e Y.k v L.length (Y.flat L)) (x:E) (q c:Nat) (ht:a.eval t=.slice (some ⟨q,0,none⟩) 1 c) {te:TypeId} {fr:Nat×Nat} (hq:w.heap[q]? =some (.cells (Y.V x).toArray te fr)) (h63:L.length+1≤100000000) (hb:bytes≤1000) (hbase:base≤w.heap.size)
  (h:∀(s':SlV) w',w'.ownsRow base e Y.k s'.v (L++ [x]).length (Y.flat (L++ [x]))→w.grownBy w' v.ownBlock→(∀B,B≤base→Below B w w')→K (a.put o.dst (.slice s'.a s'.len s'.cap)) w'):o.wp Tryz.prog a w K Q:=by
 obtain⟨i0,hi,hz0,hz1,hz2⟩:=info_parts hinfo;refine ex_append ho base e i0 z Y.k bytes hu hi hz0 hz1 hz2 hzc hk v L.length (Y.flat L) hs hown (some ⟨q,0,none⟩) 1 c (Y.V x) ht (by rw [Y.len];omega) (fun _=>⟨_,rfl,news_of (cs:=Y.V x) hq⟩) (Y.one x) (by unfold maxLen;omega) ?_ hbase ?_
 ·exact Nat.le_trans (Nat.mul_le_mul h63 hb) (by omega)
 ·intro v' w' hown1 hg1;obtain⟨s1,hs1⟩:=ownsForm hown1;subst hs1;refine h s1 w' ?_ hg1 (fun B hB=>(Below.refl B w).grown hg1 (by omega) (fun j hj=>Nat.le_trans hB (hown.lt j hj).1));rw [List.length_append,Y.flat_append];have h9:Y.flat [x]=Y.V x:=by simp [Lay.flat]
  rw [h9];exact hown1
theorem wpList_app1 {E:Type} {Y:Lay E} {ops:Array Oper} {rest:List Oper} {o:Oper} {a:Act} {w:World} {Q:Exit→Act→World→Prop} (hgd:o.guard=none) (s t:Operand) (ty e:TypeId) (bytes:Nat) (z:Value) (ho:o.op=.call {callee:=.builtin .append,args:=#[s,t],argTypes:=#[ty,ty]})
  (hu:Tryz.prog.underlying ty=some (.slice e)) (hinfo:(Tryz.prog.info? e).map (fun i=>(i.zero,i.size,i.bytes))=some (some z,Y.k,bytes)) (hzc:z.cells.size=Y.k) (hk:0 < Y.k) (base:Nat) (v:Value) (L:List E) (hs:a.eval s=v)
  (hown:w.ownsRow base e Y.k v L.length (Y.flat L)) (x:E) (q c:Nat) (ht:a.eval t=.slice (some ⟨q,0,none⟩) 1 c) {te:TypeId} {fr:Nat×Nat} (hq:w.heap[q]? =some (.cells (Y.V x).toArray te fr)) (h63:L.length+1≤100000000) (hb:bytes≤1000) (hbase:base≤w.heap.size)
  (h:∀(s':SlV) w',w'.ownsRow base e Y.k s'.v (L++ [x]).length (Y.flat (L++ [x]))→w.grownBy w' v.ownBlock→(∀B,B≤base→Below B w w')→wpList Tryz.prog ops Q rest (a.put o.dst (.slice s'.a s'.len s'.cap)) w'):wpList Tryz.prog ops Q (o::rest) a w:=by
 refine wpList_plain hgd fun K hK=>?_
 exact ex_app1 s t ty e bytes z ho hu hinfo hzc hk base v L hs hown x q c ht hq h63 hb hbase (fun s' w' h1 h2 h3=>hK _ _ (h s' w' h1 h2 h3))
theorem wpList_wanted {P:Program} {ops:Array Oper} {rest:List Oper} {o:Oper} {a:Act} {w:World} {Q:Exit→Act→World→Prop} (hw:Region.wanted o (yielded ops a.tmps)=true) (h:o.wp P a w (wpList P ops Q rest) Q):wpList P ops Q (o::rest) a w:=by
 simp only [wpList,hw,if_true];exact .inl h
theorem wpList_load_roww {ops:Array Oper} {rest:List Oper} {o:Oper} {a:Act} {w:World} {Q:Exit→Act→World→Prop} (hw:Region.wanted o (yielded ops a.tmps)=true) (ty:TypeId) (x:Operand) (ho:o.op=.load ty x)
  (g:Nat) (hx:a.eval x=.pointer (some ⟨g,0,none⟩)) (t:TypeId) (cs:Array Value) (fr:Nat×Nat) (d:TypeDesc) (hg:w.heap[g]? =some (.cells cs t fr))
  (hd:(match d with| .struct _| .array _ _=>true|_=>false)=true) (hu:Tryz.prog.underlying ty=some d) (hi:(Tryz.prog.info? ty).map (·.size)=some cs.size)
  (h:wpList Tryz.prog ops Q rest (a.put o.dst (.agg cs)) w):wpList Tryz.prog ops Q (o::rest) a w:=
 wpList_wanted hw (wp_load_row ty x ho g hx t cs fr d hg hu (by cases d <;>first|rfl|exact absurd hd (by simp)) hi h)
theorem exec_load_mid {ρ:Operand→Value} {o:Oper} (ty:TypeId) (x:Operand) (ho:o.op=.load ty x) {w:World} (b off:Nat) (cs:List Value) (hx:ρ x=.pointer (some ⟨b,off,none⟩)) (hc:w.rangeAt b off cs)
  (d:TypeDesc) (hu:Tryz.prog.underlying ty=some d) (hd:d.isRow=true) (hi:(Tryz.prog.info? ty).map (·.size)=some cs.length):(execOp ρ o).run Tryz.prog w=.ok (.value (.agg cs.toArray)) w:=by
 have hl:=run_loadAt_mid (P:=Tryz.prog) w b off ty cs d hc hu hd hi;unfold execOp;simp only [ho,hx,Sem.run_bind,hl,Result.andThen_ok,Sem.run_pure]
theorem exec_load_row {ρ:Operand→Value} {o:Oper} (ty:TypeId) (x:Operand) (ho:o.op=.load ty x) {w:World} (g:Nat) (t:TypeId) (cs:Array Value) (fr:Nat×Nat) (d:TypeDesc) (hx:ρ x=.pointer (some ⟨g,0,none⟩)) (hg:w.heap[g]? =some (.cells cs t fr))
  (hd:(match d with| .struct _| .array _ _=>true|_=>false)=true) (hu:Tryz.prog.underlying ty=some d) (hi:(Tryz.prog.info? ty).map (·.size)=some cs.size):(execOp ρ o).run Tryz.prog w=.ok (.value (.agg cs)) w:=by
 have hl:=run_loadVar_row (P:=Tryz.prog) w g t ty cs fr d hg hu (by cases d <;>first|rfl|exact absurd hd (by simp)) hi;unfold execOp;simp only [ho,hx,Instr.loadAt,Instr.sureAddr,Sem.run_bind,Sem.run_pure,Result.andThen_ok,hl]
section
attribute [local go_sem high] eql38 eql43 eql207
set_option maxRecDepth 100000 in
theorem done_step (E:List EdP) (v:Value) (hl:E.length≤1000) (q:Nat) (hq:q≤1000) (w:World) (hv:EditsW w v E)
  (ih:∀(k:Nat) (W:World),q < k→k < E.length→EditsW W v E→Calls Tryz.prog 50 #[v,.int .i64 k] W fun e w'=>IsB e∧Below W.heap.size W w'):
  Calls Tryz.prog 50 #[v,.int .i64 q] w fun e w'=>IsB e∧Below w.heap.size w w':=by
 obtain⟨a1,n,c,rfl⟩:=hv.1.form;have hn:n=E.length:=by have:=hv.1.len;rw [this];simp
 have HV:=zz hv;have HN:=zz hn;have hle:n≤1000:=by omega
 have HIH:=zz ih;clear ih hv hn hl;go_enter Tryz.func50,Tryz.ntmps50
 go_wp2
 go_loopg [5] (n - (q+1)) (fun gn t5 wr=>∃k:Nat,q+1≤k∧gn=n - k∧k≤1001∧t5=.int .i64 k∧Below w.heap.size w wr)
 case atStart=>exact⟨q+1,Nat.le_refl _,rfl,by omega,by go_num,Below.refl _ _⟩
 case round=>
  obtain⟨G,rfl⟩:∃G,G=gk:=⟨_,rfl⟩;obtain⟨k,hqk,hk,hk2,rfl,BL⟩:=hrel;have HK:=zz hk;clear hk
  by_cases hlt:k < n
  ·obtain⟨x,hx⟩:∃x,E[k]? =some x:=⟨_,List.getElem?_eq_getElem (by rw [←HN.out];exact hlt)⟩;obtain⟨y,hy⟩:∃y,E[q]? =some y:=⟨_,List.getElem?_eq_getElem (by rw [←HN.out];omega)⟩;have hxm:(E.map (·.d))[k]? =some x.d:=by rw [List.getElem?_map,hx];rfl
   have hym:(E.map (·.d))[q]? =some y.d:=by rw [List.getElem?_map,hy];rfl
   obtain⟨b,off,rfl,hr⟩:∃b off,a1=some ⟨b,off,none⟩∧w.rangeAt b off (edY.flat (E.map (·.d))):=by
    rcases HV.out.1 with⟨h1,h2⟩|⟨b,off,cap,h1,h2,h3⟩
    ·rw [h2]at hxm;cases hxm
    ·simp at h1;exact⟨b,off,h1.1,h3⟩
   have hXY:wr.drew.rangeAt b (off+k*18) (edV x.d)∧wr.drew.rangeAt b (off+q*18) (edV y.d):=⟨rangeAt_below (edY.elem hr k x.d hxm) BL.drew,rangeAt_below (edY.elem hr q y.d hym) BL.drew⟩;have hDe:=HV.out.2 x (List.mem_of_getElem? hx);have HU:=zz (fun(W:World) (hb:Below w.heap.size w W)=>rUndoes_eq x.d y.d x.ids W (by have:=hDe.2;omega) (hDe.1.below hb));have HI:=zz (fun(W:World) (hb:Below w.heap.size w W)=>HIH.out k W (by omega) (by rw [←HN.out];exact hlt) (HV.out.below hb));have BL:=BL.drew;have hltZ:(k:Int) < (n:Int):=by omega
   have hqZ:(q:Int) < (n:Int):=by omega
   have hqn:q < n:=by omega
   clear hr hDe hxm hym hx hy;unfold undI at HU
   cases hu:undB x.d y.d x.ids with
   |false=>
    rw [hu,if_neg Bool.false_ne_true]at HU
    go_wp2_with fail
    refine wp_region_held_drew (S:=fun w'=>w'.rangeAt b (off+k*18) (edV x.d)∧w'.rangeAt b (off+q*18) (edV y.d)) (by kernel_rfl) hXY (fun hH=>?_);refine tk 0 (.slice (some ⟨b,off,none⟩) n c) rfl hH ?_;(try simp only [PU]);refine tk 1 (.int .i64 k) rfl hH ?_;(try simp only [PU]);refine tk 2 (.pointer (some ⟨b,off+k*18,none⟩)) rfl hH ?_;(try simp only [PU]);refine tk 3 (.agg (edV x.d).toArray) rfl hH ?_ (hy:=fun w' hSw=>by(try dsimp only at hSw);have hl:=run_loadAt_mid (P:=Tryz.prog) w' b (off+k*18) 45 (edV x.d) _ hSw.1 Tryz.underlying45 rfl (by kernel_rfl);simp [execOp,Act.eval,hl,Result.andThen]);(try simp only [PU]);refine tk 4 (.slice (some ⟨b,off,none⟩) n c) rfl hH ?_;(try simp only [PU]);refine tk 5 (.int .i64 q) rfl hH ?_;(try simp only [PU]);refine tk 6 (.pointer (some ⟨b,off+q*18,none⟩)) rfl hH ?_;(try simp only [PU]);refine tk 7 (.agg (edV y.d).toArray) rfl hH ?_ (hy:=fun w' hSw=>by(try dsimp only at hSw);have hl:=run_loadAt_mid (P:=Tryz.prog) w' b (off+q*18) 45 (edV y.d) _ hSw.2 Tryz.underlying45 rfl (by kernel_rfl);simp [execOp,Act.eval,hl,Result.andThen]);(try simp only [PU]);refine rd 8 rfl (fun K9 hK9=>?_);go_simp
    with_reducible refine(HU.out _ BL).mono ?_
    rintro e w4 ⟨rfl,hb⟩;have BL:=BL.trans (hb.mono BL.size);have hXY:=And.intro (rangeAt_below hXY.1 hb) (rangeAt_below hXY.2 hb);clear hb;refine hK9.out _ _ hXY (fun hH=>?_);clear hK9;(try simp only [PU]);refine tk 9 (.bool false) rfl hH ?_;(try simp only [PU]);refine tk 10 (.bool false) rfl hH ?_;(try simp only [PU]);refine tu 11 rfl hH ?_;(try simp only [PU]);refine tu 12 rfl hH ?_;(try simp only [PU]);refine tu 13 rfl hH ?_;(try simp only [PU]);refine tk 14 (.bool false) rfl hH ?_;(try simp only [PU]);refine wpAnyH_done (by kernel_rfl) ?_ _
    go_wp2_with fail
    go_roundg (n - (k+1))
    case rel=>exact⟨k+1,by omega,rfl,by omega,by go_num,BL⟩
    case measure=>have:=HK.out;omega
   |true=>
    rw [hu,if_pos rfl]at HU
    go_wp2_with fail
    refine wp_region_held_drew (S:=fun w'=>w'.rangeAt b (off+k*18) (edV x.d)∧w'.rangeAt b (off+q*18) (edV y.d)) (by kernel_rfl) hXY (fun hH=>?_);refine tk 0 (.slice (some ⟨b,off,none⟩) n c) rfl hH ?_;(try simp only [PU]);refine tk 1 (.int .i64 k) rfl hH ?_;(try simp only [PU]);refine tk 2 (.pointer (some ⟨b,off+k*18,none⟩)) rfl hH ?_;(try simp only [PU]);refine tk 3 (.agg (edV x.d).toArray) rfl hH ?_ (hy:=fun w' hSw=>by(try dsimp only at hSw);have hl:=run_loadAt_mid (P:=Tryz.prog) w' b (off+k*18) 45 (edV x.d) _ hSw.1 Tryz.underlying45 rfl (by kernel_rfl);simp [execOp,Act.eval,hl,Result.andThen]);(try simp only [PU]);refine tk 4 (.slice (some ⟨b,off,none⟩) n c) rfl hH ?_;(try simp only [PU]);refine tk 5 (.int .i64 q) rfl hH ?_;(try simp only [PU]);refine tk 6 (.pointer (some ⟨b,off+q*18,none⟩)) rfl hH ?_;(try simp only [PU]);refine tk 7 (.agg (edV y.d).toArray) rfl hH ?_ (hy:=fun w' hSw=>by(try dsimp only at hSw);have hl:=run_loadAt_mid (P:=Tryz.prog) w' b (off+q*18) 45 (edV y.d) _ hSw.2 Tryz.underlying45 rfl (by kernel_rfl);simp [execOp,Act.eval,hl,Result.andThen]);(try simp only [PU]);refine rd 8 rfl (fun K9 hK9=>?_);go_simp
    with_reducible refine(HU.out _ BL).mono ?_
    rintro e w4 ⟨rfl,hb⟩;have BL:=BL.trans (hb.mono BL.size);have hXY:=And.intro (rangeAt_below hXY.1 hb) (rangeAt_below hXY.2 hb);clear hb;refine hK9.out _ _ hXY (fun hH=>?_);clear hK9;(try simp only [PU]);refine tk 9 (.bool true) rfl hH ?_;(try simp only [PU]);refine tk 10 (.bool true) rfl hH ?_;(try simp only [PU]);refine tk 11 (.slice (some ⟨b,off,none⟩) n c) rfl hH ?_;(try simp only [PU]);refine tk 12 (.int .i64 k) rfl hH ?_;(try simp only [PU]);refine rd 13 rfl (fun K9 hK9=>?_);go_simp
    with_reducible refine(HI.out _ BL).mono ?_
    rintro e w4 ⟨⟨b9,rfl⟩,hb⟩;have BL:=BL.trans (hb.mono BL.size);have hXY:=And.intro (rangeAt_below hXY.1 hb) (rangeAt_below hXY.2 hb);clear hb;refine hK9.out _ _ hXY (fun hH=>?_);clear hK9;(try simp only [PU]);refine tk 14 (.bool b9) rfl hH ?_;(try simp only [PU]);refine wpAnyH_done (by kernel_rfl) ?_ _
    cases b9 with
    |true=>
     go_wp2_with fail
     go_ret
     exact⟨isB _,BL⟩
    |false=>
     go_wp2_with fail
     go_roundg (n - (k+1))
     case rel=>exact⟨k+1,by omega,rfl,by omega,by go_num,BL⟩
     case measure=>have:=HK.out;omega
  ·have hltZ:decide ((k:Int) < (n:Int))=false:=by rw [decide_eq_false_iff_not];omega
   go_wp2_with fail
   go_ret
   exact⟨isB _,BL⟩
theorem done_any (E:List EdP) (v:Value) (hl:E.length≤1000):∀(m q:Nat) (w:World),E.length≤q+m→q≤1000→EditsW w v E→Calls Tryz.prog 50 #[v,.int .i64 q] w fun e w'=>IsB e∧Below w.heap.size w w'
 |0,q,w,hm,hq,hv=>done_step E v hl q hq w hv (fun k W h1 h2 _=>absurd h2 (by omega))
 |m+1,q,w,hm,hq,hv=>done_step E v hl q hq w hv (fun k W h1 h2 hW=>done_any E v hl m k W (by omega) (by omega) hW)
end
set_option maxRecDepth 100000 in
theorem kept_any (E:List EdP) (v:Value) (w:World) (hv:EditsW w v E) (hl:E.length≤1000):
  Calls Tryz.prog 20 #[v] w fun e w'=>∃(v':Value) (K:List EdP),e=.returned v'∧EditsW w' v' K∧K.length≤E.length∧(∀x∈K,x∈E)∧Below w.heap.size w w':=by
 obtain⟨i0,hi,hz0,hz1,hz2⟩:=info_parts info45;obtain⟨a1,n,c,rfl⟩:=hv.1.form;have hn:n=E.length:=by have:=hv.1.len;rw [this];simp
 have HV:=zz hv;have HN:=zz hn;have hle:n≤1000:=by omega
 clear hv hn hl;generalize hB:w.heap.size=B at*
 have HB:=zz hB;clear hB;go_enter Tryz.func20,Tryz.ntmps20
 go_wp2
 go_loopg [3,4] n (fun gn t3 t4 wr=>∃(k:Nat) (s:SlV) (K:List EdP),k+gn=n∧t4=.int .i64 k∧t3=.slice s.a s.len s.cap∧wr.ownsRow B 45 18 s.v K.length (edY.flat (K.map (·.d)))∧K.length≤k∧(∀x∈K,x∈E)∧Below B w wr)
 case atStart=>exact⟨0,SlV.nil, [],by omega,rfl,rfl,owns_nil0 _ _ _ _,Nat.le_refl _,by simp,Below.refl _ _⟩
 case round=>
  obtain⟨G,rfl⟩:∃G,G=gk:=⟨_,rfl⟩;obtain⟨k,s,K,hk,rfl,rfl,hown,hKl,hKE,hbel⟩:=hrel;have HK:=zz hk;have HKE:=zz hKE;have hsz:B≤wr.heap.size:=by have:=hbel.size;rw [HB.out]at this;exact this
  clear hk hKE
  by_cases hlt:k < n
  ·obtain⟨x,hx⟩:∃x,E[k]? =some x:=⟨_,List.getElem?_eq_getElem (by rw [←HN.out];exact hlt)⟩;have hxm:(E.map (·.d))[k]? =some x.d:=by rw [List.getElem?_map,hx];rfl
   obtain⟨b,off,rfl,hr⟩:∃b off,a1=some ⟨b,off,none⟩∧w.rangeAt b off (edY.flat (E.map (·.d))):=by
    rcases HV.out.1 with⟨h1,h2⟩|⟨b,off,cap,h1,h2,h3⟩
    ·rw [h2]at hxm;cases hxm
    ·simp at h1;exact⟨b,off,h1.1,h3⟩
   have hr0:=edY.elem hr k x.d hxm;have hltZ:(k:Int) < (n:Int):=by omega
   have HX:=zz (List.mem_of_getElem? hx);have HDN:=zz (done_any E _ (by rw [←HN.out];exact hle) E.length k wr (by omega) (by omega) (HV.out.below (by rw [HB.out];exact hbel)));clear hr hx hxm
   go_wp2_with fail
   with_reducible refine HDN.out.mono ?_
   rintro e w2 ⟨⟨b2,rfl⟩,hb2⟩;have hown:=ownsRow_below hown hb2;have hbel:=hbel.trans (hb2.mono hsz);have hsz:B≤w2.heap.size:=Nat.le_trans hsz hb2.size;have hrx:w2.rangeAt b (off+k*18) (edV x.d):=rangeAt_below hr0 (by rw [HB.out];exact hbel);clear hb2 hr0 HDN
   cases b2 with
   |false=>
    go_wp2_with fail
    go_roundg (n - 1 - k)
    case rel=>exact⟨k+1,s,K,by have:=HK.out;omega,by go_num,rfl,hown,by omega,HKE.out,hbel⟩
    case measure=>have:=HK.out;omega
   |true=>
    have HOW:=zz (hown.alloc (.cells (edV x.d).toArray 45));have HBEL:=zz hbel;unfold edV at hrx;clear hown hbel
    go_wp2_with(first
     |refine wpList_load_mid rfl 45 _ rfl b (off+k*18) rfl _ _ hrx Tryz.underlying45 rfl (by kernel_rfl) ?_
     |(at_builtin;refine wpList_append_own_at _ rfl _ _ 22 rfl B 45 i0 (.agg z45) 18 232 Tryz.underlying22 hi hz0 hz1 hz2 rfl (by decide) s.v K.length _ rfl HOW.out ⟨w2.heap.size,0,none⟩ 1 1 (edV x.d) rfl rfl (news_of (zg _ _ _ rfl)) (edY.one x.d) (by unfold maxLen;omega) (by omega) (by simp;omega) ?_;intro v1 w1 hown1 hg1 _ hloc1))
    have hb1:=HBEL.out.trans (((Below.refl B w2).alloc hsz _).grown hg1 (by simp;omega) (fun j hj=>(HOW.out.lt j hj).1))
    have hown3:w1.ownsRow B 45 18 v1 (K++ [x]).length (edY.flat ((K++ [x]).map (·.d))):=by
     rw [List.length_append,List.map_append,edY.flat_append];have h9:edY.flat ([x].map (·.d))=edV x.d:=by simp [Lay.flat,edY]
     rw [h9];exact hown1
    obtain⟨s1,hs1⟩:=ownsForm hown1;subst hs1;clear hown1 hg1 hloc1 hrx;go_wp2
    go_roundg (n - 1 - k)
    case rel=>exact⟨k+1,s1,K++ [x],by have:=HK.out;omega,by go_num,rfl,hown3,by simp;omega,fun z hz=>by
     rcases List.mem_append.1 hz with h|h
     ·exact HKE.out z h
     ·rw [List.mem_singleton]at h;rw [h];exact HX.out,hb1⟩
    case measure=>have:=HK.out;omega
  ·obtain rfl:k=n:=by have:=HK.out;omega
   have HO:=zz hown;have HBEL:=zz hbel;clear hown hbel
   go_wp2_with fail
   go_ret
   have hbel:Below w.heap.size w wr:=by rw [HB.out];exact HBEL.out
   refine⟨_,K,rfl,⟨Lay.Rd.of_owns (Y:=edY) (l:=K.map (·.d)) (by rw [List.length_map];exact HO.out),fun e he=>(HV.out.below hbel).2 e (HKE.out e he)⟩,by rw [←HN.out];exact hKl,HKE.out,HBEL.out⟩
end Go.Proofs.YteigcnamkfebgaaGreatDoor
