import Derived.Test.YteigcnamkfebgaaGreatDoorAQ
set_option linter.all false
set_option maxHeartbeats 25600000
namespace Go.Proofs.YteigcnamkfebgaaGreatDoor
open Go.RowKit
theorem insSmallR (gf:FuncId) (v:Value) (n:Nat) (w:World) (hn:n≤1):Calls Tryz.prog 103 #[v,.int .i64 0,.int .i64 n,.func (.func gf) #[] #[]] w fun e w'=>e=.returned (.tuple #[])∧w=w':=by
 have hd:decide ((1:Int) < (n:Int))=false:=by simp;omega
 go_enter Tryz.func103,Tryz.ntmps103
 go_wp2;refine wp_loop_rounds 1 ?_;rw [rounds_succ];go_wp2;go_end0
 exact⟨rfl,rfl⟩
theorem stableSmallR (gf:FuncId) (v:Value) (n:Nat) (w:World) (hn:n≤1):Calls Tryz.prog 60 #[v,.int .i64 n,.func (.func gf) #[] #[]] w fun e w'=>e=.returned (.tuple #[])∧w=w':=by
 have H:=zz (insSmallR gf v n w hn);have hd:decide ((20:Int)≤(n:Int))=false:=by simp;omega
 have hd2:decide ((20:Int) < (n:Int))=false:=by simp;omega
 go_enter Tryz.func60,Tryz.ntmps60
 go_wp2;refine wp_loop_rounds 1 ?_;rw [rounds_succ]
 go_wp2_with fail
 refine(H.out).mono ?_;rintro e w1 ⟨rfl,rfl⟩;go_wp2;refine wp_loop_rounds 1 ?_;rw [rounds_succ];go_wp2;go_end0
 exact⟨rfl,rfl⟩
theorem sortSmallR (gf:FuncId) (a:Option Addr) (n c:Nat) (w:World) (hn:n≤1):Calls Tryz.prog 30 #[.slice a n c,.func (.func gf) #[] #[]] w fun e w'=>e=.returned (.tuple #[])∧w=w':=by
 have H:=zz (stableSmallR gf (.slice a n c) n w hn);go_enter Tryz.func30,Tryz.ntmps30
 go_wp2_with fail
 refine(H.out).mono ?_;rintro e w1 ⟨rfl,rfl⟩;go_wp2;go_end0
 exact⟨rfl,rfl⟩
theorem nodeIs_any (x:TnD) (nb:Nat) (n:IdD) (w:World) (hn:w.heap[nb]? =some (.cells #[.string n.a,.int .i64 n.n] 38 (0,0))):
  Calls Tryz.prog 27 #[.agg (tnV x).toArray,.pointer (some ⟨nb,0,none⟩)] w fun e' w'=>e'=.returned (.bool (eqId x.node n))∧Below w.heap.size w w':=by
 have l1:=zl hn;obtain⟨k0,k1⟩:=two_cells hn;have hb:Below w.heap.size w (w.alloc (.cells (tnV x).toArray 55)):=(Below.refl _ _).alloc (Nat.le_refl _) _;clear hn;unfold tnV at*
 cases hs:eqS x.node.a n.a with
 |false=>
  have hs':(x.node.a.toList==n.a.toList)=false:=hs;have HQ:=zz (show eqId x.node n=false by unfold eqId;rw [hs];rfl);clear hs;go_enter Tryz.func27,Tryz.ntmps27
  go_wp2;go_ret
  exact⟨by rw [HQ.out];rfl,hb⟩
 |true=>
  have hs':(x.node.a.toList==n.a.toList)=true:=hs
  cases hnn:(x.node.n==n.n)with
  |false=>
   have HQ:=zz (show eqId x.node n=false by unfold eqId;rw [hs,hnn];rfl);clear hs;go_enter Tryz.func27,Tryz.ntmps27
   go_wp2;go_ret
   exact⟨by rw [HQ.out];rfl,hb⟩
  |true=>
   have HQ:=zz (show eqId x.node n=true by unfold eqId;rw [hs,hnn];rfl);clear hs;go_enter Tryz.func27,Tryz.ntmps27
   go_wp2;go_ret
   exact⟨by rw [HQ.out];rfl,hb⟩
theorem wpList_append_src {P:Program} (w:World) {ops:Array Oper} {rest:List Oper} {o:Oper} {a:Act} {Q:Exit→Act→World→Prop} (hgd:o.guard=none) (s x:Operand) (t:TypeId)
  (ho:o.op=.call {callee:=.builtin .append,args:=#[s,x],argTypes:=#[t,t]}) (base:Nat) (e:TypeId) (i:TypeInfo) (z:Value) (size bytes:Nat) (ht:P.underlying t=some (.slice e)) (hi:P.info? e=some i) (hz:i.zero=some z)
  (hsize:i.size=size) (hby:i.bytes=bytes) (hzs:z.cells.size=size) (hsz:0 < size) (v:Value) (n:Nat) (xs:List Value) (hs:a.eval s=v) (hown:w.ownsRow base e size v n xs)
  (ao:Option Addr) (m c:Nat) (news:List Value) (hx:a.eval x=.slice ao m c) (hl:news.length=m*size) (hnews:0 < m→∃ad,ao=some ad∧∀j u,news[j]? =some u→w.cell? (ad.add j)=some u) (h1:∀u∈news,u.oneCell'=true)
  (h63:n+m≤maxLen) (hbytes:(n+m)*bytes≤140737488355328) (hbase:base≤w.heap.size)
  (h:∀v' w',w'.ownsRow base e size v' (n+m) (xs++news)→w.grownBy w' v.ownBlock→wpList P ops Q rest (a.put o.dst v') w'):wpList P ops Q (o::rest) a w:=by
 refine wpList_plain hgd fun K hK=>?_
 obtain⟨v',w',hr,h2,h3⟩:=run_append_src (P:=P) w base t o.type e i z size bytes ht hi hz hsize hby hzs hsz v n xs hown ao m c news hl hnews h1 h63 hbytes hbase;unfold Oper.wp execOp;simp only [ho,resolve,invoke,builtin,Sem.run_bind,Sem.run_pure,Result.andThen_ok,List.map_toArray,List.map_cons,List.map_nil,hs,hx,hr];exact hK _ _ (h v' w' h2 h3)
def kP:ByteArray:=⟨#[112,97,114,97,109]⟩
def kG:ByteArray:=⟨#[103,114,111,117,112]⟩
def kindsTab (rb:Nat):Array MapEntry:=#[⟨.string ⟨#[112,97,114,97,109]⟩,.func (.func 24) #[.pointer (some ⟨rb,0,none⟩)] #[],0⟩,⟨.string ⟨#[103,114,111,117,112]⟩,.func (.func 25) #[] #[],1⟩]
theorem ck9 (s:ByteArray) (em:Bool) (w:World):(Instr.checkKey em 10000 9 (.string s)).run Tryz.prog w=.ok () w:=by cases em <;>kernel_rfl
theorem kmiss0 (w:World):(Instr.findKey 9 (.string ⟨#[112,97,114,97,109]⟩) []).run Tryz.prog w=.ok none w:=by kernel_rfl
theorem kmiss1 (rb:Nat) (w:World):(Instr.findKey 9 (.string ⟨#[103,114,111,117,112]⟩) [⟨.string ⟨#[112,97,114,97,109]⟩,.func (.func 24) #[.pointer (some ⟨rb,0,none⟩)] #[],0⟩]).run Tryz.prog w=.ok none w:=by kernel_rfl
theorem khit (rb:Nat) (w:World):(Instr.findKey 9 (.string ⟨#[112,97,114,97,109]⟩) (kindsTab rb).toList).run Tryz.prog w=.ok (some (0,.func (.func 24) #[.pointer (some ⟨rb,0,none⟩)] #[])) w:=by kernel_rfl
theorem kmissM (rb:Nat) (w:World):(Instr.findKey 9 (.string ⟨#[109,105,114,114,111,114]⟩) (kindsTab rb).toList).run Tryz.prog w=.ok none w:=by kernel_rfl
theorem Lay.Rd.but {E:Type} {Y:Lay E} {w w':World} {v:Value} {l:List E} (h:Y.Rd w v l) {k:Nat} (hb:But k w w') (hk:∀j u,w.cell? ⟨k,j,none⟩=some u→∃a n c,u=.slice a n c) (hf:∀x,∃s,(Y.V x)[0]? =some (.string s)):Y.Rd w' v l:=by
 rcases h with h|⟨b,off,cap,h1,h2,h3⟩
 ·exact .inl h
 ·refine .inr ⟨b,off,cap,h1,h2,?_⟩
  cases l with
  |nil=>intro j u hj;simp [Lay.flat]at hj
  |cons x r=>
   obtain⟨s,hs⟩:=hf x
   have h4:(Y.flat (x::r))[0]? =some (.string s):=by
    rw [Y.flat_cons,List.getElem?_append_left (by have:=(List.getElem?_eq_some_iff.1 hs).1;exact this)];exact hs
   have h5:=h3 0 _ h4;have hlt:b < w.heap.size:=block_lt_of_cell h5
   have hbk:b≠k:=by
    rintro rfl;obtain⟨a,n,c,hc⟩:=hk _ _ h5;cases hc
   intro j u hj;exact(World.cell?_of_block (w:=w) (w':=w') (a:=⟨b,off+j,none⟩) (hb.2 b hlt hbk)).trans (h3 j u hj)
theorem RRegs.but {w w':World} {v:Value} {R:List RegP} (h:RRegs w v R) {k:Nat} (hb:But k w w') (hk:∀j u,w.cell? ⟨k,j,none⟩=some u→∃a n c,u=.slice a n c):RRegs w' v R:=by
 obtain⟨ds,h1,h2,h3⟩:=h;exact⟨ds,h1.but hb hk (fun x=>⟨_,rfl⟩),h2,fun i d r a b=>⟨(h3 i d r a b).1,(h3 i d r a b).2.1,(h3 i d r a b).2.2.but hb hk (fun x=>⟨_,rfl⟩)⟩⟩
theorem five_slices {W:World} {k:Nat} {a b c d e:SlV} {t:TypeId} (h:W.heap[k]? =some (.cells #[.slice a.a a.len a.cap,.slice b.a b.len b.cap,.slice c.a c.len c.cap,.slice d.a d.len d.cap,.slice e.a e.len e.cap] t (0,0))):∀j u,W.cell? ⟨k,j,none⟩=some u→∃a n c,u=.slice a n c:=fun j u hu=>by
 rw [zc _ _ j _ _ _ h]at hu
 match j,hu with
 |0,hu=>simp at hu;exact⟨_,_,_,hu.symm⟩
 |1,hu=>simp at hu;exact⟨_,_,_,hu.symm⟩
 |2,hu=>simp at hu;exact⟨_,_,_,hu.symm⟩
 |3,hu=>simp at hu;exact⟨_,_,_,hu.symm⟩
 |4,hu=>simp at hu;exact⟨_,_,_,hu.symm⟩
 |j+5,hu=>simp at hu
theorem ownsRow_but {w w':World} {base:Nat} {e:TypeId} {size:Nat} {v:Value} {n:Nat} {xs:List Value} (h:w.ownsRow base e size v n xs) {k:Nat} (hb:But k w w') (hk:k < base):w'.ownsRow base e size v n xs:=by
 obtain⟨h1,h2⟩:=h;refine⟨h1,?_⟩
 rcases h2 with h2|⟨g,cap,cur,a,b,c,d⟩
 ·exact .inl h2
 ·exact .inr ⟨g,cap,cur,a,b,(hb.2 g (zl c) (by omega)).trans c,d⟩
def CR (w:World) (base:Nat) (v:Value) (C:List RegP):Prop:=
 ∃ds:List RegD,w.ownsRow base 48 4 v C.length (regY.flat ds)∧ds.length=C.length∧∀(i:Nat) (d:RegD) (r:RegP),ds[i]? =some d→C[i]? =some r→d.node=r.node∧d.field=r.field∧w.ownsRow base 50 4 d.w.v r.w.length (wrY.flat r.w)
theorem CR.nil (w:World) (base:Nat):CR w base (.slice none 0 0) []:=⟨[],owns_nil0 _ _ _ _,rfl,fun i d r h _=>by simp at h⟩
theorem CR.but {w w':World} {base:Nat} {v:Value} {C:List RegP} (h:CR w base v C) {k:Nat} (hb:But k w w') (hk:k < base):CR w' base v C:=by
 obtain⟨ds,h1,h2,h3⟩:=h;exact⟨ds,ownsRow_but h1 hb hk,h2,fun i d r a b=>⟨(h3 i d r a b).1,(h3 i d r a b).2.1,ownsRow_but (h3 i d r a b).2.2 hb hk⟩⟩
theorem CR.below {w w':World} {base:Nat} {v:Value} {C:List RegP} (h:CR w base v C) (hb:Below w.heap.size w w'):CR w' base v C:=by
 obtain⟨ds,h1,h2,h3⟩:=h;exact⟨ds,ownsRow_below h1 hb,h2,fun i d r a b=>⟨(h3 i d r a b).1,(h3 i d r a b).2.1,ownsRow_below (h3 i d r a b).2.2 hb⟩⟩
def isClash (n:IdD) (r:RegP):Bool:=eqId r.node n&&decide (1 < r.w.length)
def clash (n:IdD) (R:List RegP) (k:Nat):List RegP:=(R.take k).filter (isClash n)
theorem clash_no {n:IdD} {R:List RegP} {k:Nat} {r:RegP} (h:R[k]? =some r) (hp:isClash n r=false):clash n R (k+1)=clash n R k:=by
 unfold clash;rw [list_snoc R k r h,List.filter_append];simp [hp]
theorem clash_yes {n:IdD} {R:List RegP} {k:Nat} {r:RegP} (h:R[k]? =some r) (hp:isClash n r=true):clash n R (k+1)=clash n R k++ [r]:=by
 unfold clash;rw [list_snoc R k r h,List.filter_append];simp [hp]
theorem clash_len (n:IdD) (R:List RegP) (k:Nat):(clash n R k).length≤(clash n R R.length).length:=by
 unfold clash;rw [List.take_length];exact(List.Sublist.filter _ (List.take_sublist k R)).length_le
def parOf (R:List RegP):PdD:=⟨(winF (lookF ann1 ⟨#[110,97,109,101]⟩ R)).1,(winF (lookF ann1 ⟨#[116,101,120,116]⟩ R)).1⟩
def mir4:FeD:=⟨⟨#[97,110,110,46,52]⟩⟩
def featsOf (N:List TnD):List FeD:=if N.length=2 then [mir4]else []
theorem walkOf {N:List TnD} {K:List IdD} (h:(N= [node1]∧K= [ann1])∨(N= [node1,node4]∧K= [ann1,ann4])) (v:Value) (w:World) (hv:tnY.Rd w v N):Calls Tryz.prog 17 #[v] w fun e w'=>∃v',e=.returned v'∧w'.ownsRow w.heap.size 38 2 v' K.length (idY.flat K)∧Below w.heap.size w w':=by
 rcases h with⟨rfl,rfl⟩|⟨rfl,rfl⟩
 ·exact walk1 v w hv
 ·exact walk14 v w hv
theorem idx1:idxL (fun x=>eqId x.node ann1) [node1] 0=0:=by kernel_rfl
theorem idx14a:idxL (fun x=>eqId x.node ann1) [node1,node4] 0=0:=by kernel_rfl
theorem idx14b:idxL (fun x=>eqId x.node ann4) [node1,node4] 0=1:=by kernel_rfl
theorem CR.read {w:World} {base:Nat} {v:Value} {C:List RegP} (h:CR w base v C):RRegs w v C:=by
 obtain⟨ds,h1,h2,h3⟩:=h;exact⟨ds,Lay.Rd.of_owns (Y:=regY) (by rw [h2];exact h1),h2,fun i d r a b=>⟨(h3 i d r a b).1,(h3 i d r a b).2.1,Lay.Rd.of_owns (Y:=wrY) (h3 i d r a b).2.2⟩⟩
theorem CR.mono {w:World} {base b':Nat} {v:Value} {C:List RegP} (h:CR w base v C) (hb:b'≤base):CR w b' v C:=by
 obtain⟨ds,h1,h2,h3⟩:=h;exact⟨ds,ownsRow_mono h1 hb,h2,fun i d r a b=>⟨(h3 i d r a b).1,(h3 i d r a b).2.1,ownsRow_mono (h3 i d r a b).2.2 hb⟩⟩
theorem three_slices {W:World} {k:Nat} {a b c:SlV} {t:TypeId} (h:W.heap[k]? =some (.cells #[.slice a.a a.len a.cap,.slice b.a b.len b.cap,.slice c.a c.len c.cap] t (0,0))):∀j u,W.cell? ⟨k,j,none⟩=some u→∃a n c,u=.slice a n c:=fun j u hu=>by
 rw [zc _ _ j _ _ _ h]at hu
 match j,hu with
 |0,hu=>simp at hu;exact⟨_,_,_,hu.symm⟩
 |1,hu=>simp at hu;exact⟨_,_,_,hu.symm⟩
 |2,hu=>simp at hu;exact⟨_,_,_,hu.symm⟩
 |j+3,hu=>simp at hu
theorem set4_3 {W:World} {k:Nat} {a b c d c':Value} {t:TypeId} (h:W.heap[k]? =some (.cells #[a,b,c,d] t (0,0))):(W.setCell ⟨k,3,none⟩ c').heap[k]? =some (.cells #[a,b,c,c'] t (0,0)):=by
 rw [setCell_eq_setRow W k 3 _ t (0,0) c' h];exact setRow_heap _ _ _ _ _ _ h
theorem five_raw {W:World} {k:Nat} {a b c d e:Option Addr} {na nc nd ne nf ca cb cc cd ce:Nat} {t:TypeId} (h:W.heap[k]? =some (.cells #[.slice a na ca,.slice b nc cb,.slice c nd cc,.slice d ne cd,.slice e nf ce] t (0,0))):∀j u,W.cell? ⟨k,j,none⟩=some u→∃a n c,u=.slice a n c:=
 five_slices (a:=⟨a,na,ca⟩) (b:=⟨b,nc,cb⟩) (c:=⟨c,nd,cc⟩) (d:=⟨d,ne,cd⟩) (e:=⟨e,nf,ce⟩) h
theorem CR.one {w:World} {base:Nat} {s:SlV} {r:RegP} {d:RegD} (hw:d.node=r.node∧d.field=r.field∧w.ownsRow base 50 4 d.w.v r.w.length (wrY.flat r.w)) (ho:w.ownsRow base 48 4 (.slice s.a s.len s.cap) (0+1) ([]++regV d)):CR w base s.v [r]:=by
 refine⟨[d],?_,rfl,fun i d' q hd hq=>?_⟩
 ·have h:regY.flat [d]=regV d:=by simp [Lay.flat];rfl
  rw [h];exact ho
 ·cases i with
  |zero=>simp at hd hq;subst hd;subst hq;exact hw
  |succ i=>simp at hd
theorem grown_nil {wr w9:World} (hg:wr.grownBy w9 (Value.slice none 0 0).ownBlock):Below wr.heap.size wr w9:=(Below.refl _ wr).grown hg (Nat.le_refl _) (fun j hj=>by simp [Value.ownBlock]at hj)
theorem design_but {rb:Nat} {w4 w6 wr w9:World} (h:But rb w4 w6) (hb:Below w6.heap.size w6 wr) (hg:wr.grownBy w9 (Value.slice none 0 0).ownBlock) {j:Nat} {v:Value}:But rb w4 (w9.setCell ⟨rb,j,none⟩ v):=
 But.set (h.trans ((But.of_below hb).trans (But.of_below (grown_nil hg)))) j v
theorem design_below {rb:Nat} {w w6 wr w9:World} (h:Below w.heap.size w w6) (hb:Below w6.heap.size w6 wr) (hg:wr.grownBy w9 (Value.slice none 0 0).ownBlock) (hB:w.heap.size≤rb) {j:Nat} {v:Value}:Below w.heap.size w (w9.setCell ⟨rb,j,none⟩ v):=
 Below.setCell ((h.trans (hb.mono h.size)).trans ((grown_nil hg).mono (Nat.le_trans h.size hb.size))) (p:=⟨rb,j,none⟩) hB _
theorem design_row {rb base b5:Nat} {e:TypeId} {size n:Nat} {u:Value} {xs:List Value} {w6 wr w9:World} (ho:w6.ownsRow b5 e size u n xs) (hb:Below w6.heap.size w6 wr) (hg:wr.grownBy w9 (Value.slice none 0 0).ownBlock) (h4:base≤b5) (hrb:rb < b5) {j:Nat} {v:Value}:(w9.setCell ⟨rb,j,none⟩ v).ownsRow base e size u n xs:=
 ownsRow_mono (ownsRow_but ho (But.set ((But.of_below hb).trans (But.of_below (grown_nil hg))) j v) hrb) h4
theorem design_cr {rb base b6 n:Nat} {s9:SlV} {cs:List RegD} {C:List RegP} {a b c d e:Option Addr} {na nc nd ne nf ca cb cc cd ce:Nat} {t:TypeId} {wr w9:World} (ho:w9.ownsRow base 48 4 (.slice s9.a s9.len s9.cap) (0+n) ([]++regY.flat cs)) (hg:wr.grownBy w9 (Value.slice none 0 0).ownBlock)
  (hR:w9.heap[rb]? =some (.cells #[.slice a na ca,.slice b nc cb,.slice c nd cc,.slice d ne cd,.slice e nf ce] t (0,0))) (hc:cs.length=C.length∧∀(i:Nat) (d:RegD) (r:RegP),cs[i]? =some d→C[i]? =some r→d.node=r.node∧d.field=r.field∧wr.ownsRow b6 50 4 d.w.v r.w.length (wrY.flat r.w))
  (hn:n=C.length) (hrb:rb < base) (hb6:base≤b6) {j:Nat} {v:Value}:CR (w9.setCell ⟨rb,j,none⟩ v) base s9.v C:=by
 have hB:But rb w9 (w9.setCell ⟨rb,j,none⟩ v):=But.set (But.of_below (Below.refl _ _)) j v;refine⟨cs,?_,hc.1,fun i d r a b=>⟨(hc.2 i d r a b).1,(hc.2 i d r a b).2.1,ownsRow_but (ownsRow_mono (ownsRow_below (hc.2 i d r a b).2.2 (grown_nil hg)) hb6) hB hrb⟩⟩;have h:=ownsRow_but ho hB hrb;rw [Nat.zero_add,List.nil_append,hn]at h;exact h
theorem own_diff {w:World} {b1 b2 s1 s2 n1 n2:Nat} {e1 e2:TypeId} {v1 v2:Value} {x1 x2:List Value} (h:w.ownsRow b1 e1 s1 v1 n1 x1) (h':w.ownsRow b2 e2 s2 v2 n2 x2) (hne:e1≠e2):v1.ownBlock=none∨v1.ownBlock≠v2.ownBlock:=by
 rcases h.2 with⟨rfl,_⟩|⟨g,cap,cur,rfl,_,hg,_⟩
 ·exact .inl rfl
 ·right
  intro e
  rcases h'.2 with⟨rfl,_⟩|⟨g',cap',cur',rfl,_,hg',_⟩
  ·simp [Value.ownBlock]at e
  ·simp [Value.ownBlock]at e;subst e;rw [hg]at hg';cases hg'
   exact hne rfl
theorem design_keep {rb base b5 b4:Nat} {e:TypeId} {size n:Nat} {u c:Value} {xs:List Value} {wr w9:World} (ho:wr.ownsRow b5 e size u n xs) (hc:wr.ownsRow b4 48 4 c 0 []) (hne:e≠48) (hg:wr.grownBy w9 c.ownBlock) (h4:base≤b5) (hrb:rb < b5) {j:Nat} {v:Value}:(w9.setCell ⟨rb,j,none⟩ v).ownsRow base e size u n xs:=
 ownsRow_mono (ownsRow_but (ho.kept hg (own_diff ho hc hne)) (But.set (But.of_below (Below.refl _ _)) j v) hrb) h4
theorem design_but2 {rb:Nat} {w4 wr w9:World} {row:Option Nat} (h:But rb w4 wr) (hg:wr.grownBy w9 row) (hrow:∀j,row=some j→w4.heap.size≤j) {j:Nat} {v:Value}:But rb w4 (w9.setCell ⟨rb,j,none⟩ v):=
 But.set ⟨Nat.le_trans h.1 hg.size,fun i hi hd=>(hg.block i (Nat.lt_of_lt_of_le hi h.1) (fun e=>by have:=hrow i e.symm;omega)).trans (h.2 i hi hd)⟩ j v
theorem CR.nil_of {w w':World} {base rb:Nat} {c:SlV} (h:w.ownsRow base 48 4 (.slice c.a c.len c.cap) (0+0) ([]++ [])) (hw:But rb w w') (hrb:rb < base):CR w' base c.v []:=
 ⟨[],ownsRow_but h hw hrb,rfl,fun i d r h _=>by simp at h⟩
set_option maxRecDepth 100000 in
theorem design_any (N:List TnD) (K:List IdD) (R:List RegP) (hN:(N= [node1]∧K= [ann1])∨(N= [node1,node4]∧K= [ann1,ann4])) (hN2:N= [node1,node4]→clash ann1 R R.length= [])
  (hRn:∀r∈R,r.node=ann1∧(winF r.w).2=true∧r.w.length≤100000) (hl:R.length≤1000) (hC:(clash ann1 R R.length).length≤1) (sn sr:SlV) (w:World) (hn:tnY.Rd w sn.v N) (hr:RRegs w sr.v R) (KA:KindsAt w):
  Calls Tryz.prog 11 #[.agg #[.slice sn.a sn.len sn.cap,.slice sr.a sr.len sr.cap]] w fun e w'=>∃sp sf sc:SlV,e=.returned (.agg #[.slice sp.a sp.len sp.cap,.slice sf.a sf.len sf.cap,.slice sc.a sc.len sc.cap])∧w'.ownsRow w.heap.size 52 2 sp.v 1 (pdY.flat [parOf R])∧feY.Rd w' sf.v (featsOf N)∧CR w' w.heap.size sc.v (clash ann1 R R.length)∧Below w.heap.size w w':=by
 obtain⟨i0,hi,hz0,hz1,hz2⟩:=info_parts info48;obtain⟨sra,srl,src⟩:=sr;have hmm:= @run_makeMap Tryz.prog;have hNpos:0 < N.length:=by rcases hN with⟨rfl,_⟩|⟨rfl,_⟩ <;>simp
 obtain⟨nb,noff,ncap,hsn,hnr⟩:∃nb noff ncap,sn=⟨some ⟨nb,noff,none⟩,N.length,ncap⟩∧w.rangeAt nb noff (tnY.flat N):=by
  obtain⟨sna,snl,snc⟩:=sn
  rcases hn with⟨_,h2⟩|⟨nb,noff,ncap,h1,h2,h3⟩
  ·rw [h2]at hNpos;simp at hNpos
  ·simp [SlV.v]at h1;obtain⟨rfl,rfl,rfl⟩:=h1;exact⟨nb,noff,snc,rfl,h3⟩
 subst hsn;have HNR:=zz hnr;clear hnr;have HNK:=zz hN;have HN2:=zz hN2;have HRN:=zz hRn;have HC:=zz hC;have HHN:=zz hn;have HHR:=zz hr;have HKA:=zz KA;clear hN hN2 hRn hC hn hr KA;go_enter Tryz.func11,Tryz.ntmps11
 go_wp2_with(first
  |(refine wpList_update_raw _ rfl _ _ _ 77 (.inr rfl) 9 76 Tryz.underlying77 (w.heap.size+1+1+1) #[] 0 rfl (zg _ _ _ (by simp)) (.string ⟨#[112,97,114,97,109]⟩) (.func (.func 24) #[.pointer (some ⟨w.heap.size+1+1,0,none⟩)] #[]) rfl rfl (ck9 _) kmiss0 ?_;intro w2 hm2 hg2 hsz2;have HS2:=zz hsz2;have HM2:=zz hm2;have HG2:=zz hg2;clear hsz2 hm2 hg2)
  |(refine wpList_update_raw _ rfl _ _ _ 77 (.inr rfl) 9 76 Tryz.underlying77 (w.heap.size+1+1+1) _ 1 rfl HM2.out (.string ⟨#[103,114,111,117,112]⟩) (.func (.func 25) #[] #[]) rfl rfl (ck9 _) (kmiss1 _) ?_;intro w3 hm3 hg3 hsz3;have HS3:=zz hsz3;have HM3:=zz hm3;have HG3:=zz hg3;clear hsz3 hm3 hg3;have hs2:w2.heap.size=w.heap.size+4:=(by have:=HS2.out;simpa using this);have T1:=(HG3.out.block w.heap.size (by omega) (by simp;omega)).trans ((HG2.out.block w.heap.size (by simp <;>omega) (by simp;omega)).trans (zo _ _ _ _ (zo _ _ _ _ (zo _ _ _ _ (zg _ _ _ rfl)))));have t10:=(two_cells T1).1;have HT1:=zz T1;have HS:=zz hs2;clear T1 hs2))
 have hs2:=HS.out;have hs3:w3.heap.size=w.heap.size+4:=by rw [HS3.out,hs2]
 have T2:=(HG3.out.block (w.heap.size+1) (by omega) (by simp)).trans ((HG2.out.block (w.heap.size+1) (by simp <;>omega) (by simp)).trans (zo _ _ _ _ (zo _ _ _ _ (zg _ _ _ (by simp)))));have T3:=(HG3.out.block (w.heap.size+1+1) (by omega) (by simp)).trans ((HG2.out.block (w.heap.size+1+1) (by simp <;>omega) (by simp)).trans (zo _ _ _ _ (zg _ _ _ (by simp))));have BL3:Below w.heap.size w w3:=Below.grown (Below.grown (((((Below.refl _ w).alloc (Nat.le_refl _) _).alloc (by simp) _).alloc (by simp <;>omega) _).alloc (by simp <;>omega) _) HG2.out (by simp <;>omega) (fun j hj=>by cases hj;omega)) HG3.out (by omega) (fun j hj=>by cases hj;omega);refine(walkOf HNK.out (.slice (some ⟨nb,noff,none⟩) N.length ncap) w3 (HHN.out.below BL3)).mono ?_;rintro e w4 ⟨v4,rfl,ho4,hb4⟩;have T1:=(hb4.block _ (by omega)).trans HT1.out;have T2:=(hb4.block _ (by omega)).trans T2;have T3:=(hb4.block _ (by omega)).trans T3;have T4:=(hb4.block (w.heap.size+1+1+1) (by omega)).trans HM3.out;have BL4:=BL3.trans (hb4.mono BL3.size);have hKpos:0 < K.length:=by rcases HNK.out with⟨_,rfl⟩|⟨_,rfl⟩ <;>simp
 obtain⟨m,hm⟩:∃m,m=K.length:=⟨_,rfl⟩;rw [←hm]at ho4 hKpos
 obtain⟨g,cg,rfl⟩:∃g c,v4=.slice (some ⟨g,0,none⟩) m c:=by
  rcases ho4.2 with⟨_,h⟩|⟨g,cap,cur,h,_⟩
  ·omega
  ·exact⟨g,cap,h⟩
 have hgl:=ho4.lt g (by simp [Value.ownBlock]);have HIDS:=zz (ownsRow_rangeAt ho4);have HM:=zz hm;have H1:=zz T1;have H2:=zz T2;have H3:=zz T3;have H4:=zz T4;have HB4:=zz BL4;have hs4:w.heap.size+4≤w4.heap.size:=by have:=hb4.size;omega
 have hgB:w.heap.size+4≤g:=by omega
 clear T1 T2 T3 T4 BL4 BL3 hb4 ho4 hm t10 HT1 HM2 HM3 HG2 HG3 HS2 HS3 HS hs2 hs3 hmm;go_wp2
 go_loopg [24] m (fun gn t24 wr=>∃(k:Nat) (sp sf sc:SlV),k+gn=m∧t24=.int .i64 k∧wr.heap[w.heap.size+1+1]? =some (.cells #[.slice (some ⟨nb,noff,none⟩) N.length ncap,.slice sra srl src,.slice sp.a sp.len sp.cap,.slice sf.a sf.len sf.cap,.slice sc.a sc.len sc.cap] 75 (0,0))∧But (w.heap.size+1+1) w4 wr∧Below w.heap.size w wr∧
  (k=0→sp=SlV.nil∧sf=SlV.nil∧sc=SlV.nil)∧(1≤k→wr.ownsRow w4.heap.size 52 2 sp.v 1 (pdY.flat [parOf R])∧CR wr w4.heap.size sc.v (clash ann1 R R.length))∧(k=1→sf=SlV.nil)∧(2≤k→wr.ownsRow w4.heap.size 62 12 sf.v 1 (feY.flat [mir4])))
 case atStart=>exact⟨0,SlV.nil,SlV.nil,SlV.nil,by omega,rfl,H3.out,⟨Nat.le_refl _,fun _ _ _=>rfl⟩,HB4.out,fun _=>⟨rfl,rfl,rfl⟩,by omega,by omega,by omega⟩
 case round=>
  obtain⟨G,rfl⟩:∃G,G=gk:=⟨_,rfl⟩;obtain⟨k,sp,sf,sc,hk,rfl,hrb,hbut,hbel,hk0,hk1,hk2,hk3⟩:=hrel;obtain⟨wb,rfl⟩:∃wb,wb=wr:=⟨_,rfl⟩;have HK:=zz hk;have hszb:w4.heap.size≤wb.heap.size:=hbut.1;have T1:=(hbut.2 _ (by omega) (by omega)).trans H1.out;have T2:=(hbut.2 (w.heap.size+1) (by omega) (by omega)).trans H2.out;have T4:=(hbut.2 (w.heap.size+1+1+1) (by omega) (by omega)).trans H4.out;clear hk
  by_cases hlt:k < m
  ·have hm2:m≤2:=by rcases HNK.out with⟨_,h⟩|⟨_,h⟩ <;>rw [HM.out,h] <;>simp
   rcases(show k=0∨k=1 by omega)with rfl|rfl
   ·have hK0:K[0]? =some ann1:=by rcases HNK.out with⟨_,h⟩|⟨_,h⟩ <;>rw [h] <;>rfl
    have hN0:N[0]? =some node1:=by rcases HNK.out with⟨h,_⟩|⟨h,_⟩ <;>rw [h] <;>rfl
    have hNl:N.length≤2:=by rcases HNK.out with⟨h,_⟩|⟨h,_⟩ <;>rw [h] <;>simp
    have hidx:idxL (fun x:TnD=>eqId x.node ann1) N 0=0:=by
     rcases HNK.out with⟨h,_⟩|⟨h,_⟩
     ·rw [h];exact idx1
     ·rw [h];exact idx14a
    obtain⟨rfl,rfl,rfl⟩:=hk0 rfl;have hx4:w4.rangeAt g (0+0*2) (idV ann1):=idY.elem HIDS.out 0 ann1 hK0;have hid0:wb.cell? ⟨g,0,none⟩=some (.string ⟨#[97,110,110]⟩):=(World.cell?_of_block (w:=w4) (w':=wb) (a:=⟨g,0,none⟩) (hbut.2 g hgl.2 (by omega))).trans (hx4 0 _ rfl);have hid1:wb.cell? ⟨g,1,none⟩=some (.int .i64 1):=(World.cell?_of_block (w:=w4) (w':=wb) (a:=⟨g,1,none⟩) (hbut.2 g hgl.2 (by omega))).trans (hx4 1 _ rfl);have t10:=(two_cells T1).1;have hbelA:Below w.heap.size w (wb.alloc (.cells #[.string ⟨#[97,110,110]⟩,.int .i64 1] 38)):=hbel.alloc (by omega) _;have hP:PredE tnY (wb.alloc (.cells #[.string ⟨#[97,110,110]⟩,.int .i64 1] 38)).heap.size 27 #[.pointer (some ⟨wb.heap.size,0,none⟩)] (fun x:TnD=>eqId x.node ann1) (wb.alloc (.cells #[.string ⟨#[97,110,110]⟩,.int .i64 1] 38)):=fun x V hB=>nodeIs_any x wb.heap.size ann1 V ((hB.block _ (by simp)).trans (zg wb _ _ rfl))
    have HIX:=zz (indexTn_any 27 _ _ N (.slice (some ⟨nb,noff,none⟩) N.length ncap) (wb.alloc (.cells #[.string ⟨#[97,110,110]⟩,.int .i64 1] 38)) _ (Nat.le_refl _) (by omega) (HHN.out.below hbelA) Tryz.call27 hP);rw [hidx]at HIX;have T4:wb.heap[w.heap.size+1+1+1]? =some (.map (kindsTab (w.heap.size+1+1)) 2):=T4;have HRB:=zz (zo _ _ (.cells #[.string ⟨#[97,110,110]⟩,.int .i64 1] 38) _ hrb);have HT1:=zz (zo _ _ (.cells #[.string ⟨#[97,110,110]⟩,.int .i64 1] 38) _ T1);have HT4:=zz (zo _ _ (.cells #[.string ⟨#[97,110,110]⟩,.int .i64 1] 38) _ T4);have HBX:=zz (show(wb.alloc (.cells #[.string ⟨#[97,110,110]⟩,.int .i64 1] 38)).heap[wb.heap.size]? =_ from zg wb _ _ rfl);have HBA:=zz hbelA;have HBUT:=zz hbut;have lB:w.heap.size < wb.heap.size:=by omega
    have lg:g < wb.heap.size:=by omega
    have hm0:(0:Int) < (m:Int):=by omega
    have hN0l:(0:Int) < (N.length:Int):=by omega
    have HN0:=zz (tnY.elem HNR.out 0 node1 hN0);clear hK0 hN0 hidx hx4 hbelA hP hrb hbut hbel hk0 hk1 hk2 hk3 T1 T2 T4
    go_wp2_with fail
    refine HIX.out.mono ?_;rintro e w5 ⟨rfl,hb5⟩;have BL5:=HBA.out.trans (hb5.mono HBA.out.size);have HBL5:=zz BL5;have T1:=(hb5.block _ (zl HT1.out)).trans HT1.out;have t10:=(two_cells T1).1
    have hrn:w5.rangeAt nb noff (tnV node1):=by
     have h:w5.rangeAt nb (noff+0*8) (tnV node1):=rangeAt_below HN0.out BL5;rw [Nat.zero_mul,Nat.add_zero]at h;exact h
    have hkd:w5.cell? ⟨nb,noff+7,none⟩=some (.string ⟨#[112,97,114,97,109]⟩):=hrn 7 _ rfl;have HT45:=zz ((hb5.block _ (zl HT4.out)).trans HT4.out);have HT15:=zz T1;have HB5:=zz hb5;clear hb5 BL5 T1;unfold tnV node1 ann1 rootI at hrn
    go_wp2_with(first
     |(at_lookup;refine wpList_lookup_raw _ rfl _ _ 77 true rfl 9 76 Tryz.underlying77 .nilFunc Tryz.zeroValue76 (w.heap.size+1+1+1) (kindsTab (w.heap.size+1+1)) 2 rfl HT45.out (.string ⟨#[112,97,114,97,109]⟩) rfl (ck9 _) (some (0,.func (.func 24) #[.pointer (some ⟨w.heap.size+1+1,0,none⟩)] #[])) (khit _) (.tuple #[.func (.func 24) #[.pointer (some ⟨w.heap.size+1+1,0,none⟩)] #[],.bool true]) rfl ?_)
     |refine wpList_load_mid rfl 55 _ rfl nb noff rfl _ _ hrn Tryz.underlying55 rfl (by kernel_rfl) ?_)
    have RV5:RRegs w5 (.slice sra srl src) R:=HHR.out.below HBL5.out;have R35:=(HB5.out.block _ (zl HRB.out)).trans HRB.out;have lr5:w.heap.size+1+1 < w5.heap.size:=zl R35;have hs5:wb.heap.size < w5.heap.size:=by have:=HB5.out.size;simp at this;omega
    refine(param_any R (w.heap.size+1+1) ⟨some ⟨nb,noff,none⟩,N.length,ncap⟩ ⟨sra,srl,src⟩ SlV.nil SlV.nil node1 w.heap.size w5 R35 (by omega) (fun r hr=>(HRN.out r hr).2.2) RV5 (by omega)).mono ?_;rintro e w6 ⟨rfl,hbut6,hbel6,sp,hrb6,hown6⟩;have hsl5:=five_raw R35;have T16:=(hbut6.2 _ (zl HT15.out) (by omega)).trans HT15.out;have X6:=(hbut6.2 wb.heap.size hs5 (by omega)).trans ((HB5.out.block _ (by simp)).trans HBX.out);have RV6:=RV5.but hbut6 hsl5;have BUT6:But (w.heap.size+1+1) w4 w6:=(HBUT.out.trans (But.of_below ((Below.refl _ wb).alloc (Nat.le_refl _) (.cells #[.string ⟨#[97,110,110]⟩,.int .i64 1] 38)))).trans ((But.of_below HB5.out).trans hbut6);have BL6:Below w.heap.size w w6:=HBL5.out.trans hbel6;have hs6:w5.heap.size≤w6.heap.size:=hbut6.1;have hown6':w6.ownsRow w5.heap.size 52 2 sp.v 1 (pdY.flat [parOf R]):=hown6;obtain⟨ds,hd1,hd2,hd3⟩:=RV6
    have hsl:srl=R.length:=by
     have h:regY.Rd w6 (.slice sra srl src) ds:=hd1;have h2:=h.len;rw [hd2]at h2;exact h2
    have t11:=(two_cells T16).2;have l16:w.heap.size < w6.heap.size:=zl T16;have HRB6:=zz hrb6;have HX6:=zz X6;have HBUT6:=zz BUT6;have HBL6:=zz BL6;have HOWN6:=zz hown6';have HD1:=zz hd1;have HD2:=zz hd2;have HD3:=zz hd3;have HSL:=zz hsl;have hsrl:srl≤1000:=by omega
    clear RV5 R35 hbut6 hbel6 hrb6 hown6 hown6' hsl5 T16 X6 BUT6 BL6 hd1 hd2 hd3 hsl hrn hkd t10 HT45 HB5 HBL5 HIX hid0 hid1;go_wp2;clear t11
    go_loopg [10,59] srl (fun gn t10 t59 wr=>∃(k2:Nat) (s:SlV),k2+gn=srl∧t59=.int .i64 k2∧t10=.slice s.a s.len s.cap∧CR wr w6.heap.size s.v (clash ann1 R k2)∧Below w6.heap.size w6 wr)
    case atStart=>exact⟨0,SlV.nil,by omega,rfl,rfl,CR.nil _ _,Below.refl _ _⟩
    case round=>
     obtain⟨G2,rfl⟩:∃G2,G2=gk:=⟨_,rfl⟩;obtain⟨k2,s,hkk,rfl,rfl,hcr,hbw⟩:=hrel;have HKK:=zz hkk;have HCR:=zz hcr;have HBW:=zz hbw;have hszw:w6.heap.size≤wr.heap.size:=hbw.size;clear hkk
     by_cases hlt2:k2 < srl
     ·obtain⟨d,hd⟩:∃d,ds[k2]? =some d:=⟨_,List.getElem?_eq_getElem (by rw [HD2.out,←HSL.out];exact hlt2)⟩;obtain⟨r,hr⟩:∃r,R[k2]? =some r:=⟨_,List.getElem?_eq_getElem (by rw [←HSL.out];exact hlt2)⟩;have hdr:=HD3.out k2 d r hd hr;have hrnn:=HRN.out r (List.mem_of_getElem? hr)
      obtain⟨b2,off2,hsra,hrg⟩:∃b off,sra=some ⟨b,off,none⟩∧w6.rangeAt b off (regY.flat ds):=by
       rcases HD1.out with⟨h1,h2⟩|⟨b,off,cap,h1,h2,h3⟩
       ·rw [h2]at hd;cases hd
       ·simp at h1;exact⟨b,off,h1.1,h3⟩
      have hrx:wr.rangeAt b2 (off2+k2*4) (regV d):=rangeAt_below (regY.elem hrg k2 d hd) hbw;have hna:d.node.a=⟨#[97,110,110]⟩:=by rw [hdr.1,hrnn.1];rfl
      have hnn:d.node.n=1:=by rw [hdr.1,hrnn.1];rfl
      have hdl:d.w.len=r.w.length:=by
       have h:wrY.Rd w6 (.slice d.w.a d.w.len d.w.cap) r.w:=hdr.2.2;exact h.len
      unfold regV at hrx;rw [hna,hnn]at hrx;have HHR2:=zz hr;have HDR:=zz hdr;have HRNN:=zz hrnn;have c0:=(two_cells ((hbw.block _ (zl HX6.out)).trans HX6.out)).1;have c1:=(two_cells ((hbw.block _ (zl HX6.out)).trans HX6.out)).2;have lq:wb.heap.size < wr.heap.size:=by omega
      have hltZ:(k2:Int) < (srl:Int):=by omega
      have hia:eqId r.node ann1=true:=by rw [hrnn.1];kernel_rfl
      rw [hdl]at hrx;clear hd hr hdr hrnn hrg hna hnn hcr hbw;subst hsra
      by_cases hw2:1 < r.w.length
      ·have HQ:=zz (clash_yes HHR2.out (show isClash ann1 r=true by unfold isClash;rw [hia];simp [hw2]));obtain⟨cs,hc1,hc2,hc3⟩:=HCR.out
       have hk0:clash ann1 R k2= []:=by
        have h1:=clash_len ann1 R (k2+1);have h2:=HC.out;rw [HQ.out,List.length_append]at h1;exact List.length_eq_zero_iff.1 (by simp at h1;omega)
       rw [hk0]at hc1 hc2;obtain rfl:cs= []:=List.length_eq_zero_iff.1 hc2;have HC1:=zz hc1;have HK0:=zz hk0;have hd2:decide ((1:Int) < (r.w.length:Int))=true:=by simp;omega
       have hbx:=zg wr (.cells #[.string ⟨#[97,110,110]⟩,.int .i64 1,.string d.field,.slice d.w.a r.w.length d.w.cap] 48) wr.heap.size rfl;have HBX2:=zz hbx
       have hrd:wrY.Rd (wr.alloc (.cells #[.string ⟨#[97,110,110]⟩,.int .i64 1,.string d.field,.slice d.w.a r.w.length d.w.cap] 48)) (.slice d.w.a r.w.length d.w.cap) r.w:=by
        have h:=HDR.out.2.2;unfold SlV.v at h;rw [hdl]at h;exact h.below (HBW.out.alloc hszw _)
       have HCL:=zz (cloneWr_any r.w _ _ (by have:=HRNN.out.2.2;omega) hrd);clear hia hrd hc1 hc2 hc3 hbx hk0
       go_wp2_with(first
        |refine wpList_load_mid rfl 48 _ rfl b2 (off2+k2*4) rfl _ _ hrx Tryz.underlying48 rfl (by kernel_rfl) ?_)
       refine HCL.out.mono ?_;rintro e w7 ⟨v7,rfl,ho7,hb7⟩;obtain⟨s7,hs7⟩:=ownsForm ho7;subst hs7;have hbx7:=(hb7.block _ (by simp)).trans HBX2.out;have e37:=zc _ _ 3 _ _ _ hbx7;have f37:=frozen_of_row w7 wr.heap.size 3 _ _ hbx7;have hset:=set4_3 (c':=.slice s7.a s7.len s7.cap) hbx7;have hs7':wr.heap.size+1≤w7.heap.size:=by have:=hb7.size;simp at this;omega
       have ho7b:w7.ownsRow (wr.heap.size+1) 50 4 (.slice s7.a s7.len s7.cap) r.w.length (wrY.flat r.w):=ownsRow_mono ho7 (by simp)
       have ho8:=ho7b.kept (grownBy_set w7 wr.heap.size 3 (.slice s7.a s7.len s7.cap)) (by
        rcases h:(Value.slice s7.a s7.len s7.cap).ownBlock with _|j
        ·left;rfl
        ·right;have:=(ho7b.lt j h).1;intro e9;simp at e9;omega)
       have hc8:=(ownsRow_below (HC1.out.alloc (.cells #[.string ⟨#[97,110,110]⟩,.int .i64 1,.string d.field,.slice d.w.a r.w.length d.w.cap] 48)) hb7).kept (grownBy_set w7 wr.heap.size 3 (.slice s7.a s7.len s7.cap)) (by
        rcases h:(s.v).ownBlock with _|j
        ·left;rfl
        ·right;have:=(HC1.out.lt j h).2;intro e9;simp at e9;omega)
       have hb8:Below w6.heap.size w6 (w7.setCell ⟨wr.heap.size,3,none⟩ (.slice s7.a s7.len s7.cap)):=Below.setCell ((HBW.out.alloc hszw _).trans (hb7.mono (by simp;omega))) (p:=⟨wr.heap.size,3,none⟩) hszw _;have HO8:=zz ho8;have HOW:=zz (hc8.alloc (.cells #[.string ⟨#[97,110,110]⟩,.int .i64 1,.string d.field,.slice s7.a s7.len s7.cap] 48));have HB8:=zz hb8;clear ho7 hb7 hbx7 ho7b ho8 hc8 hb8 hrx
       go_wp2_with(first
        |refine wpList_load_row rfl 48 _ rfl wr.heap.size rfl 48 _ (0,0) _ hset Tryz.underlying48 rfl (by kernel_rfl) ?_
        |(at_builtin;refine wpList_append_own_at _ rfl _ _ 26 rfl w6.heap.size 48 i0 (.agg z48) 4 64 Tryz.underlying26 hi hz0 hz1 hz2 rfl (by decide) s.v 0 [] rfl HOW.out ⟨w7.heap.size,0,none⟩ 1 1 (regV ⟨⟨⟨#[97,110,110]⟩,1⟩,d.field,s7⟩) rfl rfl (news_of (zg _ _ _ (by simp))) (regY.one ⟨⟨⟨#[97,110,110]⟩,1⟩,d.field,s7⟩) (by unfold maxLen;omega) (by omega) (by simp;omega) ?_;intro v8 w8 hown8 hg8 _ hloc8))
       have hb9:Below w6.heap.size w6 w8:=(HB8.out.alloc (by simp;omega) _).grown hg8 (by simp;omega) (fun j hj=>(HOW.out.lt j hj).1)
       have hr9:w8.ownsRow w6.heap.size 50 4 (.slice s7.a s7.len s7.cap) r.w.length (wrY.flat r.w):=ownsRow_mono ((HO8.out.alloc (.cells #[.string ⟨#[97,110,110]⟩,.int .i64 1,.string d.field,.slice s7.a s7.len s7.cap] 48)).kept hg8 (by
        rcases h:(Value.slice s7.a s7.len s7.cap).ownBlock with _|j
        ·left;rfl
        ·right
         have h1:=(HO8.out.lt j h).1;intro e9;have h2:=(HC1.out.lt j e9.symm).2
         omega)) (by omega)
       obtain⟨s8,hs8⟩:=ownsForm hown8;subst hs8;have HCR8:=zz (CR.one (d:=⟨⟨⟨#[97,110,110]⟩,1⟩,d.field,s7⟩) ⟨HRNN.out.1.symm,HDR.out.2.1,hr9⟩ hown8);clear hown8 hg8 hloc8 hset e37 f37 hr9;go_wp2
       go_roundg (srl - 1 - k2)
       case rel=>exact⟨k2+1,s8,by have:=HKK.out;omega,by go_num,rfl,by rw [HQ.out,HK0.out];exact HCR8.out,hb9⟩
       case measure=>have:=HKK.out;omega
      ·have HQ:=zz (clash_no HHR2.out (show isClash ann1 r=false by unfold isClash;rw [hia];simp;omega));have hd2:decide ((1:Int) < (r.w.length:Int))=false:=by simp;omega
       clear hia
       go_wp2_with(first
        |refine wpList_load_mid rfl 48 _ rfl b2 (off2+k2*4) rfl _ _ hrx Tryz.underlying48 rfl (by kernel_rfl) ?_)
       go_roundg (srl - 1 - k2)
       case rel=>exact⟨k2+1,s,by have:=HKK.out;omega,by go_num,rfl,by rw [HQ.out];exact HCR.out.below ((Below.refl _ _).alloc (Nat.le_refl _) _),HBW.out.alloc hszw _⟩
       case measure=>have:=HKK.out;omega
     ·obtain rfl:k2=srl:=by have:=HKK.out;omega
      rw [HSL.out]at HCR;obtain⟨cs,hc1,hc2,hc3⟩:=HCR.out;have hCl:=HC.out
      have hsc:s.len=(clash ann1 R R.length).length:=by
       rcases hc1.2 with⟨h,h0⟩|⟨g9,cap9,cur9,h,_⟩
       ·simp [SlV.v]at h;omega
       ·simp [SlV.v]at h;exact h.2.1
      have hcells:0 < s.len→∃ad,s.a=some ad∧∀j u,(regY.flat cs)[j]? =some u→wr.cell? (ad.add j)=some u:=fun hp=>by
       rcases hc1.2 with⟨h,h0⟩|⟨g9,cap9,cur9,h,_⟩
       ·omega
       ·simp [SlV.v]at h;refine⟨⟨g9,0,none⟩,h.1,fun j u hj=>?_⟩;exact hc1.cells (g:=g9) (by rw [show s.v=.slice (some ⟨g9,0,none⟩) s.len cap9 by simp [SlV.v,h.1,h.2.2]];simp [Value.ownBlock]) j u hj
      have hfl:(regY.flat cs).length=s.len*4:=by rw [regY.flat_length,hc2,hsc];rfl
      have R3w:=(hbw.block _ (zl HRB6.out)).trans HRB6.out;have r14:=(five_cells R3w).2.2.2.2;have HR3W:=zz R3w;have lrw:w.heap.size+1+1 < wr.heap.size:=zl R3w;have HCC:=zz (And.intro hc2 hc3);have HSC:=zz hsc;have HCE:=zz hcells;have HFL:=zz hfl;have HS46:=zz (show w4.heap.size≤w6.heap.size by omega);have hs1:s.len≤1:=by omega
      have hs1000:s.len≤1000:=by omega
      clear hc1 hc2 hc3 hsc hcells hfl R3w hcr hbw hCl
      go_wp2_with fail
      refine(sortSmallR 31 s.a s.len s.cap wr hs1).mono ?_;rintro e w8 ⟨rfl,rfl⟩
      go_wp2_with(first
       |(at_builtin;refine wpList_append_src _ rfl _ _ 26 rfl w4.heap.size 48 i0 (.agg z48) 4 64 Tryz.underlying26 hi hz0 hz1 hz2 rfl (by decide) (.slice none 0 0) 0 [] rfl (owns_nil0 _ _ _ _) s.a s.len s.cap (regY.flat cs) rfl HFL.out HCE.out (regY.flat_one cs) (by unfold maxLen;omega) (by omega) (by omega) ?_;intro v9 w9 hown9 hg9;have HO9:=zz hown9;have HG9:=zz hg9;have R39:=(hg9.block _ lrw (by simp [Value.ownBlock])).trans HR3W.out;have r149:=(five_cells R39).2.2.2.2;have f149:=frozen_of_row w9 (w.heap.size+1+1) 4 _ _ R39;have HR39:=zz R39;clear hg9 R39 r14;obtain⟨s9,hs9⟩:=ownsForm hown9;subst hs9;clear hown9))
      go_roundg (m - 1)
      case rel=>exact⟨1,sp,SlV.nil,s9,by omega,by go_num,set5_4 HR39.out,design_but HBUT6.out HBW.out HG9.out,design_below HBL6.out HBW.out HG9.out (by omega),by omega,fun _=>⟨design_row HOWN6.out HBW.out HG9.out (by omega) (by omega),design_cr HO9.out HG9.out HR39.out HCC.out HSC.out (by omega) HS46.out⟩,fun _=>rfl,by omega⟩
      case measure=>have:=HK.out;omega
   ·obtain⟨hNe,hKe⟩:N= [node1,node4]∧K= [ann1,ann4]:=by
     rcases HNK.out with⟨_,h⟩|h
     ·exfalso;have:=HM.out;rw [h]at this;simp at this;omega
     ·exact h
    have hcl0:=HN2.out hNe;have hK1:K[1]? =some ann4:=by rw [hKe];rfl
    have hN1:N[1]? =some node4:=by rw [hNe];rfl
    have hNl:N.length≤2:=by rw [hNe];simp
    have hidx:idxL (fun x:TnD=>eqId x.node ann4) N 0=1:=by rw [hNe];exact idx14b
    obtain rfl:=hk2 rfl;obtain⟨hsp,hcr⟩:=hk1 (by omega);rw [hcl0]at hcr;have hx4:w4.rangeAt g (0+1*2) (idV ann4):=idY.elem HIDS.out 1 ann4 hK1;have hid0:wb.cell? ⟨g,2,none⟩=some (.string ⟨#[97,110,110]⟩):=(World.cell?_of_block (w:=w4) (w':=wb) (a:=⟨g,2,none⟩) (hbut.2 g hgl.2 (by omega))).trans (hx4 0 _ rfl);have hid1:wb.cell? ⟨g,3,none⟩=some (.int .i64 4):=(World.cell?_of_block (w:=w4) (w':=wb) (a:=⟨g,3,none⟩) (hbut.2 g hgl.2 (by omega))).trans (hx4 1 _ rfl);have t10:=(two_cells T1).1;have hbelA:Below w.heap.size w (wb.alloc (.cells #[.string ⟨#[97,110,110]⟩,.int .i64 4] 38)):=hbel.alloc (by omega) _;have hP:PredE tnY (wb.alloc (.cells #[.string ⟨#[97,110,110]⟩,.int .i64 4] 38)).heap.size 27 #[.pointer (some ⟨wb.heap.size,0,none⟩)] (fun x:TnD=>eqId x.node ann4) (wb.alloc (.cells #[.string ⟨#[97,110,110]⟩,.int .i64 4] 38)):=fun x V hB=>nodeIs_any x wb.heap.size ann4 V ((hB.block _ (by simp)).trans (zg wb _ _ rfl))
    have HIX:=zz (indexTn_any 27 _ _ N (.slice (some ⟨nb,noff,none⟩) N.length ncap) (wb.alloc (.cells #[.string ⟨#[97,110,110]⟩,.int .i64 4] 38)) _ (Nat.le_refl _) (by omega) (HHN.out.below hbelA) Tryz.call27 hP);rw [hidx]at HIX;have T4:wb.heap[w.heap.size+1+1+1]? =some (.map (kindsTab (w.heap.size+1+1)) 2):=T4;have HRB:=zz (zo _ _ (.cells #[.string ⟨#[97,110,110]⟩,.int .i64 4] 38) _ hrb);have HT1:=zz (zo _ _ (.cells #[.string ⟨#[97,110,110]⟩,.int .i64 4] 38) _ T1);have HT4:=zz (zo _ _ (.cells #[.string ⟨#[97,110,110]⟩,.int .i64 4] 38) _ T4);have HBX:=zz (show(wb.alloc (.cells #[.string ⟨#[97,110,110]⟩,.int .i64 4] 38)).heap[wb.heap.size]? =_ from zg wb _ _ rfl);have HBA:=zz hbelA;have HBUT:=zz hbut;have HSP:=zz hsp;have HCRB:=zz hcr;have lB:w.heap.size < wb.heap.size:=by omega
    have lg:g < wb.heap.size:=by omega
    have hm0:(1:Int) < (m:Int):=by omega
    have hN0l:(1:Int) < (N.length:Int):=by rw [hNe];simp
    have HN0:=zz (tnY.elem HNR.out 1 node4 hN1);clear hK1 hN1 hidx hx4 hbelA hP hrb hbut hbel hk0 hk1 hk2 hk3 T1 T2 T4 hsp hcr hKe;have HNE:=zz hNe;clear hNe
    go_wp2_with fail
    refine HIX.out.mono ?_;rintro e w5 ⟨rfl,hb5⟩;have BL5:=HBA.out.trans (hb5.mono HBA.out.size);have HBL5:=zz BL5;have T1:=(hb5.block _ (zl HT1.out)).trans HT1.out;have t10:=(two_cells T1).1
    have hrn:w5.rangeAt nb (noff+8) (tnV node4):=by
     have h:w5.rangeAt nb (noff+1*8) (tnV node4):=rangeAt_below HN0.out BL5;rw [Nat.one_mul]at h;exact h
    have hkd:w5.cell? ⟨nb,noff+8+7,none⟩=some (.string ⟨#[109,105,114,114,111,114]⟩):=hrn 7 _ rfl;have HT45:=zz ((hb5.block _ (zl HT4.out)).trans HT4.out);have HT15:=zz T1;have HB5:=zz hb5;clear hb5 BL5 T1;unfold tnV node4 ann4 rootI at hrn
    go_wp2_with(first
     |(at_lookup;refine wpList_lookup_raw _ rfl _ _ 77 true rfl 9 76 Tryz.underlying77 .nilFunc Tryz.zeroValue76 (w.heap.size+1+1+1) (kindsTab (w.heap.size+1+1)) 2 rfl HT45.out (.string ⟨#[109,105,114,114,111,114]⟩) rfl (ck9 _) none (kmissM _) (.tuple #[.nilFunc,.bool false]) rfl ?_)
     |refine wpList_load_mid rfl 55 _ rfl nb (noff+8) rfl _ _ hrn Tryz.underlying55 rfl (by kernel_rfl) ?_)
    have RV5:RRegs w5 (.slice sra srl src) R:=HHR.out.below HBL5.out;have R35:=(HB5.out.block _ (zl HRB.out)).trans HRB.out;have lr5:w.heap.size+1+1 < w5.heap.size:=zl R35;have hs5:wb.heap.size < w5.heap.size:=by have:=HB5.out.size;simp at this;omega
    have SP5:=ownsRow_below (HSP.out.alloc (.cells #[.string ⟨#[97,110,110]⟩,.int .i64 4] 38)) HB5.out;have CR5:=(HCRB.out.below ((Below.refl _ _).alloc (Nat.le_refl _) (.cells #[.string ⟨#[97,110,110]⟩,.int .i64 4] 38))).below HB5.out;refine(step_any R HRN.out hl (w.heap.size+1+1) ⟨some ⟨nb,noff,none⟩,N.length,ncap⟩ ⟨sra,srl,src⟩ sp sc w.heap.size w5 R35 RV5 (by omega) (HKA.out.below HBL5.out)).mono ?_;rintro e w6 ⟨rfl,hbut6,hbel6,sf,hrb6,hown6⟩;have hsl5:=five_raw R35;have T16:=(hbut6.2 _ (zl HT15.out) (by omega)).trans HT15.out;have X6:=(hbut6.2 wb.heap.size hs5 (by omega)).trans ((HB5.out.block _ (by simp)).trans HBX.out);have RV6:=RV5.but hbut6 hsl5;have BUT6:But (w.heap.size+1+1) w4 w6:=(HBUT.out.trans (But.of_below ((Below.refl _ wb).alloc (Nat.le_refl _) (.cells #[.string ⟨#[97,110,110]⟩,.int .i64 4] 38)))).trans ((But.of_below HB5.out).trans hbut6);have BL6:Below w.heap.size w w6:=HBL5.out.trans hbel6;have hs6:w5.heap.size≤w6.heap.size:=hbut6.1;have SP6:=ownsRow_but SP5 hbut6 (by omega);obtain⟨cs6,hcs1,hcs2,_⟩:=CR5.but hbut6 (by omega);obtain rfl:cs6= []:=List.length_eq_zero_iff.1 hcs2;have hcs3:w6.ownsRow w4.heap.size 48 4 (.slice sc.a sc.len sc.cap) 0 []:=hcs1;obtain⟨ds,hd1,hd2,hd3⟩:=RV6
    have hsl:srl=R.length:=by
     have h:regY.Rd w6 (.slice sra srl src) ds:=hd1;have h2:=h.len;rw [hd2]at h2;exact h2
    have t11:=(two_cells T16).2;have l16:w.heap.size < w6.heap.size:=zl T16;have HRB6:=zz hrb6;have HX6:=zz X6;have HBUT6:=zz BUT6;have HBL6:=zz BL6;have HOWN6:=zz (show w6.ownsRow w5.heap.size 62 12 sf.v 1 (feY.flat [mir4])from hown6);have HSP6:=zz SP6;have HCS6:=zz hcs3;have HD1:=zz hd1;have HD2:=zz hd2;have HD3:=zz hd3;have HSL:=zz hsl;have hsrl:srl≤1000:=by omega
    clear RV5 R35 hbut6 hbel6 hrb6 hown6 hsl5 T16 X6 BUT6 BL6 hd1 hd2 hd3 hsl hrn hkd t10 HT45 HB5 HBL5 HIX hid0 hid1 SP5 CR5 SP6 hcs1 hcs2 hcs3 hcl0;go_wp2;clear t11
    go_loopg [10,59] srl (fun gn t10 t59 wr=>∃(k2:Nat),k2+gn=srl∧t59=.int .i64 k2∧t10=.slice none 0 0∧Below w6.heap.size w6 wr)
    case atStart=>exact⟨0,by omega,rfl,rfl,Below.refl _ _⟩
    case round=>
     obtain⟨G2,rfl⟩:∃G2,G2=gk:=⟨_,rfl⟩;obtain⟨k2,hkk,rfl,rfl,hbw⟩:=hrel;have HKK:=zz hkk;have HBW:=zz hbw;have hszw:w6.heap.size≤wr.heap.size:=hbw.size;clear hkk
     by_cases hlt2:k2 < srl
     ·obtain⟨d,hd⟩:∃d,ds[k2]? =some d:=⟨_,List.getElem?_eq_getElem (by rw [HD2.out,←HSL.out];exact hlt2)⟩;obtain⟨r,hr⟩:∃r,R[k2]? =some r:=⟨_,List.getElem?_eq_getElem (by rw [←HSL.out];exact hlt2)⟩;have hdr:=HD3.out k2 d r hd hr;have hrnn:=HRN.out r (List.mem_of_getElem? hr)
      obtain⟨b2,off2,hsra,hrg⟩:∃b off,sra=some ⟨b,off,none⟩∧w6.rangeAt b off (regY.flat ds):=by
       rcases HD1.out with⟨h1,h2⟩|⟨b,off,cap,h1,h2,h3⟩
       ·rw [h2]at hd;cases hd
       ·simp at h1;exact⟨b,off,h1.1,h3⟩
      have hrx:wr.rangeAt b2 (off2+k2*4) (regV d):=rangeAt_below (regY.elem hrg k2 d hd) hbw;have hna:d.node.a=⟨#[97,110,110]⟩:=by rw [hdr.1,hrnn.1];rfl
      have hnn:d.node.n=1:=by rw [hdr.1,hrnn.1];rfl
      unfold regV at hrx;rw [hna,hnn]at hrx;have c0:=(two_cells ((hbw.block _ (zl HX6.out)).trans HX6.out)).1;have c1:=(two_cells ((hbw.block _ (zl HX6.out)).trans HX6.out)).2;have lq:wb.heap.size < wr.heap.size:=by omega
      have hltZ:(k2:Int) < (srl:Int):=by omega
      clear hd hr hdr hrnn hrg hna hnn hbw;subst hsra
      go_wp2_with(first
       |refine wpList_load_mid rfl 48 _ rfl b2 (off2+k2*4) rfl _ _ hrx Tryz.underlying48 rfl (by kernel_rfl) ?_)
      go_roundg (srl - 1 - k2)
      case rel=>exact⟨k2+1,by have:=HKK.out;omega,by go_num,rfl,HBW.out.alloc hszw _⟩
      case measure=>have:=HKK.out;omega
     ·obtain rfl:k2=srl:=by have:=HKK.out;omega
      have R3w:=(hbw.block _ (zl HRB6.out)).trans HRB6.out;have r14:=(five_cells R3w).2.2.2.2;have HR3W:=zz R3w;have lrw:w.heap.size+1+1 < wr.heap.size:=zl R3w;have HCW:=zz (ownsRow_below HCS6.out hbw);have HSPW:=zz (ownsRow_below HSP6.out hbw);have HFEW:=zz (ownsRow_below HOWN6.out hbw);have hrow:∀j,(Value.slice sc.a sc.len sc.cap).ownBlock=some j→w4.heap.size≤j:=fun j hj=>(HCW.out.lt j hj).1
      have HROW:=zz hrow;clear R3w hbw hrow
      go_wp2_with fail
      refine(sortSmallR 31 none 0 0 wr (by omega)).mono ?_;rintro e w8 ⟨rfl,rfl⟩
      go_wp2_with(first
       |(at_builtin;refine wpList_append_src _ rfl _ _ 26 rfl w4.heap.size 48 i0 (.agg z48) 4 64 Tryz.underlying26 hi hz0 hz1 hz2 rfl (by decide) (.slice sc.a sc.len sc.cap) 0 [] rfl HCW.out none 0 0 [] rfl rfl (fun h=>absurd h (by omega)) (by simp) (by unfold maxLen;omega) (by omega) (by omega) ?_;intro v9 w9 hown9 hg9;have HO9:=zz hown9;have HG9:=zz hg9;have R39:=(hg9.block _ lrw (fun e=>by have:=HROW.out _ e.symm;omega)).trans HR3W.out;have r149:=(five_cells R39).2.2.2.2;have f149:=frozen_of_row w9 (w.heap.size+1+1) 4 _ _ R39;have HR39:=zz R39;clear hg9 R39 r14;obtain⟨s9,hs9⟩:=ownsForm hown9;subst hs9;clear hown9))
      go_roundg (m - 2)
      case rel=>exact⟨2,sp,sf,s9,by omega,by go_num,set5_4 HR39.out,design_but2 (HBUT6.out.trans (But.of_below HBW.out)) HG9.out HROW.out,Below.setCell ((HBL6.out.trans (HBW.out.mono HBL6.out.size)).grown HG9.out (by omega) (fun j hj=>Nat.le_trans (by omega) (HROW.out j hj))) (p:=⟨w.heap.size+1+1,4,none⟩) (Nat.le_trans (Nat.le_succ _) (Nat.le_succ _)) _,by omega,fun _=>⟨design_keep HSPW.out HCW.out (by decide) HG9.out (Nat.le_refl _) (by omega),by rw [HN2.out HNE.out];exact CR.nil_of HO9.out (But.set (But.of_below (Below.refl _ _)) 4 _) (by omega)⟩,by omega,fun _=>design_keep HFEW.out HCW.out (by decide) HG9.out (by omega) (by omega)⟩
      case measure=>have:=HK.out;omega
  ·obtain rfl:k=m:=by have:=HK.out;omega
   have hr34:wb.rangeAt (w.heap.size+1+1) 2 [.slice sp.a sp.len sp.cap,.slice sf.a sf.len sf.cap,.slice sc.a sc.len sc.cap]:=by
    intro j u hj;rw [zc _ _ _ _ _ _ hrb]
    match j,hj with
    |0,hj=>simpa using hj
    |1,hj=>simpa using hj
    |2,hj=>simpa using hj
    |j+3,hj=>simp at hj
   have HE:=zz (And.intro (hk1 (by omega)) (And.intro hk2 hk3));have HBL:=zz hbel;have HT2:=zz T2;have lrb:w.heap.size+1+1 < wb.heap.size:=zl hrb;clear hk0 hk1 hk2 hk3 hrb hbut hbel T1 T4 T2
   go_wp2_with(first
    |refine wpList_load_mid rfl 34 _ rfl (w.heap.size+1+1) 2 rfl _ _ hr34 Tryz.underlying34 rfl (by kernel_rfl) ?_
    |(refine wpList_store_row rfl 34 _ _ rfl (w.heap.size+1) _ _ HT2.out rfl rfl (by kernel_rfl) (by rfl) (by simp [Value.oneCell']) ?_;intro w9 h9 ho9 _ hb9))
   have hpast:∀i,i≠w.heap.size+1→w9.heap[i]? =wb.heap[i]?:=ho9;have hbw9:But (w.heap.size+1) wb w9:=⟨(hb9 _ (Nat.le_refl _)).size,fun i _ hi=>ho9 i hi⟩;have hsl:=three_slices (a:=SlV.nil) (b:=SlV.nil) (c:=SlV.nil) HT2.out;refine bodyPost_ret (results_cell_row Tryz.results11 _ _ (w.heap.size+1) 34 _ (0,0) _ rfl h9 Tryz.underlying34 rfl (by kernel_rfl)) rfl ⟨sp,sf,sc,rfl,?_,?_,?_,HBL.out.trans (hb9 _ (by omega))⟩
   ·exact ownsRow_mono (ownsRow_but HE.out.1.1 hbw9 (by omega)) (by omega)
   ·rcases HNK.out with⟨h1,h2⟩|⟨h1,h2⟩
    ·have hk1':k=1:=by rw [HM.out,h2];rfl
     rw [h1,HE.out.2.1 hk1'];exact .inl ⟨rfl,rfl⟩
    ·have hk2':2≤k:=by rw [HM.out,h2];simp
     rw [h1];exact(Lay.Rd.of_owns (Y:=feY) (HE.out.2.2 hk2')).past _ hsl (fun x=>⟨_,rfl⟩) hpast
   ·exact(HE.out.1.2.but hbw9 (by omega)).mono (by omega)
end Go.Proofs.YteigcnamkfebgaaGreatDoor
