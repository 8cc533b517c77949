import Derived.Test.YteigcnamkfebgaaGreatDoorLA
import Derived.Test.YteigcnamkfebgaaGreatDoorRows
import Derived.ProofKit
import Derived.OpenShut
import Derived.Deep.Slices
import Derived.ChangeArms
import Derived.Lib.LaidTab
import Derived.Deep.Strs
set_option linter.all false
set_option maxHeartbeats 25600000
namespace Go.Proofs.YteigcnamkfebgaaGreatDoor
open Go.ChangeShapes Go.WideShapes Go.RowKit Go.Deep
theorem bulk_one {H:Type} (d:DataW H):1≤Rows.uptoBulk d:=by
 cases d with
 |lit l=>cases l <;>simp [Rows.uptoBulk]
 |nil=>simp [Rows.uptoBulk]
 |ptr d=>simp [Rows.uptoBulk]
 |slice a b=>simp [Rows.uptoBulk]
 |agg p=>simp [Rows.uptoBulk]
 |iface t d=>simp [Rows.uptoBulk]
 |map e=>simp [Rows.uptoBulk]
 |held h=>simp [Rows.uptoBulk]
theorem bulk_part {H:Type} {d:DataW H}:∀ {l:List (DataW H)},d∈l→Rows.uptoBulk d≤Rows.uptoBulkAll l
 | [],h=>by cases h
 |x::r,h=>by
  simp only [Rows.uptoBulkAll]
  rcases List.mem_cons.1 h with e|e
  ·subst e;omega
  ·have:=bulk_part e;omega
theorem bulk_len {H:Type}:∀l:List (DataW H),l.length≤Rows.uptoBulkAll l
 | []=>by simp [Rows.uptoBulkAll]
 |x::r=>by
  have h1:=bulk_one x;have h2:=bulk_len r;simp only [Rows.uptoBulkAll,List.length_cons];omega
theorem bulk_str {H:Type} (s:ByteArray):s.size≤Rows.uptoBulk (DataW.lit (H:=H) (.string s.data.toList)):=by
 have e:s.data.toList.length=s.size:=Array.length_toList;simp only [Rows.uptoBulk];omega
theorem bulk_agg {H:Type} {d:DataW H} {l:List (DataW H)} (h:d∈l):Rows.uptoBulk d≤Rows.uptoBulk (.agg l):=by
 have:=bulk_part h;simp only [Rows.uptoBulk];omega
theorem bulk_elem {H:Type} {n:Nat} {D:Nat→DataW H} {r:List (DataW H)} {i:Nat} (h:i < n):Rows.uptoBulk (D i)≤Rows.uptoBulk (.slice ((List.range n).map D) r):=by
 have h1:=bulk_part (d:=D i) (l:=(List.range n).map D) (List.mem_map.2 ⟨i,List.mem_range.2 h,rfl⟩);simp only [Rows.uptoBulk];omega
theorem bulk_two {H:Type} {D:Nat→DataW H}:∀(l:List Nat),(∀i∈l,2≤Rows.uptoBulk (D i))→2*l.length≤Rows.uptoBulkAll (l.map D)
 | [],_=>by simp [Rows.uptoBulkAll]
 |i::r,h=>by
  have h1:=h i (by simp);have h2:=bulk_two (D:=D) r (fun j hj=>h j (by simp [hj]));simp only [List.map_cons,Rows.uptoBulkAll,List.length_cons];omega
theorem bulk_slen2 {H:Type} {n:Nat} {D:Nat→DataW H} {r:List (DataW H)} (h:∀i,i < n→2≤Rows.uptoBulk (D i)):2*n≤Rows.uptoBulk (.slice ((List.range n).map D) r):=by
 have h1:=bulk_two (D:=D) (List.range n) (fun i hi=>h i (List.mem_range.1 hi));rw [List.length_range]at h1;simp only [Rows.uptoBulk];omega
theorem bulk_slen {H:Type} {n:Nat} {D:Nat→DataW H} {r:List (DataW H)}:n≤Rows.uptoBulk (.slice ((List.range n).map D) r):=by
 have h1:=bulk_len ((List.range n).map D);rw [List.length_map,List.length_range]at h1;simp only [Rows.uptoBulk];omega
theorem k38:Tryz.prog.cellsOf 38=2:=by kernel_rfl
theorem k45:Tryz.prog.cellsOf 45=18:=by kernel_rfl
theorem k43:Tryz.prog.cellsOf 43=3:=by kernel_rfl
theorem k41:Tryz.prog.cellsOf 41=1:=by kernel_rfl
theorem k9:Tryz.prog.cellsOf 9=1:=by kernel_rfl
theorem k4:Tryz.prog.cellsOf 4=1:=by kernel_rfl
theorem k3:Tryz.prog.cellsOf 3=1:=by kernel_rfl
section
variable {H:Type} {enc:TypeId×Value→H} {W:World} {sp:Nat→Bool}
theorem trod_id {n:Nat} {cs:List Value} {x:DataW H×List MemPlace} (h:DataW.trod enc Tryz.prog W 0 sp true n 38 cs=some x):∃i:IdD,cs=idV i∧i.a.size≤Rows.uptoBulk x.1∧2≤Rows.uptoBulk x.1:=by
 obtain⟨xs,m,rfl,rfl,hl,hxl,hf⟩:=DataW.trod_struct Tryz.underlying38 h;rw [k38]at hl
 obtain⟨c0,c1,rfl⟩:∃c0 c1,cs= [c0,c1]:=by
  rcases cs with _|⟨c0,_|⟨c1,_|⟨c2,r⟩⟩⟩ <;>simp at hl
  exact⟨_,_,rfl⟩
 obtain⟨y0,y1,rfl⟩:∃y0 y1,xs= [y0,y1]:=by
  rcases xs with _|⟨c0,_|⟨c1,_|⟨c2,r⟩⟩⟩ <;>simp at hxl
  exact⟨_,_,rfl⟩
 have h0:=hf 0 _ rfl;have h1:=hf 1 _ rfl;change DataW.trod enc Tryz.prog W 0 sp true m 9 (([c0,c1].drop 0).take (Tryz.prog.cellsOf 9))=some y0 at h0;change DataW.trod enc Tryz.prog W 0 sp true m 3 (([c0,c1].drop 1).take (Tryz.prog.cellsOf 3))=some y1 at h1;rw [k9]at h0;rw [k3]at h1;obtain⟨s,e0,x0,_⟩:=DataW.trod_string Tryz.underlying9 (x:=y0) h0;obtain⟨q,e1,x1,_⟩:=DataW.trod_int Tryz.underlying3 (x:=y1) h1;simp at e0 e1;subst e0 e1 x0 x1;refine⟨⟨s,q⟩,rfl,Nat.le_trans (bulk_str s) (bulk_agg (by simp)),?_⟩;have h3:=bulk_len (H:=H) [.lit (.string s.data.toList),.lit (.int .i64 q)]
 show 2≤Rows.uptoBulk (.agg [.lit (.string s.data.toList),.lit (.int .i64 q)])
 simp only [Rows.uptoBulk]at h3⊢;simp only [List.length_cons,List.length_nil]at h3;omega
theorem trod_place {n:Nat} {cs:List Value} {x:DataW H×List MemPlace} (h:DataW.trod enc Tryz.prog W 0 sp true n 43 cs=some x):∃(b:Bool) (s t:ByteArray),cs= [.bool b,.string s,.string t]∧s.size≤Rows.uptoBulk x.1∧t.size≤Rows.uptoBulk x.1:=by
 obtain⟨xs,m,rfl,rfl,hl,hxl,hf⟩:=DataW.trod_struct Tryz.underlying43 h;rw [k43]at hl
 obtain⟨c0,c1,c2,rfl⟩:∃c0 c1 c2,cs= [c0,c1,c2]:=by
  rcases cs with _|⟨c0,_|⟨c1,_|⟨c2,_|⟨c3,r⟩⟩⟩⟩ <;>simp at hl
  exact⟨_,_,_,rfl⟩
 obtain⟨y0,y1,y2,rfl⟩:∃y0 y1 y2,xs= [y0,y1,y2]:=by
  rcases xs with _|⟨c0,_|⟨c1,_|⟨c2,_|⟨c3,r⟩⟩⟩⟩ <;>simp at hxl
  exact⟨_,_,_,rfl⟩
 have h0:=hf 0 _ rfl;have h1:=hf 1 _ rfl;have h2:=hf 2 _ rfl;change DataW.trod enc Tryz.prog W 0 sp true m 4 (([c0,c1,c2].drop 0).take (Tryz.prog.cellsOf 4))=some y0 at h0;change DataW.trod enc Tryz.prog W 0 sp true m 9 (([c0,c1,c2].drop 1).take (Tryz.prog.cellsOf 9))=some y1 at h1;change DataW.trod enc Tryz.prog W 0 sp true m 9 (([c0,c1,c2].drop 2).take (Tryz.prog.cellsOf 9))=some y2 at h2;rw [k4]at h0;rw [k9]at h1 h2;obtain⟨b,e0,x0⟩:=DataW.trod_bool Tryz.underlying4 (x:=y0) h0;obtain⟨s,e1,x1,_⟩:=DataW.trod_string Tryz.underlying9 (x:=y1) h1;obtain⟨t,e2,x2,_⟩:=DataW.trod_string Tryz.underlying9 (x:=y2) h2;simp at e0 e1 e2;subst e0 e1 e2 x0 x1 x2;exact⟨b,s,t,rfl,Nat.le_trans (bulk_str s) (bulk_agg (by simp)),Nat.le_trans (bulk_str t) (bulk_agg (by simp))⟩
theorem lay_range {E:Type} (Y:Lay E) (hk:0 < Y.k) {w:World} {b off:Nat} {l:List E} (h:∀(i:Nat) (x:E),l[i]? =some x→∀(j:Nat) (v:Value),(Y.V x)[j]? =some v→w.cell? ⟨b,off+(i*Y.k+j),none⟩=some v):w.rangeAt b off (Y.flat l):=fun j u hj=>by
 have hlt:=(List.getElem?_eq_some_iff.1 hj).1;rw [Y.flat_length]at hlt;have hi:j / Y.k < l.length:=Nat.div_lt_of_lt_mul (by rw [Nat.mul_comm];exact hlt);obtain⟨x,hx⟩:∃x,l[j / Y.k]? =some x:=⟨_,List.getElem?_eq_getElem hi⟩;have e:j / Y.k*Y.k+j%Y.k=j:=Nat.div_add_mod' j Y.k;have h2:=Y.flat_get l (j / Y.k) (j%Y.k) x hx (Nat.mod_lt j hk);rw [e,hj]at h2;have h3:=h _ x hx (j%Y.k) u h2.symm
 rwa [e]at h3
theorem list_by {E:Type} {Q:Nat→E→Prop}:∀n,(∀i,i < n→∃x,Q i x)→∃l:List E,l.length=n∧∀i x,l[i]? =some x→Q i x
 |0,_=>⟨[],rfl,fun i x h=>by simp at h⟩
 |n+1,h=>by
  obtain⟨l,h1,h2⟩:=list_by n (fun i hi=>h i (by omega));obtain⟨x,hx⟩:=h n (Nat.lt_succ_self n);refine⟨l++ [x],by simp [h1],fun i y hy=>?_⟩
  rcases Nat.lt_or_ge i l.length with hl|hl
  ·rw [List.getElem?_append_left hl]at hy;exact h2 i y hy
  ·rw [List.getElem?_append_right hl]at hy;have h0:=(List.getElem?_eq_some_iff.1 hy).1;simp at h0;have:i=n:=by omega
   subst this;rw [h1,Nat.sub_self]at hy;simp at hy;subst hy;exact hx
theorem spot_no {a:Addr} {v:Value} (h:W.cell? (a.add 0)=some v):∃b off,a=⟨b,off,none⟩:=by
 obtain⟨b,o,s⟩:=a
 cases s with
 |none=>exact⟨b,o,rfl⟩
 |some k=>
  exfalso
  unfold World.cell? at h
  split at h
  ·simp [Addr.add]at h
  ·cases h
theorem elem_cells {E:Type} (Y:Lay E) (hk:0 < Y.k) {b off i:Nat} {x:E} {cs:List Value} (hc:W.cells? 0 ((⟨b,off,none⟩:Addr).add (i*Y.k)) Y.k=some cs) (he:cs=Y.V x) (j:Nat) (v:Value) (hj:(Y.V x)[j]? =some v):W.cell? ⟨b,off+(i*Y.k+j),none⟩=some v:=by
 obtain⟨_,hl,hat⟩:=World.cells?_some hc;have hjl:j < Y.k:=by have:=(List.getElem?_eq_some_iff.1 hj).1;rwa [Y.len]at this
 have h1:=hat j hjl;rw [Go.Deep.add_add,Addr.add_mid,he,hj]at h1;exact h1
theorem trod_ids {n:Nat} {c:Value} {x:DataW H×List MemPlace} (h:DataW.trod enc Tryz.prog W 0 (fun _=>true) true n 41 [c]=some x):∃(s:SlV) (l:List IdD),c=.slice s.a s.len s.cap∧IdR W s.v l∧2*l.length≤Rows.uptoBulk x.1∧∀y∈l,y.a.size≤Rows.uptoBulk x.1:=by
 rcases open_slice Tryz.underlying41 h with⟨hcs,rfl⟩|⟨a,len,cap,m,q,D,Pl,hcs,_,hl,_,hm,rfl,hx⟩
 ·simp at hcs;subst hcs;exact⟨SlV.nil, [],rfl,.inl ⟨⟨_,rfl⟩,rfl⟩,Nat.zero_le _,by simp⟩
 ·simp at hcs;subst hcs;simp only [if_true]at hm;subst hm;rw [k38]at hx
  by_cases h0:m=0
  ·subst h0;obtain rfl:len=0:=by omega
   exact⟨⟨some a,0,0⟩, [],rfl,.inl ⟨⟨_,rfl⟩,rfl⟩,Nat.zero_le _,by simp⟩
  ·obtain⟨c0,hc0,_⟩:=hx 0 (by omega);obtain⟨_,hl0,hat0⟩:=World.cells?_some hc0;have hz:=hat0 0 (by omega);rw [List.getElem?_eq_getElem (by omega),Nat.zero_mul]at hz;have e0:(a.add 0).add 0=a.add 0:=by simp [Addr.add]
   rw [e0]at hz;obtain⟨b,off,rfl⟩:=spot_no hz
   obtain⟨l,h1,h2⟩:=list_by (Q:=fun i (y:IdD)=>W.cells? 0 ((⟨b,off,none⟩:Addr).add (i*2)) 2=some (idV y)∧y.a.size≤Rows.uptoBulk (D i)∧2≤Rows.uptoBulk (D i)) len (fun i hi=>by
    obtain⟨cs',hc,ht⟩:=hx i (by omega);obtain⟨y,hy,hs⟩:=trod_id ht;subst hy
    exact⟨y,hc,hs⟩)
   refine⟨⟨some ⟨b,off,none⟩,len,m⟩,l,rfl,.inr ⟨b,off,m,by rw [h1];rfl,by omega,lay_range idY (by decide) (fun i y hy j v hj=>elem_cells idY (by decide) (h2 i y hy).1 rfl j v hj)⟩,by rw [h1];exact bulk_slen2 (fun i hi=>by obtain⟨y,hy⟩:∃y,l[i]? =some y:=⟨_,List.getElem?_eq_getElem (by omega)⟩;exact(h2 i y hy).2.2),fun y hy=>?_⟩;obtain⟨i,hi⟩:=List.getElem?_of_mem hy;have hil:=(List.getElem?_eq_some_iff.1 hi).1;exact Nat.le_trans (h2 i y hi).2.1 (bulk_elem (by omega))
structure EdB (B:Nat) (x:EdP):Prop where
 s1:x.d.id.a.size≤B
 s2:x.d.node.a.size≤B
 s3:x.d.parent.a.size≤B
 s4:x.d.target.a.size≤B
 s5:x.d.num.size≤B
 s6:x.d.den.size≤B
 s7:x.d.field.size≤B
 s8:x.d.value.size≤B
 s9:x.d.who.size≤B
 s10:2*x.ids.length≤B
 s11:∀y∈x.ids,y.a.size≤B
theorem EdB.mono {B B':Nat} {x:EdP} (h:EdB B x) (hb:B≤B'):EdB B' x:=
 ⟨Nat.le_trans h.s1 hb,Nat.le_trans h.s2 hb,Nat.le_trans h.s3 hb,Nat.le_trans h.s4 hb,Nat.le_trans h.s5 hb,Nat.le_trans h.s6 hb,Nat.le_trans h.s7 hb,Nat.le_trans h.s8 hb,Nat.le_trans h.s9 hb,Nat.le_trans h.s10 hb,fun y hy=>Nat.le_trans (h.s11 y hy) hb⟩
set_option maxRecDepth 100000 in
theorem EdB.big {x:EdP} (h:EdB 1048576 x):EdBig x:=
 ⟨⟨Nat.le_trans h.s1 (by decide),Nat.le_trans h.s2 (by decide),Nat.le_trans h.s3 (by decide),Nat.le_trans h.s4 (by decide),Nat.le_trans h.s5 (by decide),Nat.le_trans h.s6 (by decide),Nat.le_trans h.s7 (by decide),Nat.le_trans h.s8 (by decide),Nat.le_trans h.s9 (by decide)⟩,Nat.le_trans h.s1 (by decide),Nat.le_trans h.s8 (by decide),fun y hy=>Nat.le_trans (h.s11 y hy) (by decide)⟩
theorem trod_edit {n:Nat} {cs:List Value} {x:DataW H×List MemPlace} (h:DataW.trod enc Tryz.prog W 0 (fun _=>true) true n 45 cs=some x):∃e:EdP,cs=edV e.d∧IdR W e.d.deps.v e.ids∧EdB (Rows.uptoBulk x.1) e:=by
 obtain⟨xs,m,rfl,rfl,hl,hxl,hf⟩:=DataW.trod_struct Tryz.underlying45 h;rw [k45]at hl
 obtain⟨c0,c1,c2,c3,c4,c5,c6,c7,c8,c9,c10,c11,c12,c13,c14,c15,c16,c17,rfl⟩:∃c0 c1 c2 c3 c4 c5 c6 c7 c8 c9 c10 c11 c12 c13 c14 c15 c16 c17,cs= [c0,c1,c2,c3,c4,c5,c6,c7,c8,c9,c10,c11,c12,c13,c14,c15,c16,c17]:=by
  rcases cs with _|⟨z0,_|⟨z1,_|⟨z2,_|⟨z3,_|⟨z4,_|⟨z5,_|⟨z6,_|⟨z7,_|⟨z8,_|⟨z9,_|⟨z10,_|⟨z11,_|⟨z12,_|⟨z13,_|⟨z14,_|⟨z15,_|⟨z16,_|⟨z17,_|⟨z18,r⟩⟩⟩⟩⟩⟩⟩⟩⟩⟩⟩⟩⟩⟩⟩⟩⟩⟩⟩ <;>simp at hl
  exact⟨_,_,_,_,_,_,_,_,_,_,_,_,_,_,_,_,_,_,rfl⟩
 obtain⟨y0,y1,y2,y3,y4,y5,y6,y7,y8,y9,y10,y11,rfl⟩:∃y0 y1 y2 y3 y4 y5 y6 y7 y8 y9 y10 y11,xs= [y0,y1,y2,y3,y4,y5,y6,y7,y8,y9,y10,y11]:=by
  rcases xs with _|⟨z0,_|⟨z1,_|⟨z2,_|⟨z3,_|⟨z4,_|⟨z5,_|⟨z6,_|⟨z7,_|⟨z8,_|⟨z9,_|⟨z10,_|⟨z11,_|⟨z12,r⟩⟩⟩⟩⟩⟩⟩⟩⟩⟩⟩⟩⟩ <;>simp at hxl
  exact⟨_,_,_,_,_,_,_,_,_,_,_,_,rfl⟩
 have h0:=hf 0 _ rfl;change DataW.trod enc Tryz.prog W 0 (fun _=>true) true m 38 (([c0,c1,c2,c3,c4,c5,c6,c7,c8,c9,c10,c11,c12,c13,c14,c15,c16,c17].drop 0).take (Tryz.prog.cellsOf 38))=some y0 at h0;rw [k38]at h0;have h1:=hf 1 _ rfl;change DataW.trod enc Tryz.prog W 0 (fun _=>true) true m 3 (([c0,c1,c2,c3,c4,c5,c6,c7,c8,c9,c10,c11,c12,c13,c14,c15,c16,c17].drop 2).take (Tryz.prog.cellsOf 3))=some y1 at h1;rw [k3]at h1;have h2:=hf 2 _ rfl;change DataW.trod enc Tryz.prog W 0 (fun _=>true) true m 3 (([c0,c1,c2,c3,c4,c5,c6,c7,c8,c9,c10,c11,c12,c13,c14,c15,c16,c17].drop 3).take (Tryz.prog.cellsOf 3))=some y2 at h2;rw [k3]at h2;have h3:=hf 3 _ rfl;change DataW.trod enc Tryz.prog W 0 (fun _=>true) true m 41 (([c0,c1,c2,c3,c4,c5,c6,c7,c8,c9,c10,c11,c12,c13,c14,c15,c16,c17].drop 4).take (Tryz.prog.cellsOf 41))=some y3 at h3;rw [k41]at h3;have h4:=hf 4 _ rfl;change DataW.trod enc Tryz.prog W 0 (fun _=>true) true m 3 (([c0,c1,c2,c3,c4,c5,c6,c7,c8,c9,c10,c11,c12,c13,c14,c15,c16,c17].drop 5).take (Tryz.prog.cellsOf 3))=some y4 at h4;rw [k3]at h4;have h5:=hf 5 _ rfl;change DataW.trod enc Tryz.prog W 0 (fun _=>true) true m 38 (([c0,c1,c2,c3,c4,c5,c6,c7,c8,c9,c10,c11,c12,c13,c14,c15,c16,c17].drop 6).take (Tryz.prog.cellsOf 38))=some y5 at h5;rw [k38]at h5;have h6:=hf 6 _ rfl;change DataW.trod enc Tryz.prog W 0 (fun _=>true) true m 38 (([c0,c1,c2,c3,c4,c5,c6,c7,c8,c9,c10,c11,c12,c13,c14,c15,c16,c17].drop 8).take (Tryz.prog.cellsOf 38))=some y6 at h6;rw [k38]at h6;have h7:=hf 7 _ rfl;change DataW.trod enc Tryz.prog W 0 (fun _=>true) true m 43 (([c0,c1,c2,c3,c4,c5,c6,c7,c8,c9,c10,c11,c12,c13,c14,c15,c16,c17].drop 10).take (Tryz.prog.cellsOf 43))=some y7 at h7;rw [k43]at h7;have h8:=hf 8 _ rfl;change DataW.trod enc Tryz.prog W 0 (fun _=>true) true m 9 (([c0,c1,c2,c3,c4,c5,c6,c7,c8,c9,c10,c11,c12,c13,c14,c15,c16,c17].drop 13).take (Tryz.prog.cellsOf 9))=some y8 at h8;rw [k9]at h8;have h9:=hf 9 _ rfl;change DataW.trod enc Tryz.prog W 0 (fun _=>true) true m 9 (([c0,c1,c2,c3,c4,c5,c6,c7,c8,c9,c10,c11,c12,c13,c14,c15,c16,c17].drop 14).take (Tryz.prog.cellsOf 9))=some y9 at h9;rw [k9]at h9;have h10:=hf 10 _ rfl;change DataW.trod enc Tryz.prog W 0 (fun _=>true) true m 38 (([c0,c1,c2,c3,c4,c5,c6,c7,c8,c9,c10,c11,c12,c13,c14,c15,c16,c17].drop 15).take (Tryz.prog.cellsOf 38))=some y10 at h10;rw [k38]at h10;have h11:=hf 11 _ rfl;change DataW.trod enc Tryz.prog W 0 (fun _=>true) true m 9 (([c0,c1,c2,c3,c4,c5,c6,c7,c8,c9,c10,c11,c12,c13,c14,c15,c16,c17].drop 17).take (Tryz.prog.cellsOf 9))=some y11 at h11;rw [k9]at h11;obtain⟨v0,e0,b0,_⟩:=trod_id (x:=y0) h0;obtain⟨v1,e1,_,_⟩:=DataW.trod_int Tryz.underlying3 (x:=y1) h1;obtain⟨v2,e2,_,_⟩:=DataW.trod_int Tryz.underlying3 (x:=y2) h2;obtain⟨s3,l3,e3,r3,n3,b3⟩:=trod_ids (x:=y3) h3;obtain⟨v4,e4,_,_⟩:=DataW.trod_int Tryz.underlying3 (x:=y4) h4;obtain⟨v5,e5,b5,_⟩:=trod_id (x:=y5) h5;obtain⟨v6,e6,b6,_⟩:=trod_id (x:=y6) h6;obtain⟨vb,vs,vt,e7,b7,d7⟩:=trod_place (x:=y7) h7;obtain⟨v8,e8,x8,_⟩:=DataW.trod_string Tryz.underlying9 (x:=y8) h8;have b8:v8.size≤Rows.uptoBulk y8.1:=by rw [x8];exact bulk_str v8
 obtain⟨v9,e9,x9,_⟩:=DataW.trod_string Tryz.underlying9 (x:=y9) h9;have b9:v9.size≤Rows.uptoBulk y9.1:=by rw [x9];exact bulk_str v9
 obtain⟨v10,e10,b10,_⟩:=trod_id (x:=y10) h10;obtain⟨v11,e11,x11,_⟩:=DataW.trod_string Tryz.underlying9 (x:=y11) h11;have b11:v11.size≤Rows.uptoBulk y11.1:=by rw [x11];exact bulk_str v11
 simp [idV]at e0 e1 e2 e3 e4 e5 e6 e7 e8 e9 e10 e11;obtain⟨rfl,rfl⟩:=e0;subst e1;subst e2;subst e3;subst e4;obtain⟨rfl,rfl⟩:=e5;obtain⟨rfl,rfl⟩:=e6;obtain⟨rfl,rfl,rfl⟩:=e7;subst e8;subst e9;obtain⟨rfl,rfl⟩:=e10;subst e11;have hp:∀(y:DataW H×List MemPlace),y∈ [y0,y1,y2,y3,y4,y5,y6,y7,y8,y9,y10,y11]→Rows.uptoBulk y.1≤Rows.uptoBulk (DataW.agg ([y0,y1,y2,y3,y4,y5,y6,y7,y8,y9,y10,y11].map (·.1))):=fun y hy=>bulk_agg (List.mem_map.2 ⟨y,hy,rfl⟩)
 refine⟨⟨⟨v0,v1,v2,s3,v4,v5,v6,vb,vs,vt,v8,v9,v10,v11⟩,l3⟩,rfl,r3,?_⟩;exact⟨Nat.le_trans b0 (hp _ (by simp)),Nat.le_trans b5 (hp _ (by simp)),Nat.le_trans b6 (hp _ (by simp)),Nat.le_trans b10 (hp _ (by simp)),Nat.le_trans b7 (hp _ (by simp)),Nat.le_trans d7 (hp _ (by simp)),Nat.le_trans b8 (hp _ (by simp)),Nat.le_trans b9 (hp _ (by simp)),Nat.le_trans b11 (hp _ (by simp)),Nat.le_trans n3 (hp _ (by simp)),fun y hy=>Nat.le_trans (b3 y hy) (hp _ (by simp))⟩
set_option maxRecDepth 100000 in
theorem open_edits {b0:Nat} {v:Value} {d:DataW H} {p:List MemPlace} (hv:Value.okWide Tryz.prog W .any b0 22 v) (h:DataW.Trod enc Tryz.prog W 0 (fun _=>true) true 22 v d p) (hB:Rows.uptoBulk d≤1048576):∃E:List EdP,EditsW W v E∧E.length≤1048576∧∀x∈E,EdBig x:=by
 obtain⟨a0,len,cap,rfl⟩:=okWide_slice Tryz.underlying22 hv;obtain⟨fuel,hf⟩:=h;have hval:=hv;simp only [Value.okWide,Tryz.underlying22,Cell.okWide,Cell.ok]at hval
 rcases open_slice Tryz.underlying22 hf with⟨hcs,_⟩|⟨a,len',cap',m,q,D,Pl,hcs,_,hl,_,hm,hd,hx⟩
 ·simp only [Value.cells,List.cons.injEq,Value.slice.injEq,and_true]at hcs;obtain⟨rfl,rfl,rfl⟩:=hcs;exact⟨[],⟨.inl ⟨rfl,rfl⟩,by simp⟩,by simp,by simp⟩
 ·simp only [Value.cells,List.cons.injEq,Value.slice.injEq,and_true]at hcs;obtain⟨rfl,rfl,rfl⟩:=hcs;simp only [if_true]at hm;subst hm;obtain⟨rfl,_⟩:=Prod.mk.inj hd
  obtain⟨b,off,rfl⟩:∃b off,a=⟨b,off,none⟩:=by
   obtain⟨b,off,s⟩:=a;have hs:s=none:=hval.2.2.2.1;exact⟨b,off,by rw [hs]⟩
  rw [k45]at hx
  obtain⟨E,h1,h2⟩:=list_by (Q:=fun i (e:EdP)=>W.cells? 0 ((⟨b,off,none⟩:Addr).add (i*18)) 18=some (edV e.d)∧IdR W e.d.deps.v e.ids∧EdB 1048576 e) len (fun i hi=>by
   obtain⟨cs',hc,ht⟩:=hx i (by omega);obtain⟨e,he,hr,hb⟩:=trod_edit ht;subst he
   exact⟨e,hc,hr,hb.mono (Nat.le_trans (bulk_elem hi) hB)⟩)
  have hm:∀x∈E,IdR W x.d.deps.v x.ids∧EdB 1048576 x:=fun x hxE=>by
   obtain⟨i,hi⟩:=List.getElem?_of_mem hxE;exact(h2 i x hi).2
  refine⟨E,⟨.inr ⟨b,off,m,by rw [List.length_map,h1],by rw [List.length_map];omega,lay_range edY (by decide) (fun i y hy j v hj=>?_)⟩,fun x hxE=>⟨(hm x hxE).1,by have:=(hm x hxE).2.s10;omega⟩⟩,by rw [h1];exact Nat.le_trans bulk_slen hB,fun x hxE=>(hm x hxE).2.big⟩;rw [List.getElem?_map]at hy;obtain⟨e,he,rfl⟩:=Option.map_eq_some_iff.1 hy;exact elem_cells edY (by decide) (h2 i e he).1 rfl j v hj
end
section
open Go.RowKit Go.Deep
theorem spot_nil {w:World} {a:Addr} {v:Value} (h:w.cell? (a.add 0)=some v):a.spot=none:=by
 obtain⟨b,off,rfl⟩:=spot_no h;rfl
def KRow (W:World) (b o:Nat) (name:List UInt8) (fs:List (List UInt8)):Prop:=
 W.cell? ⟨b,o,none⟩=some (.string ⟨name.toArray⟩)∧∃b' o' c,W.cell? ⟨b,o+1,none⟩=some (.slice (some ⟨b',o',none⟩) fs.length c)∧∀(j:Nat) (s:List UInt8),fs[j]? =some s→W.cell? ⟨b',o'+j,none⟩=some (.string ⟨s.toArray⟩)
theorem len_two {A:Type} {l:List A} (h:l.length=2):∃a b,l= [a,b]:=by
 match l,h with
 | [a,b],_=>exact⟨a,b,rfl⟩
theorem str_of {s:ByteArray} {l:List UInt8} (h:s.data.toList=l):s=⟨l.toArray⟩:=by
 obtain⟨⟨l'⟩⟩:=s;simp at h;rw [h]
theorem strs_map {len:Nat} {Sx:Nat→ByteArray} {fs:List (List UInt8)} {H:Type} (h:(List.range len).map (fun i=>(DataW.lit (.string (Sx i).data.toList):DataW H))=fs.map fun s=>.lit (.string s)):len=fs.length∧∀(j:Nat) (s:List UInt8),fs[j]? =some s→Sx j=⟨s.toArray⟩:=by
 have hl:len=fs.length:=by simpa using congrArg List.length h
 refine⟨hl,fun j s hj=>str_of ?_⟩;have hlt:j < fs.length:=(List.getElem?_eq_some_iff.1 hj).1;have h2:=congrArg (fun l=>l[j]?) h;simp [hj,List.getElem?_range (show j < len by omega)]at h2;exact h2
set_option maxRecDepth 100000 in
theorem krow_of {H:Type} {enc:TypeId×Value→H} {W:World} {base:Nat} {sp:Nat→Bool} {held:Bool} {n b o:Nat} {cs:List Value} {name:List UInt8} {fs:List (List UInt8)} {pl:List MemPlace} (hc:W.cells? base ⟨b,o,none⟩ 2=some cs)
  (ht:DataW.trod enc Tryz.prog W base sp held n 181 cs=some (.agg [.lit (.string name),.slice (fs.map fun s=>.lit (.string s)) []],pl)) (hf:fs≠ []):KRow W b o name fs:=by
 obtain⟨xs,k,_,hx,hcl,hxl,hfld⟩:=DataW.trod_struct Tryz.underlying181 ht;obtain⟨_,hl2,hat⟩:=World.cells?_some hc;obtain⟨c0,c1,rfl⟩:=len_two hl2;have hxl2:xs.length=2:=hxl;obtain⟨x0,x1,rfl⟩:=len_two hxl2;simp only [List.map_cons,List.map_nil,Prod.mk.injEq,DataW.agg.injEq,List.cons.injEq,and_true]at hx;obtain⟨⟨e0,e1⟩,_⟩:=hx;have h0:=hat 0 (by omega);have h1:=hat 1 (by omega);have f0:=hfld 0 _ rfl;have f1:=hfld 1 _ rfl;have g0:DataW.trod enc Tryz.prog W base sp held k 9 [c0]=some x0:=f0;have g1:DataW.trod enc Tryz.prog W base sp held k 57 [c1]=some x1:=f1;obtain⟨s,hs,hs2,_⟩:=DataW.trod_string Tryz.underlying9 g0;simp at hs;subst hs
 have hs3:s=⟨name.toArray⟩:=str_of (by
  have e2:(DataW.lit (.string name):DataW H)=.lit (.string s.data.toList):=by rw [e0,hs2]
  injection e2 with e2
  injection e2 with e2
  exact e2.symm)
 rcases open_strs Tryz.underlying57 Tryz.underlying9 (by kernel_rfl) g1 with⟨_,h⟩|⟨a,len,cap,m,Sx,hcs,_,hle,_,hm,hx1,hS⟩
 ·rw [h]at e1;cases e1
 ·simp at hcs;subst hcs;rw [hx1]at e1;simp only [DataW.slice.injEq]at e1;obtain⟨hlen,hSx⟩:=strs_map e1.1.symm;have hpos:0 < fs.length:=List.length_pos_iff.2 hf;have hlm:len≤m:=by rw [hm];split <;>omega
  have hsp:=spot_nil (hS 0 (by omega)).1;obtain⟨b',o',s'⟩:=a;simp only at hsp;subst hsp;refine⟨?_,b',o',cap,?_,fun j u hj=>?_⟩
  ·rw [←hs3];exact h0
  ·rw [←hlen];exact h1
  ·have hlt:j < fs.length:=(List.getElem?_eq_some_iff.1 hj).1;rw [←hSx j u hj];have:=(hS j (by omega)).1
   rwa [Addr.add_mid]at this
def kindTab:List (List UInt8×List (List UInt8)):= [([101,120,116,114,117,100,101], [[111,110], [115,107,101,116,99,104], [97,109,111,117,110,116]]),([99,117,116], [[111,110], [115,107,101,116,99,104], [97,109,111,117,110,116]]),([99,104,97,109,102,101,114], [[111,110], [97,110,100], [97,109,111,117,110,116]]),([109,105,114,114,111,114], [[111,110]]),([112,97,116,116,101,114,110], [[99,111,117,110,116], [120], [121], [122]]),([109,111,118,101], [[120], [121], [122]]),([116,117,114,110], [[115,107,101,116,99,104], [99,111,117,110,116]]),([108,97,98,101,108], [[111,110], [115,107,101,116,99,104]])]
def kindDatum {H:Type} (x:List UInt8×List (List UInt8)):DataW H:=.agg [.lit (.string x.1),.slice (x.2.map fun s=>.lit (.string s)) []]
def KindsFull (W:World):Prop:=∃kb ko cap,W.cell? ⟨2,0,none⟩=some (.slice (some ⟨kb,ko,none⟩) 8 cap)∧∀(i:Nat) (x:List UInt8×List (List UInt8)),kindTab[i]? =some x→KRow W kb (ko+i*2) x.1 x.2
theorem kinds_of {W:World} {base:Nat} {sp:Nat→Bool} {held:Bool} {fuel:Nat} {cs:List Value} {H:Type} {enc:TypeId×Value→H} {p:List MemPlace} (h:DataW.trod enc Tryz.prog W base sp held fuel 180 cs=some (.slice (kindTab.map kindDatum) [],p)):
  ∃kb ko cap,cs= [.slice (some ⟨kb,ko,none⟩) 8 cap]∧∀(i:Nat) (x:List UInt8×List (List UInt8)),kindTab[i]? =some x→KRow W kb (ko+i*2) x.1 x.2:=by
 rcases open_slice Tryz.underlying180 h with⟨_,h0⟩|⟨a,len,cap,m,n,D,Pl,rfl,_,hle,_,hm,hx,hi⟩
 ·cases h0
 ·simp only [Prod.mk.injEq,DataW.slice.injEq]at hx;have hD:=hx.1.1
  have hlen:len=8:=by
   have:=congrArg List.length hD
   simpa [kindTab] using this.symm
  subst hlen;have hm8:8≤m:=by rw [hm];split <;>omega
  have hrow:∀(i:Nat) (x:List UInt8×List (List UInt8)),kindTab[i]? =some x→∃cs',W.cells? base (a.add (i*2)) 2=some cs'∧DataW.trod enc Tryz.prog W base sp held n 181 cs'=some (kindDatum x,Pl i):=by
   intro i x hx;have hlt:i < 8:=(List.getElem?_eq_some_iff.1 hx).1;obtain⟨cs',h1,h2⟩:=hi i (by omega);have hc:Tryz.prog.cellsOf 181=2:=by kernel_rfl
   rw [hc]at h1;refine⟨cs',h1,?_⟩;rw [h2];have h3:=congrArg (fun l=>l[i]?) hD;simp only [List.getElem?_map,hx,Option.map_some,List.getElem?_range hlt]at h3;rw [←Option.some.inj h3]
  obtain⟨c0,g0,_⟩:=hrow 0 _ rfl;obtain⟨_,_,hat⟩:=World.cells?_some g0
  have hsp:a.spot=none:=by
   have h9:=hat 0 (by omega);have e:(a.add (0*2)).add 0=a.add 0:=by simp [Addr.add]
   rw [e,List.getElem?_eq_getElem (by omega)]at h9;exact spot_nil h9
  obtain⟨kb,ko,s⟩:=a;simp only at hsp;subst hsp;refine⟨kb,ko,cap,rfl,fun i x hx=>?_⟩;obtain⟨cs',h1,h2⟩:=hrow i x hx;rw [Addr.add_mid]at h1
  have hne:x.2≠ []:=by
   have:∀x∈kindTab,x.2≠ []:=by decide
   exact this x (List.mem_of_getElem? hx)
  exact krow_of h1 h2 hne
theorem KindsFull.at {W:World} (h:KindsFull W):KindsAt W:=by
 obtain⟨kb,ko,cap,h0,h⟩:=h;obtain⟨a0,b0,o0,c0,d0,_⟩:=h 0 _ rfl;obtain⟨a1,b1,o1,c1,d1,_⟩:=h 1 _ rfl;obtain⟨a2,b2,o2,c2,d2,_⟩:=h 2 _ rfl;obtain⟨a3,b3,o3,c3,d3,_⟩:=h 3 _ rfl;exact⟨kb,ko,cap,⟨some ⟨b0,o0,none⟩,3,c0⟩,⟨some ⟨b1,o1,none⟩,3,c1⟩,⟨some ⟨b2,o2,none⟩,3,c2⟩,⟨some ⟨b3,o3,none⟩,1,c3⟩,h0,a0,d0,a1,d1,a2,d2,a3,d3⟩
theorem laid_at {W:World}:∀(l:List (String×DataW Unit)) (ps:List MemPlace),DataW.LaidVars Tryz.prog W l ps→∀(i:Nat) (n:String) (d:DataW Unit),l[i]? =some (n,d)→∃g t cs fuel p,Tryz.prog.globalNamed n=some g∧(Tryz.prog.globals[g]?).map (·.type)=some t∧W.var? Tryz.prog n=some cs∧DataW.trod (fun _=>()) Tryz.prog W 0 (fun _=>true) false fuel t cs.toList=some (d,p)
 | [],_,_,i,n,d,h=>by simp at h
 |(n0,d0)::r,ps,hl,0,n,d,h=>by
  simp at h;obtain⟨rfl,rfl⟩:=h;obtain⟨g,t,cs,fuel,p,q,h1,h2,h3,h4,_⟩:=hl;exact⟨g,t,cs,fuel,p,h1,h2,h3,h4⟩
 |(n0,d0)::r,ps,hl,i+1,n,d,h=>by
  obtain⟨_,_,_,_,_,q,_,_,_,_,h5,_⟩:=hl;exact laid_at r q h5 i n d (by simpa using h)
theorem kindsFull_up {W:World} (h:laidMet Tryz.prog Rows.interpretCompletenessUptoRow.laid W):KindsFull W:=by
 obtain⟨ps,h,_⟩:=h;obtain⟨g,t,cs,fuel,p,hg,ht,hv,hd⟩:=laid_at _ _ h 7 _ _ rfl;have hg2:Tryz.prog.globalNamed "voussoir/feature.kinds" =some 2:=by kernel_rfl
 obtain rfl:=Option.some.inj (hg2.symm.trans hg);have ht2:(Tryz.prog.globals[2]?).map (·.type)=some 180:=by kernel_rfl
 obtain rfl:=Option.some.inj (ht2.symm.trans ht);obtain⟨kb,ko,cap,hcs,hr⟩:=kinds_of (cs:=cs.toList) hd;refine⟨kb,ko,cap,?_,hr⟩;rw [World.var?_cell hg2 hv 0,←Array.getElem?_toList,hcs];rfl
theorem tab2_eq:kindTab2=kindTab.map (fun x=>((⟨x.1.toArray⟩:ByteArray),x.2.map (fun s=>(⟨s.toArray⟩:ByteArray)))):=rfl
theorem KindsFull.all {W:World} (h:KindsFull W):KAll W:=by
 obtain⟨kb,ko,cap,h0,h⟩:=h;refine⟨kb,ko,cap,h0,fun i x hx=>?_⟩;rw [tab2_eq,List.getElem?_map]at hx;obtain⟨y,hy,rfl⟩:=Option.map_eq_some_iff.1 hx;obtain⟨h1,b',o',c,h2,h3⟩:=h i y hy;refine⟨h1,b',o',c,by rw [List.length_map];exact h2,fun j s hs=>?_⟩;rw [List.getElem?_map]at hs;obtain⟨z,hz,rfl⟩:=Option.map_eq_some_iff.1 hs;exact h3 j z hz
theorem trod_iface {W:World} {sp:Nat→Bool} {fuel:Nat} {t:TypeId} {cs:List Value} {n:String} {x:DataW Unit} {p:List MemPlace} {ms:Array (String×TypeId)} (ht:Tryz.prog.underlying t=some (.interface ms)) (h:DataW.trod (fun _=>()) Tryz.prog W 0 sp false fuel t cs=some (.iface n x,p)):∃u v,cs= [.iface u v]:=by
 cases fuel with
 |zero=>simp [DataW.trod]at h
 |succ fuel=>
  unfold DataW.trod at h;rw [ht]at h
  split at h <;>simp_all
theorem err_cell {W:World} (h:laidMet Tryz.prog Rows.interpretCompletenessUptoRow.laid W) (i g:Nat) (n m:String) (x:DataW Unit) (hi:Rows.interpretCompletenessUptoRow.laid[i]? =some (n,.iface m x)) (hg:Tryz.prog.globalNamed n=some g) {t:TypeId} (ht:(Tryz.prog.globals[g]?).map (·.type)=some t) {ms:Array (String×TypeId)} (hu:Tryz.prog.underlying t=some (.interface ms)):
  ∃ev,W.cell? ⟨g,0,none⟩=some ev∧(ev=.nilIface∨∃te pe,ev=.iface te pe):=by
 obtain⟨ps,h,_⟩:=h;obtain⟨g2,t2,cs,fuel,p,hg2,ht2,hv,hd⟩:=laid_at _ _ h i _ _ hi;obtain rfl:=Option.some.inj (hg.symm.trans hg2);obtain rfl:=Option.some.inj (ht.symm.trans ht2);obtain⟨u,v,hcs⟩:=trod_iface hu hd;refine⟨.iface u v,?_,.inr ⟨u,v,rfl⟩⟩;rw [World.var?_cell hg hv 0,←Array.getElem?_toList,hcs];rfl
set_option maxRecDepth 100000 in
theorem globs_of {W:World} (h:laidMet Tryz.prog Rows.interpretCompletenessUptoRow.laid W) (hS:W.ShapedOpen Tryz.prog):Globs W:=by
 refine⟨?_,?_,?_,?_⟩
 ·obtain⟨cs,h1,h2,h3⟩:=hS.1 1 #[.int .i64 0] 3 (of_decide_eq_true (by kernel_rfl)) (by kernel_rfl);obtain⟨ts,h4,_,h5⟩:=h3 (by kernel_rfl);have e4:Tryz.prog.cellTypes Tryz.prog.depth 3=some [3]:=by kernel_rfl
  obtain rfl:=Option.some.inj (e4.symm.trans h4);have hz:cs.size=1:=h2;obtain⟨v,hv⟩:∃v,cs[0]? =some v:=⟨_,Array.getElem?_eq_getElem (by omega)⟩;obtain⟨u,hu,hok⟩:=h5 0 v hv;obtain rfl:u=3:=by simpa using hu.symm
  simp only [Cell.ok,Tryz.underlying3]at hok;cases v <;>simp_all
  rename_i k q;refine⟨q,?_⟩;rw [World.cell?,h1]
  show cs[0]? =_
  rw [Array.getElem?_eq_getElem (by omega),hv]
 ·exact err_cell h 5 8 _ _ _ rfl (by kernel_rfl) (t:=276) (by kernel_rfl) Tryz.underlying276
 ·exact err_cell h 4 9 _ _ _ rfl (by kernel_rfl) (t:=276) (by kernel_rfl) Tryz.underlying276
 ·obtain⟨ps,h,_⟩:=h;obtain⟨g,t,cs,fuel,p,hg,ht,hv,hd⟩:=laid_at _ _ h 2 _ _ rfl;have hg2:Tryz.prog.globalNamed "internal/strconv.uint64pow10" =some 3:=by kernel_rfl
  obtain rfl:=Option.some.inj (hg2.symm.trans hg);have ht2:(Tryz.prog.globals[3]?).map (·.type)=some 265:=by kernel_rfl
  obtain rfl:=Option.some.inj (ht2.symm.trans ht);have hp:(Rows.laid_internal_strconv_uint64pow10:DataW Unit)=Lib.tabData .u64 Lib.pow10Tab:=by kernel_rfl
  have h1:=Lib.cells_of_tab Tryz.underlying265 Tryz.underlying199 (by kernel_rfl) (by kernel_rfl) (hp▸hd);unfold Lib.TabIs;rw [hv,←h1]
end
end Go.Proofs.YteigcnamkfebgaaGreatDoor
