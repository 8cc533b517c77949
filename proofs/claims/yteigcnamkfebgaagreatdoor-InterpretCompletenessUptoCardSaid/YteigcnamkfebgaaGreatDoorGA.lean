import Derived.Test.YteigcnamkfebgaaGreatDoorCW
set_option linter.all false
set_option maxHeartbeats 25600000
namespace Go.Proofs.YteigcnamkfebgaaGreatDoor
open Go.RowKit
def lessB (x y:IdD):Bool:=Op.bytesLess x.a.toList y.a.toList||(x.a.toList==y.a.toList&&decide (x.n < y.n))
theorem rLess42_eq (x y:IdD) (w:World):Calls Tryz.prog 93 #[.agg #[.string x.a,.int .i64 x.n],.agg #[.string y.a,.int .i64 y.n]] w fun e w'=>e=.returned (.bool (lessB x y))∧Below w.heap.size w w':=by
 have BL:=((Below.refl w.heap.size w).alloc (Nat.le_refl _) (.cells #[.string x.a,.int .i64 x.n] 38)).alloc (by simp) (.cells #[.string y.a,.int .i64 y.n] 38);have R1:((w.alloc (.cells #[.string x.a,.int .i64 x.n] 38)).alloc (.cells #[.string y.a,.int .i64 y.n] 38)).heap[w.heap.size]? =_:=zo _ _ _ _ (zg _ _ _ rfl);have R2:((w.alloc (.cells #[.string x.a,.int .i64 x.n] 38)).alloc (.cells #[.string y.a,.int .i64 y.n] 38)).heap[w.heap.size+1]? =_:=zg _ _ _ (by simp);obtain⟨x0,x1⟩:=two_cells R1;obtain⟨y0,y1⟩:=two_cells R2;unfold lessB
 cases h1:Op.bytesLess x.a.toList y.a.toList with
 |true=>
  go_enter Tryz.func93,Tryz.ntmps93
  go_wp2_with fail
  go_ret
  exact⟨rfl,BL⟩
 |false=>
  cases h2:(x.a.toList==y.a.toList)with
  |true=>
   cases h3:decide (x.n < y.n) <;>
   ·go_enter Tryz.func93,Tryz.ntmps93
    go_wp2_with fail
    go_ret
    exact⟨rfl,BL⟩
  |false=>
   go_enter Tryz.func93,Tryz.ntmps93
   go_wp2_with fail
   go_ret
   exact⟨rfl,BL⟩
def lessB' (x y:IdD):Bool:=if(x.a.toList==y.a.toList)=true then decide (x.n < y.n)else Op.bytesLess x.a.toList y.a.toList
theorem rLess41_eq (x y:IdD) (w:World):Calls Tryz.prog 88 #[.agg #[.string x.a,.int .i64 x.n],.agg #[.string y.a,.int .i64 y.n]] w fun e w'=>e=.returned (.bool (lessB' x y))∧Below w.heap.size w w':=by
 have BL:=((Below.refl w.heap.size w).alloc (Nat.le_refl _) (.cells #[.string x.a,.int .i64 x.n] 38)).alloc (by simp) (.cells #[.string y.a,.int .i64 y.n] 38);have R1:((w.alloc (.cells #[.string x.a,.int .i64 x.n] 38)).alloc (.cells #[.string y.a,.int .i64 y.n] 38)).heap[w.heap.size]? =_:=zo _ _ _ _ (zg _ _ _ rfl);have R2:((w.alloc (.cells #[.string x.a,.int .i64 x.n] 38)).alloc (.cells #[.string y.a,.int .i64 y.n] 38)).heap[w.heap.size+1]? =_:=zg _ _ _ (by simp);obtain⟨x0,x1⟩:=two_cells R1;obtain⟨y0,y1⟩:=two_cells R2;unfold lessB'
 cases h2:(x.a.toList==y.a.toList)with
 |true=>
  go_enter Tryz.func88,Tryz.ntmps88
  go_wp2_with fail
  go_ret
  exact⟨rfl,BL⟩
 |false=>
  go_enter Tryz.func88,Tryz.ntmps88
  go_wp2_with fail
  go_ret
  exact⟨rfl,BL⟩
def atF (x:IdD):Nat→List TnD→Int
 |_, []=> -1
 |k,t::l=>if same38 t.node.a t.node.n x.a x.n=true then(k:Int)else atF x (k+1) l
section
attribute [local go_sem high] eql38 eql43 eql207
theorem rAt41_eq (L:List TnD) (v:Value) (x:IdD) (w:World) (hl:L.length≤1000000) (hv:tnY.Rd w v L):Calls Tryz.prog 87 #[v,.agg #[.string x.a,.int .i64 x.n]] w fun e w'=>e=.returned (.int .i64 (atF x 0 L))∧Below w.heap.size w w':=by
 obtain⟨a1,n1,c1,rfl⟩:=hv.form;have hn1:n1=L.length:=hv.len;have BL:=(Below.refl w.heap.size w).alloc (Nat.le_refl _) (.cells #[.string x.a,.int .i64 x.n] 38);have R1:(w.alloc (.cells #[.string x.a,.int .i64 x.n] 38)).heap[w.heap.size]? =_:=zg _ _ _ rfl;have hv:=hv.below BL;have HR:=zz hv;have HL:=zz hn1;have hle:n1≤1000000:=by omega
 have HB:=zz BL;obtain⟨x0,x1⟩:=two_cells R1;clear hv hn1 hl BL R1;obtain⟨F,hF⟩:∃F,F=atF x 0 L:=⟨_,rfl⟩;rw [←hF];have HF:=zz hF;clear hF;go_enter Tryz.func87,Tryz.ntmps87
 go_wp2;generalize hW:w.alloc (.cells #[.string x.a,.int .i64 x.n] 38)=W at*
 clear hW
 go_loopg [8] n1 (fun gn t8 wr=>∃k d:Nat,k+gn=n1∧t8=.int .i64 k∧wr=W.drewN d∧F=atF x k (L.drop k))
 case atStart=>exact⟨0,0,by omega,rfl,rfl,HF.out⟩
 case round=>
  obtain⟨G,rfl⟩:∃G,G=gk:=⟨_,rfl⟩;obtain⟨k,d,hk,rfl,rfl,hfk⟩:=hrel;have HK:=zz hk;have HFK:=zz hfk;clear hk hfk
  by_cases hlt:k < n1
  ·have hx:L[k]? =some (L[k]'(by rw [←HL.out];exact hlt)):=List.getElem?_eq_getElem _;have hd:L.drop k=L[k]'(by rw [←HL.out];exact hlt)::L.drop (k+1):=List.drop_eq_getElem_cons _;generalize L[k]'(by rw [←HL.out];exact hlt)=t at hx hd;have HD:=zz hd
   obtain⟨b,off,rfl,hr⟩:∃b off,a1=some ⟨b,off,none⟩∧W.rangeAt b off (tnY.flat L):=by
    rcases HR.out with⟨h1,h2⟩|⟨b,off,cap,h1,h2,h3⟩
    ·rw [h2]at hx;cases hx
    ·simp at h1;exact⟨b,off,h1.1,h3⟩
   have hrx:W.rangeAt b (off+k*8) (tnV t):=tnY.elem hr k t hx;have q0:W.cell? ⟨b,off+k*8,none⟩=some (.string t.node.a):=hrx 0 _ rfl;have q1:W.cell? ⟨b,off+k*8+1,none⟩=some (.int .i64 t.node.n):=hrx 1 _ rfl;have hltZ:(k:Int) < (n1:Int):=by omega
   clear hr hx hrx hd
   cases he:same38 t.node.a t.node.n x.a x.n with
   |true=>
    have HE:=zz he
    go_wp2_with fail
    go_quiet (fail)
    go_wp2_with fail
    go_ret
    exact⟨by rw [HFK.out,HD.out,atF,if_pos HE.out];rfl,by first|exact Below_drewN (Below_drewN HB.out _) _|exact Below_drewN HB.out _⟩
   |false=>
    have HE:=zz he
    go_wp2_with fail
    go_quiet (fail)
    go_wp2_with fail
    go_roundg (n1 - 1 - k)
    case rel=>exact⟨k+1,_,by have:=HK.out;omega,by go_num,rfl,by rw [HFK.out,HD.out,atF,if_neg (by rw [HE.out];decide)]⟩
    case measure=>have:=HK.out;omega
  ·obtain rfl:k=n1:=by have:=HK.out;omega
   go_wp2_with fail
   go_ret
   exact⟨by rw [HFK.out,List.drop_eq_nil_of_le (by have:=HL.out;omega)];rfl,by first|exact Below_drewN (Below_drewN HB.out _) _|exact Below_drewN HB.out _⟩
end
section
theorem atF_cases (x:IdD):∀(L:List TnD) (k:Nat),atF x k L= -1∨∃j,j < L.length∧atF x k L=((k+j:Nat):Int):=by
 intro L
 induction L with
 |nil=>intro k;exact .inl rfl
 |cons t l ih=>
  intro k;unfold atF
  by_cases h:same38 t.node.a t.node.n x.a x.n=true
  ·rw [if_pos h];exact .inr ⟨0,by simp,by simp⟩
  ·rw [if_neg h]
   rcases ih (k+1)with h1|⟨j,hj,h1⟩
   ·exact .inl h1
   ·exact .inr ⟨j+1,by simp;omega,by rw [h1];congr 1;omega⟩
attribute [local go_sem high] eql38 eql43 eql207
theorem rBelow41_any (L:List TnD) (v:Value) (x u:IdD) (w:World) (hl:L.length≤1000000) (hv:tnY.Rd w v L):Calls Tryz.prog 90 #[v,.agg #[.string x.a,.int .i64 x.n],.agg #[.string u.a,.int .i64 u.n]] w fun e w'=>IsB e∧Below w.heap.size w w':=by
 obtain⟨a1,n1,c1,rfl⟩:=hv.form;have hn1:n1=L.length:=hv.len;have BL:=((Below.refl w.heap.size w).alloc (Nat.le_refl _) (.cells #[.string x.a,.int .i64 x.n] 38)).alloc (by simp) (.cells #[.string u.a,.int .i64 u.n] 38);have R1:((w.alloc (.cells #[.string x.a,.int .i64 x.n] 38)).alloc (.cells #[.string u.a,.int .i64 u.n] 38)).heap[w.heap.size]? =_:=zo _ _ _ _ (zg _ _ _ rfl);have R2:((w.alloc (.cells #[.string x.a,.int .i64 x.n] 38)).alloc (.cells #[.string u.a,.int .i64 u.n] 38)).heap[w.heap.size+1]? =_:=zg _ _ _ (by simp);have HR:=zz hv;have HL:=zz hn1;have hle:n1≤1000000:=by omega
 have HB:=zz (And.intro BL (And.intro R1 R2));clear hv hn1 BL R1 R2;go_enter Tryz.func90,Tryz.ntmps90
 go_wp2;generalize hW:(w.alloc (.cells #[.string x.a,.int .i64 x.n] 38)).alloc (.cells #[.string u.a,.int .i64 u.n] 38)=W at*
 clear hW
 go_loopg [7] (n1+1) (fun gn t7 wr=>∃(k:Nat) (a:ByteArray) (n:Int),k+gn=n1+1∧t7=.int .i64 k∧Below w.heap.size w wr∧wr.heap[w.heap.size]? =some (.cells #[.string a,.int .i64 n] 38 (0,0))∧wr.heap[w.heap.size+1]? =some (.cells #[.string u.a,.int .i64 u.n] 38 (0,0)))
 case atStart=>exact⟨0,x.a,x.n,by omega,rfl,HB.out⟩
 case round=>
  obtain⟨G,rfl⟩:∃G,G=gk:=⟨_,rfl⟩;obtain⟨k,a,n,hk,rfl,BL,R1,R2⟩:=hrel;have HK:=zz hk;clear hk
  by_cases hlt:k≤n1
  ·have hltZ:(k:Int)≤(n1:Int):=by omega
   obtain⟨x0,x1⟩:=two_cells R1;obtain⟨u0,u1⟩:=two_cells R2
   cases he:same38 a n u.a u.n with
   |true=>
    go_wp2_with fail
    go_ret
    exact⟨isB _,BL⟩
   |false=>
    have HRw:=HR.out.below BL;have HA:=rAt41_eq L _ ⟨a,n⟩ wr hl HRw
    rcases atF_cases ⟨a,n⟩ L 0 with h1|⟨j,hj,h1⟩
    ·rw [h1]at HA;have HA:=zz HA;clear HRw h1
     go_wp2_with fail
     with_reducible refine HA.out.mono ?_
     rintro e w5 ⟨rfl,hb⟩;have BL:=BL.trans (hb.mono BL.size)
     go_wp2_with fail
     go_ret
     exact⟨isB _,BL⟩
    ·rw [h1,Nat.zero_add]at HA;have HA:=zz HA;have hx:L[j]? =some (L[j]'hj):=List.getElem?_eq_getElem _;generalize L[j]'hj=t at hx
     obtain⟨b,off,rfl,hr⟩:∃b off,a1=some ⟨b,off,none⟩∧wr.rangeAt b off (tnY.flat L):=by
      rcases HRw with⟨h1,h2⟩|⟨b,off,cap,h1,h2,h3⟩
      ·rw [h2]at hx;cases hx
      ·simp at h1;exact⟨b,off,h1.1,h3⟩
     have hrx:wr.rangeAt b (off+j*8) (tnV t):=tnY.elem hr j t hx;have hj1:(j:Int) < (n1:Int):=by have:=HL.out;omega
     have HX:=zz hrx;clear HRw h1 hr hrx hx
     go_wp2_with fail
     with_reducible refine HA.out.mono ?_
     rintro e w5 ⟨rfl,hb⟩;have hrx:=rangeAt_below HX.out hb;have q2:w5.cell? ⟨b,off+j*8+2,none⟩=some (.string t.parent.a):=hrx 2 _ rfl;have q3:w5.cell? ⟨b,off+j*8+3,none⟩=some (.int .i64 t.parent.n):=hrx 3 _ rfl;have BL:=BL.trans (hb.mono BL.size);have R1:=(hb.block _ (zl R1)).trans R1;have R2:=(hb.block _ (zl R2)).trans R2;obtain⟨x0,x1⟩:=two_cells R1;have f0:w5.frozen? ⟨w.heap.size,0,none⟩=false:=frozen_of_row w5 _ 0 _ _ R1;have f1:w5.frozen? ⟨w.heap.size,1,none⟩=false:=frozen_of_row w5 _ 1 _ _ R1;clear hb hrx;have HQ:=zz (And.intro BL (And.intro R1 R2));clear BL R1 R2
     go_wp2_with fail
     go_roundg (n1 - k)
     case rel=>exact⟨k+1,t.parent.a,t.parent.n,by have:=HK.out;omega,by go_num,Below.setCell (Below.setCell HQ.out.1 (p:=⟨w.heap.size,0,none⟩) (Nat.le_refl _) _) (p:=⟨w.heap.size,1,none⟩) (Nat.le_refl _) _,set2 HQ.out.2.1,setOther (setOther HQ.out.2.2 (by omega)) (by omega)⟩
     case measure=>have:=HK.out;omega
  ·obtain rfl:k=n1+1:=by have:=HK.out;omega
   have hltZ:decide (((n1+1:Nat):Int)≤(n1:Int))=false:=by rw [decide_eq_false_iff_not];omega
   go_wp2_with fail
   go_ret
   exact⟨isB _,BL⟩
end
theorem rAheadW_any (x y:WrD) (w:World):Calls Tryz.prog 92 #[.agg #[.string x.id.a,.int .i64 x.id.n,.int .i64 x.clock,.string x.text],.agg #[.string y.id.a,.int .i64 y.id.n,.int .i64 y.clock,.string y.text]] w fun e w'=>IsB e∧Below w.heap.size w w':=by
 have BL:=((Below.refl w.heap.size w).alloc (Nat.le_refl _) (.cells #[.string x.id.a,.int .i64 x.id.n,.int .i64 x.clock,.string x.text] 50)).alloc (by simp) (.cells #[.string y.id.a,.int .i64 y.id.n,.int .i64 y.clock,.string y.text] 50);have R1:((w.alloc (.cells #[.string x.id.a,.int .i64 x.id.n,.int .i64 x.clock,.string x.text] 50)).alloc (.cells #[.string y.id.a,.int .i64 y.id.n,.int .i64 y.clock,.string y.text] 50)).heap[w.heap.size]? =_:=zo _ _ _ _ (zg _ _ _ rfl);have R2:((w.alloc (.cells #[.string x.id.a,.int .i64 x.id.n,.int .i64 x.clock,.string x.text] 50)).alloc (.cells #[.string y.id.a,.int .i64 y.id.n,.int .i64 y.clock,.string y.text] 50)).heap[w.heap.size+1]? =_:=zg _ _ _ (by simp);have x0:=zc _ _ 0 _ _ _ R1;have x1:=zc _ _ 1 _ _ _ R1;have x2:=zc _ _ 2 _ _ _ R1;have y0:=zc _ _ 0 _ _ _ R2;have y1:=zc _ _ 1 _ _ _ R2;have y2:=zc _ _ 2 _ _ _ R2;have HB:=zz BL;clear BL R1 R2
 by_cases h1:x.clock < y.clock
 ·have d1:decide (x.clock < y.clock)=true:=by simpa using h1
  clear h1;go_enter Tryz.func92,Tryz.ntmps92
  go_wp2_with fail
  try go_quiet (fail)
  go_wp2_with fail
  go_ret
  exact⟨isB _,by first|exact HB.out|exact Below_drewN HB.out _⟩
 ·have d1:decide (x.clock < y.clock)=false:=by simpa using h1
  clear h1
  cases h2:(x.clock==y.clock)with
  |false=>
   go_enter Tryz.func92,Tryz.ntmps92
   go_wp2_with fail
   try go_quiet (fail)
   go_wp2_with fail
   go_ret
   exact⟨isB _,by first|exact HB.out|exact Below_drewN HB.out _⟩
  |true=>
   go_enter Tryz.func92,Tryz.ntmps92
   go_wp2_with fail
   with_reducible refine(rLess42_eq x.id y.id _).mono ?_
   rintro e w4 ⟨rfl,hb⟩
   go_wp2_with fail
   go_ret
   exact⟨isB _,HB.out.trans (hb.mono HB.out.size)⟩
section
theorem rBin41_any (w:World):Calls Tryz.prog 89 #[] w fun e w'=>e=.returned (.agg #[.string ⟨#[45]⟩,.int .i64 0])∧Below w.heap.size w w':=by
 have r0:=zg w (.cells #[.string ⟨#[45]⟩,.int .i64 0] 38) w.heap.size rfl;have BL:=(Below.refl w.heap.size w).alloc (Nat.le_refl _) (.cells #[.string ⟨#[45]⟩,.int .i64 0] 38);go_enter Tryz.func89,Tryz.ntmps89
 go_wp2_with fail
 exact bodyPost_ret (results_cell_row Tryz.results89 _ _ w.heap.size 38 _ (0,0) _ rfl r0 Tryz.underlying38 rfl (by kernel_rfl)) rfl ⟨rfl,BL⟩
attribute [local go_sem high] eql38 eql43 eql207
theorem rFirst_any (x y:RegD) (w:World):Calls Tryz.prog 54 #[.agg #[.string x.node.a,.int .i64 x.node.n,.string x.field,.slice x.w.a x.w.len x.w.cap],.agg #[.string y.node.a,.int .i64 y.node.n,.string y.field,.slice y.w.a y.w.len y.w.cap]] w fun e w'=>IsB e∧Below w.heap.size w w':=by
 have BL:=((Below.refl w.heap.size w).alloc (Nat.le_refl _) (.cells #[.string x.node.a,.int .i64 x.node.n,.string x.field,.slice x.w.a x.w.len x.w.cap] 48)).alloc (by simp) (.cells #[.string y.node.a,.int .i64 y.node.n,.string y.field,.slice y.w.a y.w.len y.w.cap] 48);have R1:((w.alloc (.cells #[.string x.node.a,.int .i64 x.node.n,.string x.field,.slice x.w.a x.w.len x.w.cap] 48)).alloc (.cells #[.string y.node.a,.int .i64 y.node.n,.string y.field,.slice y.w.a y.w.len y.w.cap] 48)).heap[w.heap.size]? =_:=zo _ _ _ _ (zg _ _ _ rfl);have R2:((w.alloc (.cells #[.string x.node.a,.int .i64 x.node.n,.string x.field,.slice x.w.a x.w.len x.w.cap] 48)).alloc (.cells #[.string y.node.a,.int .i64 y.node.n,.string y.field,.slice y.w.a y.w.len y.w.cap] 48)).heap[w.heap.size+1]? =_:=zg _ _ _ (by simp);have x0:=zc _ _ 0 _ _ _ R1;have x1:=zc _ _ 1 _ _ _ R1;have x2:=zc _ _ 2 _ _ _ R1;have y0:=zc _ _ 0 _ _ _ R2;have y1:=zc _ _ 1 _ _ _ R2;have y2:=zc _ _ 2 _ _ _ R2;have HB:=zz (And.intro BL (And.intro R1 R2));clear BL R1 R2;go_enter Tryz.func54,Tryz.ntmps54
 go_wp2_with fail
 with_reducible refine(rLess42_eq x.node y.node _).mono ?_
 rintro e w4 ⟨rfl,hb⟩;have BL:=HB.out.1.trans (hb.mono HB.out.1.size);have R1:=(hb.block _ (zl HB.out.2.1)).trans HB.out.2.1;have R2:=(hb.block _ (zl HB.out.2.2)).trans HB.out.2.2;have x0:=zc _ _ 0 _ _ _ R1;have x1:=zc _ _ 1 _ _ _ R1;have x2:=zc _ _ 2 _ _ _ R1;have y0:=zc _ _ 0 _ _ _ R2;have y1:=zc _ _ 1 _ _ _ R2;have y2:=zc _ _ 2 _ _ _ R2;clear hb R1 R2;generalize lessB x.node y.node=b
 cases b with
 |true=>
  go_wp2_with fail
  try go_quiet (fail)
  go_wp2_with fail
  go_ret
  exact⟨isB _,by first|exact BL|exact Below_drewN BL _⟩
 |false=>
  cases h2:same38 x.node.a x.node.n y.node.a y.node.n with
  |false=>
   go_wp2_with fail
   try go_quiet (fail)
   go_wp2_with fail
   try go_quiet (fail)
   go_wp2_with fail
   go_ret
   exact⟨isB _,by first|exact BL|exact Below_drewN BL _|exact Below_drewN (Below_drewN BL _) _⟩
  |true=>
   go_wp2_with fail
   try go_quiet (fail)
   go_wp2_with fail
   try go_quiet (fail)
   go_wp2_with fail
   go_ret
   exact⟨isB _,by first|exact BL|exact Below_drewN BL _|exact Below_drewN (Below_drewN BL _) _⟩
end
section
def keyB (n:IdD) (f:ByteArray) (r:RegP):Bool:=same38 r.node.a r.node.n n.a n.n&&(r.field.toList==f.toList)
theorem keyB_yes {n:IdD} {f:ByteArray} {r:RegP} {d:RegD} (h1:d.node=r.node) (h2:d.field=r.field) (h:same38 d.node.a d.node.n n.a n.n=true) (h3:(d.field.toList==f.toList)=true):keyB n f r=true:=by
 unfold keyB;rw [←h1,←h2,h,h3];rfl
theorem keyB_no1 {n:IdD} {f:ByteArray} {r:RegP} {d:RegD} (h1:d.node=r.node) (h:same38 d.node.a d.node.n n.a n.n=false):keyB n f r=false:=by
 unfold keyB;rw [←h1,h];rfl
theorem keyB_no2 {n:IdD} {f:ByteArray} {r:RegP} {d:RegD} (h2:d.field=r.field) (h3:(d.field.toList==f.toList)=false):keyB n f r=false:=by
 unfold keyB;rw [←h2,h3,Bool.and_false]
attribute [local go_sem high] eql38 eql43 eql207
theorem rGet42_any (R:List RegP) (sr:SlV) (x:IdD) (f:ByteArray) (w:World) (hl:R.length≤100000) (hv:RRegs w sr.v R):
  Calls Tryz.prog 53 #[.slice sr.a sr.len sr.cap,.agg #[.string x.a,.int .i64 x.n],.string f] w fun e w'=>Below w.heap.size w w'∧∃(s:SlV) (M:List WrD),e=.returned (.slice s.a s.len s.cap)∧wrY.Rd w' s.v M∧(M= []∨∃r∈R,M=r.w∧keyB x f r=true):=by
 obtain⟨ds,hd1,hd2,hd3⟩:=hv;have B0:=(Below.refl w.heap.size w).alloc (Nat.le_refl _) (.cells #[.string x.a,.int .i64 x.n] 38);have R1:(w.alloc (.cells #[.string x.a,.int .i64 x.n] 38)).heap[w.heap.size]? =_:=zg _ _ _ rfl;obtain⟨sa,sl,scp⟩:=sr;have hsl:sl=R.length:=by have h:=hd1.len;rw [hd2]at h;exact h
 have HSL:=zz hsl;have hle:sl≤100000:=by omega
 have HD1:=zz hd1;have HD2:=zz hd2;have HD3:=zz hd3;have HB:=zz (And.intro B0 R1);clear hd1 hd2 hd3 hsl B0 R1;go_enter Tryz.func53,Tryz.ntmps53
 go_wp2
 go_loopg [11] sl (fun gn t11 wr=>∃k:Nat,k+gn=sl∧t11=.int .i64 k∧Below w.heap.size w wr∧wr.heap[w.heap.size]? =some (.cells #[.string x.a,.int .i64 x.n] 38 (0,0)))
 case atStart=>exact⟨0,by omega,rfl,HB.out⟩
 case round=>
  obtain⟨G,rfl⟩:∃G,G=gk:=⟨_,rfl⟩;obtain⟨k,hk,rfl,BL,R1⟩:=hrel;have HK:=zz hk;clear hk
  by_cases hlt:k < sl
  ·obtain⟨d,hd⟩:∃d,ds[k]? =some d:=⟨_,List.getElem?_eq_getElem (by rw [HD2.out,←HSL.out];exact hlt)⟩;obtain⟨r,hr⟩:∃r,R[k]? =some r:=⟨_,List.getElem?_eq_getElem (by rw [←HSL.out];exact hlt)⟩;have hdr:=HD3.out k d r hd hr
   obtain⟨b,off,rfl,hrg⟩:∃b off,sa=some ⟨b,off,none⟩∧w.rangeAt b off (regY.flat ds):=by
    rcases HD1.out with⟨h1,h2⟩|⟨b,off,cap,h1,h2,h3⟩
    ·rw [h2]at hd;cases hd
    ·simp [SlV.v]at h1;exact⟨b,off,h1.1,h3⟩
   have hrx:wr.rangeAt b (off+k*4) (regV d):=rangeAt_below (regY.elem hrg k d hd) BL;have HM:=zz (And.intro (List.mem_of_getElem? hr) (And.intro (hdr.2.2.below BL) (And.intro hdr.1 hdr.2.1)));have hltZ:(k:Int) < (sl:Int):=by omega
   obtain⟨x0,x1⟩:=two_cells R1;have lx:w.heap.size < wr.heap.size:=zl R1;unfold regV at hrx;have HQ:=zz (And.intro BL R1);clear hdr hd hr hrg BL R1
   cases he:same38 d.node.a d.node.n x.a x.n with
   |false=>
    go_wp2_with(refine wpList_load_mid rfl 48 _ rfl b (off+k*4) rfl _ _ hrx Tryz.underlying48 rfl (by kernel_rfl) ?_)
    go_roundg (sl - 1 - k)
    case rel=>exact⟨k+1,by have:=HK.out;omega,by go_num,HQ.out.1.alloc HQ.out.1.size _,zo _ _ _ _ HQ.out.2⟩
    case measure=>have:=HK.out;omega
   |true=>
    cases h3:(d.field.toList==f.toList)with
    |false=>
     go_wp2_with(refine wpList_load_mid rfl 48 _ rfl b (off+k*4) rfl _ _ hrx Tryz.underlying48 rfl (by kernel_rfl) ?_)
     go_roundg (sl - 1 - k)
     case rel=>exact⟨k+1,by have:=HK.out;omega,by go_num,HQ.out.1.alloc HQ.out.1.size _,zo _ _ _ _ HQ.out.2⟩
     case measure=>have:=HK.out;omega
    |true=>
     go_wp2_with(refine wpList_load_mid rfl 48 _ rfl b (off+k*4) rfl _ _ hrx Tryz.underlying48 rfl (by kernel_rfl) ?_)
     go_ret
     exact⟨HQ.out.1.alloc HQ.out.1.size _,d.w,r.w,rfl,Lay.Rd.alloc HM.out.2.1 _,.inr ⟨r,HM.out.1,rfl,keyB_yes HM.out.2.2.1 HM.out.2.2.2 he h3⟩⟩
  ·obtain rfl:k=sl:=by have:=HK.out;omega
   go_wp2_with fail
   go_ret
   exact⟨BL,⟨none,0,0⟩, [],rfl,Or.inl ⟨rfl,rfl⟩,.inl rfl⟩
end
end Go.Proofs.YteigcnamkfebgaaGreatDoor
