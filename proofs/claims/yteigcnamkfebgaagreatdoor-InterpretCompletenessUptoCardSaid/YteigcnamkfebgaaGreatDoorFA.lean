import Derived.Test.YteigcnamkfebgaaGreatDoorR
set_option linter.all false
set_option maxHeartbeats 25600000
namespace Go.Proofs.YteigcnamkfebgaaGreatDoor
open Go.RowKit
theorem i64wS (z:Int) (h0:0≤z) (h1:z < 4611686018427387904):IntKind.i64.wrap z=z:=by
 rw [IntKind.wrap_i64];omega
def dTn:TnD:=⟨⟨⟨#[]⟩,0⟩,⟨⟨#[]⟩,0⟩,false,⟨#[]⟩,⟨#[]⟩,⟨#[]⟩⟩
def swapL (l:List TnD) (i j:Nat):List TnD:=(l.set i (l.getD j dTn)).set j (l.getD i dTn)
theorem swapL_len (l:List TnD) (i j:Nat):(swapL l i j).length=l.length:=by simp [swapL]
theorem getD_at {l:List TnD} {i:Nat} (h:i < l.length):l[i]? =some (l.getD i dTn):=by
 rw [List.getD_eq_getElem?_getD,List.getElem?_eq_getElem h];rfl
theorem swapL_mem {l:List TnD} {i j:Nat} (hi:i < l.length) (hj:j < l.length):∀x∈swapL l i j,x∈l:=fun x hx=>by
 unfold swapL at hx
 rcases List.mem_or_eq_of_mem_set hx with h1|h1
 ·rcases List.mem_or_eq_of_mem_set h1 with h2|h2
  ·exact h2
  ·rw [h2];exact List.mem_of_getElem? (getD_at hj)
 ·rw [h1];exact List.mem_of_getElem? (getD_at hi)
def insIn (c:TnD→TnD→Int) (a:Nat):Nat→List TnD→List TnD
 |0,l=>l
 |j+1,l=>if a < j+1∧c (l.getD (j+1) dTn) (l.getD j dTn) < 0 then insIn c a j (swapL l (j+1) j)else l
def insOut (c:TnD→TnD→Int) (a:Nat):Nat→Nat→List TnD→List TnD
 |0,_,l=>l
 |n+1,i,l=>insOut c a n (i+1) (insIn c a i l)
def CmpP (gf:FuncId) (c:TnD→TnD→Int) (P:TnD→Prop):Prop:=∀(x y:TnD),P x→P y→∀(W:World),Calls Tryz.prog gf #[.agg (tnV x).toArray,.agg (tnV y).toArray] W fun e W'=>e=.returned (.int .i64 (c x y))∧Below W.heap.size W W'
def ownT (W:World) (base g cap n:Nat) (l:List TnD):Prop:=W.ownsRow base 55 8 (.slice (some ⟨g,0,none⟩) n cap) n (tnY.flat l)
theorem ownT_cells {W:World} {base g cap n:Nat} {l:List TnD} (h:ownT W base g cap n l) {i:Nat} {x:TnD} (hx:l[i]? =some x):
  W.cell? ⟨g,i*8,none⟩=some (.string x.node.a)∧W.cell? ⟨g,i*8+1,none⟩=some (.int .i64 x.node.n)∧W.cell? ⟨g,i*8+2,none⟩=some (.string x.parent.a)∧W.cell? ⟨g,i*8+3,none⟩=some (.int .i64 x.parent.n)∧
  W.cell? ⟨g,i*8+4,none⟩=some (.bool x.neg)∧W.cell? ⟨g,i*8+5,none⟩=some (.string x.num)∧W.cell? ⟨g,i*8+6,none⟩=some (.string x.den)∧W.cell? ⟨g,i*8+7,none⟩=some (.string x.kind):=by
 have h1:=Lay.elem tnY (ownsRow_rangeAt h) i x hx
 have h2:∀(j:Nat) (v:Value),(tnV x)[j]? =some v→W.cell? ⟨g,i*8+j,none⟩=some v:=fun j v hv=>by
  have h3:=h1 j v hv
  rwa [Nat.zero_add]at h3
 exact⟨h2 0 _ rfl,h2 1 _ rfl,h2 2 _ rfl,h2 3 _ rfl,h2 4 _ rfl,h2 5 _ rfl,h2 6 _ rfl,h2 7 _ rfl⟩
theorem sets8 {v0 v1 v2 v3 v4 v5 v6 v7:Value}:∀(p:Nat) (L:List Value),p+8≤L.length→((((((((((((((((L).set (p) v0)).set (p+1) v1)).set (p+2) v2)).set (p+3) v3)).set (p+4) v4)).set (p+5) v5)).set (p+6) v6)).set (p+7) v7)=L.take p++ [v0,v1,v2,v3,v4,v5,v6,v7]++L.drop (p+8)
 |0,L,h=>by
  rcases L with _|⟨a0,_|⟨a1,_|⟨a2,_|⟨a3,_|⟨a4,_|⟨a5,_|⟨a6,_|⟨a7,r⟩⟩⟩⟩⟩⟩⟩⟩ <;>simp at h
  rfl
 |p+1,L,h=>by
  rcases L with _|⟨y,r⟩
  ·simp at h
  ·have ih:=sets8 (v0:=v0) (v1:=v1) (v2:=v2) (v3:=v3) (v4:=v4) (v5:=v5) (v6:=v6) (v7:=v7) p r (by simpa using h);rw [show p+1+1=(p+1)+1 from rfl,show p+1+2=(p+2)+1 by omega,show p+1+3=(p+3)+1 by omega,show p+1+4=(p+4)+1 by omega,show p+1+5=(p+5)+1 by omega,show p+1+6=(p+6)+1 by omega,show p+1+7=(p+7)+1 by omega,show p+1+8=(p+8)+1 by omega];simp only [List.set_cons_succ,List.take_succ_cons,List.drop_succ_cons,List.cons_append];rw [ih]
theorem ownT_store {W:World} {base g cap n:Nat} {l:List TnD} (h:ownT W base g cap n l) (i:Nat) (hi:i < l.length) (x:TnD):ownT ((((((((((((((((W).setCell ⟨g,i*8,none⟩ (.string x.node.a))).setCell ⟨g,i*8+1,none⟩ (.int .i64 x.node.n))).setCell ⟨g,i*8+2,none⟩ (.string x.parent.a))).setCell ⟨g,i*8+3,none⟩ (.int .i64 x.parent.n))).setCell ⟨g,i*8+4,none⟩ (.bool x.neg))).setCell ⟨g,i*8+5,none⟩ (.string x.num))).setCell ⟨g,i*8+6,none⟩ (.string x.den))).setCell ⟨g,i*8+7,none⟩ (.string x.kind)) base g cap n (l.set i x):=by
 have hq0:=h;have hq1:=(hq0.stored (i*8) (.string x.node.a)).1;have hq2:=(hq1.stored (i*8+1) (.int .i64 x.node.n)).1;have hq3:=(hq2.stored (i*8+2) (.string x.parent.a)).1;have hq4:=(hq3.stored (i*8+3) (.int .i64 x.parent.n)).1;have hq5:=(hq4.stored (i*8+4) (.bool x.neg)).1;have hq6:=(hq5.stored (i*8+5) (.string x.num)).1;have hq7:=(hq6.stored (i*8+6) (.string x.den)).1;have hq8:=(hq7.stored (i*8+7) (.string x.kind)).1;have hf:=Lay.flat_set tnY l i x hi;have hlen:(tnY.flat l).length=l.length*8:=tnY.flat_length l;rw [sets8 (i*8) (tnY.flat l) (by omega)]at hq8;have e:(tnY.flat l).take (i*8)++ [(.string x.node.a),(.int .i64 x.node.n),(.string x.parent.a),(.int .i64 x.parent.n),(.bool x.neg),(.string x.num),(.string x.den),(.string x.kind)]++(tnY.flat l).drop (i*8+8)=tnY.flat (l.set i x):=hf;rw [e]at hq8;exact hq8
theorem below_store {W w:World} {B g:Nat} (h:Below B w W) (hg:B≤g) (i:Nat) (x:TnD):Below B w ((((((((((((((((W).setCell ⟨g,i*8,none⟩ (.string x.node.a))).setCell ⟨g,i*8+1,none⟩ (.int .i64 x.node.n))).setCell ⟨g,i*8+2,none⟩ (.string x.parent.a))).setCell ⟨g,i*8+3,none⟩ (.int .i64 x.parent.n))).setCell ⟨g,i*8+4,none⟩ (.bool x.neg))).setCell ⟨g,i*8+5,none⟩ (.string x.num))).setCell ⟨g,i*8+6,none⟩ (.string x.den))).setCell ⟨g,i*8+7,none⟩ (.string x.kind)):=
 (Below.setCell (Below.setCell (Below.setCell (Below.setCell (Below.setCell (Below.setCell (Below.setCell (Below.setCell h (p:=⟨g,i*8,none⟩) hg _) (p:=⟨g,i*8+1,none⟩) hg _) (p:=⟨g,i*8+2,none⟩) hg _) (p:=⟨g,i*8+3,none⟩) hg _) (p:=⟨g,i*8+4,none⟩) hg _) (p:=⟨g,i*8+5,none⟩) hg _) (p:=⟨g,i*8+6,none⟩) hg _) (p:=⟨g,i*8+7,none⟩) hg _)
theorem own_drewT {W:World} {base g cap n:Nat} {l:List TnD} (h:ownT W base g cap n l) (q:Nat):ownT (W.drewN q) base g cap n l:=h
theorem ownT_drew {W:World} {base g cap n:Nat} {l:List TnD} (h:ownT W base g cap n l):ownT W.drew base g cap n l:=h
theorem insIn_swap {c:TnD→TnD→Int} {a k:Nat} {l:List TnD} {x y:TnD} (hx:x=l.getD (k+1) dTn) (hy:y=l.getD k dTn) (h:a < k+1) (hc:c x y < 0):insIn c a (k+1) l=insIn c a k (swapL l (k+1) k):=by
 conv=>lhs;unfold insIn
 rw [←hx,←hy,if_pos ⟨h,hc⟩]
theorem insIn_stop {c:TnD→TnD→Int} {a k:Nat} {l:List TnD} {x y:TnD} (hx:x=l.getD (k+1) dTn) (hy:y=l.getD k dTn) (hc:¬c x y < 0):insIn c a (k+1) l=l:=by
 unfold insIn;rw [←hx,←hy,if_neg (fun h=>hc h.2)]
theorem insIn_self (c:TnD→TnD→Int) (a:Nat) (l:List TnD):insIn c a a l=l:=by
 cases a with
 |zero=>rfl
 |succ j=>unfold insIn;rw [if_neg (by omega)]
set_option maxRecDepth 100000 in
theorem ins_any (gf:FuncId) (c:TnD→TnD→Int) (P:TnD→Prop) (hc:CmpP gf c P) (heg:∀(a:Array Value) (W:World),Sem.run Tryz.prog (callFunc gf a) W=.ok (.enter gf a) W)
  (a b n cap g base:Nat) (l:List TnD) (w:World) (hl:l.length=n) (hn:n≤1000000) (hab:a≤b) (hbn:b≤n) (hP:∀x∈l,P x) (hv:ownT w base g cap n l) (hbase:base≤w.heap.size):
  Calls Tryz.prog 154 #[.slice (some ⟨g,0,none⟩) n cap,.int .i64 a,.int .i64 b,.func (.func gf) #[] #[]] w fun e w'=>e=.returned (.tuple #[])∧ownT w' base g cap n (insOut c a (b - (a+1)) (a+1) l)∧Below base w w':=by
 have HC:=zz hc;have HGB:=zz (show base≤g from(World.ownsRow.lt hv g (by simp [Value.ownBlock])).1);have HV:=zz hv;have HP:=zz hP;have HLN:=zz hl;clear hc hv hP hl;go_enter Tryz.func154,Tryz.ntmps154
 go_wp2_with fail
 go_loopg [8] (b - (a+1)) (fun gn t8 wr=>∃(i:Nat) (m:List TnD),t8=.int .i64 i∧i+gn=max b (a+1)∧a+1≤i∧m.length=n∧(∀x∈m,P x)∧insOut c a gn i m=insOut c a (b - (a+1)) (a+1) l∧ownT wr base g cap n m∧Below base w wr)
 case atStart=>exact⟨a+1,l,by go_num,by omega,Nat.le_refl _,HLN.out,HP.out,rfl,HV.out,Below.refl _ _⟩
 case round=>
  obtain⟨G,rfl⟩:∃G,G=gk:=⟨_,rfl⟩;obtain⟨i,m,rfl,hi,hai,hm,hPm,he,hown,hbel⟩:=hrel;have HE:=zz he;have HPM:=zz hPm;have HOW:=zz hown;have HB:=zz hbel;have HI:=zz hi;have HM:=zz hm;clear he hPm hown hbel hi hm
  by_cases h0:i < b
  ·have h0z:(i:Int) < (b:Int):=by omega
   go_wp2_with fail
   go_loopg [9] i (fun gm t9 wq=>∃(m2:List TnD),t9=.int .i64 gm∧a≤gm∧gm≤i∧m2.length=n∧(∀x∈m2,P x)∧insIn c a gm m2=insIn c a i m∧ownT wq base g cap n m2∧Below base w wq)
   case atStart=>exact⟨m,rfl,by omega,Nat.le_refl _,HM.out,HPM.out,rfl,HOW.out,HB.out⟩
   case round=>
    obtain⟨G2,rfl⟩:∃G2,G2=gk:=⟨_,rfl⟩;obtain⟨m2,rfl,ha2,hi2,hm2,hPm2,he2,hown2,hbel2⟩:=hrel;have HE2:=zz he2;have HPM2:=zz hPm2;have HOW2:=zz hown2;have HB2:=zz hbel2;have HM2:=zz hm2;clear he2 hPm2 hown2 hbel2 hm2
    by_cases hgt:a < G2
    ·obtain⟨k,rfl⟩:∃k,G2=k+1:=⟨G2 - 1,by omega⟩;obtain⟨x,hx⟩:∃x,x=m2.getD (k+1) dTn:=⟨_,rfl⟩;obtain⟨y,hy⟩:∃y,y=m2.getD k dTn:=⟨_,rfl⟩;have hx1:m2[k+1]? =some x:=by rw [hx];exact getD_at (by have:=HM2.out;omega)
     have hy1:m2[k]? =some y:=by rw [hy];exact getD_at (by have:=HM2.out;omega)
     have HXY:=zz (And.intro hx hy);have HX1:=zz (And.intro hx1 hy1);clear hx hy hx1 hy1;have hcall:=zz (fun W=>HC.out x y (HPM2.out x (List.mem_of_getElem? HX1.out.1)) (HPM2.out y (List.mem_of_getElem? HX1.out.2)) W);have d1:decide ((a:Int) < (k:Int)+1)=true:=by simp;omega
     have hk1:(k:Int)+1 < (n:Int):=by omega
     have hk0:(k:Int) < (n:Int):=by omega
     have hk0n:k < n:=by omega
     have hk1n:k+1 < n:=by omega
     have hk2:(0:Int)≤(k:Int)+1:=by omega
     have hw1:IntKind.i64.wrap (k:Int)=(k:Int):=i64wS _ (by omega) (by omega);obtain⟨c0,c1,c2,c3,c4,c5,c6,c7⟩:=ownT_cells HOW2.out HX1.out.1;obtain⟨e0,e1,e2,e3,e4,e5,e6,e7⟩:=ownT_cells HOW2.out HX1.out.2
     go_wp2_with fail
     go_region_held3 (fun w'=>w'.cell? ⟨g,(k+1)*8,none⟩=some (.string x.node.a)∧w'.cell? ⟨g,(k+1)*8+1,none⟩=some (.int .i64 x.node.n)∧w'.cell? ⟨g,(k+1)*8+2,none⟩=some (.string x.parent.a)∧w'.cell? ⟨g,(k+1)*8+3,none⟩=some (.int .i64 x.parent.n)∧w'.cell? ⟨g,(k+1)*8+4,none⟩=some (.bool x.neg)∧w'.cell? ⟨g,(k+1)*8+5,none⟩=some (.string x.num)∧w'.cell? ⟨g,(k+1)*8+6,none⟩=some (.string x.den)∧w'.cell? ⟨g,(k+1)*8+7,none⟩=some (.string x.kind)∧w'.cell? ⟨g,k*8,none⟩=some (.string y.node.a)∧w'.cell? ⟨g,k*8+1,none⟩=some (.int .i64 y.node.n)∧w'.cell? ⟨g,k*8+2,none⟩=some (.string y.parent.a)∧w'.cell? ⟨g,k*8+3,none⟩=some (.int .i64 y.parent.n)∧w'.cell? ⟨g,k*8+4,none⟩=some (.bool y.neg)∧w'.cell? ⟨g,k*8+5,none⟩=some (.string y.num)∧w'.cell? ⟨g,k*8+6,none⟩=some (.string y.den)∧w'.cell? ⟨g,k*8+7,none⟩=some (.string y.kind)) (first|go_keep|exact⟨keep1 hb1 c0,keep1 hb1 c1,keep1 hb1 c2,keep1 hb1 c3,keep1 hb1 c4,keep1 hb1 c5,keep1 hb1 c6,keep1 hb1 c7,keep1 hb1 e0,keep1 hb1 e1,keep1 hb1 e2,keep1 hb1 e3,keep1 hb1 e4,keep1 hb1 e5,keep1 hb1 e6,keep1 hb1 e7⟩)
      (first
       |(refine(hcall.out _).mono ?_;rintro e w1 ⟨rfl,hb1⟩))
     have hbel1:Below base w w1:=HB2.out.trans ((Below_drew_left' hb1).mono (Nat.le_trans hbase HB2.out.size));have hown1:ownT w1 base g cap n m2:=ownsRow_below (w:=wr.drew) HOW2.out hb1;have HB1:=zz hbel1;have HO1:=zz hown1;clear c0 c1 c2 c3 c4 c5 c6 c7 e0 e1 e2 e3 e4 e5 e6 e7;clear hb1 hbel1 hown1
     by_cases hlt:c x y < 0
     ·have d2:decide (c x y < 0)=true:=by simpa using hlt
      obtain⟨c0,c1,c2,c3,c4,c5,c6,c7⟩:=ownT_cells HO1.out HX1.out.1;obtain⟨e0,e1,e2,e3,e4,e5,e6,e7⟩:=ownT_cells HO1.out HX1.out.2;have f0:=World.ownsRow.frozenAt HO1.out ((k+1)*8);have f1:=World.ownsRow.frozenAt HO1.out ((k+1)*8+1);have f2:=World.ownsRow.frozenAt HO1.out ((k+1)*8+2);have f3:=World.ownsRow.frozenAt HO1.out ((k+1)*8+3);have f4:=World.ownsRow.frozenAt HO1.out ((k+1)*8+4);have f5:=World.ownsRow.frozenAt HO1.out ((k+1)*8+5);have f6:=World.ownsRow.frozenAt HO1.out ((k+1)*8+6);have f7:=World.ownsRow.frozenAt HO1.out ((k+1)*8+7);have f8:=World.ownsRow.frozenAt HO1.out (k*8);have f9:=World.ownsRow.frozenAt HO1.out (k*8+1);have f10:=World.ownsRow.frozenAt HO1.out (k*8+2);have f11:=World.ownsRow.frozenAt HO1.out (k*8+3);have f12:=World.ownsRow.frozenAt HO1.out (k*8+4);have f13:=World.ownsRow.frozenAt HO1.out (k*8+5);have f14:=World.ownsRow.frozenAt HO1.out (k*8+6);have f15:=World.ownsRow.frozenAt HO1.out (k*8+7)
      go_wp2_with fail
      go_region
      all_goals go_wp2
      all_goals clear c0 c1 c2 c3 c4 c5 c6 c7 e0 e1 e2 e3 e4 e5 e6 e7
      all_goals clear f0 f1 f2 f3 f4 f5 f6 f7 f8 f9 f10 f11 f12 f13 f14 f15
      all_goals clear hw1 hcall
      all_goals go_roundg k
      case rel=>
       have hlk:k < m2.length:=by rw [HM2.out];exact hk0n
       have hlk1:k+1 < m2.length:=by rw [HM2.out];exact hk1n
       refine⟨swapL m2 (k+1) k,rfl,Nat.le_of_lt_succ hgt,Nat.le_of_succ_le hi2,by rw [swapL_len];exact HM2.out,fun z hz=>HPM2.out z (swapL_mem hlk1 hlk z hz),?_,?_,?_⟩
       ·rw [←HE2.out];exact(insIn_swap HXY.out.1 HXY.out.2 hgt hlt).symm
       ·unfold swapL;rw [←HXY.out.1,←HXY.out.2]
        with_reducible exact ownT_drew (ownT_store (ownT_store HO1.out (k+1) hlk1 y) k (by rw [List.length_set];exact hlk) x)
       ·with_reducible exact(below_store (below_store HB1.out HGB.out (k+1) y) HGB.out k x).drew
      case measure=>exact Nat.lt_succ_self k
     ·have d2:decide (c x y < 0)=false:=by simpa using hlt
      have HN:=zz (insIn_stop (a:=a) HXY.out.1 HXY.out.2 hlt);have hlt2:0≤c x y:=Int.not_lt.1 hlt;have hI2:i+1+(G - 1)=max b (a+1)∧a+1≤i+1∧G - 1 < G∧G=G - 1+1:=by have:=HI.out;omega
      clear hlt hw1 hcall
      go_wp2_with fail
      go_roundg (G - 1)
      case rel=>
       refine⟨i+1,m2,by go_num,hI2.1,hI2.2.1,HM2.out,HPM2.out,?_,HO1.out,HB1.out⟩;rw [←HE.out,hI2.2.2.2]
       show insOut c a (G - 1) (i+1) m2=insOut c a (G - 1) (i+1) (insIn c a i m)
       rw [←HE2.out,HN.out]
      case measure=>exact hI2.2.2.1
    ·obtain rfl:G2=a:=by omega
     have d1:decide ((G2:Int) < (G2:Int))=false:=by simp
     have HN:=zz (insIn_self c G2 m2);have hI2:i+1+(G - 1)=max b (G2+1)∧G2+1≤i+1∧G - 1 < G∧G=G - 1+1:=by have:=HI.out;omega
     go_wp2_with fail
     go_quiet (fail)
     go_wp2_with fail
     go_roundg (G - 1)
     case rel=>
      refine⟨i+1,m2,by go_num,hI2.1,hI2.2.1,HM2.out,HPM2.out,?_,own_drewT HOW2.out _,Below_drewN HB2.out _⟩;rw [←HE.out,hI2.2.2.2]
      show insOut c G2 (G - 1) (i+1) m2=insOut c G2 (G - 1) (i+1) (insIn c G2 i m)
      rw [←HE2.out,HN.out]
     case measure=>exact hI2.2.2.1
  ·have d1:decide ((i:Int) < (b:Int))=false:=by simp;omega
   have hG:G=0:=by have:=HI.out;omega
   have HE3:=HE.out;rw [hG]at HE3;have HE3:=zz HE3
   go_wp2_with fail
   go_end0
   exact⟨rfl,by rw [←HE3.out];exact HOW.out,HB.out⟩
def swapR (a b:Nat):Nat→Nat→List TnD→List TnD
 |0,_,l=>l
 |n+1,i,l=>swapR a b n (i+1) (swapL l (a+i) (b+i))
theorem swapR_len (a b:Nat):∀(n i:Nat) (l:List TnD),(swapR a b n i l).length=l.length
 |0,_,l=>rfl
 |n+1,i,l=>by unfold swapR;rw [swapR_len,swapL_len]
theorem swapR_mem (a b:Nat):∀(n i:Nat) (l:List TnD),a+i+n≤l.length→b+i+n≤l.length→∀x∈swapR a b n i l,x∈l
 |0,_,l,_,_=>fun x hx=>hx
 |n+1,i,l,h1,h2=>fun x hx=>by
  unfold swapR at hx;exact swapL_mem (by omega) (by omega) x (swapR_mem a b n (i+1) _ (by rw [swapL_len];omega) (by rw [swapL_len];omega) x hx)
set_option maxRecDepth 100000 in
theorem swapR_any (fv:Value) (a b k n cap g base:Nat) (l:List TnD) (w:World) (hl:l.length=n) (hn:n≤1000000) (hab:a < b) (hbn:b+k≤n) (hv:ownT w base g cap n l) (hbase:base≤w.heap.size):
  Calls Tryz.prog 261 #[.slice (some ⟨g,0,none⟩) n cap,.int .i64 a,.int .i64 b,.int .i64 k,fv] w fun e w'=>e=.returned (.tuple #[])∧ownT w' base g cap n (swapR a b k 0 l)∧Below base w w':=by
 have HGB:=zz (show base≤g from(World.ownsRow.lt hv g (by simp [Value.ownBlock])).1);have HV:=zz hv;have HLN:=zz hl;clear hv hl;go_enter Tryz.func261,Tryz.ntmps261
 go_wp2_with fail
 go_loopg [10] k (fun gn t10 wr=>∃(i:Nat) (m:List TnD),t10=.int .i64 i∧i+gn=k∧m.length=n∧swapR a b gn i m=swapR a b k 0 l∧ownT wr base g cap n m∧Below base w wr)
 case atStart=>exact⟨0,l,rfl,by omega,HLN.out,rfl,HV.out,Below.refl _ _⟩
 case round=>
  obtain⟨G,rfl⟩:∃G,G=gk:=⟨_,rfl⟩;obtain⟨i,m,rfl,hi,hm,he,hown,hbel⟩:=hrel;have HE:=zz he;have HOW:=zz hown;have HB:=zz hbel;have HI:=zz hi;have HM:=zz hm;clear he hown hbel hi hm
  by_cases h0:i < k
  ·have h0z:(i:Int) < (k:Int):=by omega
   obtain⟨p,hp⟩:∃p,p=a+i:=⟨_,rfl⟩;obtain⟨q,hq⟩:∃q,q=b+i:=⟨_,rfl⟩;have hpq:p < q:=by omega
   have hqn:q < n:=by omega
   have hpn:p < n:=by omega
   have hpz:(p:Int) < (n:Int):=by omega
   have hqz:(q:Int) < (n:Int):=by omega
   have hw1:IntKind.i64.wrap ((a:Int)+(i:Int))=(p:Int):=by rw [i64wS _ (by omega) (by omega),hp];simp
   have hw2:IntKind.i64.wrap ((b:Int)+(i:Int))=(q:Int):=by rw [i64wS _ (by omega) (by omega),hq];simp
   obtain⟨x,hx⟩:∃x,x=m.getD p dTn:=⟨_,rfl⟩;obtain⟨y,hy⟩:∃y,y=m.getD q dTn:=⟨_,rfl⟩;have hx1:m[p]? =some x:=by rw [hx];exact getD_at (by rw [HM.out];exact hpn)
   have hy1:m[q]? =some y:=by rw [hy];exact getD_at (by rw [HM.out];exact hqn)
   have HX1:=zz (And.intro hx1 hy1);have HXY:=zz (And.intro hx hy);have HPQ:=zz (And.intro hp hq);have hI2:i+1+(G - 1)=k∧G - 1 < G∧G=G - 1+1:=by have:=HI.out;omega
   have HI2:=zz hI2;clear hx hy hx1 hy1 hp hq hI2;obtain⟨c0,c1,c2,c3,c4,c5,c6,c7⟩:=ownT_cells HOW.out HX1.out.1;obtain⟨e0,e1,e2,e3,e4,e5,e6,e7⟩:=ownT_cells HOW.out HX1.out.2;have f0:=World.ownsRow.frozenAt HOW.out (p*8);have f1:=World.ownsRow.frozenAt HOW.out (p*8+1);have f2:=World.ownsRow.frozenAt HOW.out (p*8+2);have f3:=World.ownsRow.frozenAt HOW.out (p*8+3);have f4:=World.ownsRow.frozenAt HOW.out (p*8+4);have f5:=World.ownsRow.frozenAt HOW.out (p*8+5);have f6:=World.ownsRow.frozenAt HOW.out (p*8+6);have f7:=World.ownsRow.frozenAt HOW.out (p*8+7);have f8:=World.ownsRow.frozenAt HOW.out (q*8);have f9:=World.ownsRow.frozenAt HOW.out (q*8+1);have f10:=World.ownsRow.frozenAt HOW.out (q*8+2);have f11:=World.ownsRow.frozenAt HOW.out (q*8+3);have f12:=World.ownsRow.frozenAt HOW.out (q*8+4);have f13:=World.ownsRow.frozenAt HOW.out (q*8+5);have f14:=World.ownsRow.frozenAt HOW.out (q*8+6);have f15:=World.ownsRow.frozenAt HOW.out (q*8+7)
   go_wp2_with fail
   go_region
   all_goals go_wp2
   all_goals clear c0 c1 c2 c3 c4 c5 c6 c7 e0 e1 e2 e3 e4 e5 e6 e7
   all_goals clear f0 f1 f2 f3 f4 f5 f6 f7 f8 f9 f10 f11 f12 f13 f14 f15
   all_goals clear hw1 hw2
   all_goals go_roundg (G - 1)
   case rel=>
    have hlp:p < m.length:=by rw [HM.out];exact hpn
    have hlq:q < m.length:=by rw [HM.out];exact hqn
    refine⟨i+1,swapL m p q,by go_num,HI2.out.1,by rw [swapL_len];exact HM.out,?_,?_,?_⟩
    ·rw [←HE.out,HI2.out.2.2]
     show swapR a b (G - 1) (i+1) (swapL m p q)=swapR a b (G - 1) (i+1) (swapL m (a+i) (b+i))
     rw [HPQ.out.1,HPQ.out.2]
    ·unfold swapL;rw [←HXY.out.1,←HXY.out.2]
     with_reducible exact ownT_drew (ownT_store (ownT_store HOW.out p hlp y) q (by rw [List.length_set];exact hlq) x)
    ·with_reducible exact(below_store (below_store HB.out HGB.out p y) HGB.out q x).drew
   case measure=>exact HI2.out.2.1
  ·have hd:decide ((i:Int) < (k:Int))=false:=by simp;omega
   have hdn:decide (i < k)=false:=by simp;omega
   have hG:G=0:=by have:=HI.out;omega
   have HE3:=HE.out;rw [hG]at HE3;have HE3:=zz HE3
   go_wp2_with fail
   go_end0
   exact⟨rfl,by rw [←HE3.out];exact HOW.out,HB.out⟩
def rotR (m:Nat):Nat→Nat→Nat→List TnD→List TnD
 |0,_,_,l=>l
 |f+1,i,j,l=>if i=j then swapR (m - i) m i 0 l else if j < i then rotR m f (i - j) j (swapR (m - i) m j 0 l)else rotR m f i (j - i) (swapR (m - i) (m+j - i) i 0 l)
theorem rotR_eq {m f i:Nat} {l:List TnD} (h:0 < f):rotR m f i i l=swapR (m - i) m i 0 l:=by
 obtain⟨f,rfl⟩:∃k,f=k+1:=⟨f - 1,by omega⟩;unfold rotR;rw [if_pos rfl]
theorem rotR_gt {m f i j:Nat} {l:List TnD} (h:j < i):rotR m (f+1) i j l=rotR m f (i - j) j (swapR (m - i) m j 0 l):=by
 conv=>lhs;unfold rotR
 rw [if_neg (by omega),if_pos h]
theorem rotR_lt {m f i j:Nat} {l:List TnD} (h:i < j):rotR m (f+1) i j l=rotR m f i (j - i) (swapR (m - i) (m+j - i) i 0 l):=by
 conv=>lhs;unfold rotR
 rw [if_neg (by omega),if_neg (by omega)]
theorem rotR_mem (m:Nat):∀(f i j:Nat) (l:List TnD),i≤m→m+j≤l.length→(∀x∈rotR m f i j l,x∈l)∧(rotR m f i j l).length=l.length
 |0,_,_,l,_,_=>⟨fun x hx=>hx,rfl⟩
 |f+1,i,j,l,h1,h2=>by
  rcases Nat.lt_trichotomy i j with h|h|h
  ·rw [rotR_lt h];have ih:=rotR_mem m f i (j - i) (swapR (m - i) (m+j - i) i 0 l) h1 (by rw [swapR_len];omega);rw [swapR_len]at ih;exact⟨fun x hx=>swapR_mem _ _ _ _ _ (by omega) (by omega) x (ih.1 x hx),ih.2⟩
  ·subst h;rw [rotR_eq (by omega)];exact⟨fun x hx=>swapR_mem _ _ _ _ _ (by omega) (by omega) x hx,swapR_len _ _ _ _ _⟩
  ·rw [rotR_gt h];have ih:=rotR_mem m f (i - j) j (swapR (m - i) m j 0 l) (by omega) (by rw [swapR_len];omega);rw [swapR_len]at ih;exact⟨fun x hx=>swapR_mem _ _ _ _ _ (by omega) (by omega) x (ih.1 x hx),ih.2⟩
set_option maxRecDepth 100000 in
theorem rotR_any (fv:Value) (a m b n cap g base:Nat) (l:List TnD) (w:World) (hl:l.length=n) (hn:n≤1000000) (ham:a < m) (hmb:m < b) (hbn:b≤n) (hv:ownT w base g cap n l) (hbase:base≤w.heap.size):
  Calls Tryz.prog 227 #[.slice (some ⟨g,0,none⟩) n cap,.int .i64 a,.int .i64 m,.int .i64 b,fv] w fun e w'=>e=.returned (.tuple #[])∧ownT w' base g cap n (rotR m (b - a) (m - a) (b - m) l)∧Below base w w':=by
 have HV:=zz hv;have HLN:=zz hl;clear hv hl;have hz1:(m:Int) - (a:Int)=((m - a:Nat):Int):=by omega
 have hz2:(b:Int) - (m:Int)=((b - m:Nat):Int):=by omega
 obtain⟨i0,hi0⟩:∃i0,i0=m - a:=⟨_,rfl⟩;obtain⟨j0,hj0⟩:∃j0,j0=b - m:=⟨_,rfl⟩;rw [←hi0]at hz1⊢;rw [←hj0]at hz2⊢;have hf0:i0+j0≤b - a:=by omega
 have hi1:0 < i0∧i0≤m:=by omega
 have hj1:0 < j0∧m+j0≤n:=by omega
 have HI0:=zz hi0;have HJ0:=zz hj0;clear hi0 hj0;go_enter Tryz.func227,Tryz.ntmps227
 go_wp2_with fail
 clear hz1 hz2
 go_loopg [10,11] (b - a) (fun gn t10 t11 wr=>∃(i j:Nat) (mm:List TnD),t10=.int .i64 i∧t11=.int .i64 j∧i+j≤gn∧0 < i∧i≤m∧0 < j∧m+j≤n∧mm.length=n∧rotR m gn i j mm=rotR m (b - a) i0 j0 l∧ownT wr base g cap n mm∧Below base w wr)
 case atStart=>exact⟨i0,j0,l,by first|rfl|rw [HI0.out],by first|rfl|rw [HJ0.out],hf0,hi1.1,hi1.2,hj1.1,hj1.2,HLN.out,rfl,HV.out,Below.refl _ _⟩
 case round=>
  obtain⟨G,rfl⟩:∃G,G=gk:=⟨_,rfl⟩;obtain⟨i,j,mm,rfl,rfl,hf,hi2,hi3,hj2,hj3,hm,he,hown,hbel⟩:=hrel;have HE:=zz he;have HOW:=zz hown;have HB:=zz hbel;have HM:=zz hm;clear he hown hbel hm;have hg1:∃f,G=f+1:=⟨G - 1,by omega⟩;obtain⟨f,hf1⟩:=hg1;have HF:=zz hf1;have hz0:(m:Int) - (i:Int)=((m - i:Nat):Int):=by omega
  rcases Nat.lt_trichotomy i j with h|h|h
  ·have d0:((i:Int) !=(j:Int))=true:=by simp;omega
   have d1:decide ((j:Int) < (i:Int))=false:=by simp;omega
   have d1n:decide (j < i)=false:=by simp;omega
   have hz3:(m:Int)+(j:Int) - (i:Int)=((m+j - i:Nat):Int):=by omega
   have hz4:(j:Int) - (i:Int)=((j - i:Nat):Int):=by omega
   have HS:=zz (fun W (ho:ownT W base g cap n mm) (hb:base≤W.heap.size)=>swapR_any fv (m - i) (m+j - i) i n cap g base mm W HM.out hn (by omega) (by omega) ho hb);have hfin:i+(j - i)≤f∧0 < j - i∧m+(j - i)≤n∧f < G:=by have:=HF.out;omega
   have HFI:=zz hfin;have HE4:=zz (show rotR m f i (j - i) (swapR (m - i) (m+j - i) i 0 mm)=rotR m (b - a) i0 j0 l by rw [←HE.out,HF.out,rotR_lt h]);clear hfin hf;generalize m - i=mi at*
   generalize m+j - i=mji at*
   generalize hji:j - i=ji at*
   go_wp2_with fail
   refine(HS.out _ HOW.out (Nat.le_trans hbase HB.out.size)).mono ?_;rintro e w1 ⟨rfl,ho1,hb1⟩;have HO1:=zz ho1;have HB1:=zz (HB.out.trans hb1);clear ho1 hb1
   go_wp2_with fail
   clear hz0 hz3 hz4
   go_roundg f
   case rel=>exact⟨i,ji,_,rfl,by first|rfl|go_num,HFI.out.1,hi2,hi3,HFI.out.2.1,HFI.out.2.2.1,by rw [swapR_len];exact HM.out,HE4.out,HO1.out,HB1.out⟩
   case measure=>exact HFI.out.2.2.2
  ·subst h;have d0:((i:Int) !=(i:Int))=false:=by simp
   have HS:=zz (fun W (ho:ownT W base g cap n mm) (hb:base≤W.heap.size)=>swapR_any fv (m - i) m i n cap g base mm W HM.out hn (by omega) (by omega) ho hb);have HE4:=zz (show swapR (m - i) m i 0 mm=rotR m (b - a) i0 j0 l by rw [←HE.out,rotR_eq (by omega)]);generalize m - i=mi at*
   go_wp2_with fail
   refine(HS.out _ HOW.out (Nat.le_trans hbase HB.out.size)).mono ?_;rintro e w1 ⟨rfl,ho1,hb1⟩;have HO1:=zz ho1;have HB1:=zz (HB.out.trans hb1);clear ho1 hb1
   go_wp2_with fail
   go_end0
   exact⟨rfl,by rw [←HE4.out];exact HO1.out,HB1.out⟩
  ·have d0:((i:Int) !=(j:Int))=true:=by simp;omega
   have d1:decide ((j:Int) < (i:Int))=true:=by simp;omega
   have d1n:decide (j < i)=true:=by simp;omega
   have hz4:(i:Int) - (j:Int)=((i - j:Nat):Int):=by omega
   have HS:=zz (fun W (ho:ownT W base g cap n mm) (hb:base≤W.heap.size)=>swapR_any fv (m - i) m j n cap g base mm W HM.out hn (by omega) (by omega) ho hb);have hfin:(i - j)+j≤f∧0 < i - j∧i - j≤m∧f < G:=by have:=HF.out;omega
   have HFI:=zz hfin;have HE4:=zz (show rotR m f (i - j) j (swapR (m - i) m j 0 mm)=rotR m (b - a) i0 j0 l by rw [←HE.out,HF.out,rotR_gt h]);clear hfin hf;generalize m - i=mi at*
   generalize hij:i - j=ij at*
   go_wp2_with fail
   refine(HS.out _ HOW.out (Nat.le_trans hbase HB.out.size)).mono ?_;rintro e w1 ⟨rfl,ho1,hb1⟩;have HO1:=zz ho1;have HB1:=zz (HB.out.trans hb1);clear ho1 hb1
   go_wp2_with fail
   clear hz0 hz4
   go_roundg f
   case rel=>exact⟨ij,j,_,by first|rfl|go_num,rfl,HFI.out.1,HFI.out.2.1,HFI.out.2.2.1,hj2,hj3,by rw [swapR_len];exact HM.out,HE4.out,HO1.out,HB1.out⟩
   case measure=>exact HFI.out.2.2.2
end Go.Proofs.YteigcnamkfebgaaGreatDoor
