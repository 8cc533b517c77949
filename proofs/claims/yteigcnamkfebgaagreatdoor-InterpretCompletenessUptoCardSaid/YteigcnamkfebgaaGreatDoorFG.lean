import Derived.Test.YteigcnamkfebgaaGreatDoorFE
set_option linter.all false
set_option maxHeartbeats 25600000
namespace Go.Proofs.YteigcnamkfebgaaGreatDoor
open Go.RowKit
def symS (c:TnD→TnD→Int) (l:List TnD) (a m b mid:Nat):Nat:=
 if mid < m then bsN (pC c l (mid+m - 1)) (mid - (mid+m - b)) (mid+m - b) mid else bsN (pC c l (mid+m - 1)) (m - a) a m
def symL1 (m mid s:Nat) (l:List TnD):List TnD:=if s < m∧m < mid+m - s then rotR m (mid+m - s - s) (m - s) (mid+m - s - m) l else l
def symL2 (r:Nat→Nat→Nat→List TnD→List TnD) (a mid s:Nat) (l:List TnD):List TnD:=if a < s∧s < mid then r a s mid l else l
def symL3 (r:Nat→Nat→Nat→List TnD→List TnD) (mid e b:Nat) (l:List TnD):List TnD:=if mid < e∧e < b then r mid e b l else l
def symC (r:Nat→Nat→Nat→List TnD→List TnD) (a m b mid s:Nat) (l:List TnD):List TnD:=
 symL3 r mid (mid+m - s) b (symL2 r a mid s (symL1 m mid s l))
def symR (c:TnD→TnD→Int):Nat→Nat→Nat→Nat→List TnD→List TnD
 |0,_,_,_,l=>l
 |f+1,a,m,b,l=>
  if m=a+1 then bubU (bsN (pA c l a) (b - m) m b - 1 - a) a l
  else if b=m+1 then bubD (m - bsN (pB c l m) (m - a) a m) m l
  else symC (symR c f) a m b ((a+b) / 2) (symS c l a m b ((a+b) / 2)) l
def SymOk (gf:FuncId) (P:TnD→Prop) (n cap g base:Nat) (r:Nat→Nat→Nat→List TnD→List TnD) (d:Nat):Prop:=
 ∀(a m b:Nat) (l:List TnD) (w:World),l.length=n→a < m→m < b→b≤n→b - a≤d→(∀x∈l,P x)→ownT w base g cap n l→base≤w.heap.size→
  (Calls Tryz.prog 199 #[.slice (some ⟨g,0,none⟩) n cap,.int .i64 a,.int .i64 m,.int .i64 b,.func (.func gf) #[] #[]] w fun e w'=>e=.returned (.tuple #[])∧ownT w' base g cap n (r a m b l)∧Below base w w')∧(∀x∈r a m b l,x∈l)∧(r a m b l).length=l.length
set_option maxRecDepth 100000 in
theorem symC1_any (gf:FuncId) (c:TnD→TnD→Int) (P:TnD→Prop) (hc:CmpP gf c P) (heg:∀(a:Array Value) (W:World),Sem.run Tryz.prog (callFunc gf a) W=.ok (.enter gf a) W)
  (a m b n cap g base:Nat) (l:List TnD) (w:World) (hl:l.length=n) (hn:n≤1000000) (ham:a < m) (hmb:m < b) (hbn:b≤n) (hP:∀x∈l,P x) (hv:ownT w base g cap n l) (hbase:base≤w.heap.size) (r:Nat→Nat→Nat→List TnD→List TnD) (d:Nat) (hd:b - a≤d+1) (hr:SymOk gf P n cap g base r d) (h1:m≠a+1) (h2:b≠m+1) (hbig:(a+b) / 2 < m):
  Calls Tryz.prog 199 #[.slice (some ⟨g,0,none⟩) n cap,.int .i64 a,.int .i64 m,.int .i64 b,.func (.func gf) #[] #[]] w fun e w'=>e=.returned (.tuple #[])∧ownT w' base g cap n (symC r a m b ((a+b) / 2) (symS c l a m b ((a+b) / 2)) l)∧Below base w w':=by
 have HC:=zz hc;have HGB:=zz (show base≤g from(World.ownsRow.lt hv g (by simp [Value.ownBlock])).1);have HP:=zz hP;have HLN:=zz hl;have HOW0:=zz hv;have HB0:=zz (Below.refl base w);clear hc hv hP hl;have HREC:=zz hr;clear hr;obtain⟨mid,hmid⟩:∃mid,mid=(a+b) / 2:=⟨_,rfl⟩;rw [←hmid]at hbig⊢;obtain⟨lo,hlo⟩:∃lo,mid+m - b=lo:=⟨_,rfl⟩;obtain⟨hi,hhi⟩:∃hi,mid=hi:=⟨_,rfl⟩;obtain⟨N,hN⟩:∃N,N=mid+m:=⟨_,rfl⟩;obtain⟨p,hp⟩:∃p,p=mid+m - 1:=⟨_,rfl⟩;have hlohi:lo≤hi∧a≤lo∧hi≤m∧hi≤mid:=by omega
 obtain⟨I0,hI0⟩:∃I0,I0=bsN (pC c l p) (hi - lo) lo hi:=⟨_,rfl⟩;have hS:symS c l a m b mid=I0:=by rw [hI0,hp,←hlo,←hhi,symS,if_pos hbig]
 rw [hS];have hIr:=bsN_range (pC c l p) (hi - lo) lo hi hlohi.1;rw [←hI0]at hIr;have HR:=zz hI0;have hIb:=hIr.2;have hIa:=hIr.1;have d1:((m:Int) - (a:Int)==1)=false:=by simp;omega
 have d2:((b:Int) - (m:Int)==1)=false:=by simp;omega
 have dmm:decide ((mid:Int) < (m:Int))=true:=by simp;omega
 have dmmn:decide (mid < m)=true:=by simp;omega
 have hz1:((a:Int)+(b:Int)) / 2=(mid:Int):=by rw [hmid];simp
 have hz2:(mid:Int)+(m:Int)=(N:Int):=by rw [hN];simp
 have hz3:(N:Int) - (b:Int)=(lo:Int):=by omega
 have hz4:(N:Int) - 1=(p:Int):=by omega
 have HN:=zz (show N=mid+m∧p+1=N∧a < mid∧mid < b∧(b - mid≤d)∧(mid - a≤d)from by omega);have HPN:=zz (show∀h,lo≤h→h < hi→h≤p∧p - h < n from fun h _ _=>by omega);have hbnd:N≤2000000∧mid≤1000000∧p≤2000000:=by omega
 have hb1:=hbnd.1;have hb2:=hbnd.2.1;have hb3:=hbnd.2.2;have hhn:hi≤n:=by omega
 have HLH:=zz (And.intro hlo (And.intro hhi (And.intro hmid (And.intro hN hp))));have HLL:=zz hlohi;have HBG:=zz hbig;subst hhi;clear hI0 hIr h1 h2 hS hbnd hlo hmid hN hp hlohi hbig;go_enter Tryz.func199,Tryz.ntmps199
 go_wp2_with fail
 clear hz1 hz2 hz3 hz4
 go_loopg [20,21] (mid - lo) (fun gn t20 t21 wr=>∃(i j:Nat),t20=.int .i64 i∧t21=.int .i64 j∧lo≤i∧i≤j∧j≤mid∧j - i≤gn∧bsN (pC c l p) gn i j=I0∧ownT wr base g cap n l∧Below base w wr)
 case atStart=>exact⟨lo,mid,by first|rfl|go_num,by first|rfl|go_num,Nat.le_refl _,by omega,Nat.le_refl _,Nat.le_refl _,HR.out.symm,HOW0.out,HB0.out⟩
 case round=>
  obtain⟨G,rfl⟩:∃G,G=gk:=⟨_,rfl⟩;obtain⟨i,j,rfl,rfl,hi1,hi2,hi3,hf,he,hown,hbel⟩:=hrel;have HE:=zz he;have HOW:=zz hown;have HB:=zz hbel;clear he hown hbel
  by_cases hij:i < j
  ·have dij:decide ((i:Int) < (j:Int))=true:=by simp;omega
   have dijn:decide (i < j)=true:=by simp;omega
   obtain⟨h,hh⟩:∃h,h=(i+j) / 2:=⟨_,rfl⟩;have hh1:i≤h∧h < j:=by omega
   have hhz:((i:Int)+(j:Int)) / 2=(h:Int):=by rw [hh];simp
   have HH:=zz hh;have HF:=zz (show∃f,G=f+1 from⟨G - 1,by omega⟩);clear hh;have hhn2:h < n:=by omega
   have hhnz:(h:Int) < (n:Int):=by omega
   obtain⟨q,hq⟩:∃q,q=p - h:=⟨_,rfl⟩;have hqn:=HPN.out h (by omega) (by omega);have hqn1:q < n:=by omega
   have hqnz:(q:Int) < (n:Int):=by omega
   have hwq:IntKind.i64.wrap ((p:Int) - (h:Int))=(q:Int):=by rw [i64wS _ (by omega) (by omega),hq];omega
   have HQE:=zz hq;clear hq hqn;obtain⟨x,hx⟩:∃x,x=l.getD q dTn:=⟨_,rfl⟩;obtain⟨y,hy⟩:∃y,y=l.getD h dTn:=⟨_,rfl⟩;have HX1:=zz (show l[q]? =some x∧l[h]? =some y from⟨by rw [hx];exact getD_at (by rw [HLN.out];omega),by rw [hy];exact getD_at (by rw [HLN.out];omega)⟩);have HXY:=zz (And.intro hx hy);clear hx hy;have hcall:=zz (fun W=>HC.out x y (HP.out x (List.mem_of_getElem? HX1.out.1)) (HP.out y (List.mem_of_getElem? HX1.out.2)) W);obtain⟨c0,c1,c2,c3,c4,c5,c6,c7⟩:=ownT_cells HOW.out HX1.out.1;obtain⟨e0,e1,e2,e3,e4,e5,e6,e7⟩:=ownT_cells HOW.out HX1.out.2;have hstep:=zz (show((pC c l p) h=true↔0≤c x y)from by rw [HXY.out.1,HXY.out.2,HQE.out];exact decide_eq_true_iff.trans Int.not_lt)
   go_wp2_with fail
   go_region_held3 (fun w'=>w'.cell? ⟨g,q*8,none⟩=some (.string x.node.a)∧w'.cell? ⟨g,q*8+1,none⟩=some (.int .i64 x.node.n)∧w'.cell? ⟨g,q*8+2,none⟩=some (.string x.parent.a)∧w'.cell? ⟨g,q*8+3,none⟩=some (.int .i64 x.parent.n)∧w'.cell? ⟨g,q*8+4,none⟩=some (.bool x.neg)∧w'.cell? ⟨g,q*8+5,none⟩=some (.string x.num)∧w'.cell? ⟨g,q*8+6,none⟩=some (.string x.den)∧w'.cell? ⟨g,q*8+7,none⟩=some (.string x.kind)∧w'.cell? ⟨g,h*8,none⟩=some (.string y.node.a)∧w'.cell? ⟨g,h*8+1,none⟩=some (.int .i64 y.node.n)∧w'.cell? ⟨g,h*8+2,none⟩=some (.string y.parent.a)∧w'.cell? ⟨g,h*8+3,none⟩=some (.int .i64 y.parent.n)∧w'.cell? ⟨g,h*8+4,none⟩=some (.bool y.neg)∧w'.cell? ⟨g,h*8+5,none⟩=some (.string y.num)∧w'.cell? ⟨g,h*8+6,none⟩=some (.string y.den)∧w'.cell? ⟨g,h*8+7,none⟩=some (.string y.kind)) (first|go_keep|exact⟨keep1 hb1 c0,keep1 hb1 c1,keep1 hb1 c2,keep1 hb1 c3,keep1 hb1 c4,keep1 hb1 c5,keep1 hb1 c6,keep1 hb1 c7,keep1 hb1 e0,keep1 hb1 e1,keep1 hb1 e2,keep1 hb1 e3,keep1 hb1 e4,keep1 hb1 e5,keep1 hb1 e6,keep1 hb1 e7⟩)
    (first
     |(refine(hcall.out _).mono ?_;rintro e w1 ⟨rfl,hb1⟩))
   have hbel1:Below base w w1:=HB.out.trans ((Below_drew_left' hb1).mono (Nat.le_trans hbase HB.out.size));have hown1:ownT w1 base g cap n l:=ownsRow_below (w:=wr.drew) HOW.out hb1;have HB1:=zz hbel1;have HO1:=zz hown1;clear c0 c1 c2 c3 c4 c5 c6 c7 e0 e1 e2 e3 e4 e5 e6 e7;clear hb1 hbel1 hown1 hcall hwq;obtain⟨f,hff⟩:=HF.out;have hf1:j - (h+1)≤f∧h - i≤f∧h+1≤j∧f < G:=by omega
   have HFF:=zz (And.intro hff hf1);clear hff hf1 hf
   by_cases hlt:c x y < 0
   ·have HQ:=zz (show(pC c l p) h=false from by cases hq:(pC c l p) h with|false=>rfl|true=>exact absurd hlt (Int.not_lt.2 (hstep.out.1 hq)));have HLT:=zz hlt;clear hlt
    go_wp2_with fail
    ·rename_i hn;exact absurd hn (by rw [decide_eq_true HLT.out];decide)
    ·go_roundg f
     case rel=>exact⟨i,h,rfl,rfl,hi1,hh1.1,by omega,HFF.out.2.2.1,by rw [←HE.out,HFF.out.1,HH_bs HH.out hij,HQ.out];rfl,HO1.out,HB1.out⟩
     case measure=>exact HFF.out.2.2.2.2
   ·have HQ:=zz (show(pC c l p) h=true from hstep.out.2 (Int.not_lt.1 hlt));have HLT:=zz (decide_eq_false hlt);skip
    clear hlt
    go_wp2_with fail
    ·go_roundg f
     case rel=>exact⟨h+1,j,by go_num,rfl,by omega,HFF.out.2.2.2.1,hi3,HFF.out.2.1,by rw [←HE.out,HFF.out.1,HH_bs HH.out hij,HQ.out];rfl,HO1.out,HB1.out⟩
     case measure=>exact HFF.out.2.2.2.2
    ·rename_i hn;exact absurd hn (by rw [HLT.out];decide)
  ·obtain rfl:j=i:=by omega
   have dij:decide ((j:Int) < (j:Int))=false:=by simp
   have hres:=HE.out;rw [bsN_self]at hres;subst hres;obtain⟨e,he⟩:∃e,e=N - j:=⟨_,rfl⟩;have hez:(N:Int) - (j:Int)=(e:Int):=by have:=HN.out;have:=HLL.out;omega
   have HEN:=zz (show mid+m - j=e∧e≤b∧(m < e↔j < mid)∧(mid < e↔j < m)∧a≤j∧j≤m∧j≤mid∧a < mid∧mid < b∧(b - mid≤d)∧(mid - a≤d)from by have:=HN.out;have:=HLL.out;have:=HLH.out;have:=HBG.out;omega);have HFI:=zz (show symC r a m b mid j l=symL3 r mid e b (symL2 r a mid j (symL1 m mid j l)) by unfold symC;rw [HEN.out.1]);have HF1:=zz (show symL1 m mid j l=if j < m∧m < e then rotR m (e - j) (m - j) (e - m) l else l by unfold symL1;rw [HEN.out.1]);have heb:e≤b:=HEN.out.2.1;have hjm:j≤m:=HEN.out.2.2.2.2.2.1;have hjd:j≤mid:=HEN.out.2.2.2.2.2.2.1;have haj:a≤j:=HEN.out.2.2.2.2.1;clear he;have hmdn:mid≤n:=by have:=HEN.out;omega
   have e1:m < e↔j < mid:=HEN.out.2.2.1;have e2:mid < e↔j < m:=HEN.out.2.2.2.1
   by_cases S1:j < m <;>by_cases S2:j < mid <;>by_cases S3:a < j <;>by_cases S4:e < b
   all_goals try(exfalso;have hh1:=HEN.out;have hh2:=HBG.out;have hh3:=HN.out;have hh4:=HLH.out;omega)
   all_goals
    have q1:decide ((j:Int) < (m:Int))=decide (j < m):=by simp
    have q2:decide ((m:Int) < (e:Int))=decide (j < mid):=by rw [decide_eq_decide];omega
    have q3:decide ((a:Int) < (j:Int))=decide (a < j):=by simp
    have q4:decide ((j:Int) < (mid:Int))=decide (j < mid):=by simp
    have q5:decide ((mid:Int) < (e:Int))=decide (j < m):=by rw [decide_eq_decide];omega
    have q6:decide ((e:Int) < (b:Int))=decide (e < b):=by simp
    have q2n:decide (m < e)=decide (j < mid):=by rw [decide_eq_decide];omega
    have q5n:decide (mid < e)=decide (j < m):=by rw [decide_eq_decide];omega
    simp only [S1,S2,S3,S4,decide_true,decide_false]at q1 q2 q3 q4 q5 q6 q2n q5n;have E1:=zz e1;have E2:=zz e2;clear e1 e2;have HM:=HLN;have HPM:=HP
    go_wp2_with(first
     |(go_at_call 227;refine(rotR_any _ j m e n cap g base l _ HLN.out hn S1 (E1.out.2 S2) (by omega) HOW.out (Nat.le_trans hbase HB.out.size)).mono ?_;rintro e1 w5 ⟨rfl,ho1,hb1⟩;have MM:=rotR_mem m (e - j) (m - j) (e - m) l (by omega) (by rw [HLN.out];omega);have HM:=zz (MM.2.trans HLN.out);have HPM:=zz (fun z hz=>HP.out z (MM.1 z hz));have HOW:=zz ho1;have HB:=zz (HB.out.trans hb1);clear MM ho1 hb1)
     |(go_at_call 199;have CC:=HREC.out a j mid _ _ HM.out S3 S2 hmdn HEN.out.2.2.2.2.2.2.2.2.2.2 HPM.out HOW.out (Nat.le_trans hbase HB.out.size);with_reducible refine CC.1.mono ?_;rintro e1 w5 ⟨rfl,ho1,hb1⟩;have HM:=zz (CC.2.2.trans HM.out);have HPM:=zz (fun z hz=>HPM.out z (CC.2.1 z hz));have HOW:=zz ho1;have HB:=zz (HB.out.trans hb1);clear CC ho1 hb1)
     |(go_at_call 199;have CC:=HREC.out mid e b _ _ HM.out (E2.out.2 S1) S4 hbn HEN.out.2.2.2.2.2.2.2.2.2.1 HPM.out HOW.out (Nat.le_trans hbase HB.out.size);with_reducible refine CC.1.mono ?_;rintro e1 w5 ⟨rfl,ho1,hb1⟩;have HM:=zz (CC.2.2.trans HM.out);have HPM:=zz (fun z hz=>HPM.out z (CC.2.1 z hz));have HOW:=zz ho1;have HB:=zz (HB.out.trans hb1);clear CC ho1 hb1))
    go_end0
    refine⟨rfl,?_,HB.out⟩;have E1o:=E1.out;have E2o:=E2.out;rw [HFI.out,HF1.out];unfold symL3 symL2
    repeat(first|rw [if_pos (by omega)]|rw [if_neg (by omega)])
    exact HOW.out
set_option maxRecDepth 100000 in
theorem symC2_any (gf:FuncId) (c:TnD→TnD→Int) (P:TnD→Prop) (hc:CmpP gf c P) (heg:∀(a:Array Value) (W:World),Sem.run Tryz.prog (callFunc gf a) W=.ok (.enter gf a) W)
  (a m b n cap g base:Nat) (l:List TnD) (w:World) (hl:l.length=n) (hn:n≤1000000) (ham:a < m) (hmb:m < b) (hbn:b≤n) (hP:∀x∈l,P x) (hv:ownT w base g cap n l) (hbase:base≤w.heap.size) (r:Nat→Nat→Nat→List TnD→List TnD) (d:Nat) (hd:b - a≤d+1) (hr:SymOk gf P n cap g base r d) (h1:m≠a+1) (h2:b≠m+1) (hbig:m≤(a+b) / 2):
  Calls Tryz.prog 199 #[.slice (some ⟨g,0,none⟩) n cap,.int .i64 a,.int .i64 m,.int .i64 b,.func (.func gf) #[] #[]] w fun e w'=>e=.returned (.tuple #[])∧ownT w' base g cap n (symC r a m b ((a+b) / 2) (symS c l a m b ((a+b) / 2)) l)∧Below base w w':=by
 have HC:=zz hc;have HGB:=zz (show base≤g from(World.ownsRow.lt hv g (by simp [Value.ownBlock])).1);have HP:=zz hP;have HLN:=zz hl;have HOW0:=zz hv;have HB0:=zz (Below.refl base w);clear hc hv hP hl;have HREC:=zz hr;clear hr;obtain⟨mid,hmid⟩:∃mid,mid=(a+b) / 2:=⟨_,rfl⟩;rw [←hmid]at hbig⊢;obtain⟨lo,hlo⟩:∃lo,a=lo:=⟨_,rfl⟩;obtain⟨hi,hhi⟩:∃hi,m=hi:=⟨_,rfl⟩;obtain⟨N,hN⟩:∃N,N=mid+m:=⟨_,rfl⟩;obtain⟨p,hp⟩:∃p,p=mid+m - 1:=⟨_,rfl⟩;have hlohi:lo≤hi∧a≤lo∧hi≤m∧hi≤mid:=by omega
 obtain⟨I0,hI0⟩:∃I0,I0=bsN (pC c l p) (hi - lo) lo hi:=⟨_,rfl⟩;have hS:symS c l a m b mid=I0:=by rw [hI0,hp,←hlo,←hhi,symS,if_neg (by omega)]
 rw [hS];have hIr:=bsN_range (pC c l p) (hi - lo) lo hi hlohi.1;rw [←hI0]at hIr;have HR:=zz hI0;have hIb:=hIr.2;have hIa:=hIr.1;have d1:((m:Int) - (a:Int)==1)=false:=by simp;omega
 have d2:((b:Int) - (m:Int)==1)=false:=by simp;omega
 have dmm:decide ((mid:Int) < (m:Int))=false:=by simp;omega
 have dmmn:decide (mid < m)=false:=by simp;omega
 have hz1:((a:Int)+(b:Int)) / 2=(mid:Int):=by rw [hmid];simp
 have hz2:(mid:Int)+(m:Int)=(N:Int):=by rw [hN];simp
 skip
 have hz4:(N:Int) - 1=(p:Int):=by omega
 have HN:=zz (show N=mid+m∧p+1=N∧a < mid∧mid < b∧(b - mid≤d)∧(mid - a≤d)from by omega);have HPN:=zz (show∀h,lo≤h→h < hi→h≤p∧p - h < n from fun h _ _=>by omega);have hbnd:N≤2000000∧mid≤1000000∧p≤2000000:=by omega
 have hb1:=hbnd.1;have hb2:=hbnd.2.1;have hb3:=hbnd.2.2;have hhn:hi≤n:=by omega
 have HLH:=zz (And.intro hlo (And.intro hhi (And.intro hmid (And.intro hN hp))));have HLL:=zz hlohi;have HBG:=zz hbig;subst hlo hhi;clear hI0 hIr h1 h2 hS hbnd hmid hN hp hlohi hbig;go_enter Tryz.func199,Tryz.ntmps199
 go_wp2_with fail
 clear hz1 hz2 hz4
 go_loopg [20,21] (m - a) (fun gn t20 t21 wr=>∃(i j:Nat),t20=.int .i64 i∧t21=.int .i64 j∧a≤i∧i≤j∧j≤m∧j - i≤gn∧bsN (pC c l p) gn i j=I0∧ownT wr base g cap n l∧Below base w wr)
 case atStart=>exact⟨a,m,by first|rfl|go_num,by first|rfl|go_num,Nat.le_refl _,by omega,Nat.le_refl _,Nat.le_refl _,HR.out.symm,HOW0.out,HB0.out⟩
 case round=>
  obtain⟨G,rfl⟩:∃G,G=gk:=⟨_,rfl⟩;obtain⟨i,j,rfl,rfl,hi1,hi2,hi3,hf,he,hown,hbel⟩:=hrel;have HE:=zz he;have HOW:=zz hown;have HB:=zz hbel;clear he hown hbel
  by_cases hij:i < j
  ·have dij:decide ((i:Int) < (j:Int))=true:=by simp;omega
   have dijn:decide (i < j)=true:=by simp;omega
   obtain⟨h,hh⟩:∃h,h=(i+j) / 2:=⟨_,rfl⟩;have hh1:i≤h∧h < j:=by omega
   have hhz:((i:Int)+(j:Int)) / 2=(h:Int):=by rw [hh];simp
   have HH:=zz hh;have HF:=zz (show∃f,G=f+1 from⟨G - 1,by omega⟩);clear hh;have hhn2:h < n:=by omega
   have hhnz:(h:Int) < (n:Int):=by omega
   obtain⟨q,hq⟩:∃q,q=p - h:=⟨_,rfl⟩;have hqn:=HPN.out h (by omega) (by omega);have hqn1:q < n:=by omega
   have hqnz:(q:Int) < (n:Int):=by omega
   have hwq:IntKind.i64.wrap ((p:Int) - (h:Int))=(q:Int):=by rw [i64wS _ (by omega) (by omega),hq];omega
   have HQE:=zz hq;clear hq hqn;obtain⟨x,hx⟩:∃x,x=l.getD q dTn:=⟨_,rfl⟩;obtain⟨y,hy⟩:∃y,y=l.getD h dTn:=⟨_,rfl⟩;have HX1:=zz (show l[q]? =some x∧l[h]? =some y from⟨by rw [hx];exact getD_at (by rw [HLN.out];omega),by rw [hy];exact getD_at (by rw [HLN.out];omega)⟩);have HXY:=zz (And.intro hx hy);clear hx hy;have hcall:=zz (fun W=>HC.out x y (HP.out x (List.mem_of_getElem? HX1.out.1)) (HP.out y (List.mem_of_getElem? HX1.out.2)) W);obtain⟨c0,c1,c2,c3,c4,c5,c6,c7⟩:=ownT_cells HOW.out HX1.out.1;obtain⟨e0,e1,e2,e3,e4,e5,e6,e7⟩:=ownT_cells HOW.out HX1.out.2;have hstep:=zz (show((pC c l p) h=true↔0≤c x y)from by rw [HXY.out.1,HXY.out.2,HQE.out];exact decide_eq_true_iff.trans Int.not_lt)
   go_wp2_with fail
   go_region_held3 (fun w'=>w'.cell? ⟨g,q*8,none⟩=some (.string x.node.a)∧w'.cell? ⟨g,q*8+1,none⟩=some (.int .i64 x.node.n)∧w'.cell? ⟨g,q*8+2,none⟩=some (.string x.parent.a)∧w'.cell? ⟨g,q*8+3,none⟩=some (.int .i64 x.parent.n)∧w'.cell? ⟨g,q*8+4,none⟩=some (.bool x.neg)∧w'.cell? ⟨g,q*8+5,none⟩=some (.string x.num)∧w'.cell? ⟨g,q*8+6,none⟩=some (.string x.den)∧w'.cell? ⟨g,q*8+7,none⟩=some (.string x.kind)∧w'.cell? ⟨g,h*8,none⟩=some (.string y.node.a)∧w'.cell? ⟨g,h*8+1,none⟩=some (.int .i64 y.node.n)∧w'.cell? ⟨g,h*8+2,none⟩=some (.string y.parent.a)∧w'.cell? ⟨g,h*8+3,none⟩=some (.int .i64 y.parent.n)∧w'.cell? ⟨g,h*8+4,none⟩=some (.bool y.neg)∧w'.cell? ⟨g,h*8+5,none⟩=some (.string y.num)∧w'.cell? ⟨g,h*8+6,none⟩=some (.string y.den)∧w'.cell? ⟨g,h*8+7,none⟩=some (.string y.kind)) (first|go_keep|exact⟨keep1 hb1 c0,keep1 hb1 c1,keep1 hb1 c2,keep1 hb1 c3,keep1 hb1 c4,keep1 hb1 c5,keep1 hb1 c6,keep1 hb1 c7,keep1 hb1 e0,keep1 hb1 e1,keep1 hb1 e2,keep1 hb1 e3,keep1 hb1 e4,keep1 hb1 e5,keep1 hb1 e6,keep1 hb1 e7⟩)
    (first
     |(refine(hcall.out _).mono ?_;rintro e w1 ⟨rfl,hb1⟩))
   have hbel1:Below base w w1:=HB.out.trans ((Below_drew_left' hb1).mono (Nat.le_trans hbase HB.out.size));have hown1:ownT w1 base g cap n l:=ownsRow_below (w:=wr.drew) HOW.out hb1;have HB1:=zz hbel1;have HO1:=zz hown1;clear c0 c1 c2 c3 c4 c5 c6 c7 e0 e1 e2 e3 e4 e5 e6 e7;clear hb1 hbel1 hown1 hcall hwq;obtain⟨f,hff⟩:=HF.out;have hf1:j - (h+1)≤f∧h - i≤f∧h+1≤j∧f < G:=by omega
   have HFF:=zz (And.intro hff hf1);clear hff hf1 hf
   by_cases hlt:c x y < 0
   ·have HQ:=zz (show(pC c l p) h=false from by cases hq:(pC c l p) h with|false=>rfl|true=>exact absurd hlt (Int.not_lt.2 (hstep.out.1 hq)));have HLT:=zz hlt;clear hlt
    go_wp2_with fail
    ·rename_i hn;exact absurd hn (by rw [decide_eq_true HLT.out];decide)
    ·go_roundg f
     case rel=>exact⟨i,h,rfl,rfl,hi1,hh1.1,by omega,HFF.out.2.2.1,by rw [←HE.out,HFF.out.1,HH_bs HH.out hij,HQ.out];rfl,HO1.out,HB1.out⟩
     case measure=>exact HFF.out.2.2.2.2
   ·have HQ:=zz (show(pC c l p) h=true from hstep.out.2 (Int.not_lt.1 hlt));have HLT:=zz (decide_eq_false hlt);skip
    clear hlt
    go_wp2_with fail
    ·go_roundg f
     case rel=>exact⟨h+1,j,by go_num,rfl,by omega,HFF.out.2.2.2.1,hi3,HFF.out.2.1,by rw [←HE.out,HFF.out.1,HH_bs HH.out hij,HQ.out];rfl,HO1.out,HB1.out⟩
     case measure=>exact HFF.out.2.2.2.2
    ·rename_i hn;exact absurd hn (by rw [HLT.out];decide)
  ·obtain rfl:j=i:=by omega
   have dij:decide ((j:Int) < (j:Int))=false:=by simp
   have hres:=HE.out;rw [bsN_self]at hres;subst hres;obtain⟨e,he⟩:∃e,e=N - j:=⟨_,rfl⟩;have hez:(N:Int) - (j:Int)=(e:Int):=by have:=HN.out;have:=HLL.out;omega
   have HEN:=zz (show mid+m - j=e∧e≤b∧(m < e↔j < mid)∧(mid < e↔j < m)∧a≤j∧j≤m∧j≤mid∧a < mid∧mid < b∧(b - mid≤d)∧(mid - a≤d)from by have:=HN.out;have:=HLL.out;have:=HLH.out;have:=HBG.out;omega);have HFI:=zz (show symC r a m b mid j l=symL3 r mid e b (symL2 r a mid j (symL1 m mid j l)) by unfold symC;rw [HEN.out.1]);have HF1:=zz (show symL1 m mid j l=if j < m∧m < e then rotR m (e - j) (m - j) (e - m) l else l by unfold symL1;rw [HEN.out.1]);have heb:e≤b:=HEN.out.2.1;have hjm:j≤m:=HEN.out.2.2.2.2.2.1;have hjd:j≤mid:=HEN.out.2.2.2.2.2.2.1;have haj:a≤j:=HEN.out.2.2.2.2.1;clear he;have hmdn:mid≤n:=by have:=HEN.out;omega
   have e1:m < e↔j < mid:=HEN.out.2.2.1;have e2:mid < e↔j < m:=HEN.out.2.2.2.1
   by_cases S1:j < m <;>by_cases S2:j < mid <;>by_cases S3:a < j <;>by_cases S4:e < b
   all_goals try(exfalso;have hh1:=HEN.out;have hh2:=HBG.out;have hh3:=HN.out;have hh4:=HLH.out;omega)
   all_goals
    have q1:decide ((j:Int) < (m:Int))=decide (j < m):=by simp
    have q2:decide ((m:Int) < (e:Int))=decide (j < mid):=by rw [decide_eq_decide];omega
    have q3:decide ((a:Int) < (j:Int))=decide (a < j):=by simp
    have q4:decide ((j:Int) < (mid:Int))=decide (j < mid):=by simp
    have q5:decide ((mid:Int) < (e:Int))=decide (j < m):=by rw [decide_eq_decide];omega
    have q6:decide ((e:Int) < (b:Int))=decide (e < b):=by simp
    have q2n:decide (m < e)=decide (j < mid):=by rw [decide_eq_decide];omega
    have q5n:decide (mid < e)=decide (j < m):=by rw [decide_eq_decide];omega
    simp only [S1,S2,S3,S4,decide_true,decide_false]at q1 q2 q3 q4 q5 q6 q2n q5n;have E1:=zz e1;have E2:=zz e2;clear e1 e2;have HM:=HLN;have HPM:=HP
    go_wp2_with(first
     |(go_at_call 227;refine(rotR_any _ j m e n cap g base l _ HLN.out hn S1 (E1.out.2 S2) (by omega) HOW.out (Nat.le_trans hbase HB.out.size)).mono ?_;rintro e1 w5 ⟨rfl,ho1,hb1⟩;have MM:=rotR_mem m (e - j) (m - j) (e - m) l (by omega) (by rw [HLN.out];omega);have HM:=zz (MM.2.trans HLN.out);have HPM:=zz (fun z hz=>HP.out z (MM.1 z hz));have HOW:=zz ho1;have HB:=zz (HB.out.trans hb1);clear MM ho1 hb1)
     |(go_at_call 199;have CC:=HREC.out a j mid _ _ HM.out S3 S2 hmdn HEN.out.2.2.2.2.2.2.2.2.2.2 HPM.out HOW.out (Nat.le_trans hbase HB.out.size);with_reducible refine CC.1.mono ?_;rintro e1 w5 ⟨rfl,ho1,hb1⟩;have HM:=zz (CC.2.2.trans HM.out);have HPM:=zz (fun z hz=>HPM.out z (CC.2.1 z hz));have HOW:=zz ho1;have HB:=zz (HB.out.trans hb1);clear CC ho1 hb1)
     |(go_at_call 199;have CC:=HREC.out mid e b _ _ HM.out (E2.out.2 S1) S4 hbn HEN.out.2.2.2.2.2.2.2.2.2.1 HPM.out HOW.out (Nat.le_trans hbase HB.out.size);with_reducible refine CC.1.mono ?_;rintro e1 w5 ⟨rfl,ho1,hb1⟩;have HM:=zz (CC.2.2.trans HM.out);have HPM:=zz (fun z hz=>HPM.out z (CC.2.1 z hz));have HOW:=zz ho1;have HB:=zz (HB.out.trans hb1);clear CC ho1 hb1))
    go_end0
    refine⟨rfl,?_,HB.out⟩;have E1o:=E1.out;have E2o:=E2.out;rw [HFI.out,HF1.out];unfold symL3 symL2
    repeat(first|rw [if_pos (by omega)]|rw [if_neg (by omega)])
    exact HOW.out
end Go.Proofs.YteigcnamkfebgaaGreatDoor
