import Derived.Test.YteigcnamkfebgaaGreatDoorFA
set_option linter.all false
set_option maxHeartbeats 25600000
namespace Go.Proofs.YteigcnamkfebgaaGreatDoor
open Go.RowKit
def bsN (p:Nat→Bool):Nat→Nat→Nat→Nat
 |0,i,_=>i
 |f+1,i,j=>if i < j then(if p ((i+j) / 2)=true then bsN p f ((i+j) / 2+1) j else bsN p f i ((i+j) / 2))else i
theorem bsN_self (p:Nat→Bool) (f i:Nat):bsN p f i i=i:=by
 cases f with
 |zero=>rfl
 |succ f=>unfold bsN;rw [if_neg (by omega)]
theorem HH_bs {p:Nat→Bool} {f i j h:Nat} (hh:h=(i+j) / 2) (hij:i < j):bsN p (f+1) i j=if p h=true then bsN p f (h+1) j else bsN p f i h:=by
 conv=>lhs;unfold bsN
 rw [if_pos hij,←hh]
theorem bsN_range (p:Nat→Bool):∀(f i j:Nat),i≤j→i≤bsN p f i j∧bsN p f i j≤j
 |0,i,j,h=>⟨Nat.le_refl _,h⟩
 |f+1,i,j,h=>by
  by_cases hij:i < j
  ·rw [HH_bs rfl hij];have h1:=bsN_range p f ((i+j) / 2+1) j (by omega);have h2:=bsN_range p f i ((i+j) / 2) (by omega)
   split <;>omega
  ·obtain rfl:i=j:=by omega
   rw [bsN_self];omega
def bubU:Nat→Nat→List TnD→List TnD
 |0,_,l=>l
 |n+1,k,l=>bubU n (k+1) (swapL l k (k+1))
def bubD:Nat→Nat→List TnD→List TnD
 |0,_,l=>l
 |n+1,k,l=>bubD n (k - 1) (swapL l k (k - 1))
theorem bubU_mem:∀(n k:Nat) (l:List TnD),k+n < l.length∨n=0→(∀x∈bubU n k l,x∈l)∧(bubU n k l).length=l.length
 |0,_,l,_=>⟨fun x hx=>hx,rfl⟩
 |n+1,k,l,h=>by
  unfold bubU;have ih:=bubU_mem n (k+1) (swapL l k (k+1)) (by rw [swapL_len];omega);rw [swapL_len]at ih;exact⟨fun x hx=>swapL_mem (by omega) (by omega) x (ih.1 x hx),ih.2⟩
theorem bubD_mem:∀(n k:Nat) (l:List TnD),k < l.length→n≤k→(∀x∈bubD n k l,x∈l)∧(bubD n k l).length=l.length
 |0,_,l,_,_=>⟨fun x hx=>hx,rfl⟩
 |n+1,k,l,h,h2=>by
  unfold bubD;have ih:=bubD_mem n (k - 1) (swapL l k (k - 1)) (by rw [swapL_len];omega) (by omega);rw [swapL_len]at ih;exact⟨fun x hx=>swapL_mem (by omega) (by omega) x (ih.1 x hx),ih.2⟩
def pA (c:TnD→TnD→Int) (l:List TnD) (a h:Nat):Bool:=decide (c (l.getD h dTn) (l.getD a dTn) < 0)
def pB (c:TnD→TnD→Int) (l:List TnD) (m h:Nat):Bool:=decide (¬c (l.getD m dTn) (l.getD h dTn) < 0)
def pC (c:TnD→TnD→Int) (l:List TnD) (p h:Nat):Bool:=decide (¬c (l.getD (p - h) dTn) (l.getD h dTn) < 0)
set_option maxRecDepth 100000 in
theorem symA_any (gf:FuncId) (c:TnD→TnD→Int) (P:TnD→Prop) (hc:CmpP gf c P) (heg:∀(a:Array Value) (W:World),Sem.run Tryz.prog (callFunc gf a) W=.ok (.enter gf a) W)
  (a m b n cap g base:Nat) (l:List TnD) (w:World) (hl:l.length=n) (hn:n≤1000000) (ham:a < m) (hmb:m < b) (hbn:b≤n) (hP:∀x∈l,P x) (hv:ownT w base g cap n l) (hbase:base≤w.heap.size) (h1:m=a+1):
  Calls Tryz.prog 199 #[.slice (some ⟨g,0,none⟩) n cap,.int .i64 a,.int .i64 m,.int .i64 b,.func (.func gf) #[] #[]] w fun e w'=>e=.returned (.tuple #[])∧ownT w' base g cap n (bubU (bsN (pA c l a) (b - m) m b - 1 - a) a l)∧Below base w w':=by
 have HC:=zz hc;have HGB:=zz (show base≤g from(World.ownsRow.lt hv g (by simp [Value.ownBlock])).1);have HP:=zz hP;have HLN:=zz hl;have HOW0:=zz hv;have HB0:=zz (Below.refl base w);clear hc hv hP hl;obtain⟨I0,hI0⟩:∃I0,I0=bsN (pA c l a) (b - m) m b:=⟨_,rfl⟩;have hIr:=bsN_range (pA c l a) (b - m) m b (by omega);rw [←hI0]at hIr⊢;have HR:=zz hI0;have hIb:=hIr.2;have hIa:=hIr.1;have d1:((m:Int) - (a:Int)==1)=true:=by simp;omega
 have hma:(m:Int) - (a:Int)=1:=by omega
 have hlan:a < n:=by omega
 have hlanz:(a:Int) < (n:Int):=by omega
 clear hI0 hIr h1;go_enter Tryz.func199,Tryz.ntmps199
 go_wp2_with fail
 clear hma
 go_loopg [10,11] (b - m) (fun gn t10 t11 wr=>∃(i j:Nat),t10=.int .i64 i∧t11=.int .i64 j∧m≤i∧i≤j∧j≤b∧j - i≤gn∧bsN (pA c l a) gn i j=I0∧ownT wr base g cap n l∧Below base w wr)
 case atStart=>exact⟨m,b,by first|rfl|go_num,by first|rfl|go_num,Nat.le_refl _,by omega,Nat.le_refl _,Nat.le_refl _,HR.out.symm,HOW0.out,HB0.out⟩
 case round=>
  obtain⟨G,rfl⟩:∃G,G=gk:=⟨_,rfl⟩;obtain⟨i,j,rfl,rfl,hi1,hi2,hi3,hf,he,hown,hbel⟩:=hrel;have HE:=zz he;have HOW:=zz hown;have HB:=zz hbel;clear he hown hbel
  by_cases hij:i < j
  ·have dij:decide ((i:Int) < (j:Int))=true:=by simp;omega
   have dijn:decide (i < j)=true:=by simp;omega
   obtain⟨h,hh⟩:∃h,h=(i+j) / 2:=⟨_,rfl⟩;have hh1:i≤h∧h < j:=by omega
   have hhz:((i:Int)+(j:Int)) / 2=(h:Int):=by rw [hh];simp
   have HH:=zz hh;have HF:=zz (show∃f,G=f+1 from⟨G - 1,by omega⟩);clear hh;have hhn:h < n:=by omega
   have hhnz:(h:Int) < (n:Int):=by omega
   obtain⟨x,hx⟩:∃x,x=l.getD h dTn:=⟨_,rfl⟩;obtain⟨y,hy⟩:∃y,y=l.getD a dTn:=⟨_,rfl⟩;have HX1:=zz (show l[h]? =some x∧l[a]? =some y from⟨by rw [hx];exact getD_at (by rw [HLN.out];omega),by rw [hy];exact getD_at (by rw [HLN.out];omega)⟩);have HXY:=zz (And.intro hx hy);clear hx hy;have hcall:=zz (fun W=>HC.out x y (HP.out x (List.mem_of_getElem? HX1.out.1)) (HP.out y (List.mem_of_getElem? HX1.out.2)) W);obtain⟨c0,c1,c2,c3,c4,c5,c6,c7⟩:=ownT_cells HOW.out HX1.out.1;obtain⟨e0,e1,e2,e3,e4,e5,e6,e7⟩:=ownT_cells HOW.out HX1.out.2;have hstep:=zz (show((pA c l a) h=true↔c x y < 0)from by rw [HXY.out.1,HXY.out.2];exact decide_eq_true_iff)
   go_wp2_with fail
   go_region_held3 (fun w'=>w'.cell? ⟨g,h*8,none⟩=some (.string x.node.a)∧w'.cell? ⟨g,h*8+1,none⟩=some (.int .i64 x.node.n)∧w'.cell? ⟨g,h*8+2,none⟩=some (.string x.parent.a)∧w'.cell? ⟨g,h*8+3,none⟩=some (.int .i64 x.parent.n)∧w'.cell? ⟨g,h*8+4,none⟩=some (.bool x.neg)∧w'.cell? ⟨g,h*8+5,none⟩=some (.string x.num)∧w'.cell? ⟨g,h*8+6,none⟩=some (.string x.den)∧w'.cell? ⟨g,h*8+7,none⟩=some (.string x.kind)∧w'.cell? ⟨g,a*8,none⟩=some (.string y.node.a)∧w'.cell? ⟨g,a*8+1,none⟩=some (.int .i64 y.node.n)∧w'.cell? ⟨g,a*8+2,none⟩=some (.string y.parent.a)∧w'.cell? ⟨g,a*8+3,none⟩=some (.int .i64 y.parent.n)∧w'.cell? ⟨g,a*8+4,none⟩=some (.bool y.neg)∧w'.cell? ⟨g,a*8+5,none⟩=some (.string y.num)∧w'.cell? ⟨g,a*8+6,none⟩=some (.string y.den)∧w'.cell? ⟨g,a*8+7,none⟩=some (.string y.kind)) (first|go_keep|exact⟨keep1 hb1 c0,keep1 hb1 c1,keep1 hb1 c2,keep1 hb1 c3,keep1 hb1 c4,keep1 hb1 c5,keep1 hb1 c6,keep1 hb1 c7,keep1 hb1 e0,keep1 hb1 e1,keep1 hb1 e2,keep1 hb1 e3,keep1 hb1 e4,keep1 hb1 e5,keep1 hb1 e6,keep1 hb1 e7⟩)
    (first
     |(refine(hcall.out _).mono ?_;rintro e w1 ⟨rfl,hb1⟩))
   have hbel1:Below base w w1:=HB.out.trans ((Below_drew_left' hb1).mono (Nat.le_trans hbase HB.out.size));have hown1:ownT w1 base g cap n l:=ownsRow_below (w:=wr.drew) HOW.out hb1;have HB1:=zz hbel1;have HO1:=zz hown1;clear c0 c1 c2 c3 c4 c5 c6 c7 e0 e1 e2 e3 e4 e5 e6 e7;clear hb1 hbel1 hown1 hcall;obtain⟨f,hff⟩:=HF.out;have hf1:j - (h+1)≤f∧h - i≤f∧h+1≤j∧f < G:=by omega
   have HFF:=zz (And.intro hff hf1);clear hff hf1 hf
   by_cases hlt:c x y < 0
   ·have HQ:=zz (show(pA c l a) h=true from hstep.out.2 hlt);have dlt:decide (c x y < 0)=true:=by simpa using hlt
    skip
    go_wp2_with fail
    go_roundg f
    case rel=>exact⟨h+1,j,by go_num,rfl,by omega,HFF.out.2.2.2.1,hi3,HFF.out.2.1,by rw [←HE.out,HFF.out.1,HH_bs HH.out hij,HQ.out];rfl,HO1.out,HB1.out⟩
    case measure=>exact HFF.out.2.2.2.2
   ·have HQ:=zz (show(pA c l a) h=false from by cases hq:(pA c l a) h with|false=>rfl|true=>exact absurd (hstep.out.1 hq) hlt);have dlt:decide (c x y < 0)=false:=by simpa using hlt
    have hlt2:0≤c x y:=Int.not_lt.1 hlt;clear hlt
    go_wp2_with fail
    go_roundg f
    case rel=>exact⟨i,h,rfl,rfl,hi1,hh1.1,by omega,HFF.out.2.2.1,by rw [←HE.out,HFF.out.1,HH_bs HH.out hij,HQ.out];rfl,HO1.out,HB1.out⟩
    case measure=>exact HFF.out.2.2.2.2
  ·obtain rfl:j=i:=by omega
   have dij:decide ((j:Int) < (j:Int))=false:=by simp
   have hres:=HE.out;rw [bsN_self]at hres;subst hres;obtain⟨J,rfl⟩:∃J,j=J+1:=⟨j - 1,by omega⟩;have haJ:a≤J:=by omega
   have hJn:J < n:=by omega
   go_wp2_with fail
   go_loopg [13] (J - a) (fun gn t13 wr=>∃(k:Nat) (mm:List TnD),t13=.int .i64 k∧k+gn=J∧a≤k∧mm.length=n∧bubU gn k mm=bubU (J - a) a l∧ownT wr base g cap n mm∧Below base w wr)
   case atStart=>exact⟨a,l,rfl,by omega,Nat.le_refl _,HLN.out,rfl,HOW.out,HB.out⟩
   case round=>
    obtain⟨G,rfl⟩:∃G,G=gk:=⟨_,rfl⟩;obtain⟨k,mm,rfl,hk,hak,hm,he,hown,hbel⟩:=hrel;have HE:=zz he;have HOW:=zz hown;have HB:=zz hbel;have HM:=zz hm;have HK:=zz hk;clear he hown hbel hm hk
    by_cases h0:k < J
    ·have h0z:decide ((k:Int) < (J:Int))=true:=by simp;omega
     have h0n:decide (k < J)=true:=by simp;omega
     obtain⟨x,hx⟩:∃x,x=mm.getD k dTn:=⟨_,rfl⟩;obtain⟨y,hy⟩:∃y,y=mm.getD (k+1) dTn:=⟨_,rfl⟩;have hkn:k < n:=by omega
     have hkn1:k+1 < n:=by omega
     have hkz:(k:Int) < (n:Int):=by omega
     have hkz1:(k:Int)+1 < (n:Int):=by omega
     have hk2:(0:Int)≤(k:Int)+1:=by omega
     have hw1:IntKind.i64.wrap ((k:Int)+1)=(k:Int)+1:=i64wS _ (by omega) (by omega);have HX1:=zz (show mm[k]? =some x∧mm[k+1]? =some y from⟨by rw [hx];exact getD_at (by rw [HM.out];exact hkn),by rw [hy];exact getD_at (by rw [HM.out];exact hkn1)⟩);have HXY:=zz (And.intro hx hy);have HK2:=zz (show k+1+(G - 1)=J∧a≤k+1∧G - 1 < G∧G=G - 1+1 by have:=HK.out;omega);clear hx hy;obtain⟨c0,c1,c2,c3,c4,c5,c6,c7⟩:=ownT_cells HOW.out HX1.out.1;obtain⟨e0,e1,e2,e3,e4,e5,e6,e7⟩:=ownT_cells HOW.out HX1.out.2;have f0:=World.ownsRow.frozenAt HOW.out (k*8);have f1:=World.ownsRow.frozenAt HOW.out (k*8+1);have f2:=World.ownsRow.frozenAt HOW.out (k*8+2);have f3:=World.ownsRow.frozenAt HOW.out (k*8+3);have f4:=World.ownsRow.frozenAt HOW.out (k*8+4);have f5:=World.ownsRow.frozenAt HOW.out (k*8+5);have f6:=World.ownsRow.frozenAt HOW.out (k*8+6);have f7:=World.ownsRow.frozenAt HOW.out (k*8+7);have f8:=World.ownsRow.frozenAt HOW.out ((k+1)*8);have f9:=World.ownsRow.frozenAt HOW.out ((k+1)*8+1);have f10:=World.ownsRow.frozenAt HOW.out ((k+1)*8+2);have f11:=World.ownsRow.frozenAt HOW.out ((k+1)*8+3);have f12:=World.ownsRow.frozenAt HOW.out ((k+1)*8+4);have f13:=World.ownsRow.frozenAt HOW.out ((k+1)*8+5);have f14:=World.ownsRow.frozenAt HOW.out ((k+1)*8+6);have f15:=World.ownsRow.frozenAt HOW.out ((k+1)*8+7)
     go_wp2_with fail
     go_region
     all_goals go_wp2
     all_goals clear c0 c1 c2 c3 c4 c5 c6 c7 e0 e1 e2 e3 e4 e5 e6 e7
     all_goals clear f0 f1 f2 f3 f4 f5 f6 f7 f8 f9 f10 f11 f12 f13 f14 f15
     all_goals clear hw1
     all_goals go_roundg (G - 1)
     case rel=>
      have hlk:k < mm.length:=by rw [HM.out];exact hkn
      have hlk1:k+1 < mm.length:=by rw [HM.out];exact hkn1
      refine⟨k+1,swapL mm k (k+1),by go_num,HK2.out.1,HK2.out.2.1,by rw [swapL_len];exact HM.out,?_,?_,?_⟩
      ·rw [←HE.out,HK2.out.2.2.2];rfl
      ·unfold swapL;rw [←HXY.out.1,←HXY.out.2]
       with_reducible exact ownT_drew (ownT_store (ownT_store HOW.out k hlk y) (k+1) (by rw [List.length_set];exact hlk1) x)
      ·with_reducible exact(below_store (below_store HB.out HGB.out k y) HGB.out (k+1) x).drew
     case measure=>exact HK2.out.2.2.1
    ·have h0z:decide ((k:Int) < (J:Int))=false:=by simp;omega
     have h0n:decide (k < J)=false:=by simp;omega
     have hG:G=0:=by have:=HK.out;omega
     have HE3:=HE.out;rw [hG]at HE3;have HE3:=zz HE3
     go_wp2_with fail
     exact bodyPost_ret (v:=.tuple #[]) (by simp [results,Tryz.results199,go_sem]) rfl ⟨rfl,by rw [show J+1 - 1 - a=J - a by omega,←HE3.out];exact HOW.out,HB.out⟩
set_option maxRecDepth 100000 in
theorem symB_any (gf:FuncId) (c:TnD→TnD→Int) (P:TnD→Prop) (hc:CmpP gf c P) (heg:∀(a:Array Value) (W:World),Sem.run Tryz.prog (callFunc gf a) W=.ok (.enter gf a) W)
  (a m b n cap g base:Nat) (l:List TnD) (w:World) (hl:l.length=n) (hn:n≤1000000) (ham:a < m) (hmb:m < b) (hbn:b≤n) (hP:∀x∈l,P x) (hv:ownT w base g cap n l) (hbase:base≤w.heap.size) (h1:m≠a+1) (h2:b=m+1):
  Calls Tryz.prog 199 #[.slice (some ⟨g,0,none⟩) n cap,.int .i64 a,.int .i64 m,.int .i64 b,.func (.func gf) #[] #[]] w fun e w'=>e=.returned (.tuple #[])∧ownT w' base g cap n (bubD (m - bsN (pB c l m) (m - a) a m) m l)∧Below base w w':=by
 have HC:=zz hc;have HGB:=zz (show base≤g from(World.ownsRow.lt hv g (by simp [Value.ownBlock])).1);have HP:=zz hP;have HLN:=zz hl;have HOW0:=zz hv;have HB0:=zz (Below.refl base w);clear hc hv hP hl;obtain⟨I0,hI0⟩:∃I0,I0=bsN (pB c l m) (m - a) a m:=⟨_,rfl⟩;have hIr:=bsN_range (pB c l m) (m - a) a m (by omega);rw [←hI0]at hIr⊢;have HR:=zz hI0;have hIb:=hIr.2;have hIa:=hIr.1;have d1:((m:Int) - (a:Int)==1)=false:=by simp;omega
 have d2:((b:Int) - (m:Int)==1)=true:=by simp;omega
 have hbm:(b:Int) - (m:Int)=1:=by omega
 have hmn:m < n:=by omega
 have hmnz:(m:Int) < (n:Int):=by omega
 clear hI0 hIr h1 h2;go_enter Tryz.func199,Tryz.ntmps199
 go_wp2_with fail
 clear hbm
 go_loopg [14,15] (m - a) (fun gn t14 t15 wr=>∃(i j:Nat),t14=.int .i64 i∧t15=.int .i64 j∧a≤i∧i≤j∧j≤m∧j - i≤gn∧bsN (pB c l m) gn i j=I0∧ownT wr base g cap n l∧Below base w wr)
 case atStart=>exact⟨a,m,by first|rfl|go_num,by first|rfl|go_num,Nat.le_refl _,by omega,Nat.le_refl _,Nat.le_refl _,HR.out.symm,HOW0.out,HB0.out⟩
 case round=>
  obtain⟨G,rfl⟩:∃G,G=gk:=⟨_,rfl⟩;obtain⟨i,j,rfl,rfl,hi1,hi2,hi3,hf,he,hown,hbel⟩:=hrel;have HE:=zz he;have HOW:=zz hown;have HB:=zz hbel;clear he hown hbel
  by_cases hij:i < j
  ·have dij:decide ((i:Int) < (j:Int))=true:=by simp;omega
   have dijn:decide (i < j)=true:=by simp;omega
   obtain⟨h,hh⟩:∃h,h=(i+j) / 2:=⟨_,rfl⟩;have hh1:i≤h∧h < j:=by omega
   have hhz:((i:Int)+(j:Int)) / 2=(h:Int):=by rw [hh];simp
   have HH:=zz hh;have HF:=zz (show∃f,G=f+1 from⟨G - 1,by omega⟩);clear hh;have hhn:h < n:=by omega
   have hhnz:(h:Int) < (n:Int):=by omega
   obtain⟨x,hx⟩:∃x,x=l.getD m dTn:=⟨_,rfl⟩;obtain⟨y,hy⟩:∃y,y=l.getD h dTn:=⟨_,rfl⟩;have HX1:=zz (show l[m]? =some x∧l[h]? =some y from⟨by rw [hx];exact getD_at (by rw [HLN.out];omega),by rw [hy];exact getD_at (by rw [HLN.out];omega)⟩);have HXY:=zz (And.intro hx hy);clear hx hy;have hcall:=zz (fun W=>HC.out x y (HP.out x (List.mem_of_getElem? HX1.out.1)) (HP.out y (List.mem_of_getElem? HX1.out.2)) W);obtain⟨c0,c1,c2,c3,c4,c5,c6,c7⟩:=ownT_cells HOW.out HX1.out.1;obtain⟨e0,e1,e2,e3,e4,e5,e6,e7⟩:=ownT_cells HOW.out HX1.out.2;have hstep:=zz (show((pB c l m) h=true↔0≤c x y)from by rw [HXY.out.1,HXY.out.2];exact decide_eq_true_iff.trans Int.not_lt)
   go_wp2_with fail
   go_region_held3 (fun w'=>w'.cell? ⟨g,m*8,none⟩=some (.string x.node.a)∧w'.cell? ⟨g,m*8+1,none⟩=some (.int .i64 x.node.n)∧w'.cell? ⟨g,m*8+2,none⟩=some (.string x.parent.a)∧w'.cell? ⟨g,m*8+3,none⟩=some (.int .i64 x.parent.n)∧w'.cell? ⟨g,m*8+4,none⟩=some (.bool x.neg)∧w'.cell? ⟨g,m*8+5,none⟩=some (.string x.num)∧w'.cell? ⟨g,m*8+6,none⟩=some (.string x.den)∧w'.cell? ⟨g,m*8+7,none⟩=some (.string x.kind)∧w'.cell? ⟨g,h*8,none⟩=some (.string y.node.a)∧w'.cell? ⟨g,h*8+1,none⟩=some (.int .i64 y.node.n)∧w'.cell? ⟨g,h*8+2,none⟩=some (.string y.parent.a)∧w'.cell? ⟨g,h*8+3,none⟩=some (.int .i64 y.parent.n)∧w'.cell? ⟨g,h*8+4,none⟩=some (.bool y.neg)∧w'.cell? ⟨g,h*8+5,none⟩=some (.string y.num)∧w'.cell? ⟨g,h*8+6,none⟩=some (.string y.den)∧w'.cell? ⟨g,h*8+7,none⟩=some (.string y.kind)) (first|go_keep|exact⟨keep1 hb1 c0,keep1 hb1 c1,keep1 hb1 c2,keep1 hb1 c3,keep1 hb1 c4,keep1 hb1 c5,keep1 hb1 c6,keep1 hb1 c7,keep1 hb1 e0,keep1 hb1 e1,keep1 hb1 e2,keep1 hb1 e3,keep1 hb1 e4,keep1 hb1 e5,keep1 hb1 e6,keep1 hb1 e7⟩)
    (first
     |(refine(hcall.out _).mono ?_;rintro e w1 ⟨rfl,hb1⟩))
   have hbel1:Below base w w1:=HB.out.trans ((Below_drew_left' hb1).mono (Nat.le_trans hbase HB.out.size));have hown1:ownT w1 base g cap n l:=ownsRow_below (w:=wr.drew) HOW.out hb1;have HB1:=zz hbel1;have HO1:=zz hown1;clear c0 c1 c2 c3 c4 c5 c6 c7 e0 e1 e2 e3 e4 e5 e6 e7;clear hb1 hbel1 hown1 hcall;obtain⟨f,hff⟩:=HF.out;have hf1:j - (h+1)≤f∧h - i≤f∧h+1≤j∧f < G:=by omega
   have HFF:=zz (And.intro hff hf1);clear hff hf1 hf
   by_cases hlt:c x y < 0
   ·have HQ:=zz (show(pB c l m) h=false from by cases hq:(pB c l m) h with|false=>rfl|true=>exact absurd hlt (Int.not_lt.2 (hstep.out.1 hq)));have HLT:=zz hlt;clear hlt
    go_wp2_with fail
    ·rename_i hn;exact absurd hn (by rw [decide_eq_true HLT.out];decide)
    ·go_roundg f
     case rel=>exact⟨i,h,rfl,rfl,hi1,hh1.1,by omega,HFF.out.2.2.1,by rw [←HE.out,HFF.out.1,HH_bs HH.out hij,HQ.out];rfl,HO1.out,HB1.out⟩
     case measure=>exact HFF.out.2.2.2.2
   ·have HQ:=zz (show(pB c l m) h=true from hstep.out.2 (Int.not_lt.1 hlt));have HLT:=zz (decide_eq_false hlt);skip
    clear hlt
    go_wp2_with fail
    ·go_roundg f
     case rel=>exact⟨h+1,j,by go_num,rfl,by omega,HFF.out.2.2.2.1,hi3,HFF.out.2.1,by rw [←HE.out,HFF.out.1,HH_bs HH.out hij,HQ.out];rfl,HO1.out,HB1.out⟩
     case measure=>exact HFF.out.2.2.2.2
    ·rename_i hn;exact absurd hn (by rw [HLT.out];decide)
  ·obtain rfl:j=i:=by omega
   have dij:decide ((j:Int) < (j:Int))=false:=by simp
   have hres:=HE.out;rw [bsN_self]at hres;subst hres
   go_wp2_with fail
   go_loopg [17] (m - j) (fun gn t17 wr=>∃(k:Nat) (mm:List TnD),t17=.int .i64 k∧j+gn=k∧k≤m∧mm.length=n∧bubD gn k mm=bubD (m - j) m l∧ownT wr base g cap n mm∧Below base w wr)
   case atStart=>exact⟨m,l,rfl,by omega,Nat.le_refl _,HLN.out,rfl,HOW.out,HB.out⟩
   case round=>
    obtain⟨G,rfl⟩:∃G,G=gk:=⟨_,rfl⟩;obtain⟨k,mm,rfl,hk,hak,hm,he,hown,hbel⟩:=hrel;have HE:=zz he;have HOW:=zz hown;have HB:=zz hbel;have HM:=zz hm;have HK:=zz hk;clear he hown hbel hm hk
    by_cases h0:j < k
    ·obtain⟨K,rfl⟩:∃K,k=K+1:=⟨k - 1,by omega⟩;have h0z:decide ((j:Int) < (K:Int)+1)=true:=by simp;omega
     have h0n:decide (j < K+1)=true:=by simp;omega
     obtain⟨x,hx⟩:∃x,x=mm.getD (K+1) dTn:=⟨_,rfl⟩;obtain⟨y,hy⟩:∃y,y=mm.getD K dTn:=⟨_,rfl⟩;have hkn:K < n:=by omega
     have hkn1:K+1 < n:=by omega
     have hkz:(K:Int) < (n:Int):=by omega
     have hkz1:(K:Int)+1 < (n:Int):=by omega
     have hk2:(0:Int)≤(K:Int)+1:=by omega
     have hw1:IntKind.i64.wrap (K:Int)=(K:Int):=i64wS _ (by omega) (by omega);have HX1:=zz (show mm[K+1]? =some x∧mm[K]? =some y from⟨by rw [hx];exact getD_at (by rw [HM.out];exact hkn1),by rw [hy];exact getD_at (by rw [HM.out];exact hkn)⟩);have HXY:=zz (And.intro hx hy);have HK2:=zz (show j+(G - 1)=K∧K≤m∧G - 1 < G∧G=G - 1+1 by have:=HK.out;omega);clear hx hy;obtain⟨c0,c1,c2,c3,c4,c5,c6,c7⟩:=ownT_cells HOW.out HX1.out.1;obtain⟨e0,e1,e2,e3,e4,e5,e6,e7⟩:=ownT_cells HOW.out HX1.out.2;have f0:=World.ownsRow.frozenAt HOW.out ((K+1)*8);have f1:=World.ownsRow.frozenAt HOW.out ((K+1)*8+1);have f2:=World.ownsRow.frozenAt HOW.out ((K+1)*8+2);have f3:=World.ownsRow.frozenAt HOW.out ((K+1)*8+3);have f4:=World.ownsRow.frozenAt HOW.out ((K+1)*8+4);have f5:=World.ownsRow.frozenAt HOW.out ((K+1)*8+5);have f6:=World.ownsRow.frozenAt HOW.out ((K+1)*8+6);have f7:=World.ownsRow.frozenAt HOW.out ((K+1)*8+7);have f8:=World.ownsRow.frozenAt HOW.out (K*8);have f9:=World.ownsRow.frozenAt HOW.out (K*8+1);have f10:=World.ownsRow.frozenAt HOW.out (K*8+2);have f11:=World.ownsRow.frozenAt HOW.out (K*8+3);have f12:=World.ownsRow.frozenAt HOW.out (K*8+4);have f13:=World.ownsRow.frozenAt HOW.out (K*8+5);have f14:=World.ownsRow.frozenAt HOW.out (K*8+6);have f15:=World.ownsRow.frozenAt HOW.out (K*8+7)
     go_wp2_with fail
     go_region
     all_goals go_wp2
     all_goals clear c0 c1 c2 c3 c4 c5 c6 c7 e0 e1 e2 e3 e4 e5 e6 e7
     all_goals clear f0 f1 f2 f3 f4 f5 f6 f7 f8 f9 f10 f11 f12 f13 f14 f15
     all_goals clear hw1
     all_goals go_roundg (G - 1)
     case rel=>
      have hlk:K < mm.length:=by rw [HM.out];exact hkn
      have hlk1:K+1 < mm.length:=by rw [HM.out];exact hkn1
      refine⟨K,swapL mm (K+1) K,by first|rfl|go_num,HK2.out.1,HK2.out.2.1,by rw [swapL_len];exact HM.out,?_,?_,?_⟩
      ·rw [←HE.out,HK2.out.2.2.2];rfl
      ·unfold swapL;rw [←HXY.out.1,←HXY.out.2]
       with_reducible exact ownT_drew (ownT_store (ownT_store HOW.out (K+1) hlk1 y) K (by rw [List.length_set];exact hlk) x)
      ·with_reducible exact(below_store (below_store HB.out HGB.out (K+1) y) HGB.out K x).drew
     case measure=>exact HK2.out.2.2.1
    ·have h0z:decide ((j:Int) < (k:Int))=false:=by simp;omega
     have h0n:decide (j < k)=false:=by simp;omega
     have hG:G=0:=by have:=HK.out;omega
     have HE3:=HE.out;rw [hG]at HE3;have HE3:=zz HE3
     go_wp2_with fail
     exact bodyPost_ret (v:=.tuple #[]) (by simp [results,Tryz.results199,go_sem]) rfl ⟨rfl,by rw [←HE3.out];exact HOW.out,HB.out⟩
end Go.Proofs.YteigcnamkfebgaaGreatDoor
