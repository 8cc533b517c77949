import Derived.Test.YteigcnamkfebgaaGreatDoorM
import Derived.Deep.RegionLaw
set_option linter.all false
set_option maxHeartbeats 25600000
namespace Go.Proofs.YteigcnamkfebgaaGreatDoor
open Go.RowKit
def CmpF (g:FuncId) (c:TnD→TnD→Int) (l:List TnD):Prop:=∀(x y:TnD),l= [x,y]→∀(W:World),Calls Tryz.prog g #[.agg (tnV y).toArray,.agg (tnV x).toArray] W fun e W'=>e=.returned (.int .i64 (c y x))∧Below W.heap.size W W'
def sort2 (c:TnD→TnD→Int):List TnD→List TnD
 | [x,y]=>if c y x < 0 then [y,x]else [x,y]
 |l=>l
theorem sort2_lt {c:TnD→TnD→Int} {x y:TnD} (h:c y x < 0):sort2 c [x,y]= [y,x]:=by simp [sort2,h]
theorem sort2_ge {c:TnD→TnD→Int} {x y:TnD} (h:¬c y x < 0):sort2 c [x,y]= [x,y]:=by simp [sort2,h]
theorem insSmall_any (gf:FuncId) (v:Value) (n:Nat) (w:World) (hn:n≤1):Calls Tryz.prog 154 #[v,.int .i64 0,.int .i64 n,.func (.func gf) #[] #[]] w fun e w'=>e=.returned (.tuple #[])∧w=w':=by
 have hd:decide ((1:Int) < (n:Int))=false:=by simp;omega
 go_enter Tryz.func154,Tryz.ntmps154
 go_wp2;refine wp_loop_rounds 1 ?_;rw [rounds_succ];go_wp2;go_end0
 exact⟨rfl,rfl⟩
set_option maxRecDepth 100000 in
theorem ins2_any (gf:FuncId) (c:TnD→TnD→Int) (x y:TnD) (g cap base:Nat) (w:World) (hv:w.ownsRow base 55 8 (.slice (some ⟨g,0,none⟩) 2 cap) 2 (tnY.flat [x,y])) (hbase:base≤w.heap.size)
  (heg:∀(a:Array Value) (W:World),Sem.run Tryz.prog (callFunc gf a) W=.ok (.enter gf a) W) (hc:CmpF gf c [x,y]):
  Calls Tryz.prog 154 #[.slice (some ⟨g,0,none⟩) 2 cap,.int .i64 0,.int .i64 2,.func (.func gf) #[] #[]] w fun e w'=>e=.returned (.tuple #[])∧w'.ownsRow base 55 8 (.slice (some ⟨g,0,none⟩) 2 cap) 2 (tnY.flat (sort2 c [x,y]))∧Below base w w':=by
 have HC:=zz hc;clear hc;have hgb:base≤g:=(hv.lt g (by simp [Value.ownBlock])).1;go_enter Tryz.func154,Tryz.ntmps154
 go_wp2
 go_loopg [8] 1 (fun gn t wr=>(gn=1∧t=.int .i64 1∧wr=w)∨(gn=0∧t=.int .i64 2∧wr.ownsRow base 55 8 (.slice (some ⟨g,0,none⟩) 2 cap) 2 (tnY.flat (sort2 c [x,y]))∧Below base w wr))
 case atStart=>exact .inl ⟨rfl,rfl,rfl⟩
 case round=>
  obtain⟨G,rfl⟩:∃G,G=gk:=⟨_,rfl⟩
  rcases hrel with⟨hG,rfl,rfl⟩|⟨hG,rfl,hown,hbel⟩
  ·subst hG;go_wp2
   go_loopg [9] 1 (fun gm t wq=>(gm=1∧t=.int .i64 1∧wq=wr)∨(gm=0∧t=.int .i64 0∧c y x < 0∧wq.ownsRow base 55 8 (.slice (some ⟨g,0,none⟩) 2 cap) 2 (tnY.flat [y,x])∧Below base wr wq))
   case atStart=>exact .inl ⟨rfl,rfl,rfl⟩
   case round=>
    obtain⟨G2,rfl⟩:∃G2,G2=gk:=⟨_,rfl⟩
    rcases hrel with⟨hM,rfl,rfl⟩|⟨hM,rfl,hlt,hown,hbel⟩
    ·subst hM;have hra:=ownsRow_rangeAt hv;have c0:wr.cell? ⟨g,0,none⟩=some (.string x.node.a):=by have:=hra 0 _ rfl;rwa [Nat.zero_add]at this
     have c1:wr.cell? ⟨g,1,none⟩=some (.int .i64 x.node.n):=by have:=hra 1 _ rfl;rwa [Nat.zero_add]at this
     have c2:wr.cell? ⟨g,2,none⟩=some (.string x.parent.a):=by have:=hra 2 _ rfl;rwa [Nat.zero_add]at this
     have c3:wr.cell? ⟨g,3,none⟩=some (.int .i64 x.parent.n):=by have:=hra 3 _ rfl;rwa [Nat.zero_add]at this
     have c4:wr.cell? ⟨g,4,none⟩=some (.bool x.neg):=by have:=hra 4 _ rfl;rwa [Nat.zero_add]at this
     have c5:wr.cell? ⟨g,5,none⟩=some (.string x.num):=by have:=hra 5 _ rfl;rwa [Nat.zero_add]at this
     have c6:wr.cell? ⟨g,6,none⟩=some (.string x.den):=by have:=hra 6 _ rfl;rwa [Nat.zero_add]at this
     have c7:wr.cell? ⟨g,7,none⟩=some (.string x.kind):=by have:=hra 7 _ rfl;rwa [Nat.zero_add]at this
     have c8:wr.cell? ⟨g,8,none⟩=some (.string y.node.a):=by have:=hra 8 _ rfl;rwa [Nat.zero_add]at this
     have c9:wr.cell? ⟨g,9,none⟩=some (.int .i64 y.node.n):=by have:=hra 9 _ rfl;rwa [Nat.zero_add]at this
     have c10:wr.cell? ⟨g,10,none⟩=some (.string y.parent.a):=by have:=hra 10 _ rfl;rwa [Nat.zero_add]at this
     have c11:wr.cell? ⟨g,11,none⟩=some (.int .i64 y.parent.n):=by have:=hra 11 _ rfl;rwa [Nat.zero_add]at this
     have c12:wr.cell? ⟨g,12,none⟩=some (.bool y.neg):=by have:=hra 12 _ rfl;rwa [Nat.zero_add]at this
     have c13:wr.cell? ⟨g,13,none⟩=some (.string y.num):=by have:=hra 13 _ rfl;rwa [Nat.zero_add]at this
     have c14:wr.cell? ⟨g,14,none⟩=some (.string y.den):=by have:=hra 14 _ rfl;rwa [Nat.zero_add]at this
     have c15:wr.cell? ⟨g,15,none⟩=some (.string y.kind):=by have:=hra 15 _ rfl;rwa [Nat.zero_add]at this
     have lg:=block_lt_of_cell c0;clear hra;have e0:IntKind.i64.wrap ((1:Int) - 1)=0:=by rfl
     have e1:IntKind.i64.wrap (0:Int)=0:=by rfl
     go_wp2_with fail
     go_region_held3 (fun w'=>w'.cell? ⟨g,0,none⟩=some (.string x.node.a)∧w'.cell? ⟨g,1,none⟩=some (.int .i64 x.node.n)∧w'.cell? ⟨g,2,none⟩=some (.string x.parent.a)∧w'.cell? ⟨g,3,none⟩=some (.int .i64 x.parent.n)∧w'.cell? ⟨g,4,none⟩=some (.bool x.neg)∧w'.cell? ⟨g,5,none⟩=some (.string x.num)∧w'.cell? ⟨g,6,none⟩=some (.string x.den)∧w'.cell? ⟨g,7,none⟩=some (.string x.kind)∧w'.cell? ⟨g,8,none⟩=some (.string y.node.a)∧w'.cell? ⟨g,9,none⟩=some (.int .i64 y.node.n)∧w'.cell? ⟨g,10,none⟩=some (.string y.parent.a)∧w'.cell? ⟨g,11,none⟩=some (.int .i64 y.parent.n)∧w'.cell? ⟨g,12,none⟩=some (.bool y.neg)∧w'.cell? ⟨g,13,none⟩=some (.string y.num)∧w'.cell? ⟨g,14,none⟩=some (.string y.den)∧w'.cell? ⟨g,15,none⟩=some (.string y.kind)) (first|go_keep|exact⟨(hb1.cell (p:=⟨g,0,none⟩) lg).trans c0,(hb1.cell (p:=⟨g,1,none⟩) lg).trans c1,(hb1.cell (p:=⟨g,2,none⟩) lg).trans c2,(hb1.cell (p:=⟨g,3,none⟩) lg).trans c3,(hb1.cell (p:=⟨g,4,none⟩) lg).trans c4,(hb1.cell (p:=⟨g,5,none⟩) lg).trans c5,(hb1.cell (p:=⟨g,6,none⟩) lg).trans c6,(hb1.cell (p:=⟨g,7,none⟩) lg).trans c7,(hb1.cell (p:=⟨g,8,none⟩) lg).trans c8,(hb1.cell (p:=⟨g,9,none⟩) lg).trans c9,(hb1.cell (p:=⟨g,10,none⟩) lg).trans c10,(hb1.cell (p:=⟨g,11,none⟩) lg).trans c11,(hb1.cell (p:=⟨g,12,none⟩) lg).trans c12,(hb1.cell (p:=⟨g,13,none⟩) lg).trans c13,(hb1.cell (p:=⟨g,14,none⟩) lg).trans c14,(hb1.cell (p:=⟨g,15,none⟩) lg).trans c15⟩)
      (first
       |(refine(HC.out x y rfl _).mono ?_;rintro e w1 ⟨rfl,hb1⟩))
     have hbel1:Below base wr w1:=(Below.refl base wr).drew.trans (hb1.mono hbase);have hv1:w1.ownsRow base 55 8 (.slice (some ⟨g,0,none⟩) 2 cap) 2 (tnY.flat [x,y]):=ownsRow_below (w:=wr.drew) hv hb1;have hsz1:base≤w1.heap.size:=Nat.le_trans hbase hb1.size;clear c0 c1 c2 c3 c4 c5 c6 c7 c8 c9 c10 c11 c12 c13 c14 c15 lg hb1
     by_cases hlt:c y x < 0
     ·have hra:=ownsRow_rangeAt hv1;have c0:w1.cell? ⟨g,0,none⟩=some (.string x.node.a):=by have:=hra 0 _ rfl;rwa [Nat.zero_add]at this
      have c1:w1.cell? ⟨g,1,none⟩=some (.int .i64 x.node.n):=by have:=hra 1 _ rfl;rwa [Nat.zero_add]at this
      have c2:w1.cell? ⟨g,2,none⟩=some (.string x.parent.a):=by have:=hra 2 _ rfl;rwa [Nat.zero_add]at this
      have c3:w1.cell? ⟨g,3,none⟩=some (.int .i64 x.parent.n):=by have:=hra 3 _ rfl;rwa [Nat.zero_add]at this
      have c4:w1.cell? ⟨g,4,none⟩=some (.bool x.neg):=by have:=hra 4 _ rfl;rwa [Nat.zero_add]at this
      have c5:w1.cell? ⟨g,5,none⟩=some (.string x.num):=by have:=hra 5 _ rfl;rwa [Nat.zero_add]at this
      have c6:w1.cell? ⟨g,6,none⟩=some (.string x.den):=by have:=hra 6 _ rfl;rwa [Nat.zero_add]at this
      have c7:w1.cell? ⟨g,7,none⟩=some (.string x.kind):=by have:=hra 7 _ rfl;rwa [Nat.zero_add]at this
      have c8:w1.cell? ⟨g,8,none⟩=some (.string y.node.a):=by have:=hra 8 _ rfl;rwa [Nat.zero_add]at this
      have c9:w1.cell? ⟨g,9,none⟩=some (.int .i64 y.node.n):=by have:=hra 9 _ rfl;rwa [Nat.zero_add]at this
      have c10:w1.cell? ⟨g,10,none⟩=some (.string y.parent.a):=by have:=hra 10 _ rfl;rwa [Nat.zero_add]at this
      have c11:w1.cell? ⟨g,11,none⟩=some (.int .i64 y.parent.n):=by have:=hra 11 _ rfl;rwa [Nat.zero_add]at this
      have c12:w1.cell? ⟨g,12,none⟩=some (.bool y.neg):=by have:=hra 12 _ rfl;rwa [Nat.zero_add]at this
      have c13:w1.cell? ⟨g,13,none⟩=some (.string y.num):=by have:=hra 13 _ rfl;rwa [Nat.zero_add]at this
      have c14:w1.cell? ⟨g,14,none⟩=some (.string y.den):=by have:=hra 14 _ rfl;rwa [Nat.zero_add]at this
      have c15:w1.cell? ⟨g,15,none⟩=some (.string y.kind):=by have:=hra 15 _ rfl;rwa [Nat.zero_add]at this
      have f0:w1.frozen? ⟨g,0,none⟩=false:=hv1.frozenAt 0;have f1:w1.frozen? ⟨g,1,none⟩=false:=hv1.frozenAt 1;have f2:w1.frozen? ⟨g,2,none⟩=false:=hv1.frozenAt 2;have f3:w1.frozen? ⟨g,3,none⟩=false:=hv1.frozenAt 3;have f4:w1.frozen? ⟨g,4,none⟩=false:=hv1.frozenAt 4;have f5:w1.frozen? ⟨g,5,none⟩=false:=hv1.frozenAt 5;have f6:w1.frozen? ⟨g,6,none⟩=false:=hv1.frozenAt 6;have f7:w1.frozen? ⟨g,7,none⟩=false:=hv1.frozenAt 7;have f8:w1.frozen? ⟨g,8,none⟩=false:=hv1.frozenAt 8;have f9:w1.frozen? ⟨g,9,none⟩=false:=hv1.frozenAt 9;have f10:w1.frozen? ⟨g,10,none⟩=false:=hv1.frozenAt 10;have f11:w1.frozen? ⟨g,11,none⟩=false:=hv1.frozenAt 11;have f12:w1.frozen? ⟨g,12,none⟩=false:=hv1.frozenAt 12;have f13:w1.frozen? ⟨g,13,none⟩=false:=hv1.frozenAt 13;have f14:w1.frozen? ⟨g,14,none⟩=false:=hv1.frozenAt 14;have f15:w1.frozen? ⟨g,15,none⟩=false:=hv1.frozenAt 15;have hq0:=hv1;have hq1:=(hq0.stored 8 (.string x.node.a)).1;have hq2:=(hq1.stored 9 (.int .i64 x.node.n)).1;have hq3:=(hq2.stored 10 (.string x.parent.a)).1;have hq4:=(hq3.stored 11 (.int .i64 x.parent.n)).1;have hq5:=(hq4.stored 12 (.bool x.neg)).1;have hq6:=(hq5.stored 13 (.string x.num)).1;have hq7:=(hq6.stored 14 (.string x.den)).1;have hq8:=(hq7.stored 15 (.string x.kind)).1;have hq9:=(hq8.stored 0 (.string y.node.a)).1;have hq10:=(hq9.stored 1 (.int .i64 y.node.n)).1;have hq11:=(hq10.stored 2 (.string y.parent.a)).1;have hq12:=(hq11.stored 3 (.int .i64 y.parent.n)).1;have hq13:=(hq12.stored 4 (.bool y.neg)).1;have hq14:=(hq13.stored 5 (.string y.num)).1;have hq15:=(hq14.stored 6 (.string y.den)).1;have hq16:=(hq15.stored 7 (.string y.kind)).1;have HOWN:=zz (show((((((((((((((((((w1).setCell ⟨g,8,none⟩ (.string x.node.a)).setCell ⟨g,9,none⟩ (.int .i64 x.node.n)).setCell ⟨g,10,none⟩ (.string x.parent.a)).setCell ⟨g,11,none⟩ (.int .i64 x.parent.n)).setCell ⟨g,12,none⟩ (.bool x.neg)).setCell ⟨g,13,none⟩ (.string x.num)).setCell ⟨g,14,none⟩ (.string x.den)).setCell ⟨g,15,none⟩ (.string x.kind)).setCell ⟨g,0,none⟩ (.string y.node.a)).setCell ⟨g,1,none⟩ (.int .i64 y.node.n)).setCell ⟨g,2,none⟩ (.string y.parent.a)).setCell ⟨g,3,none⟩ (.int .i64 y.parent.n)).setCell ⟨g,4,none⟩ (.bool y.neg)).setCell ⟨g,5,none⟩ (.string y.num)).setCell ⟨g,6,none⟩ (.string y.den)).setCell ⟨g,7,none⟩ (.string y.kind)).drew).ownsRow base 55 8 (.slice (some ⟨g,0,none⟩) 2 cap) 2 (tnY.flat [y,x])from hq16.drew);have hbl:Below base wr ((((((((((((((((((w1).setCell ⟨g,8,none⟩ (.string x.node.a)).setCell ⟨g,9,none⟩ (.int .i64 x.node.n)).setCell ⟨g,10,none⟩ (.string x.parent.a)).setCell ⟨g,11,none⟩ (.int .i64 x.parent.n)).setCell ⟨g,12,none⟩ (.bool x.neg)).setCell ⟨g,13,none⟩ (.string x.num)).setCell ⟨g,14,none⟩ (.string x.den)).setCell ⟨g,15,none⟩ (.string x.kind)).setCell ⟨g,0,none⟩ (.string y.node.a)).setCell ⟨g,1,none⟩ (.int .i64 y.node.n)).setCell ⟨g,2,none⟩ (.string y.parent.a)).setCell ⟨g,3,none⟩ (.int .i64 y.parent.n)).setCell ⟨g,4,none⟩ (.bool y.neg)).setCell ⟨g,5,none⟩ (.string y.num)).setCell ⟨g,6,none⟩ (.string y.den)).setCell ⟨g,7,none⟩ (.string y.kind)).drew):=((Below.setCell ((Below.setCell ((Below.setCell ((Below.setCell ((Below.setCell ((Below.setCell ((Below.setCell ((Below.setCell ((Below.setCell ((Below.setCell ((Below.setCell ((Below.setCell ((Below.setCell ((Below.setCell ((Below.setCell ((Below.setCell (hbel1) (p:=⟨g,8,none⟩) hgb _)) (p:=⟨g,9,none⟩) hgb _)) (p:=⟨g,10,none⟩) hgb _)) (p:=⟨g,11,none⟩) hgb _)) (p:=⟨g,12,none⟩) hgb _)) (p:=⟨g,13,none⟩) hgb _)) (p:=⟨g,14,none⟩) hgb _)) (p:=⟨g,15,none⟩) hgb _)) (p:=⟨g,0,none⟩) hgb _)) (p:=⟨g,1,none⟩) hgb _)) (p:=⟨g,2,none⟩) hgb _)) (p:=⟨g,3,none⟩) hgb _)) (p:=⟨g,4,none⟩) hgb _)) (p:=⟨g,5,none⟩) hgb _)) (p:=⟨g,6,none⟩) hgb _)) (p:=⟨g,7,none⟩) hgb _)).drew;have HBL:=zz hbl;clear hra hv hv1 hbl hq0 hq1 hq2 hq3 hq4 hq5 hq6 hq7 hq8 hq9 hq10 hq11 hq12 hq13 hq14 hq15 hq16
      go_wp2_with fail
      go_region
      all_goals go_wp2
      all_goals go_roundg 0
      case rel=>exact .inr ⟨rfl,rfl,hlt,HOWN.out,HBL.out⟩
      case measure=>omega
     ·have hlt2:0≤c y x:=by omega
      have HLT:=zz hlt;clear hv;go_wp2
      go_roundg 0
      case rel=>exact .inr ⟨rfl,by go_num,by rw [sort2_ge (by have:=HLT.out;omega)];exact hv1,hbel1⟩
      case measure=>omega
    ·subst hM;have HLT:=zz hlt;clear hlt hv
     go_wp2_with fail
     go_quiet (fail)
     go_wp2
     go_roundg 0
     case rel=>exact .inr ⟨rfl,by go_num,by rw [sort2_lt HLT.out];exact hown,Below_drewN hbel _⟩
     case measure=>omega
  ·clear hv;go_wp2;go_end0
   exact⟨rfl,hown,hbel⟩
theorem sort2_len (c:TnD→TnD→Int) (l:List TnD):(sort2 c l).length=l.length:=by
 unfold sort2
 split
 ·split <;>rfl
 ·rfl
theorem insL_any (gf:FuncId) (c:TnD→TnD→Int) (l:List TnD) (hl:l.length≤2) (v:Value) (base:Nat) (w:World) (hv:w.ownsRow base 55 8 v l.length (tnY.flat l)) (hbase:base≤w.heap.size)
  (heg:∀(a:Array Value) (W:World),Sem.run Tryz.prog (callFunc gf a) W=.ok (.enter gf a) W) (hc:CmpF gf c l):
  Calls Tryz.prog 154 #[v,.int .i64 0,.int .i64 l.length,.func (.func gf) #[] #[]] w fun e w'=>e=.returned (.tuple #[])∧w'.ownsRow base 55 8 v l.length (tnY.flat (sort2 c l))∧Below base w w':=by
 rcases l with _|⟨x,_|⟨y,_|⟨z,r⟩⟩⟩
 ·refine(insSmall_any gf v 0 w (by omega)).mono ?_;rintro e w' ⟨rfl,rfl⟩;exact⟨rfl,hv,Below.refl _ _⟩
 ·refine(insSmall_any gf v 1 w (by omega)).mono ?_;rintro e w' ⟨rfl,rfl⟩;exact⟨rfl,hv,Below.refl _ _⟩
 ·obtain⟨g,cap,rfl⟩:∃g cap,v=.slice (some ⟨g,0,none⟩) 2 cap:=by
   rcases hv.2 with⟨_,h0⟩|⟨g,cap,cur,h1,_⟩
   ·simp at h0
   ·exact⟨g,cap,h1⟩
  exact ins2_any gf c x y g cap base w hv hbase heg hc
 ·simp at hl
theorem stable_any (gf:FuncId) (c:TnD→TnD→Int) (l:List TnD) (hl:l.length≤2) (v:Value) (base:Nat) (w:World) (hv:w.ownsRow base 55 8 v l.length (tnY.flat l)) (hbase:base≤w.heap.size)
  (heg:∀(a:Array Value) (W:World),Sem.run Tryz.prog (callFunc gf a) W=.ok (.enter gf a) W) (hc:CmpF gf c l):
  Calls Tryz.prog 170 #[v,.int .i64 l.length,.func (.func gf) #[] #[]] w fun e w'=>e=.returned (.tuple #[])∧w'.ownsRow base 55 8 v l.length (tnY.flat (sort2 c l))∧Below base w w':=by
 have H:=zz (insL_any gf c l hl v base w hv hbase heg hc);clear hc hv;generalize l.length=n at*
 have hd:decide ((20:Int)≤(n:Int))=false:=by simp;omega
 have hd2:decide ((20:Int) < (n:Int))=false:=by simp;omega
 go_enter Tryz.func170,Tryz.ntmps170
 go_wp2;refine wp_loop_rounds 1 ?_;rw [rounds_succ]
 go_wp2_with fail
 refine(H.out).mono ?_;rintro e w1 ⟨rfl,ho,hb⟩;go_wp2;refine wp_loop_rounds 1 ?_;rw [rounds_succ];go_wp2;go_end0
 exact⟨rfl,ho,hb⟩
theorem sortStable_any (gf:FuncId) (c:TnD→TnD→Int) (l:List TnD) (hl:l.length≤2) (v:Value) (base:Nat) (w:World) (hv:w.ownsRow base 55 8 v l.length (tnY.flat l)) (hbase:base≤w.heap.size)
  (heg:∀(a:Array Value) (W:World),Sem.run Tryz.prog (callFunc gf a) W=.ok (.enter gf a) W) (hc:CmpF gf c l):
  Calls Tryz.prog 129 #[v,.func (.func gf) #[] #[]] w fun e w'=>e=.returned (.tuple #[])∧w'.ownsRow base 55 8 v l.length (tnY.flat (sort2 c l))∧Below base w w':=by
 have H:=zz (stable_any gf c l hl v base w hv hbase heg hc);obtain⟨a,n,cc,rfl⟩:=(Lay.Rd.of_owns (Y:=tnY) hv).form;have hn:=(Lay.Rd.of_owns (Y:=tnY) hv).len;subst hn;clear hc hv;generalize l.length=n at*
 go_enter Tryz.func129,Tryz.ntmps129
 go_wp2_with fail
 refine(H.out).mono ?_;rintro e w1 ⟨rfl,ho,hb⟩;go_wp2;go_end0
 exact⟨rfl,ho,hb⟩
theorem pdq_any (gf:FuncId) (c:TnD→TnD→Int) (l:List TnD) (hl:l.length≤2) (v:Value) (lim:Int) (base:Nat) (w:World) (hv:w.ownsRow base 55 8 v l.length (tnY.flat l)) (hbase:base≤w.heap.size)
  (heg:∀(a:Array Value) (W:World),Sem.run Tryz.prog (callFunc gf a) W=.ok (.enter gf a) W) (hc:CmpF gf c l):
  Calls Tryz.prog 116 #[v,.int .i64 0,.int .i64 l.length,.int .i64 lim,.func (.func gf) #[] #[]] w fun e w'=>e=.returned (.tuple #[])∧w'.ownsRow base 55 8 v l.length (tnY.flat (sort2 c l))∧Below base w w':=by
 have H:=zz (insL_any gf c l hl v base w hv hbase heg hc);clear hc hv;generalize l.length=n at*
 have hw:wrap64 ((n:Int) - 0)=n:=by unfold wrap64;omega
 have hd:(n:Int)≤12:=by omega
 go_enter Tryz.func116,Tryz.ntmps116
 go_wp2;refine wp_loop_rounds 1 ?_;rw [rounds_succ]
 go_wp2_with fail
 refine(H.out).mono ?_;rintro e w1 ⟨rfl,ho,hb⟩;go_wp2;exact bodyPost_ret (v:=.tuple #[]) (by simp [results,Tryz.results116,go_sem]) rfl ⟨rfl,ho,hb⟩
set_option maxRecDepth 100000 in
theorem len64_any (n:Nat) (hn:n≤2) (w:World):Calls Tryz.prog 163 #[.int .u64 n] w fun e w'=>(∃m:Int,e=.returned (.int .i64 m))∧w=w':=by
 rcases(show n=0∨n=1∨n=2 by omega)with rfl|rfl|rfl
 ·go_enter Tryz.func163,Tryz.ntmps163
  go_wp2;go_ret
  exact⟨⟨_,rfl⟩,rfl⟩
 ·go_enter Tryz.func163,Tryz.ntmps163
  go_wp2;go_ret
  exact⟨⟨_,rfl⟩,rfl⟩
 ·go_enter Tryz.func163,Tryz.ntmps163
  go_wp2;go_ret
  exact⟨⟨_,rfl⟩,rfl⟩
theorem len_any (n:Nat) (hn:n≤2) (w:World):Calls Tryz.prog 117 #[.int .u64 n] w fun e w'=>(∃m:Int,e=.returned (.int .i64 m))∧w=w':=by
 have H:=zz (len64_any n hn w);have hu:IntKind.u64.wrap (n:Int)=n:=by rw [IntKind.wrap_u64];omega
 go_enter Tryz.func117,Tryz.ntmps117
 go_wp2_with fail
 refine(H.out).mono ?_;rintro e w1 ⟨⟨m,rfl⟩,rfl⟩;go_wp2;go_ret
 exact⟨⟨_,rfl⟩,rfl⟩
theorem sortFunc_any (gf:FuncId) (c:TnD→TnD→Int) (l:List TnD) (hl:l.length≤2) (v:Value) (base:Nat) (w:World) (hv:w.ownsRow base 55 8 v l.length (tnY.flat l)) (hbase:base≤w.heap.size)
  (heg:∀(a:Array Value) (W:World),Sem.run Tryz.prog (callFunc gf a) W=.ok (.enter gf a) W) (hc:CmpF gf c l):
  Calls Tryz.prog 73 #[v,.func (.func gf) #[] #[]] w fun e w'=>e=.returned (.tuple #[])∧w'.ownsRow base 55 8 v l.length (tnY.flat (sort2 c l))∧Below base w w':=by
 have H:=zz (fun lim=>pdq_any gf c l hl v lim base w hv hbase heg hc);have HL:=zz (len_any l.length hl w);obtain⟨a,n,cc,rfl⟩:=(Lay.Rd.of_owns (Y:=tnY) hv).form;have hn:=(Lay.Rd.of_owns (Y:=tnY) hv).len;subst hn;clear hc hv;generalize l.length=n at*
 have hu:IntKind.u64.wrap (n:Int)=n:=by rw [IntKind.wrap_u64];omega
 go_enter Tryz.func73,Tryz.ntmps73
 go_wp2_with fail
 refine(HL.out).mono ?_;rintro e w1 ⟨⟨m,rfl⟩,rfl⟩
 go_wp2_with fail
 refine(H.out m).mono ?_;rintro e w1 ⟨rfl,ho,hb⟩;go_wp2;go_end0
 exact⟨rfl,ho,hb⟩
end Go.Proofs.YteigcnamkfebgaaGreatDoor
