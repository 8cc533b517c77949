import Derived.Test.YteigcnamkfebgaaGreatDoorAT
set_option linter.all false
set_option maxHeartbeats 25600000
namespace Go.Proofs.YteigcnamkfebgaaGreatDoor
open Go.RowKit
def annI (n:Int):IdD:=⟨⟨#[97,110,110]⟩,n⟩
def edAdd (id:IdD) (clock:Int) (deps:SlV) (num value:ByteArray):EdD:=⟨id,clock,0,deps,1,rootI,rootI,false,num,⟨#[]⟩,⟨#[]⟩,value,rootI,⟨#[]⟩⟩
def edSet (id:IdD) (clock:Int) (deps:SlV) (field value:ByteArray):EdD:=⟨id,clock,0,deps,3,annI 1,rootI,false,⟨#[]⟩,⟨#[]⟩,field,value,rootI,⟨#[]⟩⟩
def ed1:EdD:=edAdd (annI 1) 1 SlV.nil ⟨#[]⟩ ⟨#[112,97,114,97,109]⟩
def edN (s:SlV):EdD:=edSet (annI 2) 2 s ⟨#[110,97,109,101]⟩ ⟨#[119]⟩
def edT (s:SlV):EdD:=edSet (annI 3) 3 s ⟨#[116,101,120,116]⟩ ⟨#[50,109,109]⟩
def ed4 (s:SlV):EdD:=edAdd (annI 4) 4 s ⟨#[1]⟩ ⟨#[109,105,114,114,111,114]⟩
def EA (s2 s3 s4:SlV):List EdP:= [⟨ed1, []⟩,⟨edN s2, [annI 1]⟩,⟨edT s3, [annI 2]⟩,⟨ed4 s4, [annI 3]⟩]
def RA:List RegP:= [⟨annI 1,⟨#[110,97,109,101]⟩, [⟨annI 2,2,⟨#[119]⟩⟩]⟩,⟨annI 1,⟨#[116,101,120,116]⟩, [⟨annI 3,3,⟨#[50,109,109]⟩⟩]⟩]
def RQ (fin:ByteArray):List RegP:= [⟨annI 1,⟨#[116,101,120,116]⟩, [⟨annI 3,3,fin⟩]⟩]
theorem get4 {E:Type} {a b c d e:E} {k:Nat} (h: [a,b,c,d][k]? =some e):(k=0∧e=a)∨(k=1∧e=b)∨(k=2∧e=c)∨(k=3∧e=d):=by
 match k,h with
 |0,h=>simp at h;exact .inl ⟨rfl,h.symm⟩
 |1,h=>simp at h;exact .inr (.inl ⟨rfl,h.symm⟩)
 |2,h=>simp at h;exact .inr (.inr (.inl ⟨rfl,h.symm⟩))
 |3,h=>simp at h;exact .inr (.inr (.inr ⟨rfl,h.symm⟩))
 |k+4,h=>simp at h
theorem StepOk.fresh {R:List RegP} {e:EdP} (h0:regThere R e.d=false) (h1:regAt R e.d=R.length):StepOk R e:=fun _=>⟨fun _=>h1,fun r _ h=>by rw [h0]at h;cases h⟩
theorem StepOk.there {R:List RegP} {e:EdP} {r0:RegP} (h0:regThere R e.d=true) (h1:R[regAt R e.d]? =some r0) (h2:bs (fun x=>cmpWr x (newW e.d)) (keptW e.d e.ids r0.w) 0 (keptW e.d e.ids r0.w).length=(keptW e.d e.ids r0.w).length) (h3:r0.w.length≤100000):StepOk R e:=
 fun _=>⟨fun h=>by(rw [h0]at h;cases h),fun r hr _=>by rw [h1]at hr;cases hr;exact⟨h2,h3⟩⟩
theorem StepOk.none {R:List RegP} {e:EdP} (h:e.d.kind=1):StepOk R e:=fun h3=>by rw [h]at h3;cases h3
theorem apply_alive (s2 s3 s4:SlV) (v:Value) (w:World) (hE:Edits w v (EA s2 s3 s4)):
  Calls Tryz.prog 15 #[.agg #[.slice none 0 0,.slice none 0 0],v] w fun e w'=>∃t1 t2:SlV,e=.returned (.agg #[.slice t1.a t1.len t1.cap,.slice t2.a t2.len t2.cap])∧tnY.Rd w' t1.v [node1,node4]∧RRegs w' t2.v RA∧Below w.heap.size w w':=by
 have hR:regRun (EA s2 s3 s4)=RA:=by kernel_rfl
 have h:=stApply_any (EA s2 s3 s4) v w hE (by simp [EA]) (by simp [EA]) [node1,node4] (by kernel_rfl) (by simp) ?_ ?_ ?_ (by kernel_rfl) (by kernel_rfl) ?_
 ·rw [hR]at h;exact h
 ·intro k e he
  rcases get4 he with⟨rfl,rfl⟩|⟨rfl,rfl⟩|⟨rfl,rfl⟩|⟨rfl,rfl⟩
  ·exact⟨.inl rfl,rfl⟩
  ·exact⟨.inr rfl,rfl⟩
  ·exact⟨.inr rfl,rfl⟩
  ·exact⟨.inl rfl,rfl⟩
 ·intro k e he w
  rcases get4 he with⟨rfl,rfl⟩|⟨rfl,rfl⟩|⟨rfl,rfl⟩|⟨rfl,rfl⟩ <;>kernel_rfl
 ·intro k e he hk w
  rcases get4 he with⟨rfl,rfl⟩|⟨rfl,rfl⟩|⟨rfl,rfl⟩|⟨rfl,rfl⟩
  ·kernel_rfl
  ·cases hk
  ·cases hk
  ·kernel_rfl
 ·intro k e he
  rcases get4 he with⟨rfl,rfl⟩|⟨rfl,rfl⟩|⟨rfl,rfl⟩|⟨rfl,rfl⟩
  ·exact StepOk.none rfl
  ·exact StepOk.fresh (by kernel_rfl) (by kernel_rfl)
  ·exact StepOk.fresh (by kernel_rfl) (by kernel_rfl)
  ·exact StepOk.none rfl
theorem design_alive (t1 t2:SlV) (w:World) (hn:tnY.Rd w t1.v [node1,node4]) (hr:RRegs w t2.v RA) (KA:KindsAt w):
  Calls Tryz.prog 11 #[.agg #[.slice t1.a t1.len t1.cap,.slice t2.a t2.len t2.cap]] w fun e w'=>∃sp sf sc:SlV,e=.returned (.agg #[.slice sp.a sp.len sp.cap,.slice sf.a sf.len sf.cap,.slice sc.a sc.len sc.cap])∧pdY.Rd w' sp.v [⟨⟨#[119]⟩,⟨#[50,109,109]⟩⟩]∧feY.Rd w' sf.v [mir4]∧RRegs w' sc.v []∧Below w.heap.size w w':=by
 have hc:clash ann1 RA RA.length= []:=by kernel_rfl
 have hp:parOf RA=⟨⟨#[119]⟩,⟨#[50,109,109]⟩⟩:=by kernel_rfl
 have h:=design_any [node1,node4] [ann1,ann4] RA (.inr ⟨rfl,rfl⟩) (fun _=>hc) ?_ (by simp [RA]) (by rw [hc];simp) t1 t2 w hn hr KA
 ·rw [hc,hp]at h;exact h.mono fun e w' ⟨sp,sf,sc,h1,h2,h3,h4,h5⟩=>⟨sp,sf,sc,h1,Lay.Rd.of_owns (Y:=pdY) h2,h3,h4.read,h5⟩
 ·intro r hr;simp only [RA,List.mem_cons,List.not_mem_nil,or_false]at hr
  rcases hr with rfl|rfl
  ·exact⟨rfl,rfl,by simp⟩
  ·exact⟨rfl,rfl,by simp⟩
def edsAt (k:Nat) (s2 s3 s4:SlV):List EdD:=
 [if 0 < k then ed1 else edAdd rootI 0 SlV.nil ⟨#[]⟩ ⟨#[112,97,114,97,109]⟩,if 1 < k then edN s2 else edSet rootI 0 SlV.nil ⟨#[110,97,109,101]⟩ ⟨#[119]⟩,
  if 2 < k then edT s3 else edSet rootI 0 SlV.nil ⟨#[116,101,120,116]⟩ ⟨#[50,109,109]⟩,if 3 < k then ed4 s4 else edAdd rootI 0 SlV.nil ⟨#[1]⟩ ⟨#[109,105,114,114,111,114]⟩]
theorem row_set {W:World} {g j:Nat} {cs:Array Value} {t:TypeId} {fr:Nat×Nat} {v:Value} (h:W.heap[g]? =some (.cells cs t fr)):(W.setCell ⟨g,j,none⟩ v).heap[g]? =some (.cells (cs.setIfInBounds j v) t fr):=by
 rw [setCell_eq_setRow W g j _ t fr v h];exact setRow_heap _ _ _ _ _ _ h
theorem dep_new (W:World) (g m:Nat) (x:IdD) (base:Nat) (v:Value) (hg:g < W.heap.size) (hb:base≤W.heap.size):((W.setCell ⟨g,m,none⟩ v).alloc (.cells #[.string x.a,.int .i64 x.n] 38)).ownsRow base 38 2 (.slice (some ⟨W.heap.size,0,none⟩) 1 1) 1 (idV x):=by
 refine⟨rfl,.inr ⟨W.heap.size,1,#[.string x.a,.int .i64 x.n],rfl,hb,?_,by omega,by unfold maxLen;omega,rfl,rfl⟩⟩;exact zg _ _ _ (by simp)
theorem dep_keep {wr w5 w7:World} {g i j l m base:Nat} {s:SlV} {x:IdD} {cs:Array Value} {rest:Obj} {a b c d:Value} (h:wr.ownsRow base 38 2 s.v 1 (idV x)) (R:wr.heap[g]? =some (.cells cs 45 (0,0))) (h5:Below wr.heap.size wr w5)
  (h7:Below (((w5.setCell ⟨g,i,none⟩ a).setCell ⟨g,j,none⟩ b).setCell ⟨g,l,none⟩ c).heap.size (((w5.setCell ⟨g,i,none⟩ a).setCell ⟨g,j,none⟩ b).setCell ⟨g,l,none⟩ c) w7):
  ((w7.setCell ⟨g,m,none⟩ d).alloc rest).ownsRow base 38 2 s.v 1 (idV x):=by
 have h1:=ownsRow_below h h5;have R1:=(h5.block g (zl R)).trans R;have h2:=((h1.kept (grownBy_set w5 g i a) (own_ne_ty h1 ⟨_,R1,_,R1⟩ (by decide))));have R2:=row_set (j:=i) (v:=a) R1;have h3:=((h2.kept (grownBy_set _ g j b) (own_ne_ty h2 ⟨_,R2,_,R2⟩ (by decide))));have R3:=row_set (j:=j) (v:=b) R2;have h4:=((h3.kept (grownBy_set _ g l c) (own_ne_ty h3 ⟨_,R3,_,R3⟩ (by decide))));have R4:=row_set (j:=l) (v:=c) R3;have h6:=ownsRow_below h4 h7;have R6:=(h7.block g (zl R4)).trans R4;exact(h6.kept (grownBy_set _ g m d) (own_ne_ty h6 ⟨_,R6,_,R6⟩ (by decide))).alloc rest
set_option maxRecDepth 100000 in
theorem edits_any (w:World):Calls Tryz.prog 13 #[] w fun e w'=>∃(g:Nat) (s2 s3 s4:SlV),e=.returned (.slice (some ⟨g,0,none⟩) 4 4)∧w'.ownsRow w.heap.size 45 18 (.slice (some ⟨g,0,none⟩) 4 4) 4 (edY.flat [ed1,edN s2,edT s3,ed4 s4])∧
  w'.ownsRow w.heap.size 38 2 s2.v 1 (idV (annI 1))∧w'.ownsRow w.heap.size 38 2 s3.v 1 (idV (annI 2))∧w'.ownsRow w.heap.size 38 2 s4.v 1 (idV (annI 3))∧Below w.heap.size w w':=by
 have BL:Below w.heap.size w w:=Below.refl _ _;go_enter Tryz.func13,Tryz.ntmps13
 go_wp2_with(first
  |(go_at_call 14;refine(ann_any 1 _).mono ?_;rintro e w1 ⟨rfl,hb⟩;have BL:=BL.trans (hb.mono BL.size)))
 have HBL:=zz BL;have hs1:=BL.size;clear BL hb
 go_loopg [2] 4 (fun gn t2 wr=>∃(k:Nat) (s2 s3 s4:SlV),k+gn=4∧t2=.int .i64 k∧wr.heap[w1.heap.size]? =some (.cells (edY.flat (edsAt k s2 s3 s4)).toArray 45 (0,0))∧
  (2≤k→wr.ownsRow w.heap.size 38 2 s2.v 1 (idV (annI 1)))∧(3≤k→wr.ownsRow w.heap.size 38 2 s3.v 1 (idV (annI 2)))∧(4≤k→wr.ownsRow w.heap.size 38 2 s4.v 1 (idV (annI 3)))∧Below w.heap.size w wr)
 case atStart=>exact⟨0,SlV.nil,SlV.nil,SlV.nil,by omega,rfl,zg _ _ _ rfl,by omega,by omega,by omega,HBL.out.alloc hs1 _⟩
 case round=>
  obtain⟨G,rfl⟩:∃G,G=gk:=⟨_,rfl⟩;obtain⟨k,s2,s3,s4,hk,rfl,R,o2,o3,o4,BL⟩:=hrel;have lg:w1.heap.size < wr.heap.size:=zl R;generalize hg:w1.heap.size=g at*
  rcases(show k=0∨k=1∨k=2∨k=3∨k=4 by omega)with rfl|rfl|rfl|rfl|rfl
  ·have HBL:=zz BL;have HO:=zz (And.intro o2 (And.intro o3 o4));clear BL o2 o3 o4
   go_wp2_with fail
   refine(ann_any 1 _).mono ?_;rintro e w5 ⟨rfl,hb5⟩;have R5:=(hb5.block _ lg).trans R;have l5:=zl R5;have f0:=frozen_of_row w5 g 0 _ _ R5;have f1:=frozen_of_row w5 g 1 _ _ R5;have f2:=frozen_of_row w5 g 2 _ _ R5;have c0:w5.cell? ⟨g,0,none⟩=some (.string ⟨#[]⟩):=zc _ _ 0 _ _ _ R5;have c1:w5.cell? ⟨g,1,none⟩=some (.int .i64 0):=zc _ _ 1 _ _ _ R5;have c2:w5.cell? ⟨g,2,none⟩=some (.int .i64 0):=zc _ _ 2 _ _ _ R5;have R6:=zz (row_set (j:=2) (v:=.int .i64 1) (row_set (j:=1) (v:=.int .i64 1) (row_set (j:=0) (v:=.string ⟨#[97,110,110]⟩) R5)));have BL6:=zz (Below.setCell (Below.setCell (Below.setCell (HBL.out.trans (hb5.mono HBL.out.size)) (p:=⟨g,0,none⟩) hs1 (.string ⟨#[97,110,110]⟩)) (p:=⟨g,1,none⟩) hs1 (.int .i64 1)) (p:=⟨g,2,none⟩) hs1 (.int .i64 1));have BB:=zz hb5;clear R R5 hb5;go_wp2
   go_roundg 3
   case rel=>exact⟨1,s2,s3,s4,by omega,by go_num,R6.out.trans (by kernel_rfl),by omega,by omega,by omega,BL6.out⟩
   case measure=>omega
  ·have HBL:=zz BL;have HO:=zz (And.intro o2 (And.intro o3 o4));clear BL o2 o3 o4
   go_wp2_with fail
   refine(ann_any 2 _).mono ?_;rintro e w5 ⟨rfl,hb5⟩;have R0:=zz R;have R5:=(hb5.block _ lg).trans R;have l5:=zl R5;have f0:=frozen_of_row w5 g 18 _ _ R5;have f1:=frozen_of_row w5 g 19 _ _ R5;have f2:=frozen_of_row w5 g 20 _ _ R5;have c0:w5.cell? ⟨g,18,none⟩=some (.string ⟨#[]⟩):=zc _ _ 18 _ _ _ R5;have c1:w5.cell? ⟨g,19,none⟩=some (.int .i64 0):=zc _ _ 19 _ _ _ R5;have c2:w5.cell? ⟨g,20,none⟩=some (.int .i64 0):=zc _ _ 20 _ _ _ R5;have R6:=zz (row_set (j:=20) (v:=.int .i64 2) (row_set (j:=19) (v:=.int .i64 2) (row_set (j:=18) (v:=.string ⟨#[97,110,110]⟩) R5)));have BL6:=zz (Below.setCell (Below.setCell (Below.setCell (HBL.out.trans (hb5.mono HBL.out.size)) (p:=⟨g,18,none⟩) hs1 (.string ⟨#[97,110,110]⟩)) (p:=⟨g,19,none⟩) hs1 (.int .i64 2)) (p:=⟨g,20,none⟩) hs1 (.int .i64 2));have BB:=zz hb5;clear R R5 hb5
   go_wp2_with fail
   refine(ann_any 1 _).mono ?_;rintro e w7 ⟨rfl,hb7⟩;have R7:=(hb7.block _ (by simp;exact l5)).trans R6.out;have l7:=zl R7;have R8:=zo _ _ (.cells #[.string ⟨#[97,110,110]⟩,.int .i64 1] 38) _ R7;have f4:=frozen_of_row _ g 22 _ _ R8;have c4:(w7.alloc (.cells #[.string ⟨#[97,110,110]⟩,.int .i64 1] 38)).cell? ⟨g,22,none⟩=some (.slice none 0 0):=(zc _ _ 22 _ _ _ R8).trans (by kernel_rfl);have R9:=zz (zo _ _ (.cells #[.string ⟨#[97,110,110]⟩,.int .i64 1] 38) _ (row_set (j:=22) (v:=.slice (some ⟨w7.heap.size,0,none⟩) 1 1) R7));have BL9:=zz ((Below.setCell (BL6.out.trans (hb7.mono BL6.out.size)) (p:=⟨g,22,none⟩) hs1 (.slice (some ⟨w7.heap.size,0,none⟩) 1 1)).alloc (by simp;exact(BL6.out.trans (hb7.mono BL6.out.size)).size) (.cells #[.string ⟨#[97,110,110]⟩,.int .i64 1] 38));have HB7:=zz hb7;have D9:=zz (dep_new w7 g 22 (annI 1) w.heap.size (.slice (some ⟨w7.heap.size,0,none⟩) 1 1) l7 (BL6.out.trans (hb7.mono BL6.out.size)).size);have KP:=zz (fun(s:SlV) (x:IdD) (h:wr.ownsRow w.heap.size 38 2 s.v 1 (idV x))=>dep_keep (rest:=.cells #[.string ⟨#[97,110,110]⟩,.int .i64 1] 38) h R0.out BB.out hb7 (i:=18) (j:=19) (l:=20) (m:=22) (a:=.string ⟨#[97,110,110]⟩) (b:=.int .i64 2) (c:=.int .i64 2) (d:=.slice (some ⟨w7.heap.size,0,none⟩) 1 1));clear R7 R8 hb7;go_wp2
   go_roundg 2
   case rel=>exact⟨2,⟨some ⟨w7.heap.size,0,none⟩,1,1⟩,s3,s4,by omega,by go_num,R9.out.trans (by kernel_rfl),fun _=>D9.out,by omega,by omega,BL9.out⟩
   case measure=>omega
  ·have HBL:=zz BL;have HO:=zz (And.intro o2 (And.intro o3 o4));clear BL o2 o3 o4
   go_wp2_with fail
   refine(ann_any 3 _).mono ?_;rintro e w5 ⟨rfl,hb5⟩;have R0:=zz R;have R5:=(hb5.block _ lg).trans R;have l5:=zl R5;have f0:=frozen_of_row w5 g 36 _ _ R5;have f1:=frozen_of_row w5 g 37 _ _ R5;have f2:=frozen_of_row w5 g 38 _ _ R5;have c0:w5.cell? ⟨g,36,none⟩=some (.string ⟨#[]⟩):=zc _ _ 36 _ _ _ R5;have c1:w5.cell? ⟨g,37,none⟩=some (.int .i64 0):=zc _ _ 37 _ _ _ R5;have c2:w5.cell? ⟨g,38,none⟩=some (.int .i64 0):=zc _ _ 38 _ _ _ R5;have R6:=zz (row_set (j:=38) (v:=.int .i64 3) (row_set (j:=37) (v:=.int .i64 3) (row_set (j:=36) (v:=.string ⟨#[97,110,110]⟩) R5)));have BL6:=zz (Below.setCell (Below.setCell (Below.setCell (HBL.out.trans (hb5.mono HBL.out.size)) (p:=⟨g,36,none⟩) hs1 (.string ⟨#[97,110,110]⟩)) (p:=⟨g,37,none⟩) hs1 (.int .i64 3)) (p:=⟨g,38,none⟩) hs1 (.int .i64 3));have BB:=zz hb5;clear R R5 hb5
   go_wp2_with fail
   refine(ann_any 2 _).mono ?_;rintro e w7 ⟨rfl,hb7⟩;have R7:=(hb7.block _ (by simp;exact l5)).trans R6.out;have l7:=zl R7;have R8:=zo _ _ (.cells #[.string ⟨#[97,110,110]⟩,.int .i64 2] 38) _ R7;have f4:=frozen_of_row _ g 40 _ _ R8;have c4:(w7.alloc (.cells #[.string ⟨#[97,110,110]⟩,.int .i64 2] 38)).cell? ⟨g,40,none⟩=some (.slice none 0 0):=(zc _ _ 40 _ _ _ R8).trans (by kernel_rfl);have R9:=zz (zo _ _ (.cells #[.string ⟨#[97,110,110]⟩,.int .i64 2] 38) _ (row_set (j:=40) (v:=.slice (some ⟨w7.heap.size,0,none⟩) 1 1) R7));have BL9:=zz ((Below.setCell (BL6.out.trans (hb7.mono BL6.out.size)) (p:=⟨g,40,none⟩) hs1 (.slice (some ⟨w7.heap.size,0,none⟩) 1 1)).alloc (by simp;exact(BL6.out.trans (hb7.mono BL6.out.size)).size) (.cells #[.string ⟨#[97,110,110]⟩,.int .i64 2] 38));have HB7:=zz hb7;have D9:=zz (dep_new w7 g 40 (annI 2) w.heap.size (.slice (some ⟨w7.heap.size,0,none⟩) 1 1) l7 (BL6.out.trans (hb7.mono BL6.out.size)).size);have KP:=zz (fun(s:SlV) (x:IdD) (h:wr.ownsRow w.heap.size 38 2 s.v 1 (idV x))=>dep_keep (rest:=.cells #[.string ⟨#[97,110,110]⟩,.int .i64 2] 38) h R0.out BB.out hb7 (i:=36) (j:=37) (l:=38) (m:=40) (a:=.string ⟨#[97,110,110]⟩) (b:=.int .i64 3) (c:=.int .i64 3) (d:=.slice (some ⟨w7.heap.size,0,none⟩) 1 1));clear R7 R8 hb7;go_wp2
   go_roundg 1
   case rel=>exact⟨3,s2,⟨some ⟨w7.heap.size,0,none⟩,1,1⟩,s4,by omega,by go_num,R9.out.trans (by kernel_rfl),fun _=>KP.out _ _ (HO.out.1 (by omega)),fun _=>D9.out,by omega,BL9.out⟩
   case measure=>omega
  ·have HBL:=zz BL;have HO:=zz (And.intro o2 (And.intro o3 o4));clear BL o2 o3 o4
   go_wp2_with fail
   refine(ann_any 4 _).mono ?_;rintro e w5 ⟨rfl,hb5⟩;have R0:=zz R;have R5:=(hb5.block _ lg).trans R;have l5:=zl R5;have f0:=frozen_of_row w5 g 54 _ _ R5;have f1:=frozen_of_row w5 g 55 _ _ R5;have f2:=frozen_of_row w5 g 56 _ _ R5;have c0:w5.cell? ⟨g,54,none⟩=some (.string ⟨#[]⟩):=zc _ _ 54 _ _ _ R5;have c1:w5.cell? ⟨g,55,none⟩=some (.int .i64 0):=zc _ _ 55 _ _ _ R5;have c2:w5.cell? ⟨g,56,none⟩=some (.int .i64 0):=zc _ _ 56 _ _ _ R5;have R6:=zz (row_set (j:=56) (v:=.int .i64 4) (row_set (j:=55) (v:=.int .i64 4) (row_set (j:=54) (v:=.string ⟨#[97,110,110]⟩) R5)));have BL6:=zz (Below.setCell (Below.setCell (Below.setCell (HBL.out.trans (hb5.mono HBL.out.size)) (p:=⟨g,54,none⟩) hs1 (.string ⟨#[97,110,110]⟩)) (p:=⟨g,55,none⟩) hs1 (.int .i64 4)) (p:=⟨g,56,none⟩) hs1 (.int .i64 4));have BB:=zz hb5;clear R R5 hb5
   go_wp2_with fail
   refine(ann_any 3 _).mono ?_;rintro e w7 ⟨rfl,hb7⟩;have R7:=(hb7.block _ (by simp;exact l5)).trans R6.out;have l7:=zl R7;have R8:=zo _ _ (.cells #[.string ⟨#[97,110,110]⟩,.int .i64 3] 38) _ R7;have f4:=frozen_of_row _ g 58 _ _ R8;have c4:(w7.alloc (.cells #[.string ⟨#[97,110,110]⟩,.int .i64 3] 38)).cell? ⟨g,58,none⟩=some (.slice none 0 0):=(zc _ _ 58 _ _ _ R8).trans (by kernel_rfl);have R9:=zz (zo _ _ (.cells #[.string ⟨#[97,110,110]⟩,.int .i64 3] 38) _ (row_set (j:=58) (v:=.slice (some ⟨w7.heap.size,0,none⟩) 1 1) R7));have BL9:=zz ((Below.setCell (BL6.out.trans (hb7.mono BL6.out.size)) (p:=⟨g,58,none⟩) hs1 (.slice (some ⟨w7.heap.size,0,none⟩) 1 1)).alloc (by simp;exact(BL6.out.trans (hb7.mono BL6.out.size)).size) (.cells #[.string ⟨#[97,110,110]⟩,.int .i64 3] 38));have HB7:=zz hb7;have D9:=zz (dep_new w7 g 58 (annI 3) w.heap.size (.slice (some ⟨w7.heap.size,0,none⟩) 1 1) l7 (BL6.out.trans (hb7.mono BL6.out.size)).size);have KP:=zz (fun(s:SlV) (x:IdD) (h:wr.ownsRow w.heap.size 38 2 s.v 1 (idV x))=>dep_keep (rest:=.cells #[.string ⟨#[97,110,110]⟩,.int .i64 3] 38) h R0.out BB.out hb7 (i:=54) (j:=55) (l:=56) (m:=58) (a:=.string ⟨#[97,110,110]⟩) (b:=.int .i64 4) (c:=.int .i64 4) (d:=.slice (some ⟨w7.heap.size,0,none⟩) 1 1));clear R7 R8 hb7;go_wp2
   go_roundg 0
   case rel=>exact⟨4,s2,s3,⟨some ⟨w7.heap.size,0,none⟩,1,1⟩,by omega,by go_num,R9.out.trans (by kernel_rfl),fun _=>KP.out _ _ (HO.out.1 (by omega)),fun _=>KP.out _ _ (HO.out.2.1 (by omega)),fun _=>D9.out,BL9.out⟩
   case measure=>omega
  ·have HE:=zz (And.intro (o2 (by omega)) (And.intro (o3 (by omega)) (And.intro (o4 (by omega)) BL)));have HR:=zz R;clear o2 o3 o4 BL R;go_wp2;go_ret
   refine⟨g,s2,s3,s4,rfl,⟨by kernel_rfl,.inr ⟨g,4,_,rfl,hs1,HR.out,by omega,by unfold maxLen;omega,by kernel_rfl,by kernel_rfl⟩⟩,HE.out.1,HE.out.2.1,HE.out.2.2.1,HE.out.2.2.2⟩
theorem rd_one {E:Type} {Y:Lay E} {w:World} {s:SlV} {x:E} (h:Y.Rd w s.v [x]):∃b off c,s=⟨some ⟨b,off,none⟩,1,c⟩∧w.rangeAt b off (Y.V x):=by
 obtain⟨a,n,c⟩:=s
 rcases h with⟨_,h2⟩|⟨b,off,cap,h1,_,h3⟩
 ·cases h2
 ·simp [SlV.v]at h1;obtain⟨rfl,rfl,rfl⟩:=h1;exact⟨b,off,c,rfl,by simpa [Lay.flat] using h3⟩
theorem id_one {w:World} {base:Nat} {v:Value} {x:IdD} (h:w.ownsRow base 38 2 v 1 (idV x)):idY.Rd w v [x]:=
 Lay.Rd.of_owns (Y:=idY) (l:= [x]) (by
                      have h9:idY.flat [x]=idV x:=by simp [Lay.flat];rfl
                      rw [h9];exact h)
theorem edits_EA {w:World} {base b2 b3 b4:Nat} {v:Value} {s2 s3 s4:SlV} (h:w.ownsRow base 45 18 v 4 (edY.flat [ed1,edN s2,edT s3,ed4 s4])) (h2:w.ownsRow b2 38 2 s2.v 1 (idV (annI 1))) (h3:w.ownsRow b3 38 2 s3.v 1 (idV (annI 2))) (h4:w.ownsRow b4 38 2 s4.v 1 (idV (annI 3))):Edits w v (EA s2 s3 s4):=by
 refine⟨Lay.Rd.of_owns (Y:=edY) h,fun e he=>?_⟩;simp only [EA,List.mem_cons,List.not_mem_nil,or_false]at he
 rcases he with rfl|rfl|rfl|rfl
 ·exact⟨.inl ⟨rfl,rfl⟩,by simp⟩
 ·exact⟨id_one h2,by simp⟩
 ·exact⟨id_one h3,by simp⟩
 ·exact⟨id_one h4,by simp⟩
theorem rregs_nil {w:World} {s:SlV} (h:RRegs w s.v []):s.len=0:=by
 obtain⟨ds,h1,h2,_⟩:=h;have h3:regY.Rd w (.slice s.a s.len s.cap) ds:=h1;rw [h3.len,h2];rfl
set_option maxRecDepth 100000 in
theorem alive_any (w:World) (KA:KindsAt w):Calls Tryz.prog 7 #[] w fun e w'=>e=.returned (.bool true)∧Below w.heap.size w w':=by
 have HKA:=zz KA;clear KA;go_enter Tryz.func7,Tryz.ntmps7
 go_wp2_with fail
 refine(edits_any w).mono ?_;rintro e w1 ⟨g,s2,s3,s4,rfl,ho,h2,h3,h4,hb1⟩;have HED:=zz (edits_EA ho h2 h3 h4);have HB1:=zz hb1;clear ho h2 h3 h4 hb1
 go_wp2_with fail
 refine(apply_alive s2 s3 s4 _ w1 HED.out).mono ?_;rintro e w2 ⟨t1,t2,rfl,hn,hr,hb2⟩;have BL2:=HB1.out.trans (hb2.mono HB1.out.size);have HDS:=zz (design_alive t1 t2 w2 hn hr (HKA.out.below BL2));have HB2:=zz BL2;clear hn hr hb2 BL2
 go_wp2_with fail
 refine HDS.out.mono ?_;rintro e w3 ⟨sp,sf,sc,rfl,hp,hf,hc,hb3⟩;obtain⟨b,off,c,rfl,hp1⟩:=rd_one hp;obtain⟨b',off',c',rfl,hf1⟩:=rd_one hf;have hc0:=rregs_nil hc;have BL3:=HB2.out.trans (hb3.mono HB2.out.size);have BL4:=BL3.alloc BL3.size (.cells #[.slice (some ⟨b,off,none⟩) 1 c,.slice (some ⟨b',off',none⟩) 1 c',.slice sc.a sc.len sc.cap] 34);have hp2:(w3.alloc (.cells #[.slice (some ⟨b,off,none⟩) 1 c,.slice (some ⟨b',off',none⟩) 1 c',.slice sc.a sc.len sc.cap] 34)).rangeAt b off [.string ⟨#[119]⟩,.string ⟨#[50,109,109]⟩]:=World.rangeAt_alloc hp1 _;have hf2:(w3.alloc (.cells #[.slice (some ⟨b,off,none⟩) 1 c,.slice (some ⟨b',off',none⟩) 1 c',.slice sc.a sc.len sc.cap] 34)).rangeAt b' off' (feV mir4):=World.rangeAt_alloc hf1 _;have p0:(w3.alloc (.cells #[.slice (some ⟨b,off,none⟩) 1 c,.slice (some ⟨b',off',none⟩) 1 c',.slice sc.a sc.len sc.cap] 34)).cell? ⟨b,off,none⟩=some (.string ⟨#[119]⟩):=hp2 0 _ rfl;have p1:(w3.alloc (.cells #[.slice (some ⟨b,off,none⟩) 1 c,.slice (some ⟨b',off',none⟩) 1 c',.slice sc.a sc.len sc.cap] 34)).cell? ⟨b,off+1,none⟩=some (.string ⟨#[50,109,109]⟩):=hp2 1 _ rfl;have f0:(w3.alloc (.cells #[.slice (some ⟨b,off,none⟩) 1 c,.slice (some ⟨b',off',none⟩) 1 c',.slice sc.a sc.len sc.cap] 34)).cell? ⟨b',off',none⟩=some (.string ⟨#[97,110,110,46,52]⟩):=hf2 0 _ rfl;have f1:(w3.alloc (.cells #[.slice (some ⟨b,off,none⟩) 1 c,.slice (some ⟨b',off',none⟩) 1 c',.slice sc.a sc.len sc.cap] 34)).cell? ⟨b',off'+1,none⟩=some (.int .i64 0):=hf2 1 _ rfl;rw [hc0]at p0 p1 f0 f1 BL4;have HB4:=zz BL4;simp only [hc0];clear hp hf hc hb3 BL3 BL4 hp1 hf1 hf2 hc0 hp2;go_wp2;go_ret
 exact⟨rfl,HB4.out⟩
section
variable {o:Oper} {a:Act} {W:World} {K:Act→World→Prop} {Q:Exit→Act→World→Prop}
theorem ex_append {s x:Operand} {t:TypeId} (ho:o.op=.call {callee:=.builtin .append,args:=#[s,x],argTypes:=#[t,t]})
  (base:Nat) (e:TypeId) (i:TypeInfo) (z:Value) (size bytes:Nat) (ht:Tryz.prog.underlying t=some (.slice e)) (hi:Tryz.prog.info? e=some i) (hz:i.zero=some z)
  (hsize:i.size=size) (hby:i.bytes=bytes) (hzs:z.cells.size=size) (hsz:0 < size)
  (v:Value) (n:Nat) (xs:List Value) (hs:a.eval s=v) (hown:W.ownsRow base e size v n xs)
  (ao:Option Addr) (m c:Nat) (news:List Value) (hx:a.eval x=.slice ao m c) (hl:news.length=m*size) (hnews:0 < m→∃ad,ao=some ad∧∀j u,news[j]? =some u→W.cell? (ad.add j)=some u) (h1:∀u∈news,u.oneCell'=true)
  (h63:n+m≤maxLen) (hbytes:(n+m)*bytes≤140737488355328) (hbase:base≤W.heap.size)
  (h:∀v' w',w'.ownsRow base e size v' (n+m) (xs++news)→W.grownBy w' v.ownBlock→K (a.put o.dst v') w'):o.wp Tryz.prog a W K Q:=by
 obtain⟨v',w',hr,h2,h3⟩:=run_append_src (P:=Tryz.prog) W base t o.type e i z size bytes ht hi hz hsize hby hzs hsz v n xs hown ao m c news hl hnews h1 h63 hbytes hbase;unfold Oper.wp execOp;simp only [ho,resolve,invoke,builtin,Sem.run_bind,Sem.run_pure,Result.andThen_ok,List.map_toArray,List.map_cons,List.map_nil,hs,hx,hr];exact h v' w' h2 h3
end
def mark (L:Nat→Bool) (i:Nat):Nat→Bool:=fun j=>if j=i then true else L j
theorem mark_ne (L:Nat→Bool) {i j:Nat} (h:j≠i):mark L i j=L j:=by simp [mark,h]
structure Fr (S:List Nat) (A a:Act):Prop where
 d:a.defers=A.defers
 s:a.tmps.size=A.tmps.size
 e:∀k,k∉S→a.tmps[k]? =A.tmps[k]?
theorem Fr.put {S:List Nat} {A a:Act} (h:Fr S A a) {d:Nat} (hd:d∈S) (v:Value):Fr S A (a.put (some d) v):=
 ⟨h.d,by simp [Act.put,h.s],fun k hk=>by
  have hne:d≠k:=fun e=>hk (e▸hd)
  rw [←h.e k hk]
  simp [Act.put,Array.getElem?_setIfInBounds,hne]⟩
theorem put_self {a:Act} {d:Nat} {v:Value} (h:d < a.tmps.size):(a.put (some d) v).tmps[d]? =some v:=by simp [Act.put,h]
theorem put_ne {a:Act} {d k:Nat} {v:Value} (h:k≠d):(a.put (some d) v).tmps[k]? =a.tmps[k]?:=by
 have hne:d≠k:=fun e=>h e.symm
 simp [Act.put,Array.getElem?_setIfInBounds,hne]
structure Rg (S:List Nat) (A:Act) (dst:Nat→Nat) (n:Nat) (Pr:World→Value→Nat→Prop) (L:Nat→Bool) (a:Act) (W:World):Prop where
 fr:Fr S A a
 v:∀j,j < n→L j=true→∃u,a.tmps[dst j]? =some u∧Pr W u j
theorem Rg.step {S:List Nat} {A:Act} {dst:Nat→Nat} {n:Nat} {Pr:World→Value→Nat→Prop} {L:Nat→Bool} {a:Act} {W W':World} (h:Rg S A dst n Pr L a W) {i:Nat} {u:Value} (hi:i < n) (hinj:∀i,i < n→∀j,j < n→dst i=dst j→i=j) (hmem:dst i∈S) (hsz:dst i < A.tmps.size)
  (hmono:∀j x,j < n→L j=true→Pr W x j→Pr W' x j) (hp:Pr W' u i):Rg S A dst n Pr (mark L i) (a.put (some (dst i)) u) W':=by
 refine⟨h.fr.put hmem u,fun j hj hL=>?_⟩
 by_cases hji:j=i
 ·subst hji;exact⟨u,put_self (by rw [h.fr.s];exact hsz),hp⟩
 ·rw [mark_ne _ hji]at hL;obtain⟨x,hx,hpx⟩:=h.v j hj hL;exact⟨x,(put_ne (fun e=>hji (hinj j hj i hi e))).trans hx,hmono j x hj hL hpx⟩
theorem Rg.start {S:List Nat} {A:Act} {dst:Nat→Nat} {n:Nat} {Pr:World→Value→Nat→Prop} {W:World}:Rg S A dst n Pr (fun _=>false) A W:=⟨⟨rfl,rfl,fun _ _=>rfl⟩,fun _ _ h=>by cases h⟩
theorem Rg.ev {S:List Nat} {A:Act} {dst:Nat→Nat} {n:Nat} {Pr:World→Value→Nat→Prop} {L:Nat→Bool} {a:Act} {W:World} (h:Rg S A dst n Pr L a W) (k:Nat) (hk:k∉S):a.eval (.tmp k)=A.eval (.tmp k):=by
 show a.tmps.getD k undef=A.tmps.getD k undef
 rw [Array.getD_eq_getD_getElem?,Array.getD_eq_getD_getElem?,h.fr.e k hk]
end Go.Proofs.YteigcnamkfebgaaGreatDoor
