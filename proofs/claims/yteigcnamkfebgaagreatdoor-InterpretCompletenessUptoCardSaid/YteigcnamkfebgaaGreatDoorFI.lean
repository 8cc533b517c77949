import Derived.Test.YteigcnamkfebgaaGreatDoorFG
set_option linter.all false
set_option maxHeartbeats 25600000
namespace Go.Proofs.YteigcnamkfebgaaGreatDoor
open Go.RowKit
theorem insIn_mem (c:TnD→TnD→Int) (a:Nat):∀(j:Nat) (l:List TnD),j < l.length∨j≤a→(∀x∈insIn c a j l,x∈l)∧(insIn c a j l).length=l.length
 |0,l,_=>⟨fun x hx=>hx,rfl⟩
 |j+1,l,h=>by
  unfold insIn
  split
  ·rename_i hh;have ih:=insIn_mem c a j (swapL l (j+1) j) (by rw [swapL_len];omega);rw [swapL_len]at ih;exact⟨fun x hx=>swapL_mem (by omega) (by omega) x (ih.1 x hx),ih.2⟩
  ·exact⟨fun x hx=>hx,rfl⟩
theorem insOut_mem (c:TnD→TnD→Int) (a:Nat):∀(n i:Nat) (l:List TnD),i+n≤l.length∨n=0→(∀x∈insOut c a n i l,x∈l)∧(insOut c a n i l).length=l.length
 |0,_,l,_=>⟨fun x hx=>hx,rfl⟩
 |n+1,i,l,h=>by
  unfold insOut;have h1:=insIn_mem c a i l (by omega);have ih:=insOut_mem c a n (i+1) (insIn c a i l) (by rw [h1.2];omega);rw [h1.2]at ih;exact⟨fun x hx=>h1.1 x (ih.1 x hx),ih.2⟩
theorem symL1_mem {m mid s b:Nat} {l:List TnD} (h1:mid+m - s≤b) (h2:b≤l.length):(∀x∈symL1 m mid s l,x∈l)∧(symL1 m mid s l).length=l.length:=by
 unfold symL1
 split
 ·rename_i hh;exact rotR_mem m _ _ _ l (by omega) (by omega)
 ·exact⟨fun x hx=>hx,rfl⟩
theorem symS_range (c:TnD→TnD→Int) (l:List TnD) {a m b:Nat} (h1:a < m) (h2:m < b) (h3:m≠a+1) (h4:b≠m+1):
  a≤symS c l a m b ((a+b) / 2)∧symS c l a m b ((a+b) / 2)≤m∧symS c l a m b ((a+b) / 2)≤(a+b) / 2∧(a+b) / 2+m - symS c l a m b ((a+b) / 2)≤b:=by
 unfold symS
 split
 ·rename_i h;have:=bsN_range (pC c l ((a+b) / 2+m - 1)) ((a+b) / 2 - ((a+b) / 2+m - b)) ((a+b) / 2+m - b) ((a+b) / 2) (by omega);omega
 ·rename_i h;have:=bsN_range (pC c l ((a+b) / 2+m - 1)) (m - a) a m (by omega);omega
theorem symR_pure (c:TnD→TnD→Int):∀(f a m b:Nat) (l:List TnD),a < m→m < b→b≤l.length→(∀x∈symR c f a m b l,x∈l)∧(symR c f a m b l).length=l.length
 |0,_,_,_,l,_,_,_=>⟨fun x hx=>hx,rfl⟩
 |f+1,a,m,b,l,ham,hmb,hb=>by
  unfold symR
  split
  ·rename_i h1;have hr:=bsN_range (pA c l a) (b - m) m b (by omega);exact bubU_mem _ _ l (by omega)
  ·rename_i h1
   split
   ·rename_i h2;have hr:=bsN_range (pB c l m) (m - a) a m (by omega);exact bubD_mem _ _ l (by omega) (by omega)
   ·rename_i h2;have hS:=symS_range c l ham hmb h1 h2;generalize symS c l a m b ((a+b) / 2)=s at*
    have m1:=symL1_mem (m:=m) (mid:=(a+b) / 2) (s:=s) (b:=b) (l:=l) hS.2.2.2 hb
    have m2:(∀x∈symL2 (symR c f) a ((a+b) / 2) s (symL1 m ((a+b) / 2) s l),x∈l)∧(symL2 (symR c f) a ((a+b) / 2) s (symL1 m ((a+b) / 2) s l)).length=l.length:=by
     unfold symL2
     split
     ·rename_i hh;have hx:=symR_pure c f a s ((a+b) / 2) (symL1 m ((a+b) / 2) s l) hh.1 hh.2 (by rw [m1.2];omega);exact⟨fun x hx1=>m1.1 x (hx.1 x hx1),hx.2.trans m1.2⟩
     ·exact m1
    unfold symC symL3
    split
    ·rename_i hh;have hx:=symR_pure c f ((a+b) / 2) ((a+b) / 2+m - s) b (symL2 (symR c f) a ((a+b) / 2) s (symL1 m ((a+b) / 2) s l)) hh.1 hh.2 (by rw [m2.2];omega);exact⟨fun x hx1=>m2.1 x (hx.1 x hx1),hx.2.trans m2.2⟩
    ·exact m2
theorem symR_ok (gf:FuncId) (c:TnD→TnD→Int) (P:TnD→Prop) (hc:CmpP gf c P) (heg:∀(a:Array Value) (W:World),Sem.run Tryz.prog (callFunc gf a) W=.ok (.enter gf a) W) (n cap g base:Nat) (hn:n≤1000000):
  ∀f:Nat,SymOk gf P n cap g base (symR c f) f
 |0=>fun a m b l w hl ham hmb hbn hd _ _ _=>by omega
 |f+1=>fun a m b l w hl ham hmb hbn hd hP hv hbase=>by
  have ih:=symR_ok gf c P hc heg n cap g base hn f;refine⟨?_,symR_pure c (f+1) a m b l ham hmb (by omega)⟩
  by_cases h1:m=a+1
  ·have e:symR c (f+1) a m b l=bubU (bsN (pA c l a) (b - m) m b - 1 - a) a l:=by unfold symR;rw [if_pos h1]
   rw [e];exact symA_any gf c P hc heg a m b n cap g base l w hl hn ham hmb hbn hP hv hbase h1
  ·by_cases h2:b=m+1
   ·have e:symR c (f+1) a m b l=bubD (m - bsN (pB c l m) (m - a) a m) m l:=by unfold symR;rw [if_neg h1,if_pos h2]
    rw [e];exact symB_any gf c P hc heg a m b n cap g base l w hl hn ham hmb hbn hP hv hbase h1 h2
   ·have e:symR c (f+1) a m b l=symC (symR c f) a m b ((a+b) / 2) (symS c l a m b ((a+b) / 2)) l:=by conv=>lhs;rw [symR,if_neg h1,if_neg h2]
    rw [e]
    by_cases hb:(a+b) / 2 < m
    ·exact symC1_any gf c P hc heg a m b n cap g base l w hl hn ham hmb hbn hP hv hbase (symR c f) f (by omega) ih h1 h2 hb
    ·exact symC2_any gf c P hc heg a m b n cap g base l w hl hn ham hmb hbn hP hv hbase (symR c f) f (by omega) ih h1 h2 (by omega)
def insR (c:TnD→TnD→Int) (a b:Nat) (l:List TnD):List TnD:=insOut c a (b - (a+1)) (a+1) l
def stabR (c:TnD→TnD→Int) (n:Nat) (l:List TnD):List TnD:=
 if n < 20 then insR c 0 n l else if n=20 then insR c 20 20 (insR c 0 20 l)else if n < 40 then symR c n 0 20 n (insR c 20 n (insR c 0 20 l))else symR c 40 0 20 40 (insR c 40 40 (insR c 20 40 (insR c 0 20 l)))
theorem insR_any (gf:FuncId) (c:TnD→TnD→Int) (P:TnD→Prop) (hc:CmpP gf c P) (heg:∀(a:Array Value) (W:World),Sem.run Tryz.prog (callFunc gf a) W=.ok (.enter gf a) W)
  (n cap g base:Nat) (l:List TnD) (w:World) (hl:l.length=n) (hn:n≤1000000) (a b:Nat) (hab:a≤b) (hbn:b≤n) (hP:∀x∈l,P x) (hv:ownT w base g cap n l) (hbase:base≤w.heap.size):
  (Calls Tryz.prog 154 #[.slice (some ⟨g,0,none⟩) n cap,.int .i64 a,.int .i64 b,.func (.func gf) #[] #[]] w fun e w'=>e=.returned (.tuple #[])∧ownT w' base g cap n (insR c a b l)∧Below base w w')∧(∀x∈insR c a b l,P x)∧(insR c a b l).length=n:=by
 have MM:=insOut_mem c a (b - (a+1)) (a+1) l (by omega);exact⟨ins_any gf c P hc heg a b n cap g base l w hl hn hab hbn hP hv hbase,fun x hx=>hP x (MM.1 x hx),MM.2.trans hl⟩
theorem symR_any (gf:FuncId) (c:TnD→TnD→Int) (P:TnD→Prop) (hc:CmpP gf c P) (heg:∀(a:Array Value) (W:World),Sem.run Tryz.prog (callFunc gf a) W=.ok (.enter gf a) W)
  (n cap g base:Nat) (l:List TnD) (w:World) (hl:l.length=n) (hn:n≤1000000) (f a m b:Nat) (ham:a < m) (hmb:m < b) (hbn:b≤n) (hf:b - a≤f) (hP:∀x∈l,P x) (hv:ownT w base g cap n l) (hbase:base≤w.heap.size):
  (Calls Tryz.prog 199 #[.slice (some ⟨g,0,none⟩) n cap,.int .i64 a,.int .i64 m,.int .i64 b,.func (.func gf) #[] #[]] w fun e w'=>e=.returned (.tuple #[])∧ownT w' base g cap n (symR c f a m b l)∧Below base w w')∧(∀x∈symR c f a m b l,P x)∧(symR c f a m b l).length=n:=by
 have h:=symR_ok gf c P hc heg n cap g base hn f a m b l w hl ham hmb hbn hf hP hv hbase;exact⟨h.1,fun x hx=>hP x (h.2.1 x hx),h.2.2.trans hl⟩
set_option maxRecDepth 100000 in
theorem stab_a (gf:FuncId) (c:TnD→TnD→Int) (P:TnD→Prop) (hc:CmpP gf c P) (heg:∀(a:Array Value) (W:World),Sem.run Tryz.prog (callFunc gf a) W=.ok (.enter gf a) W)
  (n cap g base:Nat) (l:List TnD) (w:World) (hl:l.length=n) (hn:n < 20) (hP:∀x∈l,P x) (hv:ownT w base g cap n l) (hbase:base≤w.heap.size):
  Calls Tryz.prog 170 #[.slice (some ⟨g,0,none⟩) n cap,.int .i64 n,.func (.func gf) #[] #[]] w fun e w'=>e=.returned (.tuple #[])∧ownT w' base g cap n (insR c 0 n l)∧Below base w w':=by
 have HC:=zz hc;have HPM:=zz hP;have HM:=zz hl;have HOW:=zz hv;have HB:=zz (Below.refl base w);have hn1:n≤1000000:=by omega
 clear hc hP hl hv;have d1:decide ((20:Int)≤(n:Int))=false:=by simp;omega
 have d2:decide ((20:Int) < (n:Int))=false:=by simp;omega
 go_enter Tryz.func170,Tryz.ntmps170
 go_wp2_with fail
 refine wp_loop_rounds 1 ?_;rw [rounds_succ]
 go_wp2_with fail
 have CC:=insR_any gf c P HC.out heg n cap g base _ _ HM.out hn1 0 n (by omega) (by omega) HPM.out HOW.out (Nat.le_trans hbase HB.out.size);refine CC.1.mono ?_;rintro e1 w5 ⟨rfl,ho1,hb1⟩;have HPM:=zz CC.2.1;have HM:=zz CC.2.2;have HOW:=zz ho1;have HB:=zz (HB.out.trans hb1);clear CC ho1 hb1
 go_wp2_with fail
 refine wp_loop_rounds 1 ?_;rw [rounds_succ]
 go_wp2_with fail
 go_end0
 exact⟨rfl,HOW.out,HB.out⟩
set_option maxRecDepth 100000 in
theorem stab_b (gf:FuncId) (c:TnD→TnD→Int) (P:TnD→Prop) (hc:CmpP gf c P) (heg:∀(a:Array Value) (W:World),Sem.run Tryz.prog (callFunc gf a) W=.ok (.enter gf a) W)
  (n cap g base:Nat) (l:List TnD) (w:World) (hl:l.length=n) (hn:n=20) (hP:∀x∈l,P x) (hv:ownT w base g cap n l) (hbase:base≤w.heap.size):
  Calls Tryz.prog 170 #[.slice (some ⟨g,0,none⟩) n cap,.int .i64 n,.func (.func gf) #[] #[]] w fun e w'=>e=.returned (.tuple #[])∧ownT w' base g cap n (insR c 20 20 (insR c 0 20 l))∧Below base w w':=by
 have HC:=zz hc;have HPM:=zz hP;have HM:=zz hl;have HOW:=zz hv;have HB:=zz (Below.refl base w);have hn1:n≤1000000:=by omega
 clear hc hP hl hv;subst hn;go_enter Tryz.func170,Tryz.ntmps170
 go_wp2_with fail
 refine wp_loop_rounds 2 ?_;rw [rounds_succ]
 go_wp2_with fail
 have CC:=insR_any gf c P HC.out heg 20 cap g base _ _ HM.out hn1 0 20 (by omega) (by omega) HPM.out HOW.out (Nat.le_trans hbase HB.out.size);refine CC.1.mono ?_;rintro e1 w5 ⟨rfl,ho1,hb1⟩;have HPM:=zz CC.2.1;have HM:=zz CC.2.2;have HOW:=zz ho1;have HB:=zz (HB.out.trans hb1);clear CC ho1 hb1
 go_wp2_with fail
 rw [rounds_succ]
 go_wp2_with fail
 have CC:=insR_any gf c P HC.out heg 20 cap g base _ _ HM.out hn1 20 20 (by omega) (by omega) HPM.out HOW.out (Nat.le_trans hbase HB.out.size);refine CC.1.mono ?_;rintro e1 w5 ⟨rfl,ho1,hb1⟩;have HPM:=zz CC.2.1;have HM:=zz CC.2.2;have HOW:=zz ho1;have HB:=zz (HB.out.trans hb1);clear CC ho1 hb1
 go_wp2_with fail
 refine wp_loop_rounds 1 ?_;rw [rounds_succ]
 go_wp2_with fail
 go_end0
 exact⟨rfl,HOW.out,HB.out⟩
set_option maxRecDepth 100000 in
theorem stab_c (gf:FuncId) (c:TnD→TnD→Int) (P:TnD→Prop) (hc:CmpP gf c P) (heg:∀(a:Array Value) (W:World),Sem.run Tryz.prog (callFunc gf a) W=.ok (.enter gf a) W)
  (n cap g base:Nat) (l:List TnD) (w:World) (hl:l.length=n) (hn:20 < n∧n < 40) (hP:∀x∈l,P x) (hv:ownT w base g cap n l) (hbase:base≤w.heap.size):
  Calls Tryz.prog 170 #[.slice (some ⟨g,0,none⟩) n cap,.int .i64 n,.func (.func gf) #[] #[]] w fun e w'=>e=.returned (.tuple #[])∧ownT w' base g cap n (symR c n 0 20 n (insR c 20 n (insR c 0 20 l)))∧Below base w w':=by
 have HC:=zz hc;have HPM:=zz hP;have HM:=zz hl;have HOW:=zz hv;have HB:=zz (Below.refl base w);have hn1:n≤1000000:=by omega
 clear hc hP hl hv;have d1:decide ((20:Int)≤(n:Int))=true:=by simp;omega
 have d2:decide ((40:Int)≤(n:Int))=false:=by simp;omega
 have d3:decide ((20:Int) < (n:Int))=true:=by simp;omega
 have d4:decide ((40:Int) < (n:Int))=false:=by simp;omega
 go_enter Tryz.func170,Tryz.ntmps170
 go_wp2_with fail
 refine wp_loop_rounds 2 ?_;rw [rounds_succ]
 go_wp2_with fail
 have CC:=insR_any gf c P HC.out heg n cap g base _ _ HM.out hn1 0 20 (by omega) (by omega) HPM.out HOW.out (Nat.le_trans hbase HB.out.size);refine CC.1.mono ?_;rintro e1 w5 ⟨rfl,ho1,hb1⟩;have HPM:=zz CC.2.1;have HM:=zz CC.2.2;have HOW:=zz ho1;have HB:=zz (HB.out.trans hb1);clear CC ho1 hb1
 go_wp2_with fail
 rw [rounds_succ]
 go_wp2_with fail
 have CC:=insR_any gf c P HC.out heg n cap g base _ _ HM.out hn1 20 n (by omega) (by omega) HPM.out HOW.out (Nat.le_trans hbase HB.out.size);refine CC.1.mono ?_;rintro e1 w5 ⟨rfl,ho1,hb1⟩;have HPM:=zz CC.2.1;have HM:=zz CC.2.2;have HOW:=zz ho1;have HB:=zz (HB.out.trans hb1);clear CC ho1 hb1
 go_wp2_with fail
 refine wp_loop_rounds 2 ?_;rw [rounds_succ]
 go_wp2_with fail
 refine wp_loop_rounds 1 ?_;rw [rounds_succ]
 go_wp2_with fail
 have CC:=symR_any gf c P HC.out heg n cap g base _ _ HM.out hn1 n 0 20 n (by omega) (by omega) (by omega) (by omega) HPM.out HOW.out (Nat.le_trans hbase HB.out.size);refine CC.1.mono ?_;rintro e1 w5 ⟨rfl,ho1,hb1⟩;have HPM:=zz CC.2.1;have HM:=zz CC.2.2;have HOW:=zz ho1;have HB:=zz (HB.out.trans hb1);clear CC ho1 hb1
 go_wp2_with fail
 rw [rounds_succ]
 go_wp2_with fail
 go_end0
 exact⟨rfl,HOW.out,HB.out⟩
set_option maxRecDepth 100000 in
theorem stab_d (gf:FuncId) (c:TnD→TnD→Int) (P:TnD→Prop) (hc:CmpP gf c P) (heg:∀(a:Array Value) (W:World),Sem.run Tryz.prog (callFunc gf a) W=.ok (.enter gf a) W)
  (n cap g base:Nat) (l:List TnD) (w:World) (hl:l.length=n) (hn:n=40) (hP:∀x∈l,P x) (hv:ownT w base g cap n l) (hbase:base≤w.heap.size):
  Calls Tryz.prog 170 #[.slice (some ⟨g,0,none⟩) n cap,.int .i64 n,.func (.func gf) #[] #[]] w fun e w'=>e=.returned (.tuple #[])∧ownT w' base g cap n (symR c 40 0 20 40 (insR c 40 40 (insR c 20 40 (insR c 0 20 l))))∧Below base w w':=by
 have HC:=zz hc;have HPM:=zz hP;have HM:=zz hl;have HOW:=zz hv;have HB:=zz (Below.refl base w);have hn1:n≤1000000:=by omega
 clear hc hP hl hv;subst hn;go_enter Tryz.func170,Tryz.ntmps170
 go_wp2_with fail
 refine wp_loop_rounds 3 ?_;rw [rounds_succ]
 go_wp2_with fail
 have CC:=insR_any gf c P HC.out heg 40 cap g base _ _ HM.out hn1 0 20 (by omega) (by omega) HPM.out HOW.out (Nat.le_trans hbase HB.out.size);refine CC.1.mono ?_;rintro e1 w5 ⟨rfl,ho1,hb1⟩;have HPM:=zz CC.2.1;have HM:=zz CC.2.2;have HOW:=zz ho1;have HB:=zz (HB.out.trans hb1);clear CC ho1 hb1
 go_wp2_with fail
 rw [rounds_succ]
 go_wp2_with fail
 have CC:=insR_any gf c P HC.out heg 40 cap g base _ _ HM.out hn1 20 40 (by omega) (by omega) HPM.out HOW.out (Nat.le_trans hbase HB.out.size);refine CC.1.mono ?_;rintro e1 w5 ⟨rfl,ho1,hb1⟩;have HPM:=zz CC.2.1;have HM:=zz CC.2.2;have HOW:=zz ho1;have HB:=zz (HB.out.trans hb1);clear CC ho1 hb1
 go_wp2_with fail
 rw [rounds_succ]
 go_wp2_with fail
 have CC:=insR_any gf c P HC.out heg 40 cap g base _ _ HM.out hn1 40 40 (by omega) (by omega) HPM.out HOW.out (Nat.le_trans hbase HB.out.size);refine CC.1.mono ?_;rintro e1 w5 ⟨rfl,ho1,hb1⟩;have HPM:=zz CC.2.1;have HM:=zz CC.2.2;have HOW:=zz ho1;have HB:=zz (HB.out.trans hb1);clear CC ho1 hb1
 go_wp2_with fail
 refine wp_loop_rounds 2 ?_;rw [rounds_succ]
 go_wp2_with fail
 refine wp_loop_rounds 2 ?_;rw [rounds_succ]
 go_wp2_with fail
 have CC:=symR_any gf c P HC.out heg 40 cap g base _ _ HM.out hn1 40 0 20 40 (by omega) (by omega) (by omega) (by omega) HPM.out HOW.out (Nat.le_trans hbase HB.out.size);refine CC.1.mono ?_;rintro e1 w5 ⟨rfl,ho1,hb1⟩;have HPM:=zz CC.2.1;have HM:=zz CC.2.2;have HOW:=zz ho1;have HB:=zz (HB.out.trans hb1);clear CC ho1 hb1
 go_wp2_with fail
 rw [rounds_succ]
 go_wp2_with fail
 rw [rounds_succ]
 go_wp2_with fail
 go_end0
 exact⟨rfl,HOW.out,HB.out⟩
theorem stabN_any (gf:FuncId) (c:TnD→TnD→Int) (P:TnD→Prop) (hc:CmpP gf c P) (heg:∀(a:Array Value) (W:World),Sem.run Tryz.prog (callFunc gf a) W=.ok (.enter gf a) W)
  (n cap g base:Nat) (l:List TnD) (w:World) (hl:l.length=n) (hn:n≤40) (hP:∀x∈l,P x) (hv:ownT w base g cap n l) (hbase:base≤w.heap.size):
  Calls Tryz.prog 170 #[.slice (some ⟨g,0,none⟩) n cap,.int .i64 n,.func (.func gf) #[] #[]] w fun e w'=>e=.returned (.tuple #[])∧ownT w' base g cap n (stabR c n l)∧Below base w w':=by
 unfold stabR
 by_cases h1:n < 20
 ·rw [if_pos h1];exact stab_a gf c P hc heg n cap g base l w hl h1 hP hv hbase
 ·rw [if_neg h1]
  by_cases h2:n=20
  ·rw [if_pos h2];exact stab_b gf c P hc heg n cap g base l w hl h2 hP hv hbase
  ·rw [if_neg h2]
   by_cases h3:n < 40
   ·rw [if_pos h3];exact stab_c gf c P hc heg n cap g base l w hl (by omega) hP hv hbase
   ·rw [if_neg h3];exact stab_d gf c P hc heg n cap g base l w hl (by omega) hP hv hbase
theorem insR_pure (c:TnD→TnD→Int) (a b:Nat) (l:List TnD) (h:a≤b) (hb:b≤l.length):(∀x∈insR c a b l,x∈l)∧(insR c a b l).length=l.length:=insOut_mem c a (b - (a+1)) (a+1) l (by omega)
theorem stabR_mem (c:TnD→TnD→Int) (l:List TnD) (hl:l.length≤40):(∀x∈stabR c l.length l,x∈l)∧(stabR c l.length l).length=l.length:=by
 unfold stabR
 split
 ·exact insR_pure c 0 _ l (by omega) (by omega)
 ·split
  ·have h1:=insR_pure c 0 20 l (by omega) (by omega);have h2:=insR_pure c 20 20 (insR c 0 20 l) (by omega) (by omega);exact⟨fun x hx=>h1.1 x (h2.1 x hx),h2.2.trans h1.2⟩
  ·split
   ·have h1:=insR_pure c 0 20 l (by omega) (by omega);have h2:=insR_pure c 20 l.length (insR c 0 20 l) (by omega) (by omega);have h3:=symR_pure c l.length 0 20 l.length (insR c 20 l.length (insR c 0 20 l)) (by omega) (by omega) (by omega);exact⟨fun x hx=>h1.1 x (h2.1 x (h3.1 x hx)),h3.2.trans (h2.2.trans h1.2)⟩
   ·have h1:=insR_pure c 0 20 l (by omega) (by omega);have h2:=insR_pure c 20 40 (insR c 0 20 l) (by omega) (by omega);have h3:=insR_pure c 40 40 (insR c 20 40 (insR c 0 20 l)) (by omega) (by omega);have h4:=symR_pure c 40 0 20 40 (insR c 40 40 (insR c 20 40 (insR c 0 20 l))) (by omega) (by omega) (by omega);exact⟨fun x hx=>h1.1 x (h2.1 x (h3.1 x (h4.1 x hx))),h4.2.trans (h3.2.trans (h2.2.trans h1.2))⟩
theorem sortS_any (gf:FuncId) (c:TnD→TnD→Int) (P:TnD→Prop) (hc:CmpP gf c P) (heg:∀(a:Array Value) (W:World),Sem.run Tryz.prog (callFunc gf a) W=.ok (.enter gf a) W)
  (n cap g base:Nat) (l:List TnD) (w:World) (hl:l.length=n) (hn:n≤40) (hP:∀x∈l,P x) (hv:ownT w base g cap n l) (hbase:base≤w.heap.size):
  Calls Tryz.prog 129 #[.slice (some ⟨g,0,none⟩) n cap,.func (.func gf) #[] #[]] w fun e w'=>e=.returned (.tuple #[])∧ownT w' base g cap n (stabR c n l)∧Below base w w':=by
 have H:=zz (stabN_any gf c P hc heg n cap g base l w hl hn hP hv hbase);clear hc hv hl;go_enter Tryz.func129,Tryz.ntmps129
 go_wp2_with fail
 refine(H.out).mono ?_;rintro e w1 ⟨rfl,ho,hb⟩;go_wp2;go_end0
 exact⟨rfl,ho,hb⟩
end Go.Proofs.YteigcnamkfebgaaGreatDoor
