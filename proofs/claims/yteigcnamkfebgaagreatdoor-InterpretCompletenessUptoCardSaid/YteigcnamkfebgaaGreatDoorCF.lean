import Derived.Test.YteigcnamkfebgaaGreatDoorCA
import Derived.Laws.Closers25b
set_option linter.all false
set_option maxHeartbeats 25600000
namespace Go.Proofs.YteigcnamkfebgaaGreatDoor
open Go.RowKit
theorem info3:(Tryz.prog.info? 3).map (fun i=>(i.zero,i.size,i.bytes))=some (some (.int .i64 0),1,8):=by kernel_rfl
theorem und200:Tryz.prog.underlying 200=some (.slice 3):=by kernel_rfl
theorem madeN (n:Nat):(madeCells #[(.int .i64 0:Value)] n).toList=nV (List.replicate n 0):=by
 rw [toList_madeCells_one];simp [nV]
theorem own_made (W:World) (base n:Nat) (hb:base≤W.heap.size) (hn:n≤maxLen):(W.alloc (.cells (madeCells #[(.int .i64 0:Value)] n) 3)).ownsRow base 3 1 (.slice (some ⟨W.heap.size,0,none⟩) n n) n (nV (List.replicate n 0)):=by
 refine⟨by simp [nV],.inr ⟨W.heap.size,n,_,rfl,hb,zg _ _ _ rfl,Nat.le_refl _,hn,?_,?_⟩⟩
 ·have:=congrArg List.length (madeN n);simp [nV]at this;omega
 ·rw [madeN,List.take_of_length_le (by simp [nV])]
theorem nV_get {S:List Nat} {j:Nat} (h:j < S.length):(nV S)[j]? =some (.int .i64 (S.getD j 0:Nat)):=by
 simp [nV,h,List.getD]
theorem vN_rep (n j:Nat):(List.replicate n 0).getD j 0=0:=by
 rw [List.getD_eq_getElem?_getD]
 by_cases h:j < n <;>simp [h]
theorem i64w (z:Int) (h0:0≤z) (h1:z < 4611686018427387904):IntKind.i64.wrap z=z:=by
 rw [IntKind.wrap_i64];omega
theorem own_set {W:World} {base n cap g j:Nat} {e:TypeId} {xs:List Value} (h:W.ownsRow base e 1 (.slice (some ⟨g,0,none⟩) n cap) n xs) (v:Value):(W.setCell ⟨g,j,none⟩ v).ownsRow base e 1 (.slice (some ⟨g,0,none⟩) n cap) n (xs.set j v):=by
 obtain⟨h1,h2⟩:=h
 rcases h2 with⟨h2,_⟩|⟨g',cap',cur,h2,h3,h4,h5,h6,h7,h8⟩
 ·cases h2
 ·simp only [Value.slice.injEq,Option.some.injEq,Addr.mk.injEq,and_true,true_and]at h2;obtain⟨rfl,rfl⟩:=h2;refine⟨by rw [List.length_set];exact h1,.inr ⟨g,cap,cur.setIfInBounds j v,rfl,h3,row_set h4,h5,h6,by simpa using h7,?_⟩⟩;rw [Array.toList_setIfInBounds,List.take_set,h8]
theorem own_frozen {W:World} {base n cap g:Nat} {e:TypeId} {xs:List Value} (h:W.ownsRow base e 1 (.slice (some ⟨g,0,none⟩) n cap) n xs) (j:Nat):W.frozen? ⟨g,j,none⟩=false:=by
 rcases h.2 with⟨h2,_⟩|⟨g',cap',cur,h2,h3,h4,_⟩
 ·cases h2
 ·simp only [Value.slice.injEq,Option.some.injEq,Addr.mk.injEq,and_true,true_and]at h2;obtain⟨rfl,rfl⟩:=h2;exact frozen_of_row _ _ _ _ _ h4
theorem own_drew {W:World} {base n size:Nat} {e:TypeId} {v:Value} {xs:List Value} (h:W.ownsRow base e size v n xs) (q:Nat):(W.drewN q).ownsRow base e size v n xs:=h
structure MulO (L lb i:Nat) (a b:List UInt8) (S:List Nat):Prop where
 len:S.length=L
 sm:∀y∈S,y < 256
 v:vN S=dS (atB a) i*v8 b
 z:∀j,i+lb≤j→S.getD j 0=0
theorem MulO.start (L lb:Nat) (a b:List UInt8):MulO L lb 0 a b (List.replicate L 0):=
 ⟨by simp,fun y hy=>by have:=(List.mem_replicate.1 hy).2;omega,by rw [vN_zero];simp [dS],fun j _=>vN_rep L j⟩
theorem MulO.into {L lb i:Nat} {a b:List UInt8} {S:List Nat} (h:MulO L lb i a b S):MulI L lb i 0 0 (vN S) (atB a i) b S:=
 ⟨h.len,h.sm,by simp [dS],fun j hj=>h.z j (by omega),fun _=>h.z _ (Nat.le_refl _),by omega,fun _=>rfl,by omega⟩
theorem MulI.out {L lb i k:Nat} {a b:List UInt8} {S0 S:List Nat} (h:MulI L lb i k 0 (vN S0) (atB a i) b S) (h0:MulO L lb i a b S0) (hk:lb≤k) (hb:b.length=lb):MulO L lb (i+1) a b S:=by
 refine⟨h.len,h.sm,?_,fun j hj=>h.z j (by omega)⟩;have h1:=h.v;rw [dS_all b k (by omega),h0.v,Nat.zero_mul,Nat.add_zero]at h1;rw [h1]
 show _=(dS (atB a) i+atB a i*256^i)*v8 b
 rw [Nat.add_mul]
set_option maxRecDepth 100000 in
theorem rMul_any (a b:ByteArray) (ha:a.size≤100000000000) (hb:b.size≤100000000000) (w:World):Calls Tryz.prog 291 #[.string a,.string b] w fun e w'=>e=.returned (.string (ofL (enc (v8 (bl a)*v8 (bl b)))))∧Below w.heap.size w w':=by
 have hmk:∀W:World,(Instr.makeSlice 200 (.int .i64 ((a.size:Int)+(b.size:Int)+1)) (.int .i64 ((a.size:Int)+(b.size:Int)+1))).run Tryz.prog W=.ok (.slice (some ⟨W.heap.size,0,none⟩) (a.size+b.size+1) (a.size+b.size+1)) (W.alloc (.cells (madeCells #[(.int .i64 0:Value)] (a.size+b.size+1)) 3)):=fun W=>by
  have h:=run_make_row' (P:=Tryz.prog) 200 3 (.int .i64 0) 8 und200 info3 rfl .i64 .i64 (a.size+b.size+1) (by omega) (by omega) W;exact h
 obtain⟨L,hL⟩:∃L,L=a.size+b.size+1:=⟨_,rfl⟩;rw [←hL]at hmk;have HL:=zz hL;clear hL;have own0:=own_made w w.heap.size L (Nat.le_refl _) (by unfold maxLen;have:=HL.out;omega);have HOW:=zz own0;clear own0;go_enter Tryz.func291,Tryz.ntmps291
 go_wp2_with fail
 go_loopg [6] a.size (fun gn t6 wr=>∃(i:Nat) (S:List Nat),i+gn=a.size∧t6=.int .i64 i∧MulO L b.size i (bl a) (bl b) S∧wr.ownsRow w.heap.size 3 1 (.slice (some ⟨w.heap.size,0,none⟩) L L) L (nV S)∧Below w.heap.size w wr)
 case atStart=>exact⟨0,List.replicate L 0,by omega,rfl,MulO.start _ _ _ _,HOW.out,(Below.refl _ _).alloc (Nat.le_refl _) _⟩
 case round=>
  obtain⟨G,rfl⟩:∃G,G=gk:=⟨_,rfl⟩;obtain⟨i,S0,hi,rfl,hS0,hown0,hbel0⟩:=hrel;have HS0:=zz hS0;have HO0:=zz hown0;have HB0:=zz hbel0;have HI:=zz hi;clear hS0 hown0 hbel0 hi
  by_cases h0:(i:Int) < (a.size:Int)
  ·go_wp2_with fail
   go_loopg [7,8] (b.size+1) (fun gm t7 t8 wq=>∃(k c:Nat) (S:List Nat),k+gm=b.size+1∧t8=.int .i64 k∧t7=.int .i64 c∧MulI L b.size i k c (vN S0) (atB (bl a) i) (bl b) S∧wq.ownsRow w.heap.size 3 1 (.slice (some ⟨w.heap.size,0,none⟩) L L) L (nV S)∧Below w.heap.size w wq)
   case atStart=>exact⟨0,0,S0,by omega,rfl,rfl,HS0.out.into,HO0.out,HB0.out⟩
   case round=>
    obtain⟨G2,rfl⟩:∃G2,G2=gk:=⟨_,rfl⟩;obtain⟨k,c,S,hk,rfl,rfl,hS,hown,hbel⟩:=hrel;have hkl:=hS.kl;have hc1:=hS.c1;have hkc:=hS.kc
    by_cases hgo:k < b.size∨0 < c
    ·have hkb:k≤b.size:=by omega
     have hij:i+k < L:=by have:=HL.out;omega
     have hs1:=getD_small hS.sm (i+k)
     have hcell:wr.cell? ⟨w.heap.size,i+k,none⟩=some (.int .i64 (S.getD (i+k) 0:Nat)):=by
      rw [World.ownsRow.cellAt hown (i+k) (by omega)];exact nV_get (by rw [hS.len];exact hij)
     obtain⟨s,hs⟩:∃s,s=S.getD (i+k) 0:=⟨_,rfl⟩;obtain⟨x,hx⟩:∃x,x=atB (bl a) i:=⟨_,rfl⟩;obtain⟨y,hy⟩:∃y,y=atB (bl b) k:=⟨_,rfl⟩;have hx1:x < 256:=by rw [hx];exact atB_lt _ _
     have hy1:y < 256:=by rw [hy];exact atB_lt _ _
     have ra:∀W:World,Calls Tryz.prog 292 #[.string a,.int .i64 i] W fun e w'=>e=.returned (.int .i64 x)∧w'=W:=fun W=>by rw [hx];exact(rAt_any a i W).mono fun e w' ⟨h1,h2⟩=>⟨h1,h2.symm⟩
     have rb:∀W:World,Calls Tryz.prog 292 #[.string b,.int .i64 k] W fun e w'=>e=.returned (.int .i64 y)∧w'=W:=fun W=>by rw [hy];exact(rAt_any b k W).mono fun e w' ⟨h1,h2⟩=>⟨h1,h2.symm⟩
     rw [←hs]at hcell hs1;have hp1:x*y≤65025:=Nat.le_trans (Nat.mul_le_mul (show x≤255 by omega) (show y≤255 by omega)) (by decide);obtain⟨p,hp⟩:∃p,p=x*y:=⟨_,rfl⟩;have hpZ:(x:Int)*(y:Int)=(p:Int):=by rw [hp];simp
     rw [←hp]at hp1;have RA:=zz ra;have RB:=zz rb;have HSX:=zz (And.intro hs (And.intro hx (And.intro hy hp)));have HS:=zz hS;have HOWN:=zz hown;have HBEL:=zz hbel;obtain⟨q,hq⟩:∃q,q=i+k:=⟨_,rfl⟩;obtain⟨sp,hsp⟩:∃sp,sp=s+p:=⟨_,rfl⟩;obtain⟨n,hn⟩:∃n,n=sp+c:=⟨_,rfl⟩;have hw1:IntKind.i64.wrap ((i:Int)+(k:Int))=(q:Int):=by rw [i64w _ (by omega) (by have:=HL.out;omega),hq];simp
     have hw2:IntKind.i64.wrap ((x:Int)*(y:Int))=(p:Int):=by rw [hpZ,i64w _ (by omega) (by omega)]
     have hw3:IntKind.i64.wrap ((s:Int)+(p:Int))=(sp:Int):=by rw [i64w _ (by omega) (by omega),hsp];simp
     have hw4:IntKind.i64.wrap ((sp:Int)+(c:Int))=(n:Int):=by rw [i64w _ (by omega) (by omega),hn];simp
     have hn1:n < 66000:=by omega
     have hqL:q < L:=by omega
     have hqZ:(q:Int) < (L:Int):=by omega
     obtain⟨r,hr⟩:∃r,r=n%256:=⟨_,rfl⟩;obtain⟨d,hd⟩:∃d,d=n / 256:=⟨_,rfl⟩;have hrem:(n:Int).tmod 256=(r:Int):=by rw [hr,Int.tmod_eq_emod_of_nonneg (by omega)];simp
     have hquo:(n:Int).tdiv 256=(d:Int):=by rw [hd,Int.tdiv_eq_ediv_of_nonneg (by omega)];simp
     have hd2:d < 300:=by omega
     have hfz:=own_frozen HOWN.out q;have HRD:=zz (And.intro hr hd);clear hr hd;rw [←hq]at hcell hij;have HN:=zz (And.intro hq (And.intro hsp hn));clear hpZ hq hsp hn;have hL1:L≤1000000000000:=by have:=HL.out;omega
     clear ra rb hs hx hy hp hS hown hbel
     rcases(show(k < b.size)∨(¬k < b.size∧0 < c) by omega)with hgo|⟨hno,hgo⟩
     ·have d1:decide ((k:Int) < (b.size:Int))=true:=by simp;omega
      go_wp2_with fail
      go_quiet (first
       |(go_at_call 292;with_reducible refine Calls.quiet_of_same (RA.out _))
       |(go_at_call 292;with_reducible refine Calls.quiet_of_same (RB.out _)))
      go_wp2
      go_roundg (b.size - k)
      case rel=>
       refine⟨k+1,d,S.set q r,by omega,by go_num,rfl,?_,by rw [←nV_set];exact own_set (own_drew HOWN.out _) _,Below.setCell (Below_drewN HBEL.out _) (p:=⟨w.heap.size,q,none⟩) (Nat.le_refl _) _⟩;rw [HRD.out.1,HRD.out.2,HN.out.1];exact HS.out.step (bl_size b) hkb (by rw [←HN.out.1];exact hqL) (atB_lt _ _) (by rw [HN.out.2.2,HN.out.2.1,HSX.out.2.2.2,HSX.out.1,HSX.out.2.1,HSX.out.2.2.1])
      case measure=>omega
     ·have d1:decide ((k:Int) < (b.size:Int))=false:=by simp;omega
      have d2:decide ((0:Int) < (c:Int))=true:=by simp;omega
      go_wp2_with fail
      go_quiet (first
       |(go_at_call 292;with_reducible refine Calls.quiet_of_same (RA.out _))
       |(go_at_call 292;with_reducible refine Calls.quiet_of_same (RB.out _)))
      go_wp2
      go_roundg (b.size - k)
      case rel=>
       refine⟨k+1,d,S.set q r,by omega,by go_num,rfl,?_,by rw [←nV_set];exact own_set (own_drew HOWN.out _) _,Below.setCell (Below_drewN HBEL.out _) (p:=⟨w.heap.size,q,none⟩) (Nat.le_refl _) _⟩;rw [HRD.out.1,HRD.out.2,HN.out.1];exact HS.out.step (bl_size b) hkb (by rw [←HN.out.1];exact hqL) (atB_lt _ _) (by rw [HN.out.2.2,HN.out.2.1,HSX.out.2.2.2,HSX.out.1,HSX.out.2.1,HSX.out.2.2.1])
      case measure=>omega
    ·obtain rfl:c=0:=by omega
     have d1:decide ((k:Int) < (b.size:Int))=false:=by simp;omega
     have HO:=zz (hS.out HS0.out (by omega) (bl_size b));have HOWN:=zz hown;have HBEL:=zz hbel;clear hS hown hbel hkc
     go_wp2_with fail
     go_roundg (G - 1)
     case rel=>exact⟨i+1,S,by have:=HI.out;omega,by go_num,HO.out,HOWN.out,HBEL.out⟩
     case measure=>have:=HI.out;omega
  ·obtain rfl:i=a.size:=by have:=HI.out;omega
   have d1:decide ((a.size:Int) < (a.size:Int))=false:=by simp
   have hL1:L≤1000000000000:=by have:=HL.out;omega
   go_wp2_with fail
   go_loopg [10,64] L (fun gn t10 t64 wq=>∃(j:Nat) (s:SlV),j+gn=L∧t64=.int .i64 j∧t10=.slice s.a s.len s.cap∧ownB wq w.heap.size (.slice s.a s.len s.cap) ((S0.take j).map UInt8.ofNat)∧wq.ownsRow w.heap.size 3 1 (.slice (some ⟨w.heap.size,0,none⟩) L L) L (nV S0)∧Below w.heap.size w wq)
   case atStart=>exact⟨0,⟨some ⟨wr.heap.size,0,none⟩,0,0⟩,by omega,rfl,rfl,own_new _ _ HB0.out.size,HO0.out.alloc _,HB0.out.alloc HB0.out.size _⟩
   case round=>
    obtain⟨G2,rfl⟩:∃G2,G2=gk:=⟨_,rfl⟩;obtain⟨j,s,hj,rfl,rfl,hob,hos,hbq⟩:=hrel;have HOB:=zz hob;have HOS:=zz hos;have HBQ:=zz hbq;have HJ:=zz hj;clear hob hos hbq hj
    by_cases hjl:j < L
    ·have hjZ:(j:Int) < (L:Int):=by omega
     obtain⟨x,hx⟩:∃x,x=S0.getD j 0:=⟨_,rfl⟩;have hx1:x < 256:=by rw [hx];exact getD_small HS0.out.sm j
     have hjS:j < S0.length:=by rw [HS0.out.len];exact hjl
     have hcell:wr.cell? ⟨w.heap.size,j,none⟩=some (.int .i64 (x:Int)):=by
      rw [World.ownsRow.cellAt HOS.out j (by omega),hx];exact nV_get hjS
     have HTK:=zz (show(S0.take (j+1)).map UInt8.ofNat=(S0.take j).map UInt8.ofNat++ [UInt8.ofNat x] by
      rw [list_snoc S0 j x (by rw [hx,List.getD_eq_getElem?_getD,List.getElem?_eq_getElem hjS];rfl),List.map_append];rfl)
     have HLN:=zz (show((S0.take j).map UInt8.ofNat).length=j by rw [List.length_map,List.length_take];omega);clear hx hjS
     go_wp2_with(first
      |(at_builtin;refine step_push rfl _ _ rfl w.heap.size (.slice s.a s.len s.cap) ((S0.take j).map UInt8.ofNat) rfl (World.ownsRow.alloc HOB.out _) wr.heap.size (x:Int) (UInt8.ofNat x) (by rw [u8of];omega) rfl (zg _ _ _ rfl) (by have:=HLN.out;omega) (by have:=HBQ.out.size;simp;omega) ?_;intro v9 w9 hown9 hg9;have HO9:=zz hown9;have HG9:=zz hg9;obtain⟨s9,hs9⟩:=ownsForm hown9;subst hs9;clear hown9 hg9))
     go_roundg (G2 - 1)
     case rel=>exact⟨j+1,s9,by have:=HJ.out;omega,by go_num,rfl,by rw [HTK.out];exact HO9.out,World.ownsRow.kept (HOS.out.alloc _) HG9.out (own_diff HOS.out HOB.out (by decide)),(HBQ.out.alloc HBQ.out.size _).grown HG9.out (by have:=HBQ.out.size;simp;omega) (fun j hj=>(HOB.out.lt j hj).1)⟩
     case measure=>have:=HJ.out;omega
    ·obtain rfl:j=L:=by have:=HJ.out;omega
     have d2:decide ((j:Int) < (j:Int))=false:=by simp
     have hall:S0.take j=S0:=List.take_of_length_le (by rw [HS0.out.len];exact Nat.le_refl _);have hob:=HOB.out;rw [hall]at hob;have hcv:=conv_own hob
     have HF:=zz (show v8 (S0.map UInt8.ofNat)=v8 (bl a)*v8 (bl b) by
      rw [v8_bytes S0 HS0.out.sm,HS0.out.v,dS_all (bl a) a.size (by rw [bl_size];exact Nat.le_refl _)])
     have hsz:(ofL (S0.map UInt8.ofNat)).size≤1000000000000:=by rw [←bl_size,bl_ofL,List.length_map,HS0.out.len];exact hL1
     clear hall hob
     go_wp2_with fail
     refine(rNorm_any (ofL (S0.map UInt8.ofNat)) hsz _).mono ?_;rintro e w2 ⟨rfl,rfl⟩;go_wp2;go_ret
     exact⟨by rw [bl_ofL,trimZ_enc,HF.out];rfl,HBQ.out⟩
theorem own_byte (W:World) (base n:Nat) (hn:n < 256) (hb:base≤W.heap.size):ownB (W.alloc (.cells #[.int .u8 (n:Int)] 5)) base (.slice (some ⟨W.heap.size,0,none⟩) 1 1) [UInt8.ofNat n]:=by
 refine⟨rfl,.inr ⟨W.heap.size,1,#[.int .u8 (n:Int)],rfl,hb,zg _ _ _ rfl,Nat.le_refl _,by unfold maxLen;omega,rfl,?_⟩⟩;simp [bV];omega
theorem enc_size {n k:Nat} (h:n < 256^k):(ofL (enc n)).size≤k:=by rw [←bl_size,bl_ofL];exact enc_length h
theorem rSmall_any (a:ByteArray) (n:Nat) (ha:a.size≤10000000000) (hn:n < 256) (w:World):Calls Tryz.prog 266 #[.string a,.int .i64 n] w fun e w'=>e=.returned (.string (ofL (enc (v8 (bl a)*n))))∧Below w.heap.size w w':=by
 have hcv:=conv_own (own_byte w w.heap.size n hn (Nat.le_refl _));go_enter Tryz.func266,Tryz.ntmps266
 go_wp2_with fail
 refine(rMul_any a (ofL [UInt8.ofNat n]) (by omega) (by rw [←bl_size,bl_ofL];simp) _).mono ?_;rintro e w2 ⟨rfl,hb⟩;go_wp2;go_ret
 refine⟨?_,((Below.refl _ w).alloc (Nat.le_refl _) _).trans (hb.mono (by simp))⟩
 have hv:v8 (bl (ofL [UInt8.ofNat n]))=n:=by
  rw [bl_ofL]
  show(UInt8.ofNat n).toNat+256*0=n
  rw [u8of];omega
 rw [hv];rfl
theorem bl_cat (s:ByteArray) (r:ByteArray):bl (s++r)=bl s++bl r:=by
 unfold bl;simp
theorem bl_extract1 (s:ByteArray) (i:Nat) (h:i < s.size):bl (s.extract i (i+1))= [s[i]]:=by
 have e:=ByteArray.extract_mk s.data.toList i (i+1);have e2:(ByteArray.mk s.data.toList.toArray)=s:=by cases s;rfl
 rw [e2]at e;rw [e]
 show((s.data.toList.drop i).take (i+1 - i))=_
 have h1:=byte_at (x:=s) rfl h;have hlt:=(List.getElem?_eq_some_iff.1 h1).1;rw [show i+1 - i=1 by omega]
 show((bl s).drop i).take 1=_
 rw [List.drop_eq_getElem_cons hlt,(List.getElem?_eq_some_iff.1 h1).2];rfl
theorem quo_step {x V B T q:Nat} (hB:0 < B) (hT:T=x+256*(V%B)) (hq:q*B≤T) (hq2:T < (q+1)*B):(x+256*V) / B=q+256*(V / B)∧(x+256*V)%B=T - q*B:=by
 have h1:=Nat.div_add_mod V B
 have h2:x+256*V=T+B*(256*(V / B)):=by
  have:256*V=256*(B*(V / B))+256*(V%B):=by rw [←Nat.mul_add,h1]
  have e:B*(256*(V / B))=256*(B*(V / B)):=by rw [Nat.mul_left_comm]
  omega
 have h3:T / B=q:=by
  apply Nat.div_eq_of_lt_le hq
  exact hq2
 rw [h2,Nat.add_mul_div_left _ _ hB,Nat.add_mul_mod_self_left,h3];refine⟨rfl,?_⟩;have h4:=Nat.div_add_mod T B;rw [h3]at h4;rw [Nat.mul_comm q B];omega
theorem made5 (n:Nat):(madeCells #[(.int .u8 0:Value)] n).toList=bV (List.replicate n 0):=by
 rw [toList_madeCells_one];simp [bV]
theorem own_made5 (W:World) (base n:Nat) (hb:base≤W.heap.size) (hn:n≤maxLen):(W.alloc (.cells (madeCells #[(.int .u8 0:Value)] n) 5)).ownsRow base 5 1 (.slice (some ⟨W.heap.size,0,none⟩) n n) n (bV (List.replicate n 0)):=by
 refine⟨by simp [bV],.inr ⟨W.heap.size,n,_,rfl,hb,zg _ _ _ rfl,Nat.le_refl _,hn,?_,?_⟩⟩
 ·have:=congrArg List.length (made5 n);simp [bV]at this;omega
 ·rw [made5,List.take_of_length_le (by simp [bV])]
theorem ofL_ne {n:Nat} (h:n≠0):ofL (enc n)≠ByteArray.empty:=fun e=>by
 have:bl (ofL (enc n))= []:=by rw [e];rfl
 rw [bl_ofL]at this;exact h (enc_nil this)
theorem cmp_le_true {m n:Nat} (h:m≤n):decide (cmpN m n≤0)=true:=by
 unfold cmpN
 split
 ·simp
 ·rw [if_neg (by omega)];simp
theorem cmp_le_false {m n:Nat} (h:n < m):decide (cmpN m n≤0)=false:=by
 unfold cmpN;rw [if_neg (by omega),if_pos h];simp
theorem bV_set (Q:List UInt8) (i n:Nat) (hn:n < 256):(bV Q).set i (.int .u8 (n:Int))=bV (Q.set i (UInt8.ofNat n)):=by
 have h:((UInt8.ofNat n).toNat:Int)=(n:Int):=by rw [u8of];omega
 unfold bV;rw [List.map_set,h]
theorem v8_ofL (n:Nat):v8 (bl (ofL (enc n)))=n:=by rw [bl_ofL,v8_enc]
theorem ofL_noempty {n:Nat} (h:n≠0):(ofL (enc n)).toList.isEmpty=false:=by
 cases he:(ofL (enc n)).toList.isEmpty with
 |false=>rfl
 |true=>
  exfalso
  have h1:(ofL (enc n)).toList= []:=by simpa using he
  exact ofL_ne h ((toList_nil_iff_emptyBytes _).1 h1)
structure DivO (la k A B:Nat) (a Q:List UInt8):Prop where
 len:Q.length=la
 v:v8 (Q.drop k)=v8 (a.drop k) / B
theorem DivO.step {la i A B q T:Nat} {a Q:List UInt8} (h:DivO la (i+1) A B a Q) (hi:i < la) (hal:a.length=la) (hB:0 < B) (hq8:q < 256) {x:UInt8} (hx:a[i]? =some x) (hT:T=x.toNat+256*(v8 (a.drop (i+1))%B)) (hq:q*B≤T) (hq2:T < (q+1)*B):
  DivO la i A B a (Q.set i (UInt8.ofNat q))∧v8 (a.drop i)%B=T - q*B:=by
 have hd:a.drop i=x::a.drop (i+1):=by
  rw [List.drop_eq_getElem_cons (by omega)]
  congr 1
  exact(List.getElem?_eq_some_iff.1 hx).2
 have hs:=quo_step hB hT hq hq2;have hv:v8 (a.drop i)=x.toNat+256*v8 (a.drop (i+1)):=by rw [hd];rfl
 refine⟨⟨by rw [List.length_set];exact h.len,?_⟩,by rw [hv];exact hs.2⟩;rw [hv,hs.1];have hlen:i < (Q.set i (UInt8.ofNat q)).length:=by rw [List.length_set,h.len];exact hi
 rw [List.drop_eq_getElem_cons hlen,List.getElem_set_self,List.drop_set_of_lt (by omega)]
 show(UInt8.ofNat q).toNat+256*v8 (Q.drop (i+1))=_
 rw [u8of,h.v,Nat.mod_eq_of_lt hq8]
set_option maxRecDepth 100000 in
theorem rDiv_any (a b:ByteArray) (ha:a.size≤1000000000) (hb:b.size≤1000000000) (h0:v8 (bl b)≠0) (w:World):Calls Tryz.prog 236 #[.string a,.string b] w fun e w'=>e=.returned (.tuple #[.string (ofL (enc (v8 (bl a) / v8 (bl b)))),.string (ofL (enc (v8 (bl a)%v8 (bl b)))),.bool true])∧Below w.heap.size w w':=by
 have hmk:∀W:World,(Instr.makeSlice 222 (.int .i64 (a.size:Int)) (.int .i64 (a.size:Int))).run Tryz.prog W=.ok (.slice (some ⟨W.heap.size,0,none⟩) a.size a.size) (W.alloc (.cells (madeCells #[(.int .u8 0:Value)] a.size) 5)):=fun W=>by
  have h:=run_make_row' (P:=Tryz.prog) 222 5 (.int .u8 0) 1 und222 info5 rfl .i64 .i64 a.size (by omega) (by omega) W;exact h
 have HOW:=zz (own_made5 w w.heap.size a.size (Nat.le_refl _) (by unfold maxLen;omega));have hne:=ofL_noempty h0;go_enter Tryz.func236,Tryz.ntmps236
 go_wp2_with fail
 refine(rNorm_any b (by omega) w).mono ?_;rintro e w1 ⟨rfl,rfl⟩;rw [trimZ_enc]
 go_wp2_with fail
 obtain⟨B,hB⟩:∃B,B=v8 (bl b):=⟨_,rfl⟩;obtain⟨A,hA⟩:∃A,A=v8 (bl a):=⟨_,rfl⟩;have hB0:0 < B:=by omega
 have HAB:=zz (And.intro hA hB);have HLB:=zz (show B < 256^b.size by rw [hB,←bl_size];exact v8_lt (bl b));rw [←hB];clear hne hA hB
 go_loopg [8,9] a.size (fun gn t8 t9 wr=>∃(k:Nat) (Q:List UInt8),t9=.int .i64 ((k:Int) - 1)∧gn=k∧k≤a.size∧t8=.string (ofL (enc (v8 ((bl a).drop k)%B)))∧DivO a.size k A B (bl a) Q∧wr.ownsRow w.heap.size 5 1 (.slice (some ⟨w.heap.size,0,none⟩) a.size a.size) a.size (bV Q)∧Below w.heap.size w wr)
 case atStart=>
  have hd:(bl a).drop a.size= []:=List.drop_eq_nil_of_le (by rw [bl_size];exact Nat.le_refl _);refine⟨a.size,List.replicate a.size 0,rfl,rfl,Nat.le_refl _,?_,⟨by simp,?_⟩,HOW.out,(Below.refl _ _).alloc (Nat.le_refl _) _⟩
  ·rw [hd,show v8 []%B=0 by simp [v8],enc_zero];rfl
  ·rw [hd,List.drop_eq_nil_of_le (by simp)];simp [v8]
 case round=>
  obtain⟨G,rfl⟩:∃G,G=gk:=⟨_,rfl⟩;obtain⟨k,Q,rfl,hg,hk,rfl,hQ,hown,hbel⟩:=hrel;subst hg;have HQ:=zz hQ;have HO:=zz hown;have HBL:=zz hbel;clear hQ hown hbel
  by_cases hG:0 < G
  ·obtain⟨i,rfl⟩:∃i,G=i+1:=⟨G - 1,by omega⟩;have hiZ:(i:Int) < (a.size:Int):=by omega
   have hi1:i < a.size:=by omega
   obtain⟨R,hR⟩:∃R,R=v8 ((bl a).drop (i+1))%B:=⟨_,rfl⟩;rw [←hR];have hRB:R < B:=by rw [hR];exact Nat.mod_lt _ hB0
   have hRs:(ofL (enc R)).size≤b.size:=enc_size (by have:=HLB.out;omega);have HR:=zz hR;clear hR
   go_wp2_with fail
   have hxs:(a.extract i (i+1)++ofL (enc R)).size≤1000000000000:=by rw [←bl_size,bl_cat,bl_extract1 a i hi1,List.length_append,bl_size,List.length_singleton];omega
   refine(rNorm_any (a.extract i (i+1)++ofL (enc R)) hxs wr).mono ?_;rintro e w2 ⟨rfl,rfl⟩;rw [trimZ_enc,bl_cat,bl_extract1 a i hi1,bl_ofL]
   have hT0:v8 ([a[i]]++enc R)=a[i].toNat+256*R:=by
    show a[i].toNat+256*v8 (enc R)=_
    rw [v8_enc]
   rw [hT0];obtain⟨T,hT⟩:∃T,T=a[i].toNat+256*R:=⟨_,rfl⟩;rw [←hT];have hT1:T < 256*B:=by have:=u8lt a[i];omega
   have hTs:(ofL (enc T)).size≤b.size+1:=enc_size (by have:=HLB.out;rw [Nat.pow_succ];omega);have HT:=zz hT;clear hT hT0 hxs
   go_wp2_with fail
   go_loopg [10,11] 255 (fun gm t10 t11 wq=>∃(lo hi:Nat),t10=.int .i64 lo∧t11=.int .i64 hi∧lo+gm=hi∧hi≤255∧lo*B≤T∧T < (hi+1)*B∧Below wr.heap.size wr wq)
   case atStart=>exact⟨0,255,rfl,rfl,by omega,by omega,by omega,by omega,Below.refl _ _⟩
   case round=>
    obtain⟨G2,rfl⟩:∃G2,G2=gk:=⟨_,rfl⟩;obtain⟨w0,rfl⟩:∃w0,w0=wr:=⟨_,rfl⟩;obtain⟨lo,hi,rfl,rfl,hlh,hh8,hlo,hhi,hbq⟩:=hrel;have HLO:=zz (And.intro hlo hhi);have HBQ:=zz hbq;clear hlo hhi hbq
    by_cases hlt:lo < hi
    ·have hltZ:(lo:Int) < (hi:Int):=by omega
     obtain⟨mid,hmid⟩:∃mid,mid=(lo+hi+1) / 2:=⟨_,rfl⟩;have hq:((lo:Int)+(hi:Int)+1).tdiv 2=(mid:Int):=by rw [hmid,Int.tdiv_eq_ediv_of_nonneg (by omega)];simp
     have hm1:lo < mid:=by omega
     have hm2:mid≤hi:=by omega
     have hm3:mid < 256:=by omega
     have hBm:(ofL (enc (B*mid))).size≤b.size+1:=enc_size (by
      have h1:=HLB.out;have h2:B*mid≤B*255:=Nat.mul_le_mul_left _ (by omega)
      rw [Nat.pow_succ];omega)
     clear hmid
     go_wp2_with fail
     with_reducible refine(rSmall_any b mid (by omega) hm3 w0).mono ?_
     rintro e w3 ⟨rfl,hb3⟩;rw [←HAB.out.2];have HB3:=zz (HBQ.out.trans (hb3.mono HBQ.out.size));clear hb3
     go_wp2_with fail
     with_reducible refine(rCmp_any (ofL (enc (B*mid))) (ofL (enc T)) (by omega) (by omega) w3).mono ?_
     rintro e w4 ⟨rfl,hb4⟩;rw [v8_ofL,v8_ofL];have HB4:=zz (HB3.out.trans (hb4.mono HB3.out.size));clear hb4
     by_cases hc:B*mid≤T
     ·have hd:=cmp_le_true hc;have HC:=zz hc;clear hc;go_wp2
      go_roundg (hi - mid)
      case rel=>exact⟨mid,hi,rfl,rfl,by omega,hh8,by have:=HC.out;rw [Nat.mul_comm];exact this,HLO.out.2,HB4.out⟩
      case measure=>omega
     ·have hd:=cmp_le_false (show T < B*mid by omega);have HC:=zz hc;clear hc;go_wp2
      go_roundg (mid - 1 - lo)
      case rel=>exact⟨lo,mid - 1,rfl,by go_num,by omega,by omega,HLO.out.1,by have:=HC.out;rw [show mid - 1+1=mid by omega,Nat.mul_comm];omega,HB4.out⟩
      case measure=>omega
    ·obtain rfl:lo=hi:=by omega
     have hd:decide ((lo:Int) < (lo:Int))=false:=by simp
     have hl8:lo < 256:=by omega
     have hBm:(ofL (enc (B*lo))).size≤b.size+1:=enc_size (by
      have h1:=HLB.out;have h2:B*lo≤B*255:=Nat.mul_le_mul_left _ (by omega)
      rw [Nat.pow_succ];omega)
     have hle:B*lo≤T:=by have:=HLO.out.1;rw [Nat.mul_comm];exact this
     have HST:=zz (HQ.out.step hi1 (bl_size a) hB0 hl8 (byte_at rfl hi1) (by rw [HT.out,HR.out]) HLO.out.1 HLO.out.2);have HLE:=zz hle;clear hle
     go_wp2_with fail
     with_reducible refine(rSmall_any b lo (by omega) hl8 w0).mono ?_
     rintro e w3 ⟨rfl,hb3⟩;rw [←HAB.out.2];have HB3:=zz (HBQ.out.trans (hb3.mono HBQ.out.size));clear hb3
     go_wp2_with fail
     with_reducible refine(rSub_ge (ofL (enc T)) (ofL (enc (B*lo))) (by omega) (by omega) (by rw [v8_ofL,v8_ofL];exact HLE.out) w3).mono ?_
     rintro e w4 ⟨rfl,hb4⟩;rw [v8_ofL,v8_ofL];have HB4:=zz (HB3.out.trans (hb4.mono HB3.out.size));clear hb4;have HO4:=zz (ownsRow_below HO.out HB4.out);have hfz:=own_frozen HO4.out i
     have hcl:∃u,w4.cell? ⟨w.heap.size,i,none⟩=some u:=by
      rw [World.ownsRow.cellAt HO4.out i (by omega)];exact⟨_,List.getElem?_eq_getElem (by rw [bV_len,HQ.out.len];exact hi1)⟩
     obtain⟨u,hcell⟩:=hcl;go_wp2
     go_roundg i
     case rel=>exact⟨i,Q.set i (UInt8.ofNat lo),rfl,rfl,by omega,by rw [HST.out.2,Nat.mul_comm B lo],HST.out.1,by rw [←bV_set Q i lo hl8];exact own_set HO4.out _,Below.setCell (HBL.out.trans (HB4.out.mono HBL.out.size)) (p:=⟨w.heap.size,i,none⟩) (Nat.le_refl _) _⟩
     case measure=>omega
  ·obtain rfl:G=0:=by omega
   have hd:decide ((0:Int)≤((0:Nat):Int) - 1)=false:=by simp
   have hob:ownB wr w.heap.size (.slice (some ⟨w.heap.size,0,none⟩) a.size a.size) Q:=by unfold ownB;rw [HQ.out.len];exact HO.out
   have hcv:=conv_own hob;have hsz:(ofL Q).size≤1000000000000:=by rw [←bl_size,bl_ofL,HQ.out.len];omega
   have HF:=zz (show v8 Q=A / B by have:=HQ.out.v;rw [List.drop_zero,List.drop_zero,←HAB.out.1]at this;exact this);clear hob
   go_wp2_with fail
   with_reducible refine(rNorm_any (ofL Q) hsz wr).mono ?_
   rintro e w2 ⟨rfl,rfl⟩;go_wp2;refine bodyPost_ret (v:=.tuple #[.string (ofL (trimZ (bl (ofL Q)))),.string (ofL (enc (v8 ((bl a).drop 0)%B))),.bool true]) (by simp [results,Tryz.results236,go_sem]) rfl ⟨?_,HBL.out⟩;rw [bl_ofL,trimZ_enc,HF.out,List.drop_zero,HAB.out.1,HAB.out.2]
theorem enc_empty:(ofL (enc 0)).toList.isEmpty=true:=by
 have:ofL (enc 0)=ByteArray.empty:=by rw [enc_zero];rfl
 rw [this];have h:=(toList_nil_iff_emptyBytes ByteArray.empty).2 rfl;rw [h];rfl
theorem rGcd_any (a b:ByteArray) (ha:a.size≤1000000000) (hb:b.size≤1000000000) (w:World):Calls Tryz.prog 235 #[.string a,.string b] w fun e w'=>e=.returned (.string (ofL (enc (Nat.gcd (v8 (bl a)) (v8 (bl b))))))∧Below w.heap.size w w':=by
 obtain⟨K,hK,hKa,hKb⟩:∃K,K≤1000000000∧a.size≤K∧b.size≤K:=⟨max a.size b.size,by omega,by omega,by omega⟩;have hA:=v8_lt (bl a);have hB:=v8_lt (bl b);rw [bl_size]at hA hB;go_enter Tryz.func235,Tryz.ntmps235
 go_wp2_with fail
 with_reducible refine(rNorm_any a (by omega) w).mono ?_
 rintro e w1 ⟨rfl,rfl⟩
 go_wp2_with fail
 with_reducible refine(rNorm_any b (by omega) w).mono ?_
 rintro e w1 ⟨rfl,rfl⟩;rw [trimZ_enc,trimZ_enc];obtain⟨A,hAA⟩:∃A,A=v8 (bl a):=⟨_,rfl⟩;obtain⟨B,hBB⟩:∃B,B=v8 (bl b):=⟨_,rfl⟩;rw [←hAA,←hBB];rw [←hAA]at hA;rw [←hBB]at hB;have HAB:=zz (And.intro hAA hBB);have HK:=zz (show A < 256^K∧B < 256^K from⟨Nat.lt_of_lt_of_le hA (Nat.pow_le_pow_right (by omega) hKa),Nat.lt_of_lt_of_le hB (Nat.pow_le_pow_right (by omega) hKb)⟩);clear hAA hBB hA hB
 go_wp2_with fail
 go_loopg [5,6] B (fun gn t5 t6 wr=>∃(X Y:Nat),t5=.string (ofL (enc X))∧t6=.string (ofL (enc Y))∧gn=Y∧Nat.gcd X Y=Nat.gcd A B∧X < 256^K∧Y < 256^K∧Below w.heap.size w wr)
 case atStart=>exact⟨A,B,rfl,rfl,rfl,rfl,HK.out.1,HK.out.2,Below.refl _ _⟩
 case round=>
  obtain⟨G,rfl⟩:∃G,G=gk:=⟨_,rfl⟩;obtain⟨X,Y,rfl,rfl,hg,hgcd,hX,hY,hbel⟩:=hrel;subst hg;have hsX:(ofL (enc X)).size≤1000000000:=Nat.le_trans (enc_size hX) hK;have hsY:(ofL (enc G)).size≤1000000000:=Nat.le_trans (enc_size hY) hK;have HH:=zz (And.intro hgcd (And.intro hX (And.intro hY hbel)));clear hgcd hX hY hbel
  by_cases h0:G=0
  ·subst h0;have he:=enc_empty
   go_wp2_with fail
   go_ret
   refine⟨?_,HH.out.2.2.2⟩;have h1:=HH.out.1;rw [Nat.gcd_zero_right]at h1;rw [←HAB.out.1,←HAB.out.2,←h1];rfl
  ·have he:=ofL_noempty h0;have HN:=zz h0;clear h0
   go_wp2_with fail
   with_reducible refine(rDiv_any (ofL (enc X)) (ofL (enc G)) hsX hsY (by rw [v8_ofL];exact HN.out) _).mono ?_
   rintro e w3 ⟨rfl,hb3⟩;rw [v8_ofL,v8_ofL];have HB3:=zz (HH.out.2.2.2.trans (hb3.mono HH.out.2.2.2.size));clear hb3;have hmod:X%G < G:=Nat.mod_lt _ (by have:=HN.out;omega);go_wp2
   go_roundg (X%G)
   case rel=>exact⟨G,X%G,rfl,rfl,rfl,by rw [←HH.out.1,Nat.gcd_comm X G,Nat.gcd_rec G X,Nat.gcd_comm],HH.out.2.2.1,Nat.lt_trans hmod HH.out.2.2.1,HB3.out⟩
   case measure=>exact hmod
end Go.Proofs.YteigcnamkfebgaaGreatDoor
