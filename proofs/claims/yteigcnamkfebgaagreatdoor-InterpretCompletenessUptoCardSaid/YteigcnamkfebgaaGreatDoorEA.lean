import Derived.Test.YteigcnamkfebgaaGreatDoorCF
import Derived.Laws.BitsAllLaws
set_option linter.all false
set_option maxHeartbeats 25600000
namespace Go.Proofs.YteigcnamkfebgaaGreatDoor
open Go.RowKit
theorem last_byte (u:ByteArray) (h0:0 < u.size) (hl:u.size - 1 < u.size):bl u=(bl u).take (u.size - 1)++ [u[u.size - 1]]:=by
 have h2:=take_byte u u.size h0 (Nat.le_refl _) hl
 rwa [List.take_of_length_le (by rw [bl_size];exact Nat.le_refl _)]at h2
theorem bl_empty {u:ByteArray} (h:¬0 < u.size):u=⟨#[]⟩:=by
 have h00:bl u= []:=List.eq_nil_of_length_eq_zero (by rw [bl_size];omega);rw [←ofL_bl u,h00];rfl
theorem noempty_of {u:ByteArray} (h:0 < u.size):u.toList.isEmpty=false:=by
 cases he:u.toList.isEmpty with
 |false=>rfl
 |true=>
  exfalso
  have h1:u.toList= []:=by simpa using he
  rw [(toList_nil_iff_emptyBytes _).1 h1]at h;simp at h
theorem trimByte_any (s:ByteArray) (hs:s.size≤1000000000000) (w:World):Calls Tryz.prog 251 #[.string s,.int .u8 0] w fun e w'=>e=.returned (.string (ofL (trimZ (bl s))))∧w=w':=by
 go_enter Tryz.func251,Tryz.ntmps251
 go_wp2
 go_loopg [0] s.size (fun gn t0 wr=>∃u:ByteArray,t0=.string u∧gn=u.size∧u.size≤s.size∧trimZ (bl u)=trimZ (bl s)∧wr=w)
 case atStart=>exact⟨s,rfl,rfl,Nat.le_refl _,rfl,rfl⟩
 case round=>
  obtain⟨G,rfl⟩:∃G,G=gk:=⟨_,rfl⟩;obtain⟨u,rfl,hg,hm,ht,rfl⟩:=hrel;have HG:=zz hg;have HT:=zz ht;clear ht hg
  by_cases h0:0 < u.size
  ·have d0:decide ((0:Int) < (u.size:Int))=true:=by simp;omega
   have hl:u.size - 1 < u.size:=by omega
   go_wp2_with fail
   ·rename_i hz
    go_roundg (u.size - 1)
    case rel=>
     refine⟨u.extract 0 (u.size - 1),rfl,by simp,by simp;omega,?_,rfl⟩;rw [←HT.out,extract_take,bl_ofL]
     conv=>rhs;rw [last_byte u h0 hl,zero_of hz,trimZ_snoc0]
    case measure=>have:=HG.out;omega
   ·rename_i hz;go_ret
    refine⟨?_,rfl⟩;have h2:=last_byte u h0 hl;have h3:=trimZ_snoc (nonzero_of hz) ((bl u).take (u.size - 1));rw [←h2]at h3;rw [←HT.out,h3,ofL_bl];rfl
  ·obtain rfl:u=⟨#[]⟩:=bl_empty h0;clear h0
   go_wp2_with fail
   go_ret
   exact⟨by rw [←HT.out];rfl,rfl⟩
set_option maxRecDepth 100000 in
theorem trimRight_any (s:ByteArray) (hs:s.size≤1000000000000) (w:World):Calls Tryz.prog 228 #[.string s,.string ⟨#[0]⟩] w fun e w'=>e=.returned (.string (ofL (trimZ (bl s))))∧w=w':=by
 have H:=zz (trimByte_any s hs w)
 by_cases h0:0 < s.size
 ·have hne:s.toList.isEmpty=false:=noempty_of h0;go_enter Tryz.func228,Tryz.ntmps228
  go_wp2_with fail
  refine H.out.mono ?_;rintro e w1 ⟨rfl,rfl⟩;go_wp2;go_ret
  exact⟨rfl,rfl⟩
 ·obtain rfl:s=⟨#[]⟩:=bl_empty h0;exact(trimE w).mono fun e w' h=>⟨h.1,h.2⟩
theorem norm_any (s:ByteArray) (hs:s.size≤1000000000000) (w:World):Calls Tryz.prog 200 #[.string s] w fun e w'=>e=.returned (.string (ofL (trimZ (bl s))))∧w=w':=by
 have H:=zz (trimRight_any s hs w);go_enter Tryz.func200,Tryz.ntmps200
 go_wp2_with fail
 refine H.out.mono ?_;rintro e w1 ⟨rfl,rfl⟩;go_wp2;go_ret
 exact⟨rfl,rfl⟩
def lV (S:List Nat):List Value:=S.map fun x:Nat=>.int .u32 (x:Int)
theorem lV_set (S:List Nat) (j x:Nat):(lV S).set j (.int .u32 (x:Int))=lV (S.set j x):=by simp [lV,List.map_set]
theorem lV_get {S:List Nat} {j:Nat} (h:j < S.length):(lV S)[j]? =some (.int .u32 (S.getD j 0:Nat)):=by
 simp [lV,h,List.getD]
def vL:List Nat→Nat
 | []=>0
 |x::r=>x+4294967296*vL r
theorem vL_set:∀(S:List Nat) (j y:Nat),j < S.length→vL (S.set j y)+S.getD j 0*4294967296^j=vL S+y*4294967296^j
 | [],j,y,h=>by simp at h
 |x::r,0,y,_=>by simp [vL];omega
 |x::r,j+1,y,h=>by
  have ih:=vL_set r j y (by simpa using h);simp only [List.set_cons_succ,vL,List.getD_cons_succ,Nat.pow_succ];rw [←Nat.mul_assoc,←Nat.mul_assoc];omega
theorem vL_zero:∀n,vL (List.replicate n 0)=0
 |0=>rfl
 |n+1=>by rw [List.replicate_succ];simp [vL,vL_zero n]
def ownL (W:World) (base g n:Nat) (S:List Nat):Prop:=W.ownsRow base 197 1 (.slice (some ⟨g,0,none⟩) n n) n (lV S)
theorem madeL (n:Nat):(madeCells #[(.int .u32 0:Value)] n).toList=lV (List.replicate n 0):=by
 rw [toList_madeCells_one];simp [lV]
theorem own_madeL (W:World) (base n:Nat) (hb:base≤W.heap.size) (hn:n≤maxLen):ownL (W.alloc (.cells (madeCells #[(.int .u32 0:Value)] n) 197)) base W.heap.size n (List.replicate n 0):=by
 refine⟨by simp [lV],.inr ⟨W.heap.size,n,_,rfl,hb,zg _ _ _ rfl,Nat.le_refl _,hn,?_,?_⟩⟩
 ·have:=congrArg List.length (madeL n);simp [lV]at this;omega
 ·rw [madeL,List.take_of_length_le (by simp [lV])]
theorem smallL_set {S:List Nat} {j x M:Nat} (h:∀y∈S,y < M) (hx:x < M):∀y∈S.set j x,y < M:=fun y hy=>by
 rcases List.mem_or_eq_of_mem_set hy with h1|h1
 ·exact h y h1
 ·omega
theorem getD_lt {S:List Nat} {M:Nat} (hM:0 < M) (h:∀y∈S,y < M) (j:Nat):S.getD j 0 < M:=by
 rw [List.getD_eq_getElem?_getD]
 cases hj:S[j]? with
 |none=>simpa using hM
 |some y=>simpa using h y (List.mem_of_getElem? hj)
theorem mkL (n:Nat) (hn:n≤1000000000000) (W:World):(Instr.makeSlice 260 (.int .i64 (n:Int)) (.int .i64 (n:Int))).run Tryz.prog W=.ok (.slice (some ⟨W.heap.size,0,none⟩) n n) (W.alloc (.cells (madeCells #[(.int .u32 0:Value)] n) 197)):=
 run_make_row' (P:=Tryz.prog) 260 197 (.int .u32 0) 4 und260 info197 rfl .i64 .i64 n (by omega) (by omega) W
structure LimI (N i:Nat) (t:List UInt8) (S:List Nat):Prop where
 len:S.length=N
 sm:∀y∈S,y < 4294967296
 v:vL S=v8 (t.take i)
 cur:S.getD (i / 4) 0 < 256^(i%4)
 z:∀j,i / 4 < j→S.getD j 0=0
theorem or32 {x h i:Nat} (hx:x < 2^i) (hi:2^i≤4294967296) (hh:h%2^i=0) (hh2:h < 4294967296):bits .or .u32 (x:Int) (h:Int)=((x+h:Nat):Int):=by
 rw [u32_or_nat x h (by omega) hh2];have hq:h=2^i*(h / 2^i):=by have:=Nat.div_add_mod h (2^i);omega
 rw [hq,Nat.or_comm,←Nat.two_pow_add_eq_or_of_lt hx (h / 2^i),Nat.add_comm]
theorem pow4 (j:Nat):4294967296^j=256^(4*j):=by rw [Nat.pow_mul]
theorem LimI.step {N i j k x b:Nat} {t:List UInt8} {S:List Nat} {c:UInt8} (h:LimI N i t S) (hj:j=i / 4) (hk:k=i%4) (hx:x=S.getD j 0) (hc:t[i]? =some c) (hb:b=c.toNat) (hjN:j < N):LimI N (i+1) t (S.set j (x+b*256^k)):=by
 have hb1:b < 256:=by rw [hb];exact u8lt c
 have hx1:x < 256^k:=by rw [hx,hj,hk];exact h.cur
 have hjS:j < S.length:=by rw [h.len];exact hjN
 have hy:x+b*256^k < 256^(k+1):=by
  have:b*256^k≤255*256^k:=Nat.mul_le_mul_right _ (by omega);rw [Nat.pow_succ];omega
 have h4:256^(k+1)≤4294967296:=by
  rcases(show k=0∨k=1∨k=2∨k=3 by omega)with rfl|rfl|rfl|rfl <;>decide
 refine⟨by rw [List.length_set];exact h.len,smallL_set h.sm (by omega),?_,?_,fun q hq=>?_⟩
 ·have h1:=vL_set S j (x+b*256^k) hjS;rw [←hx,Nat.add_mul]at h1;rw [list_snoc t i c hc,v8_snoc,←h.v,←hb]
  have hlen:(t.take i).length=i:=by
   rw [List.length_take];have:=(List.getElem?_eq_some_iff.1 hc).1;omega
  rw [hlen]
  have e:b*256^k*4294967296^j=b*256^i:=by
   rw [pow4,Nat.mul_assoc,←Nat.pow_add]
   congr 2
   omega
  omega
 ·by_cases h3:k=3
  ·have e1:(i+1) / 4=j+1:=by omega
   have e2:(i+1)%4=0:=by omega
   rw [e1,e2,getD_set_ne (by omega),h.z _ (by omega)]
   decide
  ·have e1:(i+1) / 4=j:=by omega
   have e2:(i+1)%4=k+1:=by omega
   rw [e1,e2,getD_set_self hjS];exact hy
 ·rw [getD_set_ne (by omega)];exact h.z q (by omega)
set_option maxRecDepth 100000 in
theorem limbs_any (s:ByteArray) (hs:s.size≤1000000000) (w:World):Calls Tryz.prog 232 #[.string s] w fun e w'=>∃(n:Nat) (S:List Nat),e=.returned (.slice (some ⟨w.heap.size,0,none⟩) n n)∧ownL w' w.heap.size w.heap.size n S∧S.length=n∧n≤s.size∧(∀y∈S,y < 4294967296)∧vL S=v8 (bl s)∧Below w.heap.size w w':=by
 obtain⟨u,hu⟩:∃u,u=ofL (trimZ (bl s)):=⟨_,rfl⟩;have hv:v8 (bl u)=v8 (bl s):=by rw [hu,bl_ofL,trimZ_enc,v8_enc]
 have hus:u.size≤s.size:=by
  rw [←bl_size u,hu,bl_ofL,trimZ_enc,←bl_size s];exact enc_length (v8_lt _)
 have HN:=zz (norm_any s (by omega) w);rw [←hu]at HN;have HV:=zz hv;clear hv hu;obtain⟨N,hN⟩:∃N,N=(u.size+3) / 4:=⟨_,rfl⟩;have hmk:=mkL N (by omega);have hw1:IntKind.i64.wrap ((u.size:Int)+4)=(u.size:Int)+4:=i64w _ (by omega) (by omega);have hw2:IntKind.i64.wrap ((u.size:Int)+4 - 1)=(u.size:Int)+3:=by rw [i64w _ (by omega) (by omega)];omega
 have hq:((u.size:Int)+3).tdiv 4=(N:Int):=by rw [hN,Int.tdiv_eq_ediv_of_nonneg (by omega)];simp
 have HO:=zz (own_madeL w w.heap.size N (Nat.le_refl _) (by unfold maxLen;omega));have hNb:N≤1000000000:=by omega
 have HNN:=zz hN;clear hN;go_enter Tryz.func232,Tryz.ntmps232
 go_wp2_with fail
 refine HN.out.mono ?_;rintro e w1 ⟨rfl,rfl⟩
 go_wp2_with fail
 go_loopg [15] u.size (fun gn t15 wr=>∃(i:Nat) (S:List Nat),i+gn=u.size∧t15=.int .i64 i∧LimI N i (bl u) S∧ownL wr w.heap.size w.heap.size N S∧Below w.heap.size w wr)
 case atStart=>exact⟨0,List.replicate N 0,by omega,rfl,⟨by simp,fun y hy=>by have:=(List.mem_replicate.1 hy).2;omega,by rw [vL_zero];rfl,by rw [vN_rep];simp,fun j _=>vN_rep N j⟩,HO.out,(Below.refl _ _).alloc (Nat.le_refl _) _⟩
 case round=>
  obtain⟨G,rfl⟩:∃G,G=gk:=⟨_,rfl⟩;obtain⟨i,S,hi,rfl,hS,hown,hbel⟩:=hrel;have HS:=zz hS;have HOW:=zz hown;have HB:=zz hbel;have HI:=zz hi;clear hS hown hbel hi
  by_cases h0:i < u.size
  ·have h0z:(i:Int) < (u.size:Int):=by omega
   obtain⟨j,hj⟩:∃j,j=i / 4:=⟨_,rfl⟩;obtain⟨k,hk⟩:∃k,k=i%4:=⟨_,rfl⟩;have hjN:j < N:=by have:=HNN.out;omega
   have hjz:(j:Int) < (N:Int):=by omega
   have hq1:((i:Int)).tdiv 4=(j:Int):=by rw [hj,Int.tdiv_eq_ediv_of_nonneg (by omega)];simp
   have hq2:((i:Int)).tmod 4=(k:Int):=by rw [hk,Int.tmod_eq_emod_of_nonneg (by omega)];simp
   obtain⟨x,hx⟩:∃x,x=S.getD j 0:=⟨_,rfl⟩;have hx1:x < 256^k:=by rw [hx,hj,hk];exact HS.out.cur
   have hcell:wr.cell? ⟨w.heap.size,j,none⟩=some (.int .u32 (x:Int)):=by
    rw [World.ownsRow.cellAt HOW.out j (by omega),hx];exact lV_get (by rw [HS.out.len];exact hjN)
   have hfz:=own_frozen HOW.out j;have HJK:=zz (And.intro hj (And.intro hk hx));clear hj hk hx hw1 hw2 hq hmk
   rcases(show k=0∨k=1∨k=2∨k=3 by have:=HJK.out.2.1;omega)with rfl|rfl|rfl|rfl
   all_goals (go_wp2_with fail;go_region;all_goals go_wp2)
   all_goals go_roundg (G - 1)
   case rel=>
    have hb:=u8lt u[i]
    have hor:bits BinOp.or IntKind.u32 (x:Int) ((u[i].toNat:Int)%4294967296)=((x+u[i].toNat*256^0:Nat):Int):=by
     have e:((u[i].toNat:Int)%4294967296)=((u[i].toNat*256^0:Nat):Int):=by omega
     rw [e];exact or32 (i:=0) hx1 (by decide) (by omega) (by omega)
    refine⟨i+1,S.set j (x+u[i].toNat*256^0),by have:=HI.out;omega,by go_num,HS.out.step HJK.out.1 HJK.out.2.1 HJK.out.2.2 (by rw [←bl_size]at h0;exact byte_at rfl _) rfl hjN,?_,(Below.setCell HB.out (p:=⟨w.heap.size,j,none⟩) (Nat.le_refl _) _).drew⟩;unfold ownL;rw [hor,←lV_set];exact own_drew (own_set HOW.out _) 1
   case measure=>have:=HI.out;omega
   case rel=>
    have hb:=u8lt u[i]
    have hor:bits BinOp.or IntKind.u32 (x:Int) ((u[i].toNat:Int)%4294967296*256%4294967296)=((x+u[i].toNat*256^1:Nat):Int):=by
     have e:((u[i].toNat:Int)%4294967296*256%4294967296)=((u[i].toNat*256^1:Nat):Int):=by omega
     rw [e];exact or32 (i:=8) hx1 (by decide) (by omega) (by omega)
    refine⟨i+1,S.set j (x+u[i].toNat*256^1),by have:=HI.out;omega,by go_num,HS.out.step HJK.out.1 HJK.out.2.1 HJK.out.2.2 (by rw [←bl_size]at h0;exact byte_at rfl _) rfl hjN,?_,(Below.setCell HB.out (p:=⟨w.heap.size,j,none⟩) (Nat.le_refl _) _).drew⟩;unfold ownL;rw [hor,←lV_set];exact own_drew (own_set HOW.out _) 1
   case measure=>have:=HI.out;omega
   case rel=>
    have hb:=u8lt u[i]
    have hor:bits BinOp.or IntKind.u32 (x:Int) ((u[i].toNat:Int)%4294967296*65536%4294967296)=((x+u[i].toNat*256^2:Nat):Int):=by
     have e:((u[i].toNat:Int)%4294967296*65536%4294967296)=((u[i].toNat*256^2:Nat):Int):=by omega
     rw [e];exact or32 (i:=16) hx1 (by decide) (by omega) (by omega)
    refine⟨i+1,S.set j (x+u[i].toNat*256^2),by have:=HI.out;omega,by go_num,HS.out.step HJK.out.1 HJK.out.2.1 HJK.out.2.2 (by rw [←bl_size]at h0;exact byte_at rfl _) rfl hjN,?_,(Below.setCell HB.out (p:=⟨w.heap.size,j,none⟩) (Nat.le_refl _) _).drew⟩;unfold ownL;rw [hor,←lV_set];exact own_drew (own_set HOW.out _) 1
   case measure=>have:=HI.out;omega
   case rel=>
    have hb:=u8lt u[i]
    have hor:bits BinOp.or IntKind.u32 (x:Int) ((u[i].toNat:Int)%4294967296*16777216%4294967296)=((x+u[i].toNat*256^3:Nat):Int):=by
     have e:((u[i].toNat:Int)%4294967296*16777216%4294967296)=((u[i].toNat*256^3:Nat):Int):=by omega
     rw [e];exact or32 (i:=24) hx1 (by decide) (by omega) (by omega)
    refine⟨i+1,S.set j (x+u[i].toNat*256^3),by have:=HI.out;omega,by go_num,HS.out.step HJK.out.1 HJK.out.2.1 HJK.out.2.2 (by rw [←bl_size]at h0;exact byte_at rfl _) rfl hjN,?_,(Below.setCell HB.out (p:=⟨w.heap.size,j,none⟩) (Nat.le_refl _) _).drew⟩;unfold ownL;rw [hor,←lV_set];exact own_drew (own_set HOW.out _) 1
   case measure=>have:=HI.out;omega
  ·obtain rfl:i=u.size:=by have:=HI.out;omega
   have d1:decide ((u.size:Int) < (u.size:Int))=false:=by simp
   go_wp2_with fail
   go_ret
   refine⟨N,S,rfl,HOW.out,HS.out.len,by have:=HNN.out;omega,HS.out.sm,?_,HB.out⟩;rw [HS.out.v,←HV.out,List.take_of_length_le (by rw [bl_size];exact Nat.le_refl _)]
def le4 (x:Nat):List UInt8:= [UInt8.ofNat x,UInt8.ofNat (x / 256),UInt8.ofNat (x / 65536),UInt8.ofNat (x / 16777216)]
theorem v8_le4 {x:Nat} (h:x < 4294967296) (r:List UInt8):v8 (le4 x++r)=x+4294967296*v8 r:=by
 simp only [le4,List.cons_append,List.nil_append,v8,u8of];omega
theorem v8_flat:∀(S:List Nat),(∀y∈S,y < 4294967296)→v8 (S.flatMap le4)=vL S
 | [],_=>rfl
 |x::r,h=>by
  rw [List.flatMap_cons,v8_le4 (h x List.mem_cons_self),v8_flat r (fun y hy=>h y (List.mem_cons_of_mem _ hy))];rfl
theorem flat_len:∀(S:List Nat),(S.flatMap le4).length=4*S.length
 | []=>rfl
 |x::r=>by rw [List.flatMap_cons,List.length_append,flat_len r];simp [le4];omega
set_option maxRecDepth 100000 in
theorem mag_any (g n:Nat) (S:List Nat) (w:World) (hl:S.length=n) (hn:n≤1000000000) (hs:∀y∈S,y < 4294967296) (hr:w.rangeAt g 0 (lV S)) (cap:Nat):
  Calls Tryz.prog 233 #[.slice (some ⟨g,0,none⟩) n cap] w fun e w'=>e=.returned (.string (ofL (enc (vL S))))∧Below w.heap.size w w':=by
 have hw:IntKind.i64.wrap (4*(n:Int))=4*(n:Int):=i64w _ (by omega) (by omega);obtain⟨i0,hi,hzz⟩:=Option.map_eq_some_iff.1 info5;simp only [Prod.mk.injEq]at hzz;obtain⟨hz,hsz,hby⟩:=hzz;obtain⟨w1,hmk,hown1,hg1⟩:=run_make_own (P:=Tryz.prog) w w.heap.size 222 5 i0 (.int .u8 0) 1 und222 hi hz hsz .i64 .i64 (4*n) (by rw [hby];omega) (by unfold maxLen;omega) (Nat.le_refl _);have hb1:Below w.heap.size w w1:=(Below.refl _ _).grown hg1 (Nat.le_refl _) (by simp)
 have hmk2:(Instr.makeSlice 222 (.int .i64 0) (.int .i64 (4*(n:Int)))).run Tryz.prog w=.ok (.slice (some ⟨w.heap.size,0,none⟩) 0 (4*n)) w1:=by
  have e:4*(n:Int)=((4*n:Nat):Int):=by simp
  rw [e];exact hmk
 have HO1:=zz hown1;have HB1:=zz hb1;have HR:=zz hr;have HL:=zz hl;clear hmk hz hsz hby hown1 hb1 hr hg1 hl;go_enter Tryz.func233,Tryz.ntmps233
 go_wp2_with fail
 clear hmk2
 go_loopg [3,13] n (fun gn t3 t13 wr=>∃(i:Nat) (s:SlV),i+gn=n∧t13=.int .i64 i∧t3=.slice s.a s.len s.cap∧ownB wr w.heap.size (.slice s.a s.len s.cap) ((S.take i).flatMap le4)∧Below w.heap.size w wr)
 case atStart=>exact⟨0,⟨some ⟨w.heap.size,0,none⟩,0,4*n⟩,by omega,rfl,rfl,HO1.out,HB1.out⟩
 case round=>
  obtain⟨G,rfl⟩:∃G,G=gk:=⟨_,rfl⟩;obtain⟨i,s,hi,rfl,rfl,hob,hbel⟩:=hrel;have HOB:=zz hob;have HB:=zz hbel;have HI:=zz hi;clear hob hbel hi
  by_cases h0:i < n
  ·have h0z:(i:Int) < (n:Int):=by omega
   have hiS:i < S.length:=by rw [HL.out];exact h0
   obtain⟨x,hx⟩:∃x,x=S.getD i 0:=⟨_,rfl⟩;have hx1:x < 4294967296:=by rw [hx];exact getD_lt (by omega) hs i
   have hcell:wr.cell? ⟨g,i,none⟩=some (.int .u32 (x:Int)):=by
    have h1:=rangeAt_below HR.out HB.out i (.int .u32 (x:Int)) (by rw [hx];exact lV_get hiS)
    rwa [Nat.zero_add]at h1
   have HTK:=zz (show(S.take (i+1)).flatMap le4=(S.take i).flatMap le4++le4 x by
    rw [list_snoc S i x (by rw [hx,List.getD_eq_getElem?_getD,List.getElem?_eq_getElem hiS];rfl),List.flatMap_append]
    simp)
   have hln:((S.take i).flatMap le4).length=4*i:=by rw [flat_len,List.length_take];omega
   obtain⟨L0,hL0⟩:∃L0,L0=(S.take i).flatMap le4:=⟨_,rfl⟩;rw [←hL0]at hln;have HOB:=HOB.out;rw [←hL0]at HOB HTK;replace HOB:=zz HOB;have HLN:=zz hln;clear hx hL0 hln
   go_wp2_with fail
   go_loopg [3,17] 4 (fun gm t3 t17 wq=>∃(k:Nat) (s:SlV),k+gm=4∧t17=.int .i64 k∧t3=.slice s.a s.len s.cap∧ownB wq w.heap.size (.slice s.a s.len s.cap) (L0++(le4 x).take k)∧Below w.heap.size w wq)
   case atStart=>exact⟨0,s,rfl,rfl,rfl,by simpa using HOB.out,HB.out⟩
   case round=>
    obtain⟨G2,rfl⟩:∃G2,G2=gk:=⟨_,rfl⟩;obtain⟨k,s2,hk,rfl,rfl,hob,hbel⟩:=hrel;have HOB:=zz hob;have HB:=zz hbel;clear hob hbel
    rcases(show k=0∨k=1∨k=2∨k=3∨k=4 by omega)with rfl|rfl|rfl|rfl|rfl
    ·have HLK:=zz (show(L0++(le4 x).take 0).length≤10000000000000 by have:=HLN.out;rw [List.length_append,List.length_take];omega)
     go_wp2_with(first
      |(at_builtin;refine step_push rfl _ _ rfl w.heap.size (.slice s2.a s2.len s2.cap) (L0++(le4 x).take 0) rfl (World.ownsRow.alloc HOB.out _) wr.heap.size ((x:Int)%256) (UInt8.ofNat (x)) (by rw [u8of];omega) rfl (zg _ _ _ rfl) HLK.out (by have:=HB.out.size;simp;omega) ?_;intro v9 w9 hown9 hg9;have HO9:=zz hown9;have HG9:=zz hg9;obtain⟨s9,hs9⟩:=ownsForm hown9;subst hs9;clear hown9 hg9))
     go_roundg (G2 - 1)
     case rel=>exact⟨1,s9,by omega,rfl,rfl,by have:=HO9.out;rwa [List.append_assoc]at this,(HB.out.alloc HB.out.size _).grown HG9.out (by have:=HB.out.size;simp;omega) (fun j hj=>(HOB.out.lt j hj).1)⟩
     case measure=>omega
    ·have HLK:=zz (show(L0++(le4 x).take 1).length≤10000000000000 by have:=HLN.out;rw [List.length_append,List.length_take];omega)
     go_wp2_with(first
      |(at_builtin;refine step_push rfl _ _ rfl w.heap.size (.slice s2.a s2.len s2.cap) (L0++(le4 x).take 1) rfl (World.ownsRow.alloc HOB.out _) wr.heap.size ((x:Int) / 256%256) (UInt8.ofNat (x / 256)) (by rw [u8of];omega) rfl (zg _ _ _ rfl) HLK.out (by have:=HB.out.size;simp;omega) ?_;intro v9 w9 hown9 hg9;have HO9:=zz hown9;have HG9:=zz hg9;obtain⟨s9,hs9⟩:=ownsForm hown9;subst hs9;clear hown9 hg9))
     go_roundg (G2 - 1)
     case rel=>exact⟨2,s9,by omega,rfl,rfl,by have:=HO9.out;rwa [List.append_assoc]at this,(HB.out.alloc HB.out.size _).grown HG9.out (by have:=HB.out.size;simp;omega) (fun j hj=>(HOB.out.lt j hj).1)⟩
     case measure=>omega
    ·have HLK:=zz (show(L0++(le4 x).take 2).length≤10000000000000 by have:=HLN.out;rw [List.length_append,List.length_take];omega)
     go_wp2_with(first
      |(at_builtin;refine step_push rfl _ _ rfl w.heap.size (.slice s2.a s2.len s2.cap) (L0++(le4 x).take 2) rfl (World.ownsRow.alloc HOB.out _) wr.heap.size ((x:Int) / 65536%256) (UInt8.ofNat (x / 65536)) (by rw [u8of];omega) rfl (zg _ _ _ rfl) HLK.out (by have:=HB.out.size;simp;omega) ?_;intro v9 w9 hown9 hg9;have HO9:=zz hown9;have HG9:=zz hg9;obtain⟨s9,hs9⟩:=ownsForm hown9;subst hs9;clear hown9 hg9))
     go_roundg (G2 - 1)
     case rel=>exact⟨3,s9,by omega,rfl,rfl,by have:=HO9.out;rwa [List.append_assoc]at this,(HB.out.alloc HB.out.size _).grown HG9.out (by have:=HB.out.size;simp;omega) (fun j hj=>(HOB.out.lt j hj).1)⟩
     case measure=>omega
    ·have HLK:=zz (show(L0++(le4 x).take 3).length≤10000000000000 by have:=HLN.out;rw [List.length_append,List.length_take];omega)
     go_wp2_with(first
      |(at_builtin;refine step_push rfl _ _ rfl w.heap.size (.slice s2.a s2.len s2.cap) (L0++(le4 x).take 3) rfl (World.ownsRow.alloc HOB.out _) wr.heap.size ((x:Int) / 16777216) (UInt8.ofNat (x / 16777216)) (by rw [u8of];omega) rfl (zg _ _ _ rfl) HLK.out (by have:=HB.out.size;simp;omega) ?_;intro v9 w9 hown9 hg9;have HO9:=zz hown9;have HG9:=zz hg9;obtain⟨s9,hs9⟩:=ownsForm hown9;subst hs9;clear hown9 hg9))
     go_roundg (G2 - 1)
     case rel=>exact⟨4,s9,by omega,rfl,rfl,by have:=HO9.out;rwa [List.append_assoc]at this,(HB.out.alloc HB.out.size _).grown HG9.out (by have:=HB.out.size;simp;omega) (fun j hj=>(HOB.out.lt j hj).1)⟩
     case measure=>omega
    ·go_wp2_with fail
     go_roundg (G - 1)
     case rel=>exact⟨i+1,s2,by have:=HI.out;omega,by go_num,rfl,by rw [HTK.out];exact HOB.out,HB.out⟩
     case measure=>have:=HI.out;omega
  ·obtain rfl:i=n:=by have:=HI.out;omega
   have d1:decide ((i:Int) < (i:Int))=false:=by simp
   have hall:S.take i=S:=List.take_of_length_le (by rw [HL.out];exact Nat.le_refl _);have hob:=HOB.out;rw [hall]at hob;have hcv:=conv_own hob;have hsz:(ofL (S.flatMap le4)).size≤1000000000000:=by rw [←bl_size,bl_ofL,flat_len,HL.out];omega
   have HF:=zz (v8_flat S hs);clear hall hob
   go_wp2_with fail
   refine(norm_any (ofL (S.flatMap le4)) hsz _).mono ?_;rintro e w2 ⟨rfl,rfl⟩;go_wp2;go_ret
   exact⟨by rw [bl_ofL,trimZ_enc,HF.out];rfl,HB.out⟩
theorem nCmp_any (a b:ByteArray) (ha:a.size≤1000000000000) (hb:b.size≤1000000000000) (w:World):Calls Tryz.prog 289 #[.string a,.string b] w fun e w'=>e=.returned (.int .i64 (cmpN (v8 (bl a)) (v8 (bl b))))∧Below w.heap.size w w':=by
 have hta:(trimZ (bl a)).length≤a.size:=by rw [trimZ_enc];exact enc_length (by have:=v8_lt (bl a);rwa [bl_size]at this)
 have htb:(trimZ (bl b)).length≤b.size:=by rw [trimZ_enc];exact enc_length (by have:=v8_lt (bl b);rwa [bl_size]at this)
 rw [trimZ_enc]at hta htb;go_enter Tryz.func289,Tryz.ntmps289
 go_wp2_with fail
 refine(norm_any a ha w).mono ?_;rintro e w1 ⟨rfl,rfl⟩
 go_wp2_with fail
 refine(norm_any b hb w).mono ?_;rintro e w1 ⟨rfl,rfl⟩;rw [trimZ_enc,trimZ_enc];obtain⟨m,hm⟩:∃m,m=v8 (bl a):=⟨_,rfl⟩;obtain⟨n,hn⟩:∃n,n=v8 (bl b):=⟨_,rfl⟩;rw [←hm,←hn];rw [←hm]at hta;rw [←hn]at htb;obtain⟨x,hx⟩:∃x,x=ofL (enc m):=⟨_,rfl⟩;obtain⟨y,hy⟩:∃y,y=ofL (enc n):=⟨_,rfl⟩;rw [←hx,←hy];have hbx:bl x=enc m:=by rw [hx];rfl
 have hby:bl y=enc n:=by rw [hy];rfl
 have hsx:x.size=(enc m).length:=by rw [←bl_size,hbx]
 have hsy:y.size=(enc n).length:=by rw [←bl_size,hby]
 have HBX:=zz hbx;have HBY:=zz hby;have HSX:=zz hsx;have HSY:=zz hsy;have hzx:x.size≤1000000000000:=by omega
 have hzy:y.size≤1000000000000:=by omega
 have HM:=zz hm;have HN:=zz hn;clear hm hn hx hy hbx hby hsx hsy hta htb
 by_cases c1:x.size < y.size
 ·have d1:decide ((x.size:Int) < (y.size:Int))=true:=by simp;omega
  have d0:((x.size:Int) !=(y.size:Int))=true:=by simp;omega
  go_wp2_with fail
  go_ret
  exact⟨by rw [←HM.out,←HN.out,cmpN,if_pos (enc_len_lt (by rw [←HSX.out,←HSY.out];exact c1))];rfl,Below.refl _ _⟩
 have d1:decide ((x.size:Int) < (y.size:Int))=false:=by simp;omega
 by_cases c2:y.size < x.size
 ·have d0:((x.size:Int) !=(y.size:Int))=true:=by simp;omega
  go_wp2_with fail
  go_ret
  have h:=enc_len_lt (m:=n) (n:=m) (by rw [←HSX.out,←HSY.out];exact c2);exact⟨by rw [←HM.out,←HN.out,cmpN,if_neg (by omega),if_pos h];rfl,Below.refl _ _⟩
 have hxy:x.size=y.size:=by omega
 have d0:((x.size:Int) !=(y.size:Int))=false:=by simp [hxy]
 have HXY:=zz hxy;clear hxy c1 c2 d1
 go_wp2_with fail
 go_loopg [23] x.size (fun gn t23 wr=>∃i k:Nat,t23=.int .i64 (i:Int)∧gn=k∧i+k=x.size∧(enc m).drop k=(enc n).drop k∧Below w.heap.size w wr)
 case atStart=>exact⟨0,x.size,rfl,rfl,by omega,by rw [List.drop_eq_nil_of_le (by rw [←HSX.out];exact Nat.le_refl _),List.drop_eq_nil_of_le (by rw [←HSY.out,←HXY.out];exact Nat.le_refl _)],Below.refl _ _⟩
 case round=>
  obtain⟨G,rfl⟩:∃G,G=gk:=⟨_,rfl⟩;obtain⟨i,k,rfl,hg,hk,hd,hbel⟩:=hrel;subst hg;have HD:=zz hd;have HBL:=zz hbel;have HK:=zz hk;clear hd hbel hk
  by_cases h0:0 < G
  ·have q0:(i:Int) < (x.size:Int):=by have:=HK.out;omega
   have w1:IntKind.i64.wrap ((x.size:Int) - 1)=(x.size:Int) - 1:=i64w _ (by omega) (by omega);have w2:IntKind.i64.wrap ((x.size:Int) - 1 - (i:Int))=(G:Int) - 1:=by rw [i64w _ (by omega) (by omega)];have:=HK.out;omega
   have w3:(x.size:Int) - 1 - (i:Int)=(G:Int) - 1:=by have:=HK.out;omega
   have q1:(0:Int)≤(G:Int) - 1:=by omega
   have q4:(1:Int)≤(G:Int):=by omega
   have q2:(G:Int) - 1 < (x.size:Int):=by omega
   have q3:(G:Int) - 1 < (y.size:Int):=by have:=HXY.out;omega
   have n2:G - 1 < x.size:=by omega
   have n3:G - 1 < y.size:=by have:=HXY.out;omega
   have hbx:=byte_at HBX.out n2;have hby:=byte_at HBY.out n3;have HDx:(enc m).drop (G - 1+1)=(enc n).drop (G - 1+1):=by rw [show G - 1+1=G by omega];exact HD.out
   have HLL:(enc m).length=(enc n).length:=by rw [←HSX.out,←HSY.out,HXY.out]
   have HA:=zz (And.intro hbx (And.intro hby (And.intro HDx HLL)));clear hbx hby HDx HLL
   by_cases e1:x[G - 1].toNat < y[G - 1].toNat
   ·have HF:cmpN (v8 (bl a)) (v8 (bl b))= -1:=by
     have h:=top_lt HA.out.2.2.2 HA.out.1 HA.out.2.1 HA.out.2.2.1 e1;rw [←HM.out,←HN.out,cmpN,if_pos h]
    have HFF:=zz HF;clear HF;have e0:((x[G - 1].toNat:Int) !=(y[G - 1].toNat:Int))=true:=by simp;omega
    go_wp2_with fail
    clear w1 w2 w3;go_quiet (fail)
    go_wp2_with fail
    go_quiet (fail)
    go_wp2;go_ret
    exact⟨by rw [HFF.out];rfl,Below_drewN (Below_drewN HBL.out _) _⟩
   ·by_cases e2:y[G - 1].toNat < x[G - 1].toNat
    ·have HF:cmpN (v8 (bl a)) (v8 (bl b))=1:=by
      have h:=top_lt HA.out.2.2.2.symm HA.out.2.1 HA.out.1 HA.out.2.2.1.symm e2;rw [←HM.out,←HN.out,cmpN,if_neg (by omega),if_pos h]
     have HFF:=zz HF;clear HF;have e0:((x[G - 1].toNat:Int) !=(y[G - 1].toNat:Int))=true:=by simp;omega
     go_wp2_with fail
     clear w1 w2 w3;go_quiet (fail)
     go_wp2_with fail
     go_quiet (fail)
     go_wp2;go_ret
     exact⟨by rw [HFF.out];rfl,Below_drewN (Below_drewN HBL.out _) _⟩
    ·have HE:(enc m).drop (G - 1)=(enc n).drop (G - 1):=by
      have e3:x[G - 1]=y[G - 1]:=UInt8.toNat_inj.1 (by omega);have h1:=HA.out.1;have h2:=HA.out.2.1;rw [e3]at h1;have k1:=(List.getElem?_eq_some_iff.1 h1).1;have k2:=(List.getElem?_eq_some_iff.1 h2).1;rw [List.drop_eq_getElem_cons k1,List.drop_eq_getElem_cons k2,HA.out.2.2.1,(List.getElem?_eq_some_iff.1 h1).2,(List.getElem?_eq_some_iff.1 h2).2]
     have HEE:=zz HE;clear HE;have e0:((x[G - 1].toNat:Int) !=(y[G - 1].toNat:Int))=false:=by simp;omega
     clear e1 e2
     go_wp2_with fail
     clear w1 w2 w3;go_quiet (fail)
     go_wp2
     go_roundg (G - 1)
     case rel=>exact⟨i+1,G - 1,by go_num,rfl,by have:=HK.out;omega,HEE.out,Below_drewN HBL.out _⟩
     case measure=>omega
  ·obtain rfl:G=0:=by omega
   obtain rfl:i=x.size:=by have:=HK.out;omega
   have d1:decide ((x.size:Int) < (x.size:Int))=false:=by simp
   have HE:cmpN (v8 (bl a)) (v8 (bl b))=0:=by
    have h1:=HD.out;rw [List.drop_zero,List.drop_zero]at h1;have h2:=enc_inj h1;rw [←HM.out,←HN.out,h2,cmpN,if_neg (by omega),if_neg (by omega)]
   have HEE:=zz HE;clear HE
   go_wp2_with fail
   go_ret
   exact⟨by rw [HEE.out];rfl,HBL.out⟩
end Go.Proofs.YteigcnamkfebgaaGreatDoor
