import Derived.Test.YteigcnamkfebgaaGreatDoorAW
set_option linter.all false
set_option maxHeartbeats 25600000
namespace Go.Proofs.YteigcnamkfebgaaGreatDoor
def v8:List UInt8→Nat
 | []=>0
 |b::r=>b.toNat+256*v8 r
theorem u8of (n:Nat):(UInt8.ofNat n).toNat=n%256:=by simp
theorem u8lt (b:UInt8):b.toNat < 256:=b.toNat_lt
def enc (n:Nat):List UInt8:=if n=0 then []else UInt8.ofNat n::enc (n / 256)
termination_by n
decreasing_by omega
theorem enc_zero:enc 0= []:=by rw [enc];rfl
theorem enc_pos {n:Nat} (h:n≠0):enc n=UInt8.ofNat n::enc (n / 256):=by rw [enc,if_neg h]
theorem v8_enc (n:Nat):v8 (enc n)=n:=by
 induction n using Nat.strongRecOn with
 |_ n ih=>
  by_cases h:n=0
  ·subst h;rw [enc_zero];rfl
  ·rw [enc_pos h]
   show(UInt8.ofNat n).toNat+256*v8 (enc (n / 256))=n
   rw [ih (n / 256) (by omega),u8of];omega
theorem enc_cons (b:UInt8) (n:Nat) (h:n≠0):enc (b.toNat+256*n)=b::enc n:=by
 have hb:=u8lt b;rw [enc_pos (by omega),show(b.toNat+256*n) / 256=n by omega]
 congr 1
 apply UInt8.toNat_inj.1
 rw [u8of];omega
theorem enc_byte (b:UInt8) (h:b≠0):enc b.toNat= [b]:=by
 have hb:=u8lt b;have h0:b.toNat≠0:=fun e=>h (UInt8.toNat_inj.1 (by simpa using e))
 rw [enc_pos h0,show b.toNat / 256=0 by omega,enc_zero]
 congr 1
 apply UInt8.toNat_inj.1
 rw [u8of];omega
theorem enc_nil {n:Nat} (h:enc n= []):n=0:=by
 have:=v8_enc n;rw [h]at this;exact this.symm
def trimZ:List UInt8→List UInt8
 | []=> []
 |b::r=>if trimZ r= []∧b=0 then []else b::trimZ r
theorem trimZ_enc:∀l:List UInt8,trimZ l=enc (v8 l)
 | []=>enc_zero.symm
 |b::r=>by
  have ih:=trimZ_enc r;unfold trimZ
  show _=enc (b.toNat+256*v8 r)
  by_cases h:v8 r=0
  ·rw [h,enc_zero]at ih;rw [h]
   by_cases hb:b=0
   ·subst hb;rw [if_pos ⟨ih,rfl⟩];exact enc_zero.symm
   ·rw [if_neg (fun h=>hb h.2),ih,Nat.mul_zero,Nat.add_zero,enc_byte b hb]
  ·rw [if_neg (fun h2=>h (enc_nil (ih.symm.trans h2.1))),ih,enc_cons b _ h]
theorem trimZ_snoc0:∀l:List UInt8,trimZ (l++ [0])=trimZ l
 | []=>by simp [trimZ]
 |b::r=>by simp only [List.cons_append,trimZ,trimZ_snoc0 r]
theorem trimZ_snoc {b:UInt8} (hb:b≠0):∀l:List UInt8,trimZ (l++ [b])=l++ [b]
 | []=>by simp [trimZ,hb]
 |c::r=>by
  simp only [List.cons_append,trimZ,trimZ_snoc hb r];rw [if_neg (fun h=>by simp at h)]
theorem v8_lt:∀l:List UInt8,v8 l < 256^l.length
 | []=>by simp [v8]
 |b::r=>by
  have:=v8_lt r;have hb:=u8lt b
  show b.toNat+256*v8 r < 256^(r.length+1)
  rw [Nat.pow_succ];omega
theorem v8_append:∀l m:List UInt8,v8 (l++m)=v8 l+256^l.length*v8 m
 | [],m=>by simp [v8]
 |b::r,m=>by
  show b.toNat+256*v8 (r++m)=b.toNat+256*v8 r+256^(r.length+1)*v8 m
  rw [v8_append r m,Nat.pow_succ,Nat.mul_add,Nat.mul_comm (256^r.length) 256,Nat.mul_assoc];omega
theorem enc_length {n k:Nat} (h:n < 256^k):(enc n).length≤k:=by
 induction k generalizing n with
 |zero=>simp at h;subst h;rw [enc_zero];simp
 |succ k ih=>
  by_cases h0:n=0
  ·subst h0;rw [enc_zero];simp
  ·rw [enc_pos h0,List.length_cons];have:=ih (n:=n / 256) (by rw [Nat.pow_succ]at h;omega);omega
theorem enc_inj {n m:Nat} (h:enc n=enc m):n=m:=by rw [←v8_enc n,h,v8_enc]
def bl (s:ByteArray):List UInt8:=s.data.toList
def ofL (l:List UInt8):ByteArray:=⟨l.toArray⟩
theorem bl_ofL (l:List UInt8):bl (ofL l)=l:=rfl
theorem ofL_bl (s:ByteArray):ofL (bl s)=s:=by cases s;rfl
theorem bl_size (s:ByteArray):(bl s).length=s.size:=rfl
def cmpN (m n:Nat):Int:=if m < n then -1 else if n < m then 1 else 0
theorem v8_top {l m:List UInt8} (hl:l.length=m.length) {x y:UInt8} (h:x.toNat < y.toNat) (r:List UInt8):v8 (l++x::r) < v8 (m++y::r):=by
 rw [v8_append,v8_append,hl];have h1:=v8_lt l;rw [hl]at h1
 show v8 l+256^m.length*(x.toNat+256*v8 r) < v8 m+256^m.length*(y.toNat+256*v8 r)
 have h2:256^m.length*(x.toNat+256*v8 r)+256^m.length≤256^m.length*(y.toNat+256*v8 r):=by
  rw [←Nat.mul_succ];exact Nat.mul_le_mul_left _ (by omega)
 omega
section
open Go.RowKit
theorem take_byte (s:ByteArray) (G:Nat) (h0:0 < G) (hG:G≤s.size) (h:G - 1 < s.size):(bl s).take G=(bl s).take (G - 1)++ [s[G - 1]]:=by
 have h1:(bl s)[G - 1]? =some s[G - 1]:=by
  unfold bl;rw [Array.getElem?_toList,Array.getElem?_eq_getElem (by exact h)];rfl
 have h2:=list_snoc (bl s) (G - 1) _ h1
 rwa [show G - 1+1=G by omega]at h2
theorem extract_take (s:ByteArray) (G:Nat):s.extract 0 G=ofL ((bl s).take G):=by
 have h:(s.extract 0 G).data=(ofL ((bl s).take G)).data:=by
  apply Array.toList_inj.1
  simp [ofL,bl]
 cases hx:s.extract 0 G with
 |mk d=>rw [hx]at h;cases hy:ofL ((bl s).take G)with
  |mk d'=>rw [hy]at h;simp only at h;rw [h]
theorem zero_of {b:UInt8} (h:((b.toNat:Int)==0)=true):b=0:=by
 have h1:b.toNat=0:=by simpa using h
 exact UInt8.toNat_inj.1 (by simpa using h1)
theorem nonzero_of {b:UInt8} (h:((b.toNat:Int)==0)=false):b≠0:=fun e=>by subst e;simp at h
theorem rNorm_any (s:ByteArray) (hs:s.size≤1000000000000) (w:World):Calls Tryz.prog 264 #[.string s] w fun e w'=>e=.returned (.string (ofL (trimZ (bl s))))∧w=w':=by
 go_enter Tryz.func264,Tryz.ntmps264
 go_wp2
 go_loopg [3] s.size (fun gn t3 wr=>∃m:Nat,t3=.int .i64 m∧gn=m∧m≤s.size∧trimZ ((bl s).take m)=trimZ (bl s)∧wr=w)
 case atStart=>exact⟨s.size,rfl,rfl,Nat.le_refl _,by rw [←bl_size,List.take_length],rfl⟩
 case round=>
  obtain⟨G,rfl⟩:∃G,G=gk:=⟨_,rfl⟩;obtain⟨m,rfl,hg,hm,ht,rfl⟩:=hrel;subst hg;have HT:=zz ht;clear ht
  by_cases h0:(0:Int) < (G:Int)
  ·have hp:0 < G:=by omega
   have hl:G - 1 < s.size:=by omega
   go_wp2_with fail
   ·rename_i hz
    go_roundg (G - 1)
    case rel=>
     refine⟨G - 1,by go_num,rfl,by omega,?_,rfl⟩;rw [←HT.out,take_byte s G hp hm hl,zero_of hz,trimZ_snoc0]
    case measure=>omega
   ·rename_i hz;go_ret
    refine⟨?_,rfl⟩
    show Ending.returned (.string (s.extract 0 G))=_
    rw [extract_take,←HT.out,take_byte s G hp hm hl,trimZ_snoc (nonzero_of hz)]
  ·obtain rfl:G=0:=by omega
   have hd:decide ((0:Int) < ((0:Nat):Int))=false:=by simp
   go_wp2_with fail
   go_ret
   refine⟨?_,rfl⟩
   show Ending.returned (.string ByteArray.empty)=_
   rw [←HT.out];rfl
def atB (l:List UInt8) (i:Nat):Nat:=(l.getD i 0).toNat
theorem atB_lt (l:List UInt8) (i:Nat):atB l i < 256:=u8lt _
theorem atB_get {s:ByteArray} {i:Nat} (h:i < s.size):s[i].toNat=atB (bl s) i:=by
 have h1:(bl s)[i]? =some s[i]:=by
  unfold bl;rw [Array.getElem?_toList,Array.getElem?_eq_getElem (by exact h)];rfl
 unfold atB;rw [List.getD_eq_getElem?_getD,h1];rfl
theorem atB_out {s:ByteArray} {i:Nat} (h:s.size≤i):atB (bl s) i=0:=by
 unfold atB;rw [List.getD_eq_getElem?_getD,List.getElem?_eq_none (by rw [bl_size];exact h)];rfl
theorem w64 {n:Nat} (h:n < 4611686018427387904):wrap64 (n:Int)=n:=by
 unfold wrap64;omega
theorem rAt_any (s:ByteArray) (i:Nat) (w:World):Calls Tryz.prog 292 #[.string s,.int .i64 i] w fun e w'=>e=.returned (.int .i64 (atB (bl s) i))∧w=w':=by
 by_cases h:(i:Int) < (s.size:Int)
 ·have h1:i < s.size:=by omega
  go_enter Tryz.func292,Tryz.ntmps292
  go_wp2_with fail
  go_ret
  refine⟨?_,rfl⟩
  show Ending.returned (.int .i64 (wrap64 (s[i].toNat:Int)))=_
  rw [atB_get h1,w64 (by have:=atB_lt (bl s) i;omega)]
 ·have hd:decide ((i:Int) < (s.size:Int))=false:=by simp;omega
  go_enter Tryz.func292,Tryz.ntmps292
  go_wp2_with fail
  go_ret
  refine⟨?_,rfl⟩;rw [atB_out (by omega)];rfl
theorem enc_ge {n:Nat} (h:n≠0):256^((enc n).length - 1)≤n:=by
 induction n using Nat.strongRecOn with
 |_ n ih=>
  rw [enc_pos h,List.length_cons,Nat.add_sub_cancel]
  by_cases h0:n / 256=0
  ·rw [h0,enc_zero];simp;omega
  ·have h1:=ih (n / 256) (by omega) h0;have h2:(enc (n / 256)).length≠0:=fun e=>h0 (enc_nil (List.eq_nil_of_length_eq_zero e))
   rw [show(enc (n / 256)).length=(enc (n / 256)).length - 1+1 by omega,Nat.pow_succ];omega
theorem enc_len_lt {m n:Nat} (h:(enc m).length < (enc n).length):m < n:=by
 have h0:n≠0:=fun e=>by subst e;rw [enc_zero]at h;simp at h
 have h1:=enc_ge h0;have h2:=v8_lt (enc m);rw [v8_enc]at h2;have h3:256^(enc m).length≤256^((enc n).length - 1):=Nat.pow_le_pow_right (by omega) (by omega);omega
theorem split_at {l:List UInt8} {k:Nat} {b:UInt8} (h:l[k]? =some b):l=l.take k++b::l.drop (k+1):=by
 have hk:=(List.getElem?_eq_some_iff.1 h).1
 have h2:l.drop k=b::l.drop (k+1):=by
  rw [List.drop_eq_getElem_cons hk]
  congr 1
  exact(List.getElem?_eq_some_iff.1 h).2
 rw [←h2,List.take_append_drop]
theorem top_lt {m n k:Nat} {x y:UInt8} (hl:(enc m).length=(enc n).length) (hx:(enc m)[k]? =some x) (hy:(enc n)[k]? =some y) (hd:(enc m).drop (k+1)=(enc n).drop (k+1)) (h:x.toNat < y.toNat):m < n:=by
 have h1:=split_at hx;have h2:=split_at hy;rw [←v8_enc m,←v8_enc n,h1,h2,hd];exact v8_top (by rw [List.length_take,List.length_take,hl]) h _
theorem byte_at {x:ByteArray} {l:List UInt8} (hx:bl x=l) {i:Nat} (h:i < x.size):l[i]? =some x[i]:=by
 subst hx;unfold bl;rw [Array.getElem?_toList,Array.getElem?_eq_getElem (by exact h)];rfl
theorem rCmp_any (a b:ByteArray) (ha:a.size≤1000000000000) (hb:b.size≤1000000000000) (w:World):Calls Tryz.prog 265 #[.string a,.string b] w fun e w'=>e=.returned (.int .i64 (cmpN (v8 (bl a)) (v8 (bl b))))∧Below w.heap.size w w':=by
 have hta:(trimZ (bl a)).length≤a.size:=by rw [trimZ_enc];exact enc_length (by have:=v8_lt (bl a);rwa [bl_size]at this)
 have htb:(trimZ (bl b)).length≤b.size:=by rw [trimZ_enc];exact enc_length (by have:=v8_lt (bl b);rwa [bl_size]at this)
 rw [trimZ_enc]at hta htb;go_enter Tryz.func265,Tryz.ntmps265
 go_wp2_with fail
 refine(rNorm_any a ha w).mono ?_;rintro e w1 ⟨rfl,rfl⟩
 go_wp2_with fail
 refine(rNorm_any b hb w).mono ?_;rintro e w1 ⟨rfl,rfl⟩;rw [trimZ_enc,trimZ_enc];obtain⟨m,hm⟩:∃m,m=v8 (bl a):=⟨_,rfl⟩;obtain⟨n,hn⟩:∃n,n=v8 (bl b):=⟨_,rfl⟩;rw [←hm,←hn];rw [←hm]at hta;rw [←hn]at htb;obtain⟨x,hx⟩:∃x,x=ofL (enc m):=⟨_,rfl⟩;obtain⟨y,hy⟩:∃y,y=ofL (enc n):=⟨_,rfl⟩;rw [←hx,←hy];have hbx:bl x=enc m:=by rw [hx];rfl
 have hby:bl y=enc n:=by rw [hy];rfl
 have hsx:x.size=(enc m).length:=by rw [←bl_size,hbx]
 have hsy:y.size=(enc n).length:=by rw [←bl_size,hby]
 have HBX:=zz hbx;have HBY:=zz hby;have HSX:=zz hsx;have HSY:=zz hsy;have hzx:x.size≤1000000000000:=by omega
 have hzy:y.size≤1000000000000:=by omega
 have HM:=zz hm;have HN:=zz hn;clear hm hn hx hy hbx hby hsx hsy hta htb
 by_cases c1:x.size < y.size
 ·have d1:decide ((x.size:Int) < (y.size:Int))=true:=by simp;omega
  go_wp2_with fail
  go_ret
  exact⟨by rw [←HM.out,←HN.out,cmpN,if_pos (enc_len_lt (by rw [←HSX.out,←HSY.out];exact c1))];rfl,Below.refl _ _⟩
 have d1:decide ((x.size:Int) < (y.size:Int))=false:=by simp;omega
 by_cases c2:y.size < x.size
 ·have d2:decide ((y.size:Int) < (x.size:Int))=true:=by simp;omega
  go_wp2_with fail
  go_ret
  have h:=enc_len_lt (m:=n) (n:=m) (by rw [←HSX.out,←HSY.out];exact c2);exact⟨by rw [←HM.out,←HN.out,cmpN,if_neg (by omega),if_pos h];rfl,Below.refl _ _⟩
 have d2:decide ((y.size:Int) < (x.size:Int))=false:=by simp;omega
 have hxy:x.size=y.size:=by omega
 have HXY:=zz hxy;clear hxy
 go_wp2_with fail
 go_loopg [7] x.size (fun gn t7 wr=>∃k:Nat,t7=.int .i64 ((k:Int) - 1)∧gn=k∧k≤x.size∧(enc m).drop k=(enc n).drop k∧Below w.heap.size w wr)
 case atStart=>exact⟨x.size,rfl,rfl,Nat.le_refl _,by rw [List.drop_eq_nil_of_le (by rw [←HSX.out];exact Nat.le_refl _),List.drop_eq_nil_of_le (by rw [←HSY.out,←HXY.out];exact Nat.le_refl _)],Below.refl _ _⟩
 case round=>
  obtain⟨G,rfl⟩:∃G,G=gk:=⟨_,rfl⟩;obtain⟨k,rfl,hg,hk,hd,hbel⟩:=hrel;subst hg;have HD:=zz hd;have HBL:=zz hbel;clear hd hbel
  by_cases h0:0 < G
  ·have q1:(0:Int)≤(G:Int) - 1:=by omega
   have q2:(G:Int) - 1 < (x.size:Int):=by omega
   have q3:(G:Int) - 1 < (y.size:Int):=by have:=HXY.out;omega
   have n2:G - 1 < x.size:=by omega
   have n3:G - 1 < y.size:=by have:=HXY.out;omega
   have hbx:=byte_at HBX.out n2;have hby:=byte_at HBY.out n3;have HDx:(enc m).drop (G - 1+1)=(enc n).drop (G - 1+1):=by rw [show G - 1+1=G by omega];exact HD.out
   have HLL:(enc m).length=(enc n).length:=by rw [←HSX.out,←HSY.out,HXY.out]
   have HA:=zz (And.intro hbx (And.intro hby (And.intro HDx HLL)));clear hbx hby HDx HLL
   by_cases e1:x[G - 1].toNat < y[G - 1].toNat
   ·have HF:cmpN (v8 (bl a)) (v8 (bl b))= -1:=by
     have h:=top_lt HA.out.2.2.2 HA.out.1 HA.out.2.1 HA.out.2.2.1 e1;rw [←HM.out,←HN.out,cmpN,if_pos h]
    have HFF:=zz HF;clear HF
    go_wp2_with fail
    go_quiet (fail)
    go_wp2;go_ret
    exact⟨by rw [HFF.out];rfl,Below_drewN HBL.out _⟩
   ·by_cases e2:y[G - 1].toNat < x[G - 1].toNat
    ·have HF:cmpN (v8 (bl a)) (v8 (bl b))=1:=by
      have h:=top_lt HA.out.2.2.2.symm HA.out.2.1 HA.out.1 HA.out.2.2.1.symm e2;rw [←HM.out,←HN.out,cmpN,if_neg (by omega),if_pos h]
     have HFF:=zz HF;clear HF
     go_wp2_with fail
     go_quiet (fail)
     go_wp2_with fail
     go_quiet (fail)
     go_wp2;go_ret
     exact⟨by rw [HFF.out];rfl,Below_drewN (Below_drewN HBL.out _) _⟩
    ·have HE:(enc m).drop (G - 1)=(enc n).drop (G - 1):=by
      have e3:x[G - 1]=y[G - 1]:=UInt8.toNat_inj.1 (by omega);have h1:=HA.out.1;have h2:=HA.out.2.1;rw [e3]at h1;have k1:=(List.getElem?_eq_some_iff.1 h1).1;have k2:=(List.getElem?_eq_some_iff.1 h2).1;rw [List.drop_eq_getElem_cons k1,List.drop_eq_getElem_cons k2,HA.out.2.2.1,(List.getElem?_eq_some_iff.1 h1).2,(List.getElem?_eq_some_iff.1 h2).2]
     have HEE:=zz HE;clear HE
     go_wp2_with fail
     go_quiet (fail)
     go_wp2_with fail
     go_quiet (fail)
     go_wp2
     go_roundg (G - 1)
     case rel=>exact⟨G - 1,by go_num,rfl,by omega,HEE.out,Below_drewN HBL.out _⟩
     case measure=>omega
  ·obtain rfl:G=0:=by omega
   have HF:cmpN (v8 (bl a)) (v8 (bl b))=0:=by
    have h:enc m=enc n:=by simpa using HD.out
    have h2:=enc_inj h;rw [←HM.out,←HN.out,h2,cmpN,if_neg (by omega),if_neg (by omega)]
   have HFF:=zz HF;clear HF;have d3:decide ((0:Int)≤((0:Nat):Int) - 1)=false:=by simp
   go_wp2_with fail
   go_ret
   exact⟨by rw [HFF.out];rfl,HBL.out⟩
end
section
open Go.RowKit
def bV (l:List UInt8):List Value:=l.map fun b=>.int .u8 (b.toNat:Int)
theorem bV_len (l:List UInt8):(bV l).length=l.length:=by simp [bV]
theorem bV_app (l m:List UInt8):bV (l++m)=bV l++bV m:=by simp [bV]
def ownB (w:World) (base:Nat) (v:Value) (l:List UInt8):Prop:=w.ownsRow base 5 1 v l.length (bV l)
theorem strOf (l:List UInt8):strOfNums (l.map fun b=>(b.toNat:Int))=ofL l:=by
 unfold strOfNums ofL;rw [List.map_map];have h:∀b∈l,((fun n:Int=>UInt8.ofNat n.toNat)∘fun b:UInt8=>(b.toNat:Int)) b=b:=fun b _=>by simp
 rw [List.map_congr_left h,List.map_id']
theorem conv_own {w:World} {base:Nat} {v:Value} {l:List UInt8} (h:ownB w base v l):(convert 222 9 v).run Tryz.prog w=.ok (.string (ofL l)) w:=by
 rcases h.2 with⟨rfl,h0⟩|⟨g,cap,cur,rfl,_,hg,hn,hm,hs,ht⟩
 ·obtain rfl:l= []:=List.eq_nil_of_length_eq_zero h0;exact run_convert_bytes_nil (P:=Tryz.prog) w 222 5 und222 und5 0 0 9 und9
 ·rw [←strOf l];refine run_convert_bytes_arg (P:=Tryz.prog) w 222 5 und222 und5 g 0 l.length cap _ (by simp) (fun i hi=>?_) 9 und9;rw [Nat.zero_add];have h1:(bV l)[i]? =some (.int .u8 ((l[i]).toNat:Int)):=by simp [bV,hi]
  have h2:=World.ownsRow.cells h (g:=g) rfl i _ h1
  have h3:w.cell? ⟨g,i,none⟩=some (.int .u8 ((l[i]).toNat:Int)):=by
   have e:(⟨g,0,none⟩:Addr).add i=⟨g,i,none⟩:=by rw [Addr.add_mid,Nat.zero_add]
   rw [←e];exact h2
  rw [h3];simp [List.getD,hi]
theorem step_push {ops:Array Oper} {rest:List Oper} {o:Oper} {a:Act} {w:World} {Q:Exit→Act→World→Prop} (hgd:o.guard=none) (s x:Operand)
  (ho:o.op=.call {callee:=.builtin .append,args:=#[s,x],argTypes:=#[222,222]}) (base:Nat) (v:Value) (l:List UInt8) (hs:a.eval s=v) (hown:ownB w base v l) (q:Nat) (z:Int) (b:UInt8) (hz:z=(b.toNat:Int)) (hx:a.eval x=.slice (some ⟨q,0,none⟩) 1 1)
  (hq:w.heap[q]? =some (.cells #[.int .u8 z] 5 (0,0))) (hlen:l.length≤10000000000000) (hbase:base≤w.heap.size)
  (h:∀v' w',ownB w' base v' (l++ [b])→w.grownBy w' v.ownBlock→wpList Tryz.prog ops Q rest (a.put o.dst v') w'):
  wpList Tryz.prog ops Q (o::rest) a w:=by
 subst hz;obtain⟨i0,hi,hz0,hz1,hz2⟩:=info_parts info5;refine wpList_append_own_at _ hgd s x 222 ho base 5 i0 (.int .u8 0) 1 1 und222 hi hz0 hz1 hz2 rfl (by decide) v l.length (bV l) hs hown ⟨q,0,none⟩ 1 1 (bV [b]) hx rfl (fun j u hj=>?_) (fun u hu=>?_) (by unfold maxLen;omega) (by omega) hbase ?_
 ·have hj1:j < 1:=(List.getElem?_eq_some_iff.1 hj).1;obtain rfl:j=0:=by omega
  obtain rfl:=Option.some.inj hj;exact zc w q 0 _ _ _ hq
 ·simp [bV]at hu;subst hu;rfl
 ·intro v' w' h1 h2 _ _;refine h v' w' ?_ h2;unfold ownB;rw [List.length_append,bV_app];exact h1
def dS (f:Nat→Nat):Nat→Nat
 |0=>0
 |i+1=>dS f i+f i*256^i
theorem v8_snoc (l:List UInt8) (b:UInt8):v8 (l++ [b])=v8 l+b.toNat*256^l.length:=by
 rw [v8_append]
 show v8 l+256^l.length*(b.toNat+256*0)=_
 rw [Nat.mul_zero,Nat.add_zero,Nat.mul_comm]
theorem dS_take (l:List UInt8):∀i,dS (atB l) i=v8 (l.take i)
 |0=>by simp [dS,v8]
 |i+1=>by
  show dS (atB l) i+atB l i*256^i=_
  rw [dS_take l i]
  by_cases h:i < l.length
  ·have h1:l[i]? =some l[i]:=List.getElem?_eq_getElem h;rw [list_snoc l i _ h1,v8_snoc,List.length_take,Nat.min_eq_left (by omega)];unfold atB;rw [List.getD_eq_getElem?_getD,h1];rfl
  ·rw [List.take_of_length_le (by omega),List.take_of_length_le (by omega)];unfold atB;rw [List.getD_eq_getElem?_getD,List.getElem?_eq_none (by omega)];simp
theorem dS_all (l:List UInt8) (i:Nat) (h:l.length≤i):dS (atB l) i=v8 l:=by rw [dS_take,List.take_of_length_le h]
theorem dS_eq_of_lt (l:List UInt8) (i:Nat) (h:v8 l < 256^i):dS (atB l) i=v8 l:=by
 by_cases hl:l.length≤i
 ·exact dS_all l i hl
 ·rw [dS_take];have h1:=v8_append (l.take i) (l.drop i);rw [List.take_append_drop,List.length_take,Nat.min_eq_left (by omega)]at h1
  have h2:v8 (l.drop i)=0:=by
   rcases Nat.eq_zero_or_pos (v8 (l.drop i))with h3|h3
   ·exact h3
   ·exfalso
    have:256^i*1≤256^i*v8 (l.drop i):=Nat.mul_le_mul_left _ h3;omega
  rw [h1,h2];simp
theorem sub_step {A B P x y c c' d vl:Nat} (h:A+P*c=vl+B) (hd:x+256*c'=d+y+c):(A+x*P)+(P*256)*c'=(vl+d*P)+(B+y*P):=by
 have h1:=congrArg (· *P) hd;simp only [Nat.add_mul]at h1;have e1:256*c'*P=P*256*c':=by rw [Nat.mul_comm 256 c',Nat.mul_assoc,Nat.mul_comm c' (256*P),Nat.mul_comm 256 P]
 have e2:c*P=P*c:=Nat.mul_comm _ _;rw [e1,e2]at h1;omega
theorem sub_end {a b l:List UInt8} {c:Nat} (hab:v8 b≤v8 a) (hl:l.length=a.length) (h:dS (atB a) a.length+256^a.length*c=v8 l+dS (atB b) a.length):v8 l=v8 a - v8 b:=by
 have ha:=dS_all a a.length (Nat.le_refl _);have hlt:=v8_lt a;have hb:=dS_eq_of_lt b a.length (by omega);have hll:=v8_lt l;rw [hl]at hll;rw [ha,hb]at h
 have hc:c=0:=by
  rcases Nat.eq_zero_or_pos c with h1|h1
  ·exact h1
  ·exfalso
   have:256^a.length*1≤256^a.length*c:=Nat.mul_le_mul_left _ h1;omega
 subst hc;omega
end
section
open Go.RowKit
theorem own_new (W:World) (base:Nat) (hb:base≤W.heap.size):ownB (W.alloc (.cells #[] 5)) base (.slice (some ⟨W.heap.size,0,none⟩) 0 0) []:=
 ⟨rfl,.inr ⟨W.heap.size,0,#[],rfl,hb,zg _ _ _ rfl,Nat.zero_le _,Nat.zero_le _,rfl,rfl⟩⟩
theorem sub_round {a b l:List UInt8} {i c c' x y:Nat} {d:UInt8} (h:dS (atB a) i+256^i*c=v8 l+dS (atB b) i) (hl:l.length=i) (hx:x=atB a i) (hy:y=atB b i) (hd:x+256*c'=d.toNat+y+c):dS (atB a) (i+1)+256^(i+1)*c'=v8 (l++ [d])+dS (atB b) (i+1):=by
 rw [v8_snoc,hl,Nat.pow_succ]
 show dS (atB a) i+atB a i*256^i+_=_+(dS (atB b) i+atB b i*256^i)
 rw [←hx,←hy];exact sub_step h hd
theorem cmp_ge {m n:Nat} (h:n≤m):decide (cmpN m n < 0)=false:=by
 unfold cmpN;rw [if_neg (by omega)]
 split <;>simp
theorem rSub_ge (a b:ByteArray) (ha:a.size≤1000000000000) (hb:b.size≤1000000000000) (h:v8 (bl b)≤v8 (bl a)) (w:World):Calls Tryz.prog 267 #[.string a,.string b] w fun e w'=>e=.returned (.tuple #[.string (ofL (enc (v8 (bl a) - v8 (bl b)))),.bool true])∧Below w.heap.size w w':=by
 have hc:=cmp_ge h;have HGE:=zz h;go_enter Tryz.func267,Tryz.ntmps267
 go_wp2_with fail
 refine(rCmp_any a b ha hb w).mono ?_;rintro e w1 ⟨rfl,hb1⟩;have HB1:=zz hb1;clear hb1 h;go_wp2
 go_loopg [6,7,8] a.size (fun gn t6 t7 t8 wr=>∃(i c:Nat) (l:List UInt8) (s:SlV),i+gn=a.size∧t8=.int .i64 i∧t7=.int .i64 c∧c≤1∧l.length=i∧t6=.slice s.a s.len s.cap∧ownB wr w.heap.size (.slice s.a s.len s.cap) l∧dS (atB (bl a)) i+256^i*c=v8 l+dS (atB (bl b)) i∧Below w.heap.size w wr)
 case atStart=>exact⟨0,0, [],⟨some ⟨w1.heap.size,0,none⟩,0,0⟩,by omega,rfl,rfl,by omega,rfl,rfl,own_new _ _ HB1.out.size,by simp [dS,v8],HB1.out.alloc HB1.out.size _⟩
 case round=>
  obtain⟨G,rfl⟩:∃G,G=gk:=⟨_,rfl⟩;obtain⟨i,c,l,s,hi,rfl,rfl,hc1,hl,rfl,hown,hv,hbel⟩:=hrel;have HO:=zz hown;have HV:=zz hv;have HBL:=zz hbel;have HL:=zz hl;have HI:=zz hi;clear hown hv hbel hl hi
  by_cases h0:(i:Int) < (a.size:Int)
  ·go_wp2_with fail
   refine(rAt_any a i _).mono ?_;rintro e w2 ⟨rfl,rfl⟩
   go_wp2_with fail
   refine(rAt_any b i _).mono ?_;rintro e w2 ⟨rfl,rfl⟩;have hx:=atB_lt (bl a) i;have hy:=atB_lt (bl b) i;obtain⟨x,hX⟩:∃x,x=atB (bl a) i:=⟨_,rfl⟩;obtain⟨y,hY⟩:∃y,y=atB (bl b) i:=⟨_,rfl⟩;rw [←hX,←hY];rw [←hX]at hx;rw [←hY]at hy;have HX:=zz hX;have HY:=zz hY;clear hX hY;have hIn:i < a.size:=by omega
   by_cases e1:(x:Int) - (y:Int) - (c:Int) < 0
   ·go_wp2_with(first
     |(at_builtin;refine step_push rfl _ _ rfl w.heap.size _ l rfl (World.ownsRow.alloc HO.out _) wr.heap.size ((x:Int) - (y:Int) - (c:Int)+256) (UInt8.ofNat (x+256 - y - c)) (by rw [u8of];omega) rfl (zg _ _ _ rfl) (by have:=HL.out;have:=HI.out;omega) (by have:=HBL.out.size;simp;omega) ?_;intro v9 w9 hown9 hg9;have HO9:=zz hown9;have HG9:=zz hg9;obtain⟨s9,hs9⟩:=ownsForm hown9;subst hs9;clear hown9 hg9))
    go_roundg (G - 1)
    case rel=>exact⟨i+1,1,l++ [UInt8.ofNat (x+256 - y - c)],s9,by have:=HI.out;omega,by go_num,rfl,by omega,by rw [List.length_append,HL.out];rfl,rfl,HO9.out,sub_round HV.out HL.out HX.out HY.out (by rw [u8of];omega),(HBL.out.alloc HBL.out.size _).grown HG9.out (by have:=HBL.out.size;simp;omega) (fun j hj=>(HO.out.lt j hj).1)⟩
    case measure=>have:=HI.out;omega
   ·have d1:decide ((x:Int) - (y:Int) - (c:Int) < 0)=false:=by simp;omega
    go_wp2_with(first
     |(at_builtin;refine step_push rfl _ _ rfl w.heap.size _ l rfl (World.ownsRow.alloc HO.out _) wr.heap.size ((x:Int) - (y:Int) - (c:Int)) (UInt8.ofNat (x - y - c)) (by rw [u8of];omega) rfl (zg _ _ _ rfl) (by have:=HL.out;have:=HI.out;omega) (by have:=HBL.out.size;simp;omega) ?_;intro v9 w9 hown9 hg9;have HO9:=zz hown9;have HG9:=zz hg9;obtain⟨s9,hs9⟩:=ownsForm hown9;subst hs9;clear hown9 hg9))
    go_roundg (G - 1)
    case rel=>exact⟨i+1,0,l++ [UInt8.ofNat (x - y - c)],s9,by have:=HI.out;omega,by go_num,rfl,by omega,by rw [List.length_append,HL.out];rfl,rfl,HO9.out,sub_round HV.out HL.out HX.out HY.out (by rw [u8of];omega),(HBL.out.alloc HBL.out.size _).grown HG9.out (by have:=HBL.out.size;simp;omega) (fun j hj=>(HO.out.lt j hj).1)⟩
    case measure=>have:=HI.out;omega
  ·obtain rfl:i=a.size:=by have:=HI.out;omega
   have d1:decide ((a.size:Int) < (a.size:Int))=false:=by simp
   have hcv:=conv_own HO.out;have HF:=zz (sub_end HGE.out (by rw [HL.out];rfl) HV.out)
   go_wp2_with fail
   have hsz:(ofL l).size≤1000000000000:=by rw [←bl_size,bl_ofL,HL.out];exact ha
   refine(rNorm_any (ofL l) hsz _).mono ?_;rintro e w2 ⟨rfl,rfl⟩;go_wp2
   go_ret2
   exact⟨by rw [bl_ofL,trimZ_enc,HF.out];rfl,HBL.out⟩
end
section
open Go.RowKit
def nV (S:List Nat):List Value:=S.map fun x:Nat=>.int .i64 (x:Int)
theorem nV_set (S:List Nat) (j x:Nat):(nV S).set j (.int .i64 (x:Int))=nV (S.set j x):=by simp [nV,List.map_set]
def vN:List Nat→Nat
 | []=>0
 |x::r=>x+256*vN r
theorem vN_set:∀(S:List Nat) (j y:Nat),j < S.length→vN (S.set j y)+S.getD j 0*256^j=vN S+y*256^j
 | [],j,y,h=>by simp at h
 |x::r,0,y,_=>by simp [vN];omega
 |x::r,j+1,y,h=>by
  have ih:=vN_set r j y (by simpa using h);simp only [List.set_cons_succ,vN,List.getD_cons_succ,Nat.pow_succ];rw [←Nat.mul_assoc,←Nat.mul_assoc];omega
theorem vN_zero:∀n,vN (List.replicate n 0)=0
 |0=>rfl
 |n+1=>by rw [List.replicate_succ];simp [vN,vN_zero n]
theorem getD_set_self {S:List Nat} {j x:Nat} (h:j < S.length):(S.set j x).getD j 0=x:=by
 rw [List.getD_eq_getElem?_getD,List.getElem?_set_self h];rfl
theorem getD_set_ne {S:List Nat} {i j x:Nat} (h:i≠j):(S.set i x).getD j 0=S.getD j 0:=by
 rw [List.getD_eq_getElem?_getD,List.getElem?_set_ne h,List.getD_eq_getElem?_getD]
theorem small_set {S:List Nat} {j x:Nat} (h:∀y∈S,y < 256) (hx:x < 256):∀y∈S.set j x,y < 256:=fun y hy=>by
 rcases List.mem_or_eq_of_mem_set hy with h1|h1
 ·exact h y h1
 ·omega
theorem getD_small {S:List Nat} (h:∀y∈S,y < 256) (j:Nat):S.getD j 0 < 256:=by
 rw [List.getD_eq_getElem?_getD]
 cases hj:S[j]? with
 |none=>simp
 |some y=>simpa using h y (List.mem_of_getElem? hj)
theorem v8_bytes:∀(S:List Nat),(∀y∈S,y < 256)→v8 (S.map UInt8.ofNat)=vN S
 | [],_=>rfl
 |x::r,h=>by
  simp only [List.map_cons,v8,vN];rw [v8_bytes r (fun y hy=>h y (List.mem_cons_of_mem _ hy)),u8of,Nat.mod_eq_of_lt (h x (List.mem_cons_self))]
structure MulI (L lb i k c V0 ai:Nat) (b:List UInt8) (S:List Nat):Prop where
 len:S.length=L
 sm:∀y∈S,y < 256
 v:vN S+c*256^(i+k)=V0+ai*256^i*dS (atB b) k
 z:∀j,i+lb+1≤j→S.getD j 0=0
 z1:k≤lb→S.getD (i+lb) 0=0
 c1:c < 256
 kc:k=lb+1→c=0
 kl:k≤lb+1
theorem MulI.step {L lb i k c V0 ai n:Nat} {b:List UInt8} {S:List Nat} (h:MulI L lb i k c V0 ai b S) (hb:b.length=lb) (hk:k≤lb) (hL:i+k < L) (hai:ai < 256) (hn:n=S.getD (i+k) 0+ai*atB b k+c):MulI L lb i (k+1) (n / 256) V0 ai b (S.set (i+k) (n%256)):=by
 have hs:=getD_small h.sm (i+k);have hbk:=atB_lt b k;have hp:ai*atB b k≤255*255:=Nat.mul_le_mul (by omega) (by omega)
 have hlast:k=lb→n=c:=fun e=>by
  subst e;rw [hn,h.z1 (Nat.le_refl _)]
  have:atB b k=0:=by
   unfold atB;rw [List.getD_eq_getElem?_getD,List.getElem?_eq_none (by omega)];rfl
  rw [this];simp
 refine⟨by rw [List.length_set];exact h.len,small_set h.sm (by omega),?_,fun j hj=>?_,fun hk1=>?_,?_,fun e=>?_,by omega⟩
 ·have h1:=vN_set S (i+k) (n%256) (by rw [h.len];exact hL);have h2:=h.v;have h3:n=n%256+256*(n / 256):=by omega
  have e1:n / 256*256^(i+(k+1))=256*(n / 256)*256^(i+k):=by
   rw [show i+(k+1)=i+k+1 by omega,Nat.pow_succ,Nat.mul_comm 256 (n / 256),Nat.mul_assoc,Nat.mul_comm (256^(i+k)) 256]
  have e2:ai*256^i*dS (atB b) (k+1)=ai*256^i*dS (atB b) k+ai*atB b k*256^(i+k):=by
   show ai*256^i*(dS (atB b) k+atB b k*256^k)=_
   rw [Nat.mul_add,Nat.pow_add]
   congr 1
   rw [Nat.mul_assoc,Nat.mul_assoc,Nat.mul_left_comm (256^i)]
  have h4:=congrArg (· *256^(i+k)) (hn.symm.trans h3);simp only [Nat.add_mul]at h4;rw [e1,e2];omega
 ·rw [getD_set_ne (by omega)];exact h.z j hj
 ·by_cases e:k=lb
  ·omega
  ·rw [getD_set_ne (by omega)];exact h.z1 (by omega)
 ·have:=h.c1;omega
 ·have:=hlast (by omega);have:=h.c1;omega
end
end Go.Proofs.YteigcnamkfebgaaGreatDoor
