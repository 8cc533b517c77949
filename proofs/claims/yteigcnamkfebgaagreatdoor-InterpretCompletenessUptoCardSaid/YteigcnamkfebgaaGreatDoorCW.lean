import Derived.Test.YteigcnamkfebgaaGreatDoorCP
set_option linter.all false
set_option maxHeartbeats 25600000
namespace Go.Proofs.YteigcnamkfebgaaGreatDoor
open Go.RowKit
def badA (c m:Nat):Bool:=!(decide (97≤c)&&decide (c≤122))&&(decide (m=0)||(decide (c < 48)||decide (57 < c)))
def authF (s:ByteArray):Nat→Nat→Bool
 |0,_=>decide (0 < s.size)&&decide (s.size≤24)
 |G+1,m=>if badA (atB (bl s) m) m then false else authF s G (m+1)
def authB (s:ByteArray):Bool:=authF s s.size 0
theorem rAuthor_eq (s:ByteArray) (hs:s.size≤1000000000000) (w:World):Calls Tryz.prog 45 #[.string s] w fun e w'=>e=.returned (.bool (authB s))∧w=w':=by
 obtain⟨R,hR⟩:∃R,R=authB s:=⟨_,rfl⟩;rw [←hR];have HR:=zz hR;clear hR;go_enter Tryz.func45,Tryz.ntmps45
 go_wp2
 go_loopg [3] s.size (fun gn t3 wr=>∃m:Nat,t3=.int .i64 m∧gn+m=s.size∧authF s gn m=R∧wr=w)
 case atStart=>exact⟨0,rfl,by omega,HR.out.symm,rfl⟩
 case round=>
  obtain⟨G,rfl⟩:∃G,G=gk:=⟨_,rfl⟩;obtain⟨m,rfl,hg,hF,rfl⟩:=hrel;have HF:=zz hF;clear hF
  by_cases h0:(m:Int) < (s.size:Int)
  ·have hl:m < s.size:=by omega
   obtain⟨G',rfl⟩:∃G',G=G'+1:=⟨G - 1,by omega⟩;have HC:=zz (atB_get hl)
   by_cases hm0:m=0
   ·subst hm0
    go_wp2_with fail
    all_goals first
     |(
       go_ret
       refine⟨?_,rfl⟩
       have hb:badA (s[0]).toNat (0)=true:=by
        first
         |(unfold badA;simp only [Bool.not_eq_true',Bool.not_eq_false',decide_eq_false_iff_not,decide_eq_true_eq,beq_iff_eq,beq_eq_false_iff_ne,ne_eq,Bool.and_eq_true,Bool.or_eq_true,Bool.and_eq_false_iff,Bool.or_eq_false_iff]at*;first|done|omega)
         |(simp [badA];omega)
         |(simp [badA];done)
       show Ending.returned (.bool false)=_
       rw [←HF.out,authF,←HC.out,if_pos hb])
     |(have hb:badA (s[0]).toNat (0)=false:=by
        first
         |(unfold badA;simp only [Bool.not_eq_true',Bool.not_eq_false',decide_eq_false_iff_not,decide_eq_true_eq,beq_iff_eq,beq_eq_false_iff_ne,ne_eq,Bool.and_eq_true,Bool.or_eq_true,Bool.and_eq_false_iff,Bool.or_eq_false_iff]at*;first|done|omega)
         |(simp [badA];omega)
         |(simp [badA];done)
       go_roundg G'
       case rel=>exact⟨0+1,by first|rfl|go_num,by omega,by rw [←HF.out,authF,←HC.out,hb];rfl,rfl⟩
       case measure=>omega)
   ·have hz:((m:Int)==0)=false:=by simpa using hm0
    go_wp2_with fail
    all_goals first
     |(
       go_ret
       refine⟨?_,rfl⟩
       have hb:badA (s[m]).toNat (m)=true:=by
        first
         |(unfold badA;simp only [Bool.not_eq_true',Bool.not_eq_false',decide_eq_false_iff_not,decide_eq_true_eq,beq_iff_eq,beq_eq_false_iff_ne,ne_eq,Bool.and_eq_true,Bool.or_eq_true,Bool.and_eq_false_iff,Bool.or_eq_false_iff]at*;first|done|omega)
         |(simp [badA];omega)
         |(simp [badA];done)
       show Ending.returned (.bool false)=_
       rw [←HF.out,authF,←HC.out,if_pos hb])
     |(have hb:badA (s[m]).toNat (m)=false:=by
        first
         |(unfold badA;simp only [Bool.not_eq_true',Bool.not_eq_false',decide_eq_false_iff_not,decide_eq_true_eq,beq_iff_eq,beq_eq_false_iff_ne,ne_eq,Bool.and_eq_true,Bool.or_eq_true,Bool.and_eq_false_iff,Bool.or_eq_false_iff]at*;first|done|omega)
         |(simp [badA];omega)
         |(simp [badA];done)
       go_roundg G'
       case rel=>exact⟨m+1,by first|rfl|go_num,by omega,by rw [←HF.out,authF,←HC.out,hb];rfl,rfl⟩
       case measure=>omega)
  ·obtain rfl:G=0:=by omega
   have hd:decide ((m:Int) < (s.size:Int))=false:=by simpa using h0
   go_wp2_with fail
   all_goals (go_ret;refine⟨?_,rfl⟩;rw [←HF.out,authF];simp_all <;>omega)
def mayB (a:ByteArray) (n:Int):Bool:=authB a&&(decide (1≤n)&&decide (n≤1000000000))
theorem rMay_eq (s:ByteArray) (n:Int) (hs:s.size≤1000000000000) (w:World):Calls Tryz.prog 41 #[.agg #[.string s,.int .i64 n]] w fun e w'=>e=.returned (.bool (mayB s n))∧Below w.heap.size w w':=by
 have BL:=(Below.refl w.heap.size w).alloc (Nat.le_refl _) (.cells #[.string s,.int .i64 n] 38);have HA:=rAuthor_eq s hs;unfold mayB;generalize authB s=b at*
 obtain⟨c,hc⟩:∃c,c=(b&&(decide (1≤n)&&decide (n≤1000000000))):=⟨_,rfl⟩;rw [←hc];have HC:=zz hc;clear hc;go_enter Tryz.func41,Tryz.ntmps41
 go_wp2_with fail
 with_reducible refine(HA _).mono ?_
 rintro e w4 ⟨rfl,rfl⟩
 cases b with
 |false=>
  go_wp2_with fail
  all_goals (go_ret;refine⟨?_,BL⟩;rw [HC.out];rfl)
 |true=>
  go_wp2_with fail
  all_goals (go_ret;refine⟨?_,BL⟩;rw [HC.out];simp_all <;>omega)
def uptoF (au:ByteArray):List IdD→Int
 | []=>0
 |x::r=>if(x.a.toList==au.toList)=true then x.n else uptoF au r
theorem rUpto_eq (L:List IdD) (v:Value) (au:ByteArray) (w:World) (hl:L.length≤100000000) (hv:IdR w v L):Calls Tryz.prog 135 #[v,.string au] w fun e w'=>e=.returned (.int .i64 (uptoF au L))∧w=w':=by
 obtain⟨a1,n1,c1,rfl⟩:=hv.form;have hn1:n1=L.length:=hv.len;have HR:=zz hv;have HL:=zz hn1;have hle:n1≤100000000:=by omega
 obtain⟨R,hRR⟩:∃R,R=uptoF au L:=⟨_,rfl⟩;rw [←hRR];have HRR:=zz hRR;clear hv hn1 hl hRR;go_enter Tryz.func135,Tryz.ntmps135
 go_wp2
 go_loopg [5] n1 (fun gn t8 wr=>∃k:Nat,k+gn=n1∧t8=.int .i64 k∧uptoF au (L.drop k)=R∧wr=w)
 case atStart=>exact⟨0,by omega,rfl,HRR.out.symm,rfl⟩
 case round=>
  obtain⟨G,rfl⟩:∃G,G=gk:=⟨_,rfl⟩;obtain⟨k,hk,rfl,hF,rfl⟩:=hrel;have HK:=zz hk;have HF:=zz hF;clear hk hF
  by_cases hlt:k < n1
  ·have hx:L[k]? =some (L[k]'(by rw [←HL.out];exact hlt)):=List.getElem?_eq_getElem _;have hdr:L.drop k=L[k]'(by rw [←HL.out];exact hlt)::L.drop (k+1):=List.drop_eq_getElem_cons _;generalize L[k]'(by rw [←HL.out];exact hlt)=t at hx hdr;have HDR:=zz hdr
   obtain⟨b,off,rfl,hr⟩:∃b off,a1=some ⟨b,off,none⟩∧wr.rangeAt b off (idY.flat L):=by
    rcases HR.out with⟨h1,h2⟩|⟨b,off,cap,h1,h2,h3⟩
    ·rw [h2]at hx;cases hx
    ·simp at h1;exact⟨b,off,h1.1,h3⟩
   have hrx:wr.rangeAt b (off+k*2) (idV t):=idY.elem hr k t hx;have q0:wr.cell? ⟨b,off+k*2,none⟩=some (.string t.a):=hrx 0 _ rfl;have q1:wr.cell? ⟨b,off+k*2+1,none⟩=some (.int .i64 t.n):=hrx 1 _ rfl;have hltZ:(k:Int) < (n1:Int):=by omega
   clear hr hx hrx hdr
   cases he:(t.a.toList==au.toList)with
   |true=>
    go_wp2_with fail
    go_ret
    refine⟨?_,rfl⟩
    show Ending.returned (.int .i64 t.n)=_
    rw [←HF.out,HDR.out,uptoF,if_pos he]
   |false=>
    go_wp2_with fail
    go_roundg (n1 - 1 - k)
    case rel=>exact⟨k+1,by have:=HK.out;omega,by go_num,by rw [←HF.out,HDR.out,uptoF,if_neg (by rw [he];exact Bool.false_ne_true)],rfl⟩
    case measure=>have:=HK.out;omega
  ·obtain rfl:k=n1:=by have:=HK.out;omega
   go_wp2_with fail
   go_ret
   refine⟨?_,rfl⟩
   show Ending.returned (.int .i64 0)=_
   rw [←HF.out,HL.out,List.drop_length,uptoF]
theorem rCmpE_any (x y:EdD) (w:World):Calls Tryz.prog 19 #[.agg (edV x).toArray,.agg (edV y).toArray] w fun e w'=>IsI e∧Below w.heap.size w w':=by
 obtain⟨⟨ia,im⟩,clock,floor,deps,kind,⟨na,nn⟩,⟨pa,pn⟩,neg,num,den,field,value,⟨ta,tn⟩,who⟩:=x;obtain⟨⟨ja,jm⟩,clock',floor',deps',kind',⟨na',nn'⟩,⟨pa',pn'⟩,neg',num',den',field',value',⟨ta',tn'⟩,who'⟩:=y;have BL:=((Below.refl w.heap.size w).alloc (Nat.le_refl _) (.cells #[.string ia,.int .i64 im,.int .i64 clock,.int .i64 floor,.slice deps.a deps.len deps.cap,.int .i64 kind,.string na,.int .i64 nn,.string pa,.int .i64 pn,.bool neg,.string num,.string den,.string field,.string value,.string ta,.int .i64 tn,.string who] 45)).alloc (by simp) (.cells #[.string ja,.int .i64 jm,.int .i64 clock',.int .i64 floor',.slice deps'.a deps'.len deps'.cap,.int .i64 kind',.string na',.int .i64 nn',.string pa',.int .i64 pn',.bool neg',.string num',.string den',.string field',.string value',.string ta',.int .i64 tn',.string who'] 45);change Calls Tryz.prog 19 #[.agg #[.string ia,.int .i64 im,.int .i64 clock,.int .i64 floor,.slice deps.a deps.len deps.cap,.int .i64 kind,.string na,.int .i64 nn,.string pa,.int .i64 pn,.bool neg,.string num,.string den,.string field,.string value,.string ta,.int .i64 tn,.string who],.agg #[.string ja,.int .i64 jm,.int .i64 clock',.int .i64 floor',.slice deps'.a deps'.len deps'.cap,.int .i64 kind',.string na',.int .i64 nn',.string pa',.int .i64 pn',.bool neg',.string num',.string den',.string field',.string value',.string ta',.int .i64 tn',.string who']] w _;go_enter Tryz.func19,Tryz.ntmps19
 go_wp2_with fail
 all_goals (go_ret;exact⟨isI _,BL⟩)
def hasB (L:List IdD) (x:IdD):Bool:=decide (1≤x.n)&&decide (x.n≤uptoF x.a L)
theorem rHas_eq (L:List IdD) (v:Value) (x:IdD) (w:World) (hl:L.length≤100000000) (hv:IdR w v L):Calls Tryz.prog 91 #[v,.agg #[.string x.a,.int .i64 x.n]] w fun e w'=>e=.returned (.bool (hasB L x))∧Below w.heap.size w w':=by
 have BL:=(Below.refl w.heap.size w).alloc (Nat.le_refl _) (.cells #[.string x.a,.int .i64 x.n] 38);have HU:∀n,Calls Tryz.prog 135 #[v,.string x.a] ((w.alloc (.cells #[.string x.a,.int .i64 x.n] 38)).drewN n) fun e w'=>e=.returned (.int .i64 (uptoF x.a L))∧w'=(w.alloc (.cells #[.string x.a,.int .i64 x.n] 38)).drewN n:=fun n=>(rUpto_eq L v x.a _ hl (IdR.below (hv.alloc _) (Below_drewN (Below.refl _ _) n))).mono fun e w' h=>⟨h.1,h.2.symm⟩
 unfold hasB;generalize uptoF x.a L=u at*
 have HU:=zz HU
 by_cases h1:1≤x.n
 ·have d1:decide ((1:Int)≤x.n)=true:=by simpa using h1
  go_enter Tryz.func91,Tryz.ntmps91
  go_wp2_with fail
  go_quiet (first
   |(go_at_call 135;with_reducible exact Calls.quiet_of_same (HU.out _)))
  go_wp2_with fail
  go_ret
  exact⟨by rw [d1,Bool.true_and];rfl,Below_drewN BL _⟩
 ·have d1:decide ((1:Int)≤x.n)=false:=by simpa using h1
  go_enter Tryz.func91,Tryz.ntmps91
  go_wp2_with fail
  go_quiet (fail)
  go_wp2_with fail
  go_ret
  exact⟨by rw [d1,Bool.false_and];rfl,Below_drewN BL _⟩
section
attribute [local go_sem high] eql38 eql43 eql207
def undB (u e:EdD) (D:List IdD):Bool:=decide (u.kind=4)&&(same38 u.target.a u.target.n e.id.a e.id.n&&((u.id.a.toList==e.id.a.toList)&&(decide (1≤e.kind)&&(decide (e.kind≤4)&&(hasB D e.id&&decide (u.floor < e.clock))))))
end
theorem rDeps_any (L:List IdD) (v:Value) (w:World) (hl:L.length≤1000000) (hs:∀x∈L,x.a.size≤1000000000) (hv:IdR w v L):Calls Tryz.prog 46 #[v] w fun e w'=>IsI e∧Below w.heap.size w w':=by
 obtain⟨a1,n1,c1,rfl⟩:=hv.form;have hn1:n1=L.length:=hv.len;have HR:=zz hv;have HL:=zz hn1;have hle:n1≤1000000:=by omega
 have HS:=zz hs;clear hv hn1 hl hs;go_enter Tryz.func46,Tryz.ntmps46
 go_wp2
 go_loopg [3] n1 (fun gn t8 wr=>∃(k d:Nat),k+gn=n1∧t8=.int .i64 k∧wr=w.drewN d)
 case atStart=>exact⟨0,0,by omega,rfl,rfl⟩
 case round=>
  obtain⟨G,rfl⟩:∃G,G=gk:=⟨_,rfl⟩;obtain⟨k,d,hk,rfl,rfl⟩:=hrel;have HK:=zz hk;clear hk
  by_cases hlt:k < n1
  ·have hmem:L[k]'(by rw [←HL.out];exact hlt)∈L:=List.getElem_mem _;have hx:L[k]? =some (L[k]'(by rw [←HL.out];exact hlt)):=List.getElem?_eq_getElem _;generalize L[k]'(by rw [←HL.out];exact hlt)=t at hx hmem;have hts:=HS.out t hmem
   obtain⟨b,off,rfl,hr⟩:∃b off,a1=some ⟨b,off,none⟩∧w.rangeAt b off (idY.flat L):=by
    rcases HR.out with⟨h1,h2⟩|⟨b,off,cap,h1,h2,h3⟩
    ·rw [h2]at hx;cases hx
    ·simp at h1;exact⟨b,off,h1.1,h3⟩
   have hrx:w.rangeAt b (off+k*2) (idV t):=idY.elem hr k t hx;have q0:w.cell? ⟨b,off+k*2,none⟩=some (.string t.a):=hrx 0 _ rfl;have q1:w.cell? ⟨b,off+k*2+1,none⟩=some (.int .i64 t.n):=hrx 1 _ rfl;have hltZ:(k:Int) < (n1:Int):=by omega
   cases k with
   |zero=>
    clear hr hx hrx hmem;rw [Nat.zero_mul,Nat.add_zero]at q0 q1;have dz:decide ((0:Int) < ((0:Nat):Int))=false:=by simp
    go_wp2_with fail
    with_reducible refine(rAuthor_any t.a (by omega) _).mono ?_
    rintro e w4 ⟨⟨c,rfl⟩,rfl⟩
    cases c with
    |false=>
     go_wp2_with fail
     go_ret
     exact⟨isI _,Below_drewN (Below.refl _ _) _⟩
    |true=>
     by_cases hn:t.n < 1
     ·have d1:decide (t.n < 1)=true:=by simpa using hn
      go_wp2_with fail
      go_ret
      exact⟨isI _,Below_drewN (Below.refl _ _) _⟩
     ·have d1:decide (t.n < 1)=false:=by simpa using hn
      go_wp2_with fail
      go_quiet (fail)
      go_wp2_with fail
      go_quiet (fail)
      go_wp2_with fail
      go_roundg (n1 - 1)
      case rel=>exact⟨0+1,_,by have:=HK.out;omega,rfl,rfl⟩
      case measure=>have:=HK.out;omega
   |succ j=>
    have hx2:L[j]? =some (L[j]'(by rw [←HL.out];omega)):=List.getElem?_eq_getElem _;generalize L[j]'(by rw [←HL.out];omega)=t2 at hx2;have hry:w.rangeAt b (off+j*2) (idV t2):=idY.elem hr j t2 hx2;have q2:w.cell? ⟨b,off+j*2,none⟩=some (.string t2.a):=hry 0 _ rfl;have dz:decide ((0:Int) < ((j+1:Nat):Int))=true:=by rw [decide_eq_true_eq];omega
    have hj:j≤1000000:=by omega
    clear hr hx hx2 hrx hry hmem
    go_wp2_with fail
    with_reducible refine(rAuthor_any t.a (by omega) _).mono ?_
    rintro e w4 ⟨⟨c,rfl⟩,rfl⟩
    cases c with
    |false=>
     go_wp2_with fail
     go_ret
     exact⟨isI _,Below_drewN (Below.refl _ _) _⟩
    |true=>
     by_cases hn:t.n < 1
     ·have d1:decide (t.n < 1)=true:=by simpa using hn
      go_wp2_with fail
      go_ret
      exact⟨isI _,Below_drewN (Below.refl _ _) _⟩
     ·have d1:decide (t.n < 1)=false:=by simpa using hn
      go_wp2_with fail
      cases he:(t.a.toList==t2.a.toList)with
      |true=>
       go_quiet (fail)
       go_wp2_with fail
       go_ret
       exact⟨isI _,Below_drewN (Below_drewN (Below.refl _ _) _) _⟩
      |false=>
       go_quiet (fail)
       go_wp2_with fail
       cases hls:Op.bytesLess t.a.toList t2.a.toList with
       |true=>
        go_quiet (fail)
        go_wp2_with fail
        go_ret
        exact⟨isI _,Below_drewN (Below_drewN (Below_drewN (Below.refl _ _) _) _) _⟩
       |false=>
        go_quiet (fail)
        go_wp2_with fail
        go_roundg (n1 - 1 - (j+1))
        case rel=>exact⟨j+1+1,_,by have:=HK.out;omega,by go_num,rfl⟩
        case measure=>have:=HK.out;omega
  ·obtain rfl:k=n1:=by have:=HK.out;omega
   go_wp2_with fail
   go_ret
   exact⟨isI _,Below_drewN (Below.refl _ _) _⟩
section
attribute [local go_sem high] eql38 eql43 eql207
def undI (u e:EdD) (D:List IdD):Int:=if undB u e D=true then 1 else 0
set_option maxRecDepth 100000 in
theorem rUndoes_eq (x y:EdD) (D:List IdD) (w:World) (hl:D.length≤100000000) (hv:IdR w (.slice x.deps.a x.deps.len x.deps.cap) D):
  Calls Tryz.prog 86 #[.agg (edV x).toArray,.agg (edV y).toArray] w fun e w'=>e=.returned (.int .i64 (undI x y D))∧Below w.heap.size w w':=by
 have HH:=fun W (hb:Below w.heap.size w W)=>rHas_eq D (.slice x.deps.a x.deps.len x.deps.cap) y.id W hl (hv.below hb)
 obtain⟨⟨ia,im⟩,clock,floor,deps,kind,⟨na,nn⟩,⟨pa,pn⟩,neg,num,den,field,value,⟨ta,tn⟩,who⟩:=x;obtain⟨⟨ja,jm⟩,clock',floor',deps',kind',⟨na',nn'⟩,⟨pa',pn'⟩,neg',num',den',field',value',⟨ta',tn'⟩,who'⟩:=y;obtain⟨R,hR⟩:∃R,R=undI ⟨⟨ia,im⟩,clock,floor,deps,kind,⟨na,nn⟩,⟨pa,pn⟩,neg,num,den,field,value,⟨ta,tn⟩,who⟩ ⟨⟨ja,jm⟩,clock',floor',deps',kind',⟨na',nn'⟩,⟨pa',pn'⟩,neg',num',den',field',value',⟨ta',tn'⟩,who'⟩ D:=⟨_,rfl⟩;rw [←hR];unfold undI undB at hR;simp only at hR;have HRR:=zz hR;clear hR;have BL:=((Below.refl w.heap.size w).alloc (Nat.le_refl _) (.cells #[.string ia,.int .i64 im,.int .i64 clock,.int .i64 floor,.slice deps.a deps.len deps.cap,.int .i64 kind,.string na,.int .i64 nn,.string pa,.int .i64 pn,.bool neg,.string num,.string den,.string field,.string value,.string ta,.int .i64 tn,.string who] 45)).alloc (by simp) (.cells #[.string ja,.int .i64 jm,.int .i64 clock',.int .i64 floor',.slice deps'.a deps'.len deps'.cap,.int .i64 kind',.string na',.int .i64 nn',.string pa',.int .i64 pn',.bool neg',.string num',.string den',.string field',.string value',.string ta',.int .i64 tn',.string who'] 45);have H1:=HH _ BL;simp only at H1;have R2:((w.alloc (.cells #[.string ia,.int .i64 im,.int .i64 clock,.int .i64 floor,.slice deps.a deps.len deps.cap,.int .i64 kind,.string na,.int .i64 nn,.string pa,.int .i64 pn,.bool neg,.string num,.string den,.string field,.string value,.string ta,.int .i64 tn,.string who] 45)).alloc (.cells #[.string ja,.int .i64 jm,.int .i64 clock',.int .i64 floor',.slice deps'.a deps'.len deps'.cap,.int .i64 kind',.string na',.int .i64 nn',.string pa',.int .i64 pn',.bool neg',.string num',.string den',.string field',.string value',.string ta',.int .i64 tn',.string who'] 45)).heap[w.heap.size]? =_:=zo _ _ _ _ (zg _ _ _ rfl);have R3:((w.alloc (.cells #[.string ia,.int .i64 im,.int .i64 clock,.int .i64 floor,.slice deps.a deps.len deps.cap,.int .i64 kind,.string na,.int .i64 nn,.string pa,.int .i64 pn,.bool neg,.string num,.string den,.string field,.string value,.string ta,.int .i64 tn,.string who] 45)).alloc (.cells #[.string ja,.int .i64 jm,.int .i64 clock',.int .i64 floor',.slice deps'.a deps'.len deps'.cap,.int .i64 kind',.string na',.int .i64 nn',.string pa',.int .i64 pn',.bool neg',.string num',.string den',.string field',.string value',.string ta',.int .i64 tn',.string who'] 45)).heap[w.heap.size+1]? =_:=zg _ _ _ (by simp);change Calls Tryz.prog 86 #[.agg #[.string ia,.int .i64 im,.int .i64 clock,.int .i64 floor,.slice deps.a deps.len deps.cap,.int .i64 kind,.string na,.int .i64 nn,.string pa,.int .i64 pn,.bool neg,.string num,.string den,.string field,.string value,.string ta,.int .i64 tn,.string who],.agg #[.string ja,.int .i64 jm,.int .i64 clock',.int .i64 floor',.slice deps'.a deps'.len deps'.cap,.int .i64 kind',.string na',.int .i64 nn',.string pa',.int .i64 pn',.bool neg',.string num',.string den',.string field',.string value',.string ta',.int .i64 tn',.string who']] w _
 by_cases hk:kind=4
 ·subst hk;go_enter Tryz.func86,Tryz.ntmps86
  go_wp2_with fail
  ·with_reducible refine H1.mono ?_
   rintro e w4 ⟨rfl,hb⟩;have R2:=(hb.block _ (zl R2)).trans R2;have R3:=(hb.block _ (zl R3)).trans R3;have BL:=BL.trans (hb.mono BL.size);have c1:=zc _ _ 3 _ _ _ R2;have c2:=zc _ _ 2 _ _ _ R3;obtain⟨b,hb0⟩:∃b,b=hasB D ⟨ja,jm⟩:=⟨_,rfl⟩;rw [←hb0];have HB0:=zz hb0;clear hb0;clear H1 HH hb R2 R3;cases b <;>go_wp2_with fail
   all_goals (have HB1:=HB0.out;go_ret;refine⟨?_,BL⟩;first|(show Ending.returned (.int .i64 0)=_;rw [HRR.out];simp_all;done)|(show Ending.returned (.int .i64 1)=_;rw [HRR.out];simp_all;done)|(show Ending.returned (.int .i64 0)=_;rw [HRR.out,if_neg (by simp;intros;omega)]))
  all_goals (go_ret;refine⟨?_,BL⟩;first|(show Ending.returned (.int .i64 0)=_;rw [HRR.out];simp_all;done)|(show Ending.returned (.int .i64 1)=_;rw [HRR.out];simp_all;done)|(show Ending.returned (.int .i64 0)=_;rw [HRR.out,if_neg (by simp;intros;omega)]))
 ·have hk2:(kind==4)=false:=by simpa using hk
  go_enter Tryz.func86,Tryz.ntmps86
  go_wp2_with fail
  all_goals (go_ret;refine⟨?_,BL⟩;first|(show Ending.returned (.int .i64 0)=_;rw [HRR.out];simp_all;done)|(show Ending.returned (.int .i64 1)=_;rw [HRR.out];simp_all;done)|(show Ending.returned (.int .i64 0)=_;rw [HRR.out,if_neg (by simp;intros;omega)]))
end
end Go.Proofs.YteigcnamkfebgaaGreatDoor
