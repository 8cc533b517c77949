import Derived.Test.YteigcnamkfebgaaGreatDoorCJ
set_option linter.all false
set_option maxHeartbeats 25600000
namespace Go.Proofs.YteigcnamkfebgaaGreatDoor
open Go.RowKit
section
def same43 (b:Bool) (s r:ByteArray) (b':Bool) (s' r':ByteArray):Bool:=b==b'&&(s.toList==s'.toList&&r.toList==r'.toList)
@[go_sem] theorem eql43 (w:World) (b b':Bool) (s s' r r':ByteArray):(binOp .eql 43 (.agg #[.bool b,.string s,.string r]) (.agg #[.bool b',.string s',.string r'])).run Tryz.prog w=.ok (.bool (same43 b s r b' s' r')) w:=by
 unfold same43;have u4:=Tryz.underlying4;have u9:=Tryz.underlying9;have a4:=Tryz.isAgg4;have a9:=Tryz.isAgg9;have z4:=Tryz.sizeOf4;have z9:=Tryz.sizeOf9;have hS:Tryz.prog.underlying 43=some (.struct (Tryz.prog.fieldsOf 43)):=by kernel_rfl
 have hP:Tryz.prog.stoodInHeld 43=false:=by kernel_rfl
 rw [run_eql_struct,run_equalIn_agg w 9999 43 _ _ hS hP];simp only [Program.fieldsOf,Tryz.underlying43];go_simp;cases hb:(b==b') <;>cases hs:(s.toList==s'.toList) <;>cases hr:(r.toList==r'.toList) <;>simp_all
@[go_sem] theorem guard43 (op:BinOp) (x y:Operand) (xs ys:Array Value) (w:World):(eqGuard op 43 x y (.agg xs) (.agg ys)).run Tryz.prog w=.ok () w:=run_eqGuard_agg w op 43 x y xs ys (by kernel_rfl)
def nS (s:Bool) (a:ByteArray):Bool:=s&&decide (v8 (bl a)≠0)
def nN (a c:ByteArray):ByteArray:=ofL (enc (v8 (bl a) / Nat.gcd (v8 (bl a)) (den0 (v8 (bl c)))))
def nD (a c:ByteArray):ByteArray:=qDen (den0 (v8 (bl c)) / Nat.gcd (v8 (bl a)) (den0 (v8 (bl c))))
theorem qV_eq (s:Bool) (a c:ByteArray):qV s (v8 (bl a)) (den0 (v8 (bl c)))=.agg #[.bool (nS s a),.string (nN a c),.string (nD a c)]:=rfl
theorem rFits_any (s:Bool) (a c:ByteArray) (k:Nat) (hk:k < 4611686018427387904) (ha:a.size≤1000000000) (hc:c.size≤1000000000) (w:World):
  Calls Tryz.prog 133 #[.agg #[.bool s,.string a,.string c],.int .i64 k] w fun e w'=>e=.returned (.bool (decide ((nN a c).size≤k)&&decide ((nD a c).size≤k)))∧Below w.heap.size w w':=by
 have HN:=rNorm3_any s a c ha hc;rw [qV_eq]at HN;generalize nS s a=g at HN;generalize nN a c=x at*
 generalize nD a c=y at*
 replace HN:=zz HN;have BL:=(Below.refl w.heap.size w).alloc (Nat.le_refl _) (.cells #[.bool s,.string a,.string c] 43)
 by_cases hx:x.size≤k
 ·by_cases hy:y.size≤k
  ·have d1:decide ((x.size:Int)≤(k:Int))=true:=by simpa using hx
   have d2:decide ((y.size:Int)≤(k:Int))=true:=by simpa using hy
   go_enter Tryz.func133,Tryz.ntmps133
   go_wp2_with fail
   with_reducible refine(HN.out _).mono ?_
   rintro e w2 ⟨rfl,hb⟩;have BM:=(BL.trans (hb.mono BL.size)).alloc (BL.trans (hb.mono BL.size)).size (.cells #[.bool g,.string x,.string y] 43)
   go_wp2_with fail
   go_ret
   exact⟨by simp [hx,hy],BM⟩
  ·have d1:decide ((x.size:Int)≤(k:Int))=true:=by simpa using hx
   have d2:decide ((y.size:Int)≤(k:Int))=false:=by simpa using hy
   go_enter Tryz.func133,Tryz.ntmps133
   go_wp2_with fail
   with_reducible refine(HN.out _).mono ?_
   rintro e w2 ⟨rfl,hb⟩;have BM:=(BL.trans (hb.mono BL.size)).alloc (BL.trans (hb.mono BL.size)).size (.cells #[.bool g,.string x,.string y] 43)
   go_wp2_with fail
   go_ret
   exact⟨by simp [hx,hy],BM⟩
 ·have d1:decide ((x.size:Int)≤(k:Int))=false:=by simpa using hx
  go_enter Tryz.func133,Tryz.ntmps133
  go_wp2_with fail
  with_reducible refine(HN.out _).mono ?_
  rintro e w2 ⟨rfl,hb⟩;have BM:=(BL.trans (hb.mono BL.size)).alloc (BL.trans (hb.mono BL.size)).size (.cells #[.bool g,.string x,.string y] 43)
  go_wp2_with fail
  go_ret
  exact⟨by simp [hx],BM⟩
attribute [local go_sem high] eql43 eql207
def placeB (s:Bool) (a c:ByteArray):Bool:=same43 (nS s a) (nN a c) (nD a c) s a c&&(decide ((nN a c).size≤16)&&decide ((nD a c).size≤16))
set_option maxRecDepth 100000 in
theorem rPlace_any (s:Bool) (a c:ByteArray) (ha:a.size≤1000000000) (hc:c.size≤1000000000) (w:World):
  Calls Tryz.prog 82 #[.agg #[.bool s,.string a,.string c]] w fun e w'=>e=.returned (.bool (placeB s a c))∧Below w.heap.size w w':=by
 have HN:=rNorm3_any s a c ha hc;have HF:=rFits_any s a c 16 (by omega) ha hc;rw [qV_eq]at HN;obtain⟨f,hf⟩:∃f,f=(decide ((nN a c).size≤16)&&decide ((nD a c).size≤16)):=⟨_,rfl⟩;unfold placeB;rw [←hf,show((16:Nat):Int)=16 from rfl]at HF;rw [←hf];clear hf;generalize nS s a=g at*
 generalize nN a c=x at*
 generalize nD a c=y at*
 replace HN:=zz HN;replace HF:=zz HF;have R1:((w.alloc (.cells #[.bool s,.string a,.string c] 43)).drew).heap[w.heap.size]? =_:=zg _ _ _ rfl;have BL:Below w.heap.size w ((w.alloc (.cells #[.bool s,.string a,.string c] 43)).drew):=((Below.refl w.heap.size w).alloc (Nat.le_refl _) (.cells #[.bool s,.string a,.string c] 43)).drew
 cases hs:same43 g x y s a c with
 |false=>
  go_enter Tryz.func82,Tryz.ntmps82
  go_wp2_with fail
  go_region_with
   first
    |(go_at_call 132;with_reducible refine(HN.out _).mono ?_;rintro e w4 ⟨rfl,hb⟩;have R1:=(hb.block _ (zl R1)).trans R1;have BL:=BL.trans (hb.mono BL.size);obtain⟨c1,c2,c3⟩:=three_cells R1)
  all_goals (go_wp2_with fail;go_ret;exact⟨rfl,BL⟩)
 |true=>
  go_enter Tryz.func82,Tryz.ntmps82
  go_wp2_with fail
  go_region_held3 (fun w'=>w'.cell? ⟨w.heap.size,0,none⟩=some (.bool s)∧w'.cell? ⟨w.heap.size,1,none⟩=some (.string a)∧w'.cell? ⟨w.heap.size,2,none⟩=some (.string c))
   (first
    |with_reducible exact three_cells R1
    |go_keep)
   (first
    |(go_at_call 132;with_reducible refine(HN.out _).mono ?_;rintro e w4 ⟨rfl,hb⟩;have R1:=(hb.block _ (zl R1)).trans R1;have BL:=BL.trans (hb.mono BL.size);obtain⟨c1,c2,c3⟩:=three_cells R1)
    |(go_at_call 133;with_reducible refine(HF.out _).mono ?_;rintro e w4 ⟨rfl,hb⟩;have R1:=(hb.block _ (zl R1)).trans R1;have BL:=BL.trans (hb.mono BL.size);obtain⟨c1,c2,c3⟩:=three_cells R1))
  go_wp2_with fail
  go_ret
  exact⟨rfl,BL⟩
end
def IsB (e:Ending):Prop:=∃b,e=.returned (.bool b)
theorem isB (b:Bool):IsB (.returned (.bool b)):=⟨b,rfl⟩
theorem rWord_any (s:ByteArray) (hs:s.size≤1000000000000) (w:World):Calls Tryz.prog 83 #[.string s] w fun e w'=>IsB e∧w=w':=by
 go_enter Tryz.func83,Tryz.ntmps83
 go_wp2
 go_loopg [3] s.size (fun gn t3 wr=>∃m:Nat,t3=.int .i64 m∧gn+m=s.size∧wr=w)
 case atStart=>exact⟨0,rfl,by omega,rfl⟩
 case round=>
  obtain⟨G,rfl⟩:∃G,G=gk:=⟨_,rfl⟩;obtain⟨m,rfl,hg,rfl⟩:=hrel
  by_cases h0:(m:Int) < (s.size:Int)
  ·have hl:m < s.size:=by omega
   go_wp2_with fail
   all_goals first
    |(go_ret;exact⟨isB _,rfl⟩)
    |(
      go_roundg (G - 1)
      case rel=>exact⟨m+1,by first|rfl|go_num,by omega,rfl⟩
      case measure=>omega)
  ·have hd:decide ((m:Int) < (s.size:Int))=false:=by simpa using h0
   go_wp2_with fail
   all_goals (go_ret;exact⟨isB _,rfl⟩)
theorem rAuthor_any (s:ByteArray) (hs:s.size≤1000000000000) (w:World):Calls Tryz.prog 45 #[.string s] w fun e w'=>IsB e∧w=w':=by
 go_enter Tryz.func45,Tryz.ntmps45
 go_wp2
 go_loopg [3] s.size (fun gn t3 wr=>∃m:Nat,t3=.int .i64 m∧gn+m=s.size∧wr=w)
 case atStart=>exact⟨0,rfl,by omega,rfl⟩
 case round=>
  obtain⟨G,rfl⟩:∃G,G=gk:=⟨_,rfl⟩;obtain⟨m,rfl,hg,rfl⟩:=hrel
  by_cases h0:(m:Int) < (s.size:Int)
  ·have hl:m < s.size:=by omega
   go_wp2_with fail
   all_goals first
    |(go_ret;exact⟨isB _,rfl⟩)
    |(
      go_roundg (G - 1)
      case rel=>exact⟨m+1,by first|rfl|go_num,by omega,rfl⟩
      case measure=>omega)
  ·have hd:decide ((m:Int) < (s.size:Int))=false:=by simpa using h0
   go_wp2_with fail
   all_goals (go_ret;exact⟨isB _,rfl⟩)
theorem rMay_any (s:ByteArray) (n:Int) (hs:s.size≤1000000000000) (w:World):Calls Tryz.prog 41 #[.agg #[.string s,.int .i64 n]] w fun e w'=>IsB e∧Below w.heap.size w w':=by
 have BL:=(Below.refl w.heap.size w).alloc (Nat.le_refl _) (.cells #[.string s,.int .i64 n] 38);go_enter Tryz.func41,Tryz.ntmps41
 go_wp2_with fail
 with_reducible refine(rAuthor_any s hs _).mono ?_
 rintro e w4 ⟨⟨b,rfl⟩,rfl⟩
 cases b with
 |false=>
  go_wp2_with fail
  all_goals (go_ret;exact⟨isB _,BL⟩)
 |true=>
  go_wp2_with fail
  all_goals (go_ret;exact⟨isB _,BL⟩)
theorem rBin37_any (w:World):Calls Tryz.prog 84 #[] w fun e w'=>e=.returned (.agg #[.string ⟨#[45]⟩,.int .i64 0])∧Below w.heap.size w w':=by
 have r0:=zg w (.cells #[.string ⟨#[45]⟩,.int .i64 0] 38) w.heap.size rfl;have BL:=(Below.refl w.heap.size w).alloc (Nat.le_refl _) (.cells #[.string ⟨#[45]⟩,.int .i64 0] 38);go_enter Tryz.func84,Tryz.ntmps84
 go_wp2_with fail
 exact bodyPost_ret (results_cell_row Tryz.results84 _ _ w.heap.size 38 _ (0,0) _ rfl r0 Tryz.underlying38 rfl (by kernel_rfl)) rfl ⟨rfl,BL⟩
def same38 (s:ByteArray) (n:Int) (s':ByteArray) (n':Int):Bool:=s.toList==s'.toList&&n==n'
@[go_sem] theorem eql38 (w:World) (s s':ByteArray) (n n':Int):(binOp .eql 38 (.agg #[.string s,.int .i64 n]) (.agg #[.string s',.int .i64 n'])).run Tryz.prog w=.ok (.bool (same38 s n s' n')) w:=by
 unfold same38;have u3:=Tryz.underlying3;have u9:=Tryz.underlying9;have a3:=Tryz.isAgg3;have a9:=Tryz.isAgg9;have z3:=Tryz.sizeOf3;have z9:=Tryz.sizeOf9;have hS:Tryz.prog.underlying 38=some (.struct (Tryz.prog.fieldsOf 38)):=by kernel_rfl
 have hP:Tryz.prog.stoodInHeld 38=false:=by kernel_rfl
 rw [run_eql_struct,run_equalIn_agg w 9999 38 _ _ hS hP];simp only [Program.fieldsOf,Tryz.underlying38];go_simp;cases hb:(n==n') <;>cases hs:(s.toList==s'.toList) <;>simp_all
@[go_sem] theorem guard38 (op:BinOp) (x y:Operand) (xs ys:Array Value) (w:World):(eqGuard op 38 x y (.agg xs) (.agg ys)).run Tryz.prog w=.ok () w:=run_eqGuard_agg w op 38 x y xs ys (by kernel_rfl)
section
attribute [local go_sem high] eql38 eql43 eql207
set_option maxRecDepth 100000 in
theorem rRest_any (x:EdD) (w:World):Calls Tryz.prog 48 #[.agg (edV x).toArray] w fun e w'=>IsB e∧Below w.heap.size w w':=by
 obtain⟨⟨ia,im⟩,clock,floor,deps,kind,⟨na,nn⟩,⟨pa,pn⟩,neg,num,den,field,value,⟨ta,tn⟩,who⟩:=x;obtain⟨b1,h1⟩:∃b,same38 na nn ⟨#[]⟩ 0=b:=⟨_,rfl⟩;obtain⟨b2,h2⟩:∃b,same38 pa pn ⟨#[]⟩ 0=b:=⟨_,rfl⟩;obtain⟨b3,h3⟩:∃b,same43 neg num den false ⟨#[]⟩ ⟨#[]⟩=b:=⟨_,rfl⟩;obtain⟨b6,h6⟩:∃b,same38 ta tn ⟨#[]⟩ 0=b:=⟨_,rfl⟩;obtain⟨b4,h4⟩:∃b,field.toList.isEmpty=b:=⟨_,rfl⟩;obtain⟨b5,h5⟩:∃b,value.toList.isEmpty=b:=⟨_,rfl⟩;obtain⟨b7,h7⟩:∃b,who.toList.isEmpty=b:=⟨_,rfl⟩;have BL:=((Below.refl w.heap.size w).alloc (Nat.le_refl _) (.cells #[.string ia,.int .i64 im,.int .i64 clock,.int .i64 floor,.slice deps.a deps.len deps.cap,.int .i64 kind,.string na,.int .i64 nn,.string pa,.int .i64 pn,.bool neg,.string num,.string den,.string field,.string value,.string ta,.int .i64 tn,.string who] 45)).alloc (by simp) (.cells #[.string ⟨#[]⟩,.int .i64 0] 38);change Calls Tryz.prog 48 #[.agg #[.string ia,.int .i64 im,.int .i64 clock,.int .i64 floor,.slice deps.a deps.len deps.cap,.int .i64 kind,.string na,.int .i64 nn,.string pa,.int .i64 pn,.bool neg,.string num,.string den,.string field,.string value,.string ta,.int .i64 tn,.string who]] w _;go_enter Tryz.func48,Tryz.ntmps48
 go_wp2_with fail
 go_quiet (fail)
 go_wp2_with fail
 go_quiet (fail)
 go_wp2_with fail
 all_goals (go_ret;exact⟨isB _,Below_drewN BL _⟩)
end
def IdR (w:World) (v:Value) (l:List IdD):Prop:=((∃a,v=.slice a 0 0)∧l= [])∨∃b off cap,v=.slice (some ⟨b,off,none⟩) l.length cap∧l.length≤cap∧w.rangeAt b off (idY.flat l)
theorem IdR.of {w:World} {v:Value} {l:List IdD} (h:idY.Rd w v l):IdR w v l:=by
 rcases h with⟨h1,h2⟩|h
 ·exact .inl ⟨⟨_,h1⟩,h2⟩
 ·exact .inr h
theorem IdR.below {w w':World} {v:Value} {l:List IdD} (h:IdR w v l) (hb:Below w.heap.size w w'):IdR w' v l:=by
 rcases h with h|⟨b,off,cap,h1,h2,h3⟩
 ·exact .inl h
 ·exact .inr ⟨b,off,cap,h1,h2,rangeAt_below h3 hb⟩
theorem IdR.alloc {w:World} {v:Value} {l:List IdD} (h:IdR w v l) (o:Obj):IdR (w.alloc o) v l:=h.below ((Below.refl _ _).alloc (Nat.le_refl _) o)
theorem IdR.drew {w:World} {v:Value} {l:List IdD} (h:IdR w v l):IdR w.drew v l:=h.below (Below.refl _ _).drew
theorem IdR.form {w:World} {v:Value} {l:List IdD} (h:IdR w v l):∃a n c,v=.slice a n c:=by
 rcases h with⟨⟨a,h⟩,_⟩|⟨b,off,cap,h,_⟩
 ·exact⟨_,_,_,h⟩
 ·exact⟨_,_,_,h⟩
theorem IdR.len {w:World} {a:Option Addr} {n c:Nat} {l:List IdD} (h:IdR w (.slice a n c) l):n=l.length:=by
 rcases h with⟨⟨_,h⟩,rfl⟩|⟨b,off,cap,h,_⟩
 ·simp at h;exact h.2.1
 ·simp at h;exact h.2.1
def EditsW (w:World) (v:Value) (E:List EdP):Prop:=edY.Rd w v (E.map (·.d))∧∀e∈E,IdR w e.d.deps.v e.ids∧e.ids.length≤1000000
theorem EditsW.below {w w':World} {v:Value} {E:List EdP} (h:EditsW w v E) (hb:Below w.heap.size w w'):EditsW w' v E:=⟨h.1.below hb,fun e he=>⟨(h.2 e he).1.below hb,(h.2 e he).2⟩⟩
def IsI (e:Ending):Prop:=∃n:Int,e=.returned (.int .i64 n)
theorem isI (n:Int):IsI (.returned (.int .i64 n)):=⟨n,rfl⟩
def strY:Lay ByteArray:=⟨1,fun s=> [.string s],fun _=>rfl,by intro x u hu;simp at hu;subst hu;rfl⟩
theorem info9s:(Tryz.prog.info? 9).map (fun i=>(i.zero,i.size,i.bytes))=some (some (.string ⟨#[]⟩),1,16):=by kernel_rfl
theorem own_news (W:World) (base:Nat) (hb:base≤W.heap.size):(W.alloc (.cells #[] 9)).ownsRow base 9 1 (.slice (some ⟨W.heap.size,0,none⟩) 0 0) 0 []:=
 ⟨rfl,.inr ⟨W.heap.size,0,#[],rfl,hb,zg _ _ _ rfl,Nat.zero_le _,Nat.zero_le _,rfl,rfl⟩⟩
def IsN (w0:World) (base m:Nat) (e:Ending) (W:World):Prop:=∃(v:Value) (b:Bool) (ss:List ByteArray),e=.returned (.tuple #[v,.bool b])∧strY.Rd W v ss∧ss.length≤m∧Below base w0 W
set_option maxRecDepth 100000 in
theorem rNames_any (s:ByteArray) (hs:s.size≤100000000) (w:World):Calls Tryz.prog 134 #[.string s] w fun e w'=>IsN w w.heap.size (s.size+1) e w':=by
 obtain⟨i0,hi,hz0,hz1,hz2⟩:=info_parts info9s;generalize hB:w.heap.size=B;have hBs:B≤w.heap.size:=by omega
 have BL0:=(Below.refl B w).alloc hBs (.cells #[] 9);have own0:=own_news w B hBs;have HB0:=zz (And.intro BL0 own0);clear hB BL0 own0;go_enter Tryz.func134,Tryz.ntmps134
 go_wp2
 go_loopg [4,5,6] (s.size+1) (fun gn t4 t5 t6 wr=>∃(m f:Nat) (ss:List ByteArray) (sl:SlV),m+gn=s.size+1∧t6=.int .i64 m∧t5=.int .i64 f∧f≤m∧ss.length≤m∧t4=.slice sl.a sl.len sl.cap∧wr.ownsRow B 9 1 sl.v ss.length (strY.flat ss)∧Below B w wr)
 case atStart=>exact⟨0,0, [],⟨some ⟨w.heap.size,0,none⟩,0,0⟩,by omega,rfl,rfl,by omega,by simp,rfl,HB0.out.2,HB0.out.1⟩
 case round=>
  obtain⟨G,rfl⟩:∃G,G=gk:=⟨_,rfl⟩;obtain⟨m,f,ss,sl,hg,rfl,rfl,hf,hss,rfl,hown,hbel⟩:=hrel;have HG:=zz (And.intro hg (And.intro hf hss));have HOB:=zz (And.intro hown hbel);have HBW:=zz (Nat.le_trans hBs hbel.size);clear hg hown hbel hss
  by_cases hm:m < s.size
  ·have h0:(m:Int)≤(s.size:Int):=by omega
   have h1:(m:Int) < (s.size:Int):=by omega
   have h2:(f:Int)≤(m:Int):=by omega
   go_wp2_with fail
   ·go_roundg (G - 1)
    case rel=>exact⟨m+1,f,ss,sl,by have:=HG.out;omega,by go_num,rfl,by omega,by have:=HG.out;omega,rfl,HOB.out.1,HOB.out.2⟩
    case measure=>have:=HG.out;omega
   ·with_reducible refine(rAuthor_any (s.extract f m) (by rw [ByteArray.size_extract];omega) _).mono ?_
    rintro e w4 ⟨⟨b,rfl⟩,rfl⟩
    cases b with
    |false=>
     go_wp2_with fail
     go_ret2
     exact⟨_,_, [],rfl,Lay.Rd.of_owns (Y:=strY) (own_news wr B HBW.out),by simp,HOB.out.2.alloc HBW.out _⟩
    |true=>
     have HOW:=zz (HOB.out.1.alloc (.cells #[.string (s.extract f m)] 9));obtain⟨sa,sn,sc⟩:=sl;have HLN:=zz (show sn=ss.length from(Lay.Rd.of_owns (Y:=strY) HOB.out.1).len)
     cases sn with
     |zero=>
      go_wp2_with(first
       |(at_builtin;refine wpList_append_own_at _ rfl _ _ 57 rfl B 9 i0 (.string ⟨#[]⟩) 1 16 Tryz.underlying57 hi hz0 hz1 hz2 rfl (by decide) (.slice sa 0 sc) ss.length (strY.flat ss) rfl HOW.out ⟨wr.heap.size,0,none⟩ 1 1 [.string (s.extract f m)] rfl rfl (news_of (zg _ _ _ (by simp))) (strY.one (s.extract f m)) (by unfold maxLen;have:=HG.out;omega) (by have:=HG.out;omega) (by simp;have:=HBW.out;omega) ?_;intro v1 w2 hown1 hg1 _ hloc1))
      have hb1:=(HOB.out.2.alloc HBW.out (.cells #[.string (s.extract f m)] 9)).grown hg1 (by simp;have:=HBW.out;omega) (fun j hj=>(HOW.out.lt j hj).1)
      have hown3:w2.ownsRow B 9 1 v1 (ss++ [s.extract f m]).length (strY.flat (ss++ [s.extract f m])):=by
       rw [List.length_append,strY.flat_append];exact hown1
      obtain⟨s1,hs1⟩:=ownsForm hown1;subst hs1;clear hown1 hg1 hloc1;go_wp2
      go_roundg (G - 1)
      case rel=>exact⟨m+1,m+1,ss++ [s.extract f m],s1,by have:=HG.out;omega,by go_num,by go_num,by omega,by have:=HG.out;rw [List.length_append];simp;omega,rfl,hown3,hb1⟩
      case measure=>have:=HG.out;omega
     |succ k=>
      have hx:ss[k]? =some (ss[k]'(by have:=HLN.out;omega)):=List.getElem?_eq_getElem _;generalize ss[k]'(by have:=HLN.out;omega)=t at hx
      obtain⟨g,off,rfl,hr⟩:∃g off,sa=some ⟨g,off,none⟩∧wr.rangeAt g off (strY.flat ss):=by
       rcases(Lay.Rd.of_owns (Y:=strY) HOB.out.1)with⟨h1,h2⟩|⟨g,off,cap,h1,h2,h3⟩
       ·rw [h2]at hx;cases hx
       ·simp [SlV.v]at h1;exact⟨g,off,h1.1,h3⟩
      have q0:wr.cell? ⟨g,off+k,none⟩=some (.string t):=by
       have:=strY.elem hr k t hx 0 (.string t) rfl
       simpa [strY] using this
      have hkm:k≤1000000000:=by have:=HG.out;have:=HLN.out;omega
      clear hx hr
      go_wp2_with(first
       |(at_builtin;refine wpList_append_own_at _ rfl _ _ 57 rfl B 9 i0 (.string ⟨#[]⟩) 1 16 Tryz.underlying57 hi hz0 hz1 hz2 rfl (by decide) (.slice (some ⟨g,off,none⟩) (k+1) sc) ss.length (strY.flat ss) rfl HOW.out ⟨wr.heap.size,0,none⟩ 1 1 [.string (s.extract f m)] rfl rfl (news_of (zg _ _ _ (by simp))) (strY.one (s.extract f m)) (by unfold maxLen;have:=HG.out;omega) (by have:=HG.out;omega) (by simp;have:=HBW.out;omega) ?_;intro v1 w2 hown1 hg1 _ hloc1))
      ·go_ret2
       exact⟨_,_, [],rfl,Lay.Rd.of_owns (Y:=strY) (own_news wr B HBW.out),by simp,HOB.out.2.alloc HBW.out _⟩
      ·have hb1:=(HOB.out.2.alloc HBW.out (.cells #[.string (s.extract f m)] 9)).grown hg1 (by simp;have:=HBW.out;omega) (fun j hj=>(HOW.out.lt j hj).1)
       have hown3:w2.ownsRow B 9 1 v1 (ss++ [s.extract f m]).length (strY.flat (ss++ [s.extract f m])):=by
        rw [List.length_append,strY.flat_append];exact hown1
       obtain⟨s1,hs1⟩:=ownsForm hown1;subst hs1;clear hown1 hg1 hloc1
       try go_wp2
       go_roundg (G - 1)
       case rel=>exact⟨m+1,m+1,ss++ [s.extract f m],s1,by have:=HG.out;omega,by go_num,by go_num,by omega,by have:=HG.out;rw [List.length_append];simp;omega,rfl,hown3,hb1⟩
       case measure=>have:=HG.out;omega
  ·by_cases hm2:m=s.size
   ·subst hm2;have h2:(f:Int)≤(s.size:Int):=by omega
    clear hm
    go_wp2_with fail
    with_reducible refine(rAuthor_any (s.extract f s.size) (by rw [ByteArray.size_extract];omega) _).mono ?_
    rintro e w4 ⟨⟨b,rfl⟩,rfl⟩
    cases b with
    |false=>
     go_wp2_with fail
     go_ret2
     exact⟨_,_, [],rfl,Lay.Rd.of_owns (Y:=strY) (own_news wr B HBW.out),by simp,HOB.out.2.alloc HBW.out _⟩
    |true=>
     have HOW:=zz (HOB.out.1.alloc (.cells #[.string (s.extract f s.size)] 9));obtain⟨sa,sn,sc⟩:=sl;have HLN:=zz (show sn=ss.length from(Lay.Rd.of_owns (Y:=strY) HOB.out.1).len)
     cases sn with
     |zero=>
      go_wp2_with(first
       |(at_builtin;refine wpList_append_own_at _ rfl _ _ 57 rfl B 9 i0 (.string ⟨#[]⟩) 1 16 Tryz.underlying57 hi hz0 hz1 hz2 rfl (by decide) (.slice sa 0 sc) ss.length (strY.flat ss) rfl HOW.out ⟨wr.heap.size,0,none⟩ 1 1 [.string (s.extract f s.size)] rfl rfl (news_of (zg _ _ _ (by simp))) (strY.one (s.extract f s.size)) (by unfold maxLen;have:=HG.out;omega) (by have:=HG.out;omega) (by simp;have:=HBW.out;omega) ?_;intro v1 w2 hown1 hg1 _ hloc1))
      have hb1:=(HOB.out.2.alloc HBW.out (.cells #[.string (s.extract f s.size)] 9)).grown hg1 (by simp;have:=HBW.out;omega) (fun j hj=>(HOW.out.lt j hj).1)
      have hown3:w2.ownsRow B 9 1 v1 (ss++ [s.extract f s.size]).length (strY.flat (ss++ [s.extract f s.size])):=by
       rw [List.length_append,strY.flat_append];exact hown1
      obtain⟨s1,hs1⟩:=ownsForm hown1;subst hs1;clear hown1 hg1 hloc1;go_wp2
      go_roundg (G - 1)
      case rel=>exact⟨s.size+1,s.size+1,ss++ [s.extract f s.size],s1,by have:=HG.out;omega,by go_num,by go_num,by omega,by have:=HG.out;rw [List.length_append];simp;omega,rfl,hown3,hb1⟩
      case measure=>have:=HG.out;omega
     |succ k=>
      have hx:ss[k]? =some (ss[k]'(by have:=HLN.out;omega)):=List.getElem?_eq_getElem _;generalize ss[k]'(by have:=HLN.out;omega)=t at hx
      obtain⟨g,off,rfl,hr⟩:∃g off,sa=some ⟨g,off,none⟩∧wr.rangeAt g off (strY.flat ss):=by
       rcases(Lay.Rd.of_owns (Y:=strY) HOB.out.1)with⟨h1,h2⟩|⟨g,off,cap,h1,h2,h3⟩
       ·rw [h2]at hx;cases hx
       ·simp [SlV.v]at h1;exact⟨g,off,h1.1,h3⟩
      have q0:wr.cell? ⟨g,off+k,none⟩=some (.string t):=by
       have:=strY.elem hr k t hx 0 (.string t) rfl
       simpa [strY] using this
      have hkm:k≤1000000000:=by have:=HG.out;have:=HLN.out;omega
      clear hx hr
      go_wp2_with(first
       |(at_builtin;refine wpList_append_own_at _ rfl _ _ 57 rfl B 9 i0 (.string ⟨#[]⟩) 1 16 Tryz.underlying57 hi hz0 hz1 hz2 rfl (by decide) (.slice (some ⟨g,off,none⟩) (k+1) sc) ss.length (strY.flat ss) rfl HOW.out ⟨wr.heap.size,0,none⟩ 1 1 [.string (s.extract f s.size)] rfl rfl (news_of (zg _ _ _ (by simp))) (strY.one (s.extract f s.size)) (by unfold maxLen;have:=HG.out;omega) (by have:=HG.out;omega) (by simp;have:=HBW.out;omega) ?_;intro v1 w2 hown1 hg1 _ hloc1))
      ·go_ret2
       exact⟨_,_, [],rfl,Lay.Rd.of_owns (Y:=strY) (own_news wr B HBW.out),by simp,HOB.out.2.alloc HBW.out _⟩
      ·have hb1:=(HOB.out.2.alloc HBW.out (.cells #[.string (s.extract f s.size)] 9)).grown hg1 (by simp;have:=HBW.out;omega) (fun j hj=>(HOW.out.lt j hj).1)
       have hown3:w2.ownsRow B 9 1 v1 (ss++ [s.extract f s.size]).length (strY.flat (ss++ [s.extract f s.size])):=by
        rw [List.length_append,strY.flat_append];exact hown1
       obtain⟨s1,hs1⟩:=ownsForm hown1;subst hs1;clear hown1 hg1 hloc1
       try go_wp2
       go_roundg (G - 1)
       case rel=>exact⟨s.size+1,s.size+1,ss++ [s.extract f s.size],s1,by have:=HG.out;omega,by go_num,by go_num,by omega,by have:=HG.out;rw [List.length_append];simp;omega,rfl,hown3,hb1⟩
       case measure=>have:=HG.out;omega
   ·have h0:decide ((m:Int)≤(s.size:Int))=false:=by simp;omega
    go_wp2_with fail
    go_ret2
    exact⟨_,_,ss,rfl,Lay.Rd.of_owns HOB.out.1,by have:=HG.out;omega,HOB.out.2⟩
theorem rVotes_any (au s:ByteArray) (hs:s.size≤100000000) (w:World):Calls Tryz.prog 85 #[.string au,.string s] w fun e w'=>IsB e∧Below w.heap.size w w':=by
 go_enter Tryz.func85,Tryz.ntmps85
 go_wp2_with fail
 with_reducible refine(rNames_any s hs _).mono ?_
 rintro e w2 ⟨v,ok,L,rfl,hv,hll,hb⟩;obtain⟨a1,n1,c1,rfl⟩:=hv.form;have hn1:n1=L.length:=hv.len;have HR:=zz hv;have HL:=zz hn1;have HBB:=zz hb;have hle:n1≤1000000000:=by omega
 clear hv hn1 hll hb;go_wp2
 go_loopg [15] n1 (fun gn t8 wr=>∃k:Nat,k+gn=n1∧t8=.int .i64 k∧wr=w2)
 case atStart=>exact⟨0,by omega,rfl,rfl⟩
 case round=>
  obtain⟨G,rfl⟩:∃G,G=gk:=⟨_,rfl⟩;obtain⟨k,hk,rfl,rfl⟩:=hrel;have HK:=zz hk;clear hk
  by_cases hlt:k < n1
  ·have hx:L[k]? =some (L[k]'(by rw [←HL.out];exact hlt)):=List.getElem?_eq_getElem _;generalize L[k]'(by rw [←HL.out];exact hlt)=t at hx
   obtain⟨b,off,rfl,hr⟩:∃b off,a1=some ⟨b,off,none⟩∧wr.rangeAt b off (strY.flat L):=by
    rcases HR.out with⟨h1,h2⟩|⟨b,off,cap,h1,h2,h3⟩
    ·rw [h2]at hx;cases hx
    ·simp at h1;exact⟨b,off,h1.1,h3⟩
   have q0:wr.cell? ⟨b,off+k,none⟩=some (.string t):=by
    have:=strY.elem hr k t hx 0 (.string t) rfl
    simpa [strY] using this
   have hltZ:(k:Int) < (n1:Int):=by omega
   clear hr hx
   go_wp2_with fail
   all_goals first
    |(go_ret;exact⟨isB _,HBB.out⟩)
    |(
      go_roundg (n1 - 1 - k)
      case rel=>exact⟨k+1,by have:=HK.out;omega,by go_num,rfl⟩
      case measure=>have:=HK.out;omega)
  ·obtain rfl:k=n1:=by have:=HK.out;omega
   go_wp2_with fail
   go_ret
   exact⟨isB _,HBB.out⟩
end Go.Proofs.YteigcnamkfebgaaGreatDoor
