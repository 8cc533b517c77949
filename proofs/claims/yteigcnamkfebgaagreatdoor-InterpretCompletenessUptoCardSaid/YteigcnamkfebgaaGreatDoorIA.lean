import Derived.Test.YteigcnamkfebgaaGreatDoorHE
import Derived.Test.YteigcnamkfebgaaGreatDoorShelf
import Derived.Shelf.Strings.SlTrimAscii
import Derived.Lib.AtoiAllCases
import Derived.Lib.AppendIntMem
import Derived.Lib.ItoaLen
set_option linter.all false
set_option maxHeartbeats 25600000
namespace Go.Proofs.YteigcnamkfebgaaGreatDoor
open Go.RowKit
structure Globs (w:World):Prop where
 m:∃m:Int,w.cell? ⟨1,0,none⟩=some (.int .i64 m)
 e8:∃ev,w.cell? ⟨8,0,none⟩=some ev∧(ev=.nilIface∨∃te pe,ev=.iface te pe)
 e9:∃ev,w.cell? ⟨9,0,none⟩=some ev∧(ev=.nilIface∨∃te pe,ev=.iface te pe)
 tab:Lib.TabIs Tryz.prog w "internal/strconv.uint64pow10" .u64 Lib.pow10Tab
theorem Globs.below {w w':World} (h:Globs w) (hb:Below w.heap.size w w'):Globs w':=by
 obtain⟨⟨m,h1⟩,⟨e8,h8,g8⟩,⟨e9,h9,g9⟩,ht⟩:=h;refine⟨⟨m,keep1 hb h1⟩,⟨e8,keep1 hb h8,g8⟩,⟨e9,keep1 hb h9,g9⟩,?_⟩;unfold Lib.TabIs World.var? at ht⊢
 cases hg:Tryz.prog.globalNamed "internal/strconv.uint64pow10" with
 |none=>rw [hg]at ht;cases ht
 |some g=>
  rw [hg]at ht;simp only [Option.bind_some]at ht⊢
  cases ho:w.heap[g]? with
  |none=>rw [ho]at ht;cases ht
  |some o=>
   rw [(hb.block g (by have:=(Array.getElem?_eq_some_iff.1 ho).1;exact this)).trans ho];rw [ho]at ht;exact ht
def IsS (m:Nat) (e:Ending):Prop:=∃t:ByteArray,e=.returned (.string t)∧t.size≤m
theorem size_data (s:ByteArray):s.data.toList.length=s.size:=Array.length_toList
theorem trimR_len (l cs:List UInt8):(Lib.trimRightS l cs).length≤l.length:=by
 unfold Lib.trimRightS;rw [List.length_reverse];exact Nat.le_trans (List.dropWhile_sublist _).length_le (by simp)
theorem trimS_len (l cs:List UInt8):(Lib.trimS l cs).length≤l.length:=by
 unfold Lib.trimS Lib.trimLeftS;exact Nat.le_trans (List.dropWhile_sublist _).length_le (trimR_len l cs)
theorem size_mk (l:List UInt8):(⟨l.toArray⟩:ByteArray).size=l.length:=rfl
theorem trim_w (s cs:ByteArray) (hs:s.size≤1000000000) (hc:cs.size < 4294967281) (ha:∀(j:Nat) b,cs.data.toList[j]? =some b→b.toNat < 128) (w:World):
  Calls Tryz.prog 219 #[.string s,.string cs] w fun e w'=>IsS s.size e∧Below w.heap.size w w':=
 (Any.strings_Trim_laid Tryz.lays160 (by kernel_rfl) s cs w (by omega) hc ha).mono fun e w' h=>⟨⟨_,h.1,by rw [size_mk,←size_data s];exact trimS_len _ _⟩,h.2⟩
theorem trimRight_w (s cs:ByteArray) (hs:s.size≤1000000000) (hc:cs.size < 4294967281) (ha:∀(j:Nat) b,cs.data.toList[j]? =some b→b.toNat < 128) (w:World):
  Calls Tryz.prog 228 #[.string s,.string cs] w fun e w'=>IsS s.size e∧Below w.heap.size w w':=
 (Any.strings_TrimRight_laid Tryz.lays162 (by kernel_rfl) s cs w (by omega) hc ha).mono fun e w' h=>⟨⟨_,h.1,by rw [size_mk,←size_data s];exact trimR_len _ _⟩,h.2⟩
theorem ascii_of {l:ByteArray} (h:l.data.toList.all (fun b=>decide (b.toNat < 128))=true):∀(j:Nat) b,l.data.toList[j]? =some b→b.toNat < 128:=fun j b hb=>by
 simpa using List.all_eq_true.1 h b (List.mem_of_getElem? hb)
theorem cut_w (s:ByteArray) (c:UInt8) (hs:s.size≤1000000000) (w:World) (hG:Globs w):
  Calls Tryz.prog 217 #[.string s,.string ⟨#[c]⟩] w fun e w'=>(∃(a b:ByteArray) (k:Bool),e=.returned (.tuple #[.string a,.string b,.bool k])∧a.size≤s.size∧b.size≤s.size∧(k=true→b.size+1≤s.size))∧Below w.heap.size w w':=by
 obtain⟨m,hm⟩:=hG.m;refine(Tryz.strings_Cut s ⟨#[c]⟩ m w (by omega) hm).mono fun e w' h=>⟨⟨_,_,_,h.1,?_,?_,?_⟩,?_⟩
 ·rw [size_mk,←size_data s];unfold Lib.cut;split
  ·exact(List.take_sublist _ _).length_le
  ·exact Nat.le_refl _
 ·rw [size_mk,←size_data s];unfold Lib.cut;split
  ·exact(List.drop_sublist _ _).length_le
  ·simp
 ·rw [size_mk,←size_data s];unfold Lib.cut;split
  ·rename_i h0;intro _
   have hne:s.data.toList≠ []:=fun he=>by
    rw [he]at h0;have h1:Lib.index [] ([c])= -1:=by simp [Lib.index]
    have h2:Lib.index [] (ByteArray.mk #[c]).data.toList= -1:=h1;rw [h2]at h0;omega
   have hp:0 < s.data.toList.length:=List.length_pos_iff.2 hne;rw [List.length_drop];generalize(Lib.index _ _).toNat=q
   show _ - (q+1)+1≤_
   omega
  ·simp
 ·obtain⟨n,rfl⟩:=h.2;exact Below_drewN (Below.refl _ _) n
theorem atoi_w (s:ByteArray) (hs:s.size≤1000000000) (w:World) (hG:Globs w):
  Calls Tryz.prog 257 #[.string s] w fun e w'=>(∃(n:Int) (v:Value),e=.returned (.tuple #[.int .i64 n,v])∧(v=.nilIface∧ -9223372036854775808≤n∧n≤9223372036854775807∨∃N,v=.iface 300 (.pointer (some ⟨N,0,none⟩))))∧Below w.heap.size w w':=by
 obtain⟨ev8,h8,g8⟩:=hG.e8;obtain⟨ev9,h9,g9⟩:=hG.e9
 cases h:Lib.atoiAll s.data.toList with
 |ok v=>
  refine(Tryz.strconv_Atoi_ok s (by omega) v h w).mono fun e w' hh=>⟨⟨v,_,hh.1,.inl ⟨rfl,Lib.atoiAll_bounds h⟩⟩,?_⟩
  rcases hh.2 with rfl|⟨t,rfl⟩
  ·exact Below.refl _ _
  ·exact Lib.bytesWorld_below _ _ _
 |range=>exact(Tryz.strconv_Atoi_range s (by omega) h ev9 w h9 g9).mono fun e w' ⟨N,h1,_,_,hb⟩=>⟨⟨_,_,h1,.inr ⟨N,rfl⟩⟩,hb⟩
 |_=>exact(Tryz.strconv_Atoi_syntax s (by omega) (fun n e=>by rw [h]at e;cases e) (fun e=>by rw [h]at e;cases e) ev8 w h8 g8).mono fun e w' ⟨N,h1,_,_,hb⟩=>⟨⟨0,_,h1,.inr ⟨N,rfl⟩⟩,hb⟩
theorem lower_w (c:Int) (w:World):Calls Tryz.prog 218 #[.int .u8 c] w fun e w'=>IsB e∧w=w':=by
 cases h1:decide (97≤c)with
 |false=>
  go_enter Tryz.func218,Tryz.ntmps218
  go_wp2_with fail
  go_ret
  exact⟨isB _,rfl⟩
 |true=>
  go_enter Tryz.func218,Tryz.ntmps218
  go_wp2_with fail
  go_ret
  exact⟨isB _,rfl⟩
theorem bytes_pos {a:ByteArray} (h0:¬a=⟨#[]⟩):0 < a.size:=by
 rcases Nat.eq_zero_or_pos a.size with h|h
 ·exact absurd (by cases a with|mk d=>simp [ByteArray.size]at h;rw [h]) h0
 ·exact h
theorem bytes_ne {a:ByteArray} (h:0 < a.size):a.toList.isEmpty=false:=by
 rw [ByteArray.toList_eq]
 cases hl:a.data.toList with
 |nil=>have:=size_data a;rw [hl]at this;simp at this;omega
 |cons x r=>rfl
theorem itoa_w (n:Int) (h0: -9223372036854775808≤n) (h1:n≤9223372036854775807) (w:World) (hG:Globs w):
  Calls Tryz.prog 96 #[.int .i64 n] w fun e w'=>e=.returned (.string ⟨(Lib.itoa n).toArray⟩)∧Below w.heap.size w w':=
 (Tryz.strconv_Itoa n h0 h1 w hG.tab).mono fun e w' ⟨h,k,os,hw⟩=>⟨h,by rw [hw];exact Lib.below_grow _ _ (Nat.le_refl _) _ _⟩
def IsNB (e:Ending):Prop:=∃(n:Int) (b:Bool),e=.returned (.tuple #[.int .i64 n,.bool b])
theorem isNB (n:Int) (b:Bool):IsNB (.returned (.tuple #[.int .i64 n,.bool b])):=⟨n,b,rfl⟩
theorem number_w (s:ByteArray) (lo hi:Int) (hs:s.size≤1000000000) (w:World) (hG:Globs w):
  Calls Tryz.prog 220 #[.string s,.int .i64 lo,.int .i64 hi] w fun e w'=>IsNB e∧Below w.heap.size w w':=by
 have HA:=zz (atoi_w s hs w hG);have HI:=zz (fun(n:Int) (h0: -9223372036854775808≤n) (h1:n≤9223372036854775807) (W:World) (hb:Below w.heap.size w W)=>itoa_w n h0 h1 W (hG.below hb));clear hG;go_enter Tryz.func220,Tryz.ntmps220
 go_wp2_with fail
 with_reducible refine HA.out.mono ?_
 rintro e w4 ⟨⟨n,v,rfl,hv⟩,hb⟩
 rcases hv with⟨rfl,h0,h1⟩|⟨N,rfl⟩
 ·have HIN:=zz (HI.out n h0 h1 w4 hb);clear h0 h1
  go_wp2_with fail
  with_reducible refine HIN.out.mono ?_
  rintro e w5 ⟨rfl,hb5⟩;have BL:=hb.trans (hb5.mono hb.size);clear hb hb5 HIN
  go_wp2_with fail
  all_goals (go_ret2;exact⟨isNB _ _,BL⟩)
 ·go_wp2_with fail
  all_goals (go_ret2;exact⟨isNB _ _,hb⟩)
def lowS:ByteArray:=⟨#[97,98,99,100,101,102,103,104,105,106,107,108,109,110,111,112,113,114,115,116,117,118,119,120,121,122]⟩
def idS:ByteArray:=⟨#[97,98,99,100,101,102,103,104,105,106,107,108,109,110,111,112,113,114,115,116,117,118,119,120,121,122,48,49,50,51,52,53,54,55,56,57]⟩
def digS:ByteArray:=⟨#[48,49,50,51,52,53,54,55,56,57]⟩
theorem trimLow (s:ByteArray) (hs:s.size≤1000000000) (w:World):Calls Tryz.prog 219 #[.string s,.string ⟨#[97,98,99,100,101,102,103,104,105,106,107,108,109,110,111,112,113,114,115,116,117,118,119,120,121,122]⟩] w fun e w'=>IsS s.size e∧Below w.heap.size w w':=
 trim_w s lowS hs (by decide) (ascii_of (by decide)) w
theorem trimId (s:ByteArray) (hs:s.size≤1000000000) (w:World):Calls Tryz.prog 219 #[.string s,.string ⟨#[97,98,99,100,101,102,103,104,105,106,107,108,109,110,111,112,113,114,115,116,117,118,119,120,121,122,48,49,50,51,52,53,54,55,56,57]⟩] w fun e w'=>IsS s.size e∧Below w.heap.size w w':=
 trim_w s idS hs (by decide) (ascii_of (by decide)) w
theorem isId_w (s:ByteArray) (hs:s.size≤1000000000) (w:World) (hG:Globs w):Calls Tryz.prog 180 #[.string s] w fun e w'=>IsB e∧Below w.heap.size w w':=by
 have HC:=zz (cut_w s 46 hs w hG);have HN:=zz (fun(t:ByteArray) (ht:t.size≤1000000000) (W:World) (hb:Below w.heap.size w W)=>number_w t 1 999999999 ht W (hG.below hb));clear hG;go_enter Tryz.func180,Tryz.ntmps180
 go_wp2_with fail
 with_reducible refine HC.out.mono ?_
 rintro e w4 ⟨⟨a,b,k,rfl,ha,hb1,_⟩,hb⟩;have hal:a.size≤1000000000:=Nat.le_trans ha hs;have hbl:b.size≤1000000000:=Nat.le_trans hb1 hs;clear HC ha hb1
 cases k with
 |false=>
  go_wp2_with fail
  go_ret
  exact⟨isB _,hb⟩
 |true=>
  by_cases h0:a=⟨#[]⟩
  ·subst h0
   go_wp2_with fail
   go_ret
   exact⟨isB _,hb⟩
  ·have h1:0 < a.size:=bytes_pos h0;have he:=bytes_ne h1;clear h0
   cases d24:decide ((24:Int) < (a.size:Int))with
   |true=>
    go_wp2_with fail
    go_ret
    exact⟨isB _,hb⟩
   |false=>
    go_wp2_with fail
    with_reducible refine(lower_w _ _).mono ?_
    rintro e w5 ⟨⟨bb,rfl⟩,rfl⟩
    cases bb with
    |false=>
     go_wp2_with fail
     go_ret
     exact⟨isB _,hb⟩
    |true=>
     go_wp2_with fail
     with_reducible refine(trimId a hal _).mono ?_
     rintro e w6 ⟨⟨t,rfl,_⟩,hb6⟩;have BL:=hb.trans (hb6.mono hb.size);clear hb hb6
     cases ht:t.toList.isEmpty with
     |false=>
      go_wp2_with fail
      go_ret
      exact⟨isB _,BL⟩
     |true=>
      go_wp2_with fail
      with_reducible refine(HN.out b hbl _ BL).mono ?_
      rintro e w7 ⟨⟨n9,b9,rfl⟩,hb7⟩;have BL:=BL.trans (hb7.mono BL.size)
      go_wp2_with fail
      go_ret
      exact⟨isB _,BL⟩
theorem isRole_w (s:ByteArray) (hs:s.size≤1000000000) (w:World):Calls Tryz.prog 181 #[.string s] w fun e w'=>IsB e∧Below w.heap.size w w':=by
 cases he:s.toList.isEmpty with
 |true=>
  go_enter Tryz.func181,Tryz.ntmps181
  go_wp2_with fail
  go_ret
  exact⟨isB _,Below.refl _ _⟩
 |false=>
  cases d12:decide ((s.size:Int)≤12)with
  |false=>
   go_enter Tryz.func181,Tryz.ntmps181
   go_wp2_with fail
   go_ret
   exact⟨isB _,Below.refl _ _⟩
  |true=>
   go_enter Tryz.func181,Tryz.ntmps181
   go_wp2_with fail
   with_reducible refine(trimLow s hs _).mono ?_
   rintro e w6 ⟨⟨t,rfl,_⟩,hb6⟩
   go_wp2_with fail
   go_ret
   exact⟨isB _,hb6⟩
def IsP (e:Ending):Prop:=∃(a b:ByteArray) (n:Int) (k:Bool),e=.returned (.tuple #[.string a,.string b,.int .i64 n,.bool k])
theorem isP (a b:ByteArray) (n:Int) (k:Bool):IsP (.returned (.tuple #[.string a,.string b,.int .i64 n,.bool k])):=⟨a,b,n,k,rfl⟩
theorem plain_w (s:ByteArray) (hs:s.size≤1000000000) (w:World) (hG:Globs w):Calls Tryz.prog 277 #[.string s] w fun e w'=>IsP e∧Below w.heap.size w w':=by
 have HC:=zz (cut_w s 58 hs w hG);have HT:=zz (fun(t:ByteArray) (ht:t.size≤1000000000) (W:World)=>(show Calls Tryz.prog 228 #[.string t,.string ⟨#[48,49,50,51,52,53,54,55,56,57]⟩] W fun e w'=>IsS t.size e∧Below W.heap.size W w' from trimRight_w t digS ht (by decide) (ascii_of (by decide)) W));have HN:=zz (fun(t:ByteArray) (ht:t.size≤1000000000) (W:World) (hb:Below w.heap.size w W)=>number_w t 0 999 ht W (hG.below hb));have HI:=zz (fun(t:ByteArray) (ht:t.size≤1000000000) (W:World) (hb:Below w.heap.size w W)=>isId_w t ht W (hG.below hb));clear hG;go_enter Tryz.func277,Tryz.ntmps277
 go_wp2_with fail
 with_reducible refine HC.out.mono ?_
 rintro e w4 ⟨⟨a,b,k,rfl,ha,hb1,_⟩,hb⟩;have hal:a.size≤1000000000:=Nat.le_trans ha hs;have hbl:b.size≤1000000000:=Nat.le_trans hb1 hs;clear HC ha hb1
 go_wp2_with fail
 with_reducible refine(HT.out b hbl _).mono ?_
 rintro e w5 ⟨⟨r,rfl,hr⟩,hb5⟩;have BL:=hb.trans (hb5.mono hb.size);have hrl:r.size≤1000000000:=Nat.le_trans hr hbl;have hrZ:(r.size:Int)≤(b.size:Int):=by omega
 clear hb hb5 HT
 go_wp2_with fail
 with_reducible refine(HN.out _ (by simp;omega) _ BL).mono ?_
 rintro e w6 ⟨⟨n9,b9,rfl⟩,hb6⟩;have BL:=BL.trans (hb6.mono BL.size);clear hb6 HN;clear hr hrZ
 cases k with
 |false=>
  go_wp2_with fail
  exact bodyPost_ret (v:=.tuple #[.string a,.string r,.int .i64 n9,.bool false]) (by simp [results,Tryz.results277,go_sem]) rfl ⟨isP _ _ _ _,BL⟩
 |true=>
  cases b9 with
  |false=>
   go_wp2_with fail
   exact bodyPost_ret (v:=.tuple #[.string a,.string r,.int .i64 n9,.bool false]) (by simp [results,Tryz.results277,go_sem]) rfl ⟨isP _ _ _ _,BL⟩
  |true=>
   go_wp2_with fail
   with_reducible refine(HI.out a hal _ BL).mono ?_
   rintro e w7 ⟨⟨c7,rfl⟩,hb7⟩;have BL:=BL.trans (hb7.mono BL.size)
   cases c7 with
   |false=>
    go_wp2_with fail
    exact bodyPost_ret (v:=.tuple #[.string a,.string r,.int .i64 n9,.bool false]) (by simp [results,Tryz.results277,go_sem]) rfl ⟨isP _ _ _ _,BL⟩
   |true=>
    go_wp2_with fail
    with_reducible refine(isRole_w r hrl _).mono ?_
    rintro e w8 ⟨⟨c8,rfl⟩,hb8⟩;have BL:=BL.trans (hb8.mono BL.size)
    go_wp2_with fail
    exact bodyPost_ret (v:=.tuple #[.string a,.string r,.int .i64 n9,.bool c8]) (by simp [results,Tryz.results277,go_sem]) rfl ⟨isP _ _ _ _,BL⟩
def IsT (e:Ending):Prop:=∃(a b c:ByteArray) (n m:Int),e=.returned (.tuple #[.string a,.string b,.int .i64 n,.string c,.int .i64 m])
theorem isT (a b c:ByteArray) (n m:Int):IsT (.returned (.tuple #[.string a,.string b,.int .i64 n,.string c,.int .i64 m])):=⟨a,b,c,n,m,rfl⟩
theorem termParse_step (s:ByteArray) (hs:s.size≤1000000000) (w:World) (hG:Globs w)
  (ih:∀(t:ByteArray) (W:World),t.size < s.size→Below w.heap.size w W→Calls Tryz.prog 248 #[.string t] W fun e w'=>IsT e∧Below W.heap.size W w'):
  Calls Tryz.prog 248 #[.string s] w fun e w'=>IsT e∧Below w.heap.size w w':=by
 have HP:=zz (plain_w s hs w hG);have HC:=zz (fun(c:UInt8) (t:ByteArray) (ht:t.size≤1000000000) (W:World) (hb:Below w.heap.size w W)=>cut_w t c ht W (hG.below hb));have HN:=zz (fun(t:ByteArray) (ht:t.size≤1000000000) (W:World) (hb:Below w.heap.size w W)=>number_w t 1 99 ht W (hG.below hb));have HI:=zz (fun(t:ByteArray) (ht:t.size≤1000000000) (W:World) (hb:Below w.heap.size w W)=>isId_w t ht W (hG.below hb));have HIH:=zz ih;clear hG ih
 cases d200:decide ((200:Int) < (s.size:Int))with
 |true=>
  go_enter Tryz.func248,Tryz.ntmps248
  go_wp2_with fail
  exact bodyPost_ret (v:=.tuple #[.string ⟨#[]⟩,.string ⟨#[]⟩,.int .i64 0,.string ⟨#[]⟩,.int .i64 3]) (by simp [results,Tryz.results248,go_sem]) rfl ⟨isT _ _ _ _ _,Below.refl _ _⟩
 |false=>
  go_enter Tryz.func248,Tryz.ntmps248
  go_wp2_with fail
  with_reducible refine HP.out.mono ?_
  rintro e w4 ⟨⟨a,b,n,k,rfl⟩,BL⟩;clear HP
  cases k with
  |true=>
   go_wp2_with fail
   exact bodyPost_ret (v:=.tuple #[.string a,.string b,.int .i64 n,.string ⟨#[]⟩,.int .i64 0]) (by simp [results,Tryz.results248,go_sem]) rfl ⟨isT _ _ _ _ _,BL⟩
  |false=>
   go_wp2_with fail
   with_reducible refine(HC.out 35 s hs _ BL).mono ?_
   rintro e w5 ⟨⟨a1,b1,k1,rfl,ha1,hb1,hk1⟩,hb⟩;have BL:=BL.trans (hb.mono BL.size);have la1:a1.size≤1000000000:=Nat.le_trans ha1 hs;have lb1:b1.size≤1000000000:=Nat.le_trans hb1 hs;have HK1:=zz hk1;clear hb ha1 hk1
   go_wp2_with fail
   with_reducible refine(HC.out 40 b1 lb1 _ BL).mono ?_
   rintro e w6 ⟨⟨a2,b2,k2,rfl,ha2,hb2,_⟩,hb⟩;have BL:=BL.trans (hb.mono BL.size);have la2:a2.size≤1000000000:=Nat.le_trans ha2 lb1;have lb2:b2.size≤1000000000:=Nat.le_trans hb2 lb1;clear hb ha2
   go_wp2_with fail
   with_reducible refine(Tryz.strings_CutSuffix b2 ⟨#[41]⟩ _ (by omega)).mono ?_
   rintro e w7 ⟨rfl,rfl⟩
   have hb3:(ByteArray.mk (Lib.trimSuffix b2.data.toList (ByteArray.mk #[41]).data.toList).toArray).size≤b2.size:=by
    rw [size_mk,←size_data b2];unfold Lib.trimSuffix;split
    ·exact(List.take_sublist _ _).length_le
    ·exact Nat.le_refl _
   generalize ByteArray.mk (Lib.trimSuffix b2.data.toList (ByteArray.mk #[41]).data.toList).toArray=b3 at*
   generalize Lib.hasSuffix b2.data.toList (ByteArray.mk #[41]).data.toList=k3 at*
   go_wp2_with fail
   with_reducible refine(HN.out a2 la2 _ BL).mono ?_
   rintro e w8 ⟨⟨n8,b8,rfl⟩,hb8⟩;have BL:=BL.trans (hb8.mono BL.size);clear hb8 HC HN
   cases k1 with
   |false=>
    go_wp2_with fail
    exact bodyPost_ret (v:=.tuple #[.string ⟨#[]⟩,.string ⟨#[]⟩,.int .i64 0,.string ⟨#[]⟩,.int .i64 3]) (by simp [results,Tryz.results248,go_sem]) rfl ⟨isT _ _ _ _ _,BL⟩
   |true=>
    have h1:=HK1.out rfl
    cases k2 with
    |false=>
     go_wp2_with fail
     exact bodyPost_ret (v:=.tuple #[.string ⟨#[]⟩,.string ⟨#[]⟩,.int .i64 0,.string ⟨#[]⟩,.int .i64 3]) (by simp [results,Tryz.results248,go_sem]) rfl ⟨isT _ _ _ _ _,BL⟩
    |true=>
     cases k3 with
     |false=>
      go_wp2_with fail
      exact bodyPost_ret (v:=.tuple #[.string ⟨#[]⟩,.string ⟨#[]⟩,.int .i64 0,.string ⟨#[]⟩,.int .i64 3]) (by simp [results,Tryz.results248,go_sem]) rfl ⟨isT _ _ _ _ _,BL⟩
     |true=>
      cases b8 with
      |false=>
       go_wp2_with fail
       exact bodyPost_ret (v:=.tuple #[.string ⟨#[]⟩,.string ⟨#[]⟩,.int .i64 0,.string ⟨#[]⟩,.int .i64 3]) (by simp [results,Tryz.results248,go_sem]) rfl ⟨isT _ _ _ _ _,BL⟩
      |true=>
       go_wp2_with fail
       with_reducible refine(HI.out a1 la1 _ BL).mono ?_
       rintro e w9 ⟨⟨c9,rfl⟩,hb9⟩;have BL:=BL.trans (hb9.mono BL.size);clear hb9 HI
       cases c9 with
       |false=>
        go_wp2_with fail
        exact bodyPost_ret (v:=.tuple #[.string ⟨#[]⟩,.string ⟨#[]⟩,.int .i64 0,.string ⟨#[]⟩,.int .i64 3]) (by simp [results,Tryz.results248,go_sem]) rfl ⟨isT _ _ _ _ _,BL⟩
       |true=>
        go_wp2_with fail
        with_reducible refine(HIH.out b3 _ (by omega) BL).mono ?_
        rintro e w10 ⟨⟨ta,tb,tc,tn,tm,rfl⟩,hb10⟩;have BL:=BL.trans (hb10.mono BL.size)
        cases h0:(tm==0)with
        |false=>
         have h00:¬tm=0:=by simpa using h0
         go_wp2_with fail
         exact bodyPost_ret (v:=.tuple #[.string ⟨#[]⟩,.string ⟨#[]⟩,.int .i64 0,.string ⟨#[]⟩,.int .i64 3]) (by simp [results,Tryz.results248,go_sem]) rfl ⟨isT _ _ _ _ _,BL⟩
        |true=>
         have h00:tm=0:=by simpa using h0
         subst h00
         go_wp2_with fail
         exact bodyPost_ret (v:=.tuple #[.string a1,.string ⟨#[]⟩,.int .i64 n8,.string b3,.int .i64 0]) (by simp [results,Tryz.results248,go_sem]) rfl ⟨isT _ _ _ _ _,BL⟩
theorem termParse_w (s:ByteArray) (hs:s.size≤1000000000) (w:World) (hG:Globs w):Calls Tryz.prog 248 #[.string s] w fun e w'=>IsT e∧Below w.heap.size w w':=by
 obtain⟨m,hm⟩:∃m,s.size≤m:=⟨_,Nat.le_refl _⟩
 induction m generalizing s w with
 |zero=>exact termParse_step s hs w hG (fun t W h _=>absurd h (by omega))
 |succ m ih=>exact termParse_step s hs w hG (fun t W h hb=>ih t (by omega) W (hG.below hb) (by omega))
theorem isTerm_w (s:ByteArray) (hs:s.size≤1000000000) (w:World) (hG:Globs w):Calls Tryz.prog 216 #[.string s] w fun e w'=>IsB e∧Below w.heap.size w w':=by
 have HP:=zz (termParse_w s hs w hG);clear hG;go_enter Tryz.func216,Tryz.ntmps216
 go_wp2_with fail
 with_reducible refine HP.out.mono ?_
 rintro e w4 ⟨⟨a,b,c,n,m,rfl⟩,BL⟩
 go_wp2_with fail
 go_ret
 exact⟨isB _,BL⟩
def IsSI (e:Ending):Prop:=∃(a:ByteArray) (n:Int),e=.returned (.tuple #[.string a,.int .i64 n])
theorem isSI (a:ByteArray) (n:Int):IsSI (.returned (.tuple #[.string a,.int .i64 n])):=⟨a,n,rfl⟩
theorem newTerm_w (s r:ByteArray) (i:Int) (hs:s.size≤1000000000) (hr:r.size≤1000000000) (w:World) (hG:Globs w):Calls Tryz.prog 143 #[.string s,.string r,.int .i64 i] w fun e w'=>IsSI e∧Below w.heap.size w w':=by
 have HI:=zz (isId_w s hs w hG);have HR:=zz (fun(W:World)=>isRole_w r hr W);have HT:=zz (fun(h0: -9223372036854775808≤i) (h1:i≤9223372036854775807) (W:World) (hb:Below w.heap.size w W)=>itoa_w i h0 h1 W (hG.below hb));clear hG;go_enter Tryz.func143,Tryz.ntmps143
 go_wp2_with fail
 with_reducible refine HI.out.mono ?_
 rintro e w4 ⟨⟨a,rfl⟩,BL⟩;clear HI
 cases a with
 |false=>
  go_wp2_with fail
  go_ret2
  exact⟨isSI _ _,BL⟩
 |true=>
  go_wp2_with fail
  with_reducible refine(HR.out _).mono ?_
  rintro e w5 ⟨⟨b,rfl⟩,hb⟩;have BL:=BL.trans (hb.mono BL.size);clear hb HR
  cases b with
  |false=>
   go_wp2_with fail
   go_ret2
   exact⟨isSI _ _,BL⟩
  |true=>
   cases d0:decide (i < 0)with
   |true=>
    go_wp2_with fail
    go_ret2
    exact⟨isSI _ _,BL⟩
   |false=>
    cases d1:decide (999 < i)with
    |true=>
     go_wp2_with fail
     go_ret2
     exact⟨isSI _ _,BL⟩
    |false=>
     have e0:¬i < 0:=by simpa using d0
     have e1:¬999 < i:=by simpa using d1
     have HT:=zz (HT.out (by omega) (by omega) _ BL);have HL:=zz (Lib.itoa_length_le i (by omega) (by omega));clear e0 e1
     go_wp2_with fail
     with_reducible refine HT.out.mono ?_
     rintro e w6 ⟨rfl,hb⟩;have BL:=BL.trans (hb.mono BL.size);have ht:(ByteArray.mk (Lib.itoa i).toArray).size≤21:=by rw [size_mk];exact HL.out
     generalize ByteArray.mk (Lib.itoa i).toArray=t at*
     go_wp2_with fail
     trace_state
     go_ret2
     exact⟨isSI _ _,BL⟩
def sumS (ss:List ByteArray):Nat:=(ss.map (·.size)).sum
theorem sumS_mem {ss:List ByteArray} {x:ByteArray} (h:x∈ss):x.size≤sumS ss:=by
 induction ss with
 |nil=>simp at h
 |cons y r ih=>
  simp only [sumS,List.map_cons,List.sum_cons]at ih⊢
  rcases List.mem_cons.1 h with rfl|h
  ·omega
  ·have:=ih h;omega
theorem splitB_sum (sep:ByteArray):∀(k:Nat) (s:ByteArray),sumS (Lib.splitB sep 0 k s)≤s.size
 |0,s=>by simp [Lib.splitB,sumS]
 |k+1,s=>by
  unfold Lib.splitB
  split
  ·simp [sumS]
  ·have ih:=splitB_sum sep k (s.extract ((Lib.indexB s sep).toNat+sep.size) s.size);simp only [sumS,List.map_cons,List.sum_cons,ByteArray.size_extract]at ih⊢;omega
theorem refCheck_w (t:ByteArray) (ss:List ByteArray) (a:Option Addr) (n c:Nat) (w:World) (ht:t.size≤1000000000) (hs:∀x∈ss,x.size≤1000000000) (hn:ss.length≤1000000000) (hv:strY.Rd w (.slice a n c) ss) (hG:Globs w):
  Calls Tryz.prog 179 #[.agg #[.string t,.slice a n c]] w fun e w'=>IsI e∧Below w.heap.size w w':=by
 have hnl:n=ss.length:=hv.len;have B0:Below w.heap.size w (w.alloc (.cells #[.string t,.slice a n c] 59)):=(Below.refl _ w).alloc (Nat.le_refl _) _;have R0:(w.alloc (.cells #[.string t,.slice a n c] 59)).heap[w.heap.size]? =_:=zg _ _ _ rfl;have HT:=zz (fun(x:ByteArray) (hx:x.size≤1000000000) (W:World) (hb:Below w.heap.size w W)=>isTerm_w x hx W (hG.below hb));have HV:=zz hv;have HN:=zz hnl;have HS:=zz hs;have hle:n≤1000000000:=by omega
 have HB0:=zz (And.intro B0 R0);obtain⟨c0,c1⟩:=two_cells R0;clear hv hnl hs hn hG B0 R0;cases hg:(t.toList== [103,114,111,117,110,100])
 ·go_enter Tryz.func179,Tryz.ntmps179
  go_wp2_with fail
  with_reducible refine(HT.out t ht _ HB0.out.1).mono ?_
  rintro e w4 ⟨⟨b4,rfl⟩,hb⟩;have BL:=HB0.out.1.trans (hb.mono HB0.out.1.size);have R0:=(hb.block _ (zl HB0.out.2)).trans HB0.out.2;clear hb c0 c1;obtain⟨c0,c1⟩:=two_cells R0;cases b4
  ·go_wp2_with fail
   go_ret
   exact⟨isI _,BL⟩
  ·go_wp2_with fail
   have HB:=zz (And.intro BL R0);clear BL R0 c0 c1 hg
   go_loopg [3,4,17] n (fun gn t3 t4 t17 wr=>∃k:Nat,k+gn=n∧t17=.int .i64 k∧Below w.heap.size w wr∧wr.heap[w.heap.size]? =some (.cells #[.string t,.slice a n c] 59 (0,0)))
   case atStart=>exact⟨0,by omega,rfl,HB.out.1,HB.out.2⟩
   case round=>
    obtain⟨G,rfl⟩:∃G,G=gk:=⟨_,rfl⟩;obtain⟨k,hk,rfl,BL,R0⟩:=hrel;have HK:=zz hk;clear hk
    by_cases hlt:k < n
    ·have hmem:ss[k]'(by rw [←HN.out];exact hlt)∈ss:=List.getElem_mem _;have hx:ss[k]? =some (ss[k]'(by rw [←HN.out];exact hlt)):=List.getElem?_eq_getElem _;generalize ss[k]'(by rw [←HN.out];exact hlt)=x at hx hmem
     obtain⟨b,off,rfl,hr⟩:∃b off,a=some ⟨b,off,none⟩∧w.rangeAt b off (strY.flat ss):=by
      rcases HV.out with⟨h1,h2⟩|⟨b,off,cap,h1,h2,h3⟩
      ·rw [h2]at hx;cases hx
      ·simp at h1;exact⟨b,off,h1.1,h3⟩
     have hrw:=rangeAt_below hr BL
     have q0:wr.cell? ⟨b,off+k,none⟩=some (.string x):=by
      have h:wr.cell? ⟨b,off+k*1+0,none⟩=some (.string x):=strY.elem hrw k x hx 0 _ rfl
      simpa using h
     have hxs:=HS.out x hmem;have hltZ:(k:Int) < (n:Int):=by omega
     have HCT:=zz (HT.out x hxs wr BL);have HRW:=zz hrw;have HRR:=zz hr;clear hr hrw hmem hx
     cases k with
     |zero=>
      rw [Nat.add_zero]at q0;have dz:decide ((0:Int) < ((0:Nat):Int))=false:=by simp
      go_wp2_with fail
      with_reducible refine HCT.out.mono ?_
      rintro e w5 ⟨⟨b5,rfl⟩,hb⟩;have BL:=BL.trans (hb.mono BL.size);have R0:=(hb.block _ (zl R0)).trans R0;clear hb HCT;cases b5
      ·go_wp2_with fail
       go_ret
       exact⟨isI _,BL⟩
      ·go_wp2_with fail
       go_roundg (n - 1)
       case rel=>exact⟨0+1,by have:=HK.out;omega,rfl,BL,R0⟩
       case measure=>have:=HK.out;omega
     |succ j=>
      have hx2:ss[j]? =some (ss[j]'(by rw [←HN.out];omega)):=List.getElem?_eq_getElem _;generalize ss[j]'(by rw [←HN.out];omega)=x2 at hx2;have dz:decide ((0:Int) < ((j+1:Nat):Int))=true:=by rw [decide_eq_true_eq];omega
      have hj:j≤1000000000:=by omega
      go_wp2_with fail
      with_reducible refine HCT.out.mono ?_
      rintro e w5 ⟨⟨b5,rfl⟩,hb⟩;have BL:=BL.trans (hb.mono BL.size);have R0:=(hb.block _ (zl R0)).trans R0
      have q2:w5.cell? ⟨b,off+j,none⟩=some (.string x2):=by
       have h:w5.cell? ⟨b,off+j*1+0,none⟩=some (.string x2):=strY.elem (rangeAt_below HRR.out BL) j x2 hx2 0 _ rfl
       simpa using h
      obtain⟨c0,c1⟩:=two_cells R0;clear hb HCT hx2;cases b5
      ·go_wp2_with fail
       go_ret
       exact⟨isI _,BL⟩
      ·have HBR:=zz (And.intro BL R0);clear BL R0
       go_wp2_with fail
       all_goals first
        |(go_ret;exact⟨isI _,HBR.out.1⟩)
        |skip
       go_roundg (n - 1 - (j+1))
       case rel=>exact⟨j+1+1,by have:=HK.out;omega,by go_num,HBR.out.1,HBR.out.2⟩
       case measure=>have:=HK.out;omega
    ·obtain rfl:k=n:=by have:=HK.out;omega
     go_wp2_with fail
     go_ret
     exact⟨isI _,BL⟩
 ·go_enter Tryz.func179,Tryz.ntmps179
  go_wp2_with fail
  clear c0 c1 hg
  go_loopg [3,4,17] n (fun gn t3 t4 t17 wr=>∃k:Nat,k+gn=n∧t17=.int .i64 k∧Below w.heap.size w wr∧wr.heap[w.heap.size]? =some (.cells #[.string t,.slice a n c] 59 (0,0)))
  case atStart=>exact⟨0,by omega,rfl,HB0.out.1,HB0.out.2⟩
  case round=>
   obtain⟨G,rfl⟩:∃G,G=gk:=⟨_,rfl⟩;obtain⟨k,hk,rfl,BL,R0⟩:=hrel;have HK:=zz hk;clear hk
   by_cases hlt:k < n
   ·have hmem:ss[k]'(by rw [←HN.out];exact hlt)∈ss:=List.getElem_mem _;have hx:ss[k]? =some (ss[k]'(by rw [←HN.out];exact hlt)):=List.getElem?_eq_getElem _;generalize ss[k]'(by rw [←HN.out];exact hlt)=x at hx hmem
    obtain⟨b,off,rfl,hr⟩:∃b off,a=some ⟨b,off,none⟩∧w.rangeAt b off (strY.flat ss):=by
     rcases HV.out with⟨h1,h2⟩|⟨b,off,cap,h1,h2,h3⟩
     ·rw [h2]at hx;cases hx
     ·simp at h1;exact⟨b,off,h1.1,h3⟩
    have hrw:=rangeAt_below hr BL
    have q0:wr.cell? ⟨b,off+k,none⟩=some (.string x):=by
     have h:wr.cell? ⟨b,off+k*1+0,none⟩=some (.string x):=strY.elem hrw k x hx 0 _ rfl
     simpa using h
    have hxs:=HS.out x hmem;have hltZ:(k:Int) < (n:Int):=by omega
    have HCT:=zz (HT.out x hxs wr BL);have HRW:=zz hrw;have HRR:=zz hr;clear hr hrw hmem hx
    cases k with
    |zero=>
     rw [Nat.add_zero]at q0;have dz:decide ((0:Int) < ((0:Nat):Int))=false:=by simp
     go_wp2_with fail
     with_reducible refine HCT.out.mono ?_
     rintro e w5 ⟨⟨b5,rfl⟩,hb⟩;have BL:=BL.trans (hb.mono BL.size);have R0:=(hb.block _ (zl R0)).trans R0;clear hb HCT;cases b5
     ·go_wp2_with fail
      go_ret
      exact⟨isI _,BL⟩
     ·go_wp2_with fail
      go_roundg (n - 1)
      case rel=>exact⟨0+1,by have:=HK.out;omega,rfl,BL,R0⟩
      case measure=>have:=HK.out;omega
    |succ j=>
     have hx2:ss[j]? =some (ss[j]'(by rw [←HN.out];omega)):=List.getElem?_eq_getElem _;generalize ss[j]'(by rw [←HN.out];omega)=x2 at hx2;have dz:decide ((0:Int) < ((j+1:Nat):Int))=true:=by rw [decide_eq_true_eq];omega
     have hj:j≤1000000000:=by omega
     go_wp2_with fail
     with_reducible refine HCT.out.mono ?_
     rintro e w5 ⟨⟨b5,rfl⟩,hb⟩;have BL:=BL.trans (hb.mono BL.size);have R0:=(hb.block _ (zl R0)).trans R0
     have q2:w5.cell? ⟨b,off+j,none⟩=some (.string x2):=by
      have h:w5.cell? ⟨b,off+j*1+0,none⟩=some (.string x2):=strY.elem (rangeAt_below HRR.out BL) j x2 hx2 0 _ rfl
      simpa using h
     obtain⟨c0,c1⟩:=two_cells R0;clear hb HCT hx2;cases b5
     ·go_wp2_with fail
      go_ret
      exact⟨isI _,BL⟩
     ·have HBR:=zz (And.intro BL R0);clear BL R0
      go_wp2_with fail
      all_goals first
       |(go_ret;exact⟨isI _,HBR.out.1⟩)
       |skip
      go_roundg (n - 1 - (j+1))
      case rel=>exact⟨j+1+1,by have:=HK.out;omega,by go_num,HBR.out.1,HBR.out.2⟩
      case measure=>have:=HK.out;omega
   ·obtain rfl:k=n:=by have:=HK.out;omega
    go_wp2_with fail
    go_ret
    exact⟨isI _,BL⟩
def IsRef (S B:Nat) (w':World) (e:Ending):Prop:=∃(t:ByteArray) (a:Option Addr) (n c:Nat) (ss:List ByteArray) (b:Bool),e=.returned (.tuple #[.agg #[.string t,.slice a n c],.bool b])∧strY.Rd w' (.slice a n c) ss∧(t.size+sumS ss≤S∧ss.length≤S)∧∀ad,a=some ad→B≤ad.block∧ad.block < w'.heap.size
theorem flat_str (l:List ByteArray):strY.flat l=l.map Value.string:=by
 induction l with
 |nil=>rfl
 |cons x r ih=>rw [strY.flat_cons,ih];rfl
theorem resParse_w (s:ByteArray) (hs:s.size≤1000000000) (w:World) (hG:Globs w):Calls Tryz.prog 142 #[.string s] w fun e w'=>IsRef s.size w.heap.size w' e∧Below w.heap.size w w':=by
 have B0:Below w.heap.size w (w.alloc (.cells #[.string ⟨#[]⟩,.slice none 0 0] 59)):=(Below.refl _ w).alloc (Nat.le_refl _) _;have R0:(w.alloc (.cells #[.string ⟨#[]⟩,.slice none 0 0] 59)).heap[w.heap.size]? =_:=zg _ _ _ rfl;obtain⟨m,hm⟩:=(hG.below B0).m;have HSP:=zz (Tryz.strings_Split s ⟨#[124]⟩ m _ (by omega) hm (by decide));obtain⟨k,hk⟩:∃k,k=Lib.countB s ⟨#[124]⟩:=⟨_,rfl⟩;rw [←hk]at HSP;have hkl:k≤s.size:=by rw [hk];exact Lib.countB_le ⟨#[124]⟩ (by decide) s.size s (Nat.le_refl _)
 have hlen:=Lib.splitB_all ⟨#[124]⟩ (by decide) 0 k s hk.symm;have hsum:=splitB_sum ⟨#[124]⟩ k s;generalize Lib.splitB ⟨#[124]⟩ 0 k s=L at*
 obtain⟨t,ss,rfl⟩:∃t ss,L=t::ss:=by
  cases L with
  |nil=>simp at hlen
  |cons t ss=>exact⟨t,ss,rfl⟩
 have hsl:ss.length=k:=by simpa using hlen
 have hts:t.size+sumS ss≤s.size:=by simpa [sumS] using hsum
 have HX:=zz (And.intro hsl hts);have HB0:=zz (And.intro B0 R0);clear hm hk hlen hsum hsl hts B0 R0;go_enter Tryz.func142,Tryz.ntmps142
 go_wp2_with fail
 refine HSP.out.mono ?_;rintro e w4 ⟨rfl,rfl⟩;clear HSP
 go_wp2_with fail
 have BL:=HB0.out.1.alloc HB0.out.1.size (.cells ((t::ss).map Value.string).toArray 9);have R0:=zo _ _ (.cells ((t::ss).map Value.string).toArray 9) _ HB0.out.2
 have HL:((w.alloc (.cells #[.string ⟨#[]⟩,.slice none 0 0] 59)).alloc (.cells ((t::ss).map Value.string).toArray 9)).rangeAt (w.heap.size+1) 0 (strY.flat (t::ss)):=fun j v hj=>by
  rw [flat_str]at hj;have h:=zc _ _ (0+j) _ _ _ (zg (w.alloc (.cells #[.string ⟨#[]⟩,.slice none 0 0] 59)) (.cells ((t::ss).map Value.string).toArray 9) (w.heap.size+1) (by simp));rw [h];simpa using hj
 rw [List.map_cons]at BL R0 HL;have hW1:((w.alloc (.cells #[.string ⟨#[]⟩,.slice none 0 0] 59)).alloc (.cells (Value.string t::List.map Value.string ss).toArray 9)).heap.size=w.heap.size+1+1:=by simp
 generalize(w.alloc (.cells #[.string ⟨#[]⟩,.slice none 0 0] 59)).alloc (.cells (Value.string t::List.map Value.string ss).toArray 9)=W1 at*
 have q0:W1.cell? ⟨w.heap.size+1,0,none⟩=some (.string t):=HL 0 _ rfl
 have HRD:strY.Rd W1 (.slice (if k=0 then some ⟨w.heap.size+1,0,none⟩else some ⟨w.heap.size+1,1,none⟩) k k) ss:=by
  by_cases h0:k=0
  ·rw [if_pos h0];have hss:ss= []:=List.eq_nil_of_length_eq_zero (by rw [HX.out.1];exact h0);subst hss;exact .inr ⟨w.heap.size+1,0,k,by rw [h0];rfl,by simp,fun j v hj=>by simp [Lay.flat]at hj⟩
  ·rw [if_neg h0]
   exact .inr ⟨w.heap.size+1,1,k,by rw [HX.out.1],by rw [HX.out.1];exact Nat.le_refl _,fun j v hj=>by
    have h:=HL (1+j) v (by rw [flat_str]at hj⊢;rw [Nat.add_comm];simpa using hj)
    rwa [Nat.zero_add]at h⟩
 have hkZ:(k:Int)≤1000000000:=by omega
 have hk1:(1:Int)≤(k:Int)+1:=by omega
 have lW:w.heap.size+1 < W1.heap.size:=by omega
 have HQ:=zz (And.intro BL (And.intro R0 HRD));clear HL BL R0 HRD;go_region
 have ha1:∃o,(if k=0 then(some ⟨w.heap.size+1,0,none⟩:Option Addr)else some ⟨w.heap.size+1,1,none⟩)=some ⟨w.heap.size+1,o,none⟩:=by
  by_cases h0:k=0
  ·exact⟨0,by rw [if_pos h0]⟩
  ·exact⟨1,by rw [if_neg h0]⟩
 generalize(if k=0 then(some ⟨w.heap.size+1,0,none⟩:Option Addr)else some ⟨w.heap.size+1,1,none⟩)=a1 at*
 have HA1:=zz ha1;clear ha1;have BL:Below w.heap.size w (W1.alloc (.cells #[.string t,.slice a1 k k] 59)).drew:=(HQ.out.1.alloc HQ.out.1.size _).drew;have R0:(W1.alloc (.cells #[.string t,.slice a1 k k] 59)).drew.heap[w.heap.size]? =_:=zo _ _ _ _ HQ.out.2.1;have R5:(W1.alloc (.cells #[.string t,.slice a1 k k] 59)).drew.heap[W1.heap.size]? =_:=zg _ _ _ rfl;have HRD:strY.Rd (W1.alloc (.cells #[.string t,.slice a1 k k] 59)).drew (.slice a1 k k) ss:=(HQ.out.2.2.alloc _).drew;generalize(W1.alloc (.cells #[.string t,.slice a1 k k] 59)).drew=W2 at*
 have HCK:=zz (refCheck_w t ss a1 k k W2 (by have:=HX.out.2;omega) (fun x hx=>by have:=HX.out.2;have:=sumS_mem hx;omega) (by rw [HX.out.1];omega) HRD (hG.below BL));rw [hW1]at R5;obtain⟨f0,f1⟩:=two_cells R5;obtain⟨g0,g1⟩:=two_cells R0;have HQ2:=zz (And.intro BL (And.intro R0 (And.intro R5 HRD)));clear BL R0 R5 HRD HQ hG
 go_wp2_with fail
 with_reducible refine HCK.out.mono ?_
 rintro e w5 ⟨⟨i,rfl⟩,hb⟩;have BL:=HQ2.out.1.trans (hb.mono HQ2.out.1.size);have R0:=(hb.block _ (zl HQ2.out.2.1)).trans HQ2.out.2.1;have R5:=(hb.block _ (zl HQ2.out.2.2.1)).trans HQ2.out.2.2.1;have HRD:=HQ2.out.2.2.2.below hb;clear hb HCK f0 f1 g0 g1;obtain⟨f0,f1⟩:=two_cells R5
 by_cases h0:i=0
 ·subst h0
  go_wp2_with(first
   |(refine wpList_store_row rfl 59 _ _ rfl w.heap.size _ _ R0 rfl rfl (by kernel_rfl) (by rfl) (by simp [Value.oneCell']) ?_;intro w9 h9 h9o _ hb9))
  have HRD9:strY.Rd w9 (.slice a1 k k) ss:=by
   obtain⟨o,ho⟩:=HA1.out
   rcases HRD with⟨h1,_⟩|⟨b,off,cap,h1,h2,h3⟩
   ·rw [ho]at h1;simp at h1
   ·refine .inr ⟨b,off,cap,h1,h2,fun j v hj=>?_⟩;rw [ho]at h1;simp at h1;obtain⟨⟨rfl,_⟩,_⟩:=h1;exact(World.cell?_of_block (w:=w5) (w':=w9) (a:=⟨w.heap.size+1,off+j,none⟩) (h9o _ (by show w.heap.size+1≠w.heap.size;omega))).trans (h3 j v hj)
  exact bodyPost_ret (results_cell_tmp Tryz.results142 _ _ w.heap.size 59 _ (0,0) _ (.bool true) rfl rfl h9 Tryz.underlying59 rfl (by kernel_rfl)) rfl ⟨⟨t,a1,k,k,ss,true,rfl,HRD9,⟨HX.out.2,by rw [HX.out.1];exact hkl⟩,fun ad had=>by obtain⟨o,ho⟩:=HA1.out;rw [ho]at had;cases had;exact⟨by show w.heap.size≤w.heap.size+1;omega,by show w.heap.size+1 < w9.heap.size;have h7:=zl R5;have h8:=(hb9 _ (Nat.le_refl _)).size;omega⟩⟩,BL.trans (hb9 _ (Nat.le_refl _))⟩
 ·go_wp2_with(first
   |(refine wpList_store_row rfl 59 _ _ rfl w.heap.size _ _ R0 rfl rfl (by kernel_rfl) (by rfl) (by simp [Value.oneCell']) ?_;intro w9 h9 h9o _ hb9))
  exact bodyPost_ret (results_cell_tmp Tryz.results142 _ _ w.heap.size 59 _ (0,0) _ (.bool false) rfl rfl h9 Tryz.underlying59 rfl (by kernel_rfl)) rfl ⟨⟨⟨#[]⟩,none,0,0, [],false,rfl,.inl ⟨rfl,rfl⟩,⟨Nat.zero_le s.size,by simp⟩,fun ad had=>by cases had⟩,BL.trans (hb9 _ (Nat.le_refl _))⟩
theorem lens_sum (ss:List ByteArray):Lib.lens (ss.map (·.data.toList))=sumS ss:=by
 simp only [Lib.lens,sumS,List.map_map]
 congr 1
theorem own_single (W:World) (g:Nat) (hg:W.heap.size=g) (s:ByteArray):(W.alloc (.cells #[.string s] 9)).ownsRow g 9 1 (.slice (some ⟨g,0,none⟩) 1 1) 1 [.string s]:=by
 subst hg;exact⟨by simp,.inr ⟨W.heap.size,1,#[.string s],rfl,Nat.le_refl _,zg _ _ _ rfl,Nat.le_refl _,by decide,by simp,by simp⟩⟩
set_option maxRecDepth 100000 in
theorem format_w (t:ByteArray) (ss:List ByteArray) (a:Option Addr) (n c:Nat) (w:World) (hs:t.size+sumS ss≤1000000000) (hn:ss.length≤1000000000) (hv:strY.Rd w (.slice a n c) ss):
  Calls Tryz.prog 221 #[.agg #[.string t,.slice a n c]] w fun e w'=>IsS (t.size+sumS ss+ss.length) e∧Below w.heap.size w w':=by
 obtain⟨i0,hi,hz0,hz1,hz2⟩:=info_parts info9s;have hnl:n=ss.length:=hv.len;have B0:Below w.heap.size w ((w.alloc (.cells #[.string t,.slice a n c] 59)).alloc (.cells #[.string t] 9)):=((Below.refl _ w).alloc (Nat.le_refl _) _).alloc (by simp) _;have HOW:=zz (own_single (w.alloc (.cells #[.string t,.slice a n c] 59)) (w.heap.size+1) (by simp) t);have HV:=zz (hv.below B0);have HN:=zz (And.intro hnl (And.intro hs hn));have HB0:=zz B0;clear hv hnl hs hn B0;go_enter Tryz.func221,Tryz.ntmps221
 go_wp2_with(first
  |(at_builtin;refine wpList_plain rfl fun K hK=>?_;refine ex_append rfl (w.heap.size+1) 9 i0 (.string ⟨#[]⟩) 1 16 Tryz.underlying57 hi hz0 hz1 hz2 rfl (by decide) _ 1 [.string t] rfl HOW.out a n c (strY.flat ss) rfl (by rw [strY.flat_length,HN.out.1];rfl) ?_ (strY.flat_one ss) ?_ ?_ (by simp) ?_))
 ·intro hp
  rcases HV.out with⟨h1,h2⟩|⟨b,off,cap,h1,h2,h3⟩
  ·simp at h1;omega
  ·simp at h1;refine⟨_,h1.1,fun j u hj=>?_⟩;have h:=h3 j u hj;have hadd:(⟨b,off,none⟩:Addr).add j=⟨b,off+j,none⟩:=by unfold Addr.add;split <;>simp_all
   rw [hadd];exact h
 ·have:=HN.out;unfold maxLen;omega
 ·have:=HN.out;omega
 ·intro v' w' hown hg;have hnl:=HN.out.1;have BL:=HB0.out.grown hg HB0.out.size (fun j hj=>by have:=(HOW.out.lt j hj).1;omega);have hlt:∀g,v'.ownBlock=some g→g < w'.heap.size:=fun g hg=>(hown.lt g hg).2
  obtain⟨g,cap,rfl,hcap⟩:∃g cap,v'=.slice (some ⟨g,0,none⟩) (1+n) cap∧1+n≤cap:=by
   rcases hown.2 with⟨_,h⟩|⟨g,cap,cur,h,_,_,h4,_⟩
   ·omega
   ·exact⟨g,cap,h,h4⟩
  have hcl:=ownsRow_rangeAt hown;have hgl:=hlt g (by simp [Value.ownBlock]);have hsum:t.size+sumS ss≤1000000000:=HN.out.2.1;have hnn:ss.length≤1000000000:=HN.out.2.2
  have hjl:(Lib.join ((t::ss).map (·.data.toList)) (ByteArray.mk #[124]).data.toList).length=t.size+sumS ss+ss.length:=by
   rw [List.map_cons,Lib.join_length,List.length_map];have h9:=lens_sum (t::ss);rw [List.map_cons]at h9;rw [h9];have h8:(ByteArray.mk #[124]).data.toList.length=1:=rfl;rw [h8];simp only [sumS,List.map_cons,List.sum_cons];omega
  have HJ:=zz (Tryz.strings_Join g 0 cap (t::ss) ⟨#[124]⟩ w' (fun j x hj=>by
   refine hcl j (.string x) ?_;have:(Value.string t::strY.flat ss)=(t::ss).map Value.string:=by rw [flat_str,List.map_cons]
   show(Value.string t::strY.flat ss)[j]? =_
   rw [this,List.getElem?_map,hj];rfl) hgl (by simp;omega) (by simp;omega) (by rw [hjl];omega))
  have e1:(t::ss).length=1+n:=by simp;omega
  rw [e1]at HJ;have HBL:=zz BL;refine hK _ _ ?_;clear hg hown hcl hlt hnl e1
  go_wp2_with fail
  refine HJ.out.mono ?_;rintro e w9 ⟨rfl,hb⟩
  go_wp2_with fail
  go_ret
  exact⟨⟨_,rfl,by rw [size_mk];exact Nat.le_of_eq hjl⟩,HBL.out.trans (hb.mono HBL.out.size)⟩
end Go.Proofs.YteigcnamkfebgaaGreatDoor
