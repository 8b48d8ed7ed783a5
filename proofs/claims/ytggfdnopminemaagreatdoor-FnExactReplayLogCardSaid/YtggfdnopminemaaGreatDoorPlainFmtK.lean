/- Plain: an outline looked up in a dictionary and in a stack of layers; what a flattened stack holds; what is shadowed. -/
import Derived.Test.YtggfdnopminemaaGreatDoorDelA
import Derived.Test.YtggfdnopminemaaGreatDoorLayB
namespace Go.Proofs.YtggfdnopminemaaGreatDoor
namespace P
def textAt (o:List Int):Dic→Bs
 |[]=>[]
 |e::l=>if e.1=o then e.2 else textAt o l
def hasE (o:List Int) (l:Dic):Bool:=decide (0≤place o l)
theorem hasE_cons (o:List Int) (e:Ent) (l:Dic):hasE o (e::l)=(decide (e.1=o)||hasE o l):=by
 have:=place_lo o l;unfold hasE;rw [place]
 by_cases h:e.1=o
 ·simp [h]
 ·rw [if_neg h,decide_eq_false h,Bool.false_or]
  split<;>(apply decide_eq_decide.2;omega)
theorem textAt_place {o:List Int}:∀{l:Dic} {i:Nat} (_:place o l=i) (hi:i<l.length),(l[i]'hi).2=textAt o l
 |e::l,i,h,hi=>by
  have h0:=place_lo o l;unfold place at h;unfold textAt
  by_cases he:e.1=o
  ·rw [if_pos he]at h⊢;obtain rfl:i=0:=by omega
   rfl
  ·rw [if_neg he]at h⊢
   split at h
   ·omega
   ·obtain⟨k,rfl⟩:∃k:Nat,i=k+1:=⟨i-1,by omega⟩;exact textAt_place (l:=l) (i:=k) (by omega) (by simpa using hi)
theorem textAt_not {o:List Int}:∀{l:Dic},hasE o l=false→textAt o l=[]
 |[],_=>rfl
 |e::l,h=>by
  rw [hasE_cons,Bool.or_eq_false_iff,decide_eq_false_iff_not]at h;unfold textAt;rw [if_neg h.1];exact textAt_not h.2
theorem mem_textAt {o:List Int}:∀{l:Dic},hasE o l=true→(o,textAt o l)∈l
 |[],h=>by simp [hasE,place]at h
 |e::l,h=>by
  rw [hasE_cons,Bool.or_eq_true,decide_eq_true_eq]at h;unfold textAt
  by_cases he:e.1=o
  ·rw [if_pos he,←he];simp
  ·rw [if_neg he];exact List.mem_cons_of_mem _ (mem_textAt (h.resolve_left he))
end P
end Go.Proofs.YtggfdnopminemaaGreatDoor
namespace Go.Proofs.YtggfdnopminemaaGreatDoor.P
abbrev Pc:=(Int×Int)×Bs
def matchN (d:Dic) (st:List Int) (a:Nat):Nat→Pc
 |0=>(((a:Int),1),[])
 |n+1=>if hasE ((st.drop a).take (n+1)) d then (((a:Int),((n+1:Nat):Int)),textAt ((st.drop a).take (n+1)) d) else matchN d st a n
def matchA (d:Dic) (st:List Int) (a:Nat):Pc:=matchN d st a (min 6 (st.length-a))
def segs (d:Dic) (st:List Int):Nat→Nat→List Pc
 |0,_=>[]
 |f+1,a=>if a<st.length then matchA d st a::segs d st f (a+(matchA d st a).1.2.toNat) else []
def segA (d:Dic) (st:List Int):List Pc:=segs d st st.length 0
theorem matchN_cnt (d:Dic) (st:List Int) (a:Nat):∀n:Nat,∃k:Nat,(matchN d st a n).1=((a:Int),(k:Int))∧1≤k∧k≤max n 1
 |0=>⟨1,rfl,by omega,by omega⟩
 |n+1=>by
  unfold matchN
  split
  ·exact⟨n+1,rfl,by omega,by omega⟩
  ·obtain⟨k,h1,h2,h3⟩:=matchN_cnt d st a n;exact⟨k,h1,h2,by omega⟩
theorem matchA_cnt {d:Dic} {st:List Int} {a:Nat} (h:a<st.length):∃k:Nat,(matchA d st a).1=((a:Int),(k:Int))∧1≤k∧a+k≤st.length:=by
 obtain⟨k,h1,h2,h3⟩:=matchN_cnt d st a (min 6 (st.length-a));exact⟨k,h1,h2,by omega⟩
theorem segs_end {d:Dic} {st:List Int} {f a:Nat} (h:st.length≤a):segs d st f a=[]:=by
 cases f with
 |zero=>rfl
 |succ f=>unfold segs;rw [if_neg (by omega)]
theorem segs_step {d:Dic} {st:List Int} {f a:Nat} (h:a<st.length) (hf:st.length-a≤f) {k:Nat} (hk:(matchA d st a).1=((a:Int),(k:Int))) (h1:1≤k) :
 ∃f':Nat,st.length-(a+k)≤f'∧segs d st f a=matchA d st a::segs d st f' (a+k):=by
 obtain⟨f',rfl⟩:∃f',f=f'+1:=⟨f-1,by omega⟩
 refine⟨f',by omega,?_⟩
 conv=>lhs;unfold segs
 rw [if_pos h,hk]
 rfl
theorem segs_len {d:Dic} {st:List Int}:∀{f a:Nat},(segs d st f a).length≤f
 |0,_=>Nat.zero_le _
 |f+1,a=>by
  unfold segs
  split
  ·rw [List.length_cons];have:=segs_len (d:=d) (st:=st) (f:=f) (a:=a+(matchA d st a).1.2.toNat);omega
  ·simp
abbrev Fold:=Int×Bs
def lower (b:UInt8):Bool:=decide (97≤(b.toNat:Int))&&decide ((b.toNat:Int)≤122)
def suffix (s:Bs):Bool:=s.all lower&&decide (1≤(s.length:Int)∧(s.length:Int)≤8)
def keyOk (k:Int):Bool:=decide (13≤k∧k≤22)
def fold (f:Fold):Bool:=keyOk f.1&&suffix f.2
def other (a b:Fold):Prop:=a.1≠b.1
instance : DecidableRel other:=fun a b=>inferInstanceAs (Decidable (a.1≠b.1))
theorem all_false {s:Bs} {k:Nat} (h:k<s.length) (hb:lower s[k]=false):s.all lower=false:=by
 rw [List.all_eq_false];exact⟨s[k],List.getElem_mem h,by simp [hb]⟩
theorem lower_no {b:UInt8} (h:(b.toNat:Int)<97∨122<(b.toNat:Int)):lower b=false:=by
 unfold lower
 rcases h with h|h
 ·rw [decide_eq_false (by omega)];rfl
 ·rw [decide_eq_false (p:=(b.toNat:Int)≤122) (by omega),Bool.and_false]
theorem lower_yes {b:UInt8} (h:97≤(b.toNat:Int)) (h2:(b.toNat:Int)≤122):lower b=true:=by
 unfold lower;rw [decide_eq_true h,decide_eq_true h2];rfl
def hasK (n k:Int):Bool:=n.toNat.testBit k.toNat
def lastI (o:List Int):Int:=o.getD (o.length-1) 0
def bitI (k:Int):Int:=((2^k.toNat:Nat):Int)
def unf (k:Int) (o:List Int):Option (List Int):=
 if hasK (lastI o) k&&!decide (lastI o=bitI k) then some (o.take (o.length-1)++[lastI o-bitI k]) else none
def into (k:Int) (o:List Int):Option (List Int):=
 if hasK (lastI o) k then none else some (o.take (o.length-1)++[lastI o+bitI k])
def over (d:Dic) (f:Fold) (o:List Int):Bool:=match unf f.1 o with
 |none=>false
 |some r=>hasE r d
def vow (b:UInt8):Bool:=b==97||(b==101||(b==105||(b==111||b==117)))
def isWord (s:Bs):Bool:=s.all lower&&decide (1≤(s.length:Int)∧(s.length:Int)≤24)
def vbegins (s:Bs) (k:Nat):Bool:=vow (s.getD k 0)&&(decide (k=0)||!vow (s.getD (k-1) 0))
def vgroupsN (s:Bs):Nat→Nat
 |0=>0
 |k+1=>vgroupsN s k+(if vbegins s k then 1 else 0)
def vgroups (s:Bs):Nat:=vgroupsN s s.length
def ends (s e:Bs):Bool:=Go.Lib.hasSuffix s e
def back (s:Bs) (k:Nat):UInt8:=s.getD (s.length-k) 0
def consY (s:Bs):Bool:=decide (2≤s.length)&&(back s 1==121&&!vow (back s 2))
def wxy (b:UInt8):Bool:=b==119||(b==120||b==121)
def closed (s:Bs):Bool:=decide (3≤s.length)&&(!vow (back s 3)&&(vow (back s 2)&&(!vow (back s 1)&&!wxy (back s 1))))
def sib (s:Bs):Bool:=ends s [115]||(ends s [120]||(ends s [122]||(ends s [99,104]||ends s [115,104])))
def eoy (s:Bs):Bool:=ends s [101,101]||(ends s [111,101]||ends s [121,101])
def dropE (s:Bs):Bool:=decide (2≤s.length)&&(ends s [101]&&!eoy s)
def rule (w x:Bs):Nat:=
 if (x==[115])&&consY w then 1
 else if (x==[115])&&sib w then 2
 else if (x==[105,110,103])&&ends w [105,101] then 3
 else if consY w&&!(x.getD 0 0==105) then 4
 else if dropE w&&vow (x.getD 0 0) then 5
 else if decide (vgroups w=1)&&(closed w&&vow (x.getD 0 0)) then 6 else 0
def joinW (w x:Bs):Bs:=
 match rule w x with
 |1=>w.take (w.length-1)++[105,101,115]
 |2=>w++[101,115]
 |3=>w.take (w.length-2)++[121,105,110,103]
 |4=>(w.take (w.length-1)++[105])++x
 |5=>w.take (w.length-1)++x
 |6=>(w++w.drop (w.length-1))++x
 |_=>w++x
def joinS (w x:Bs):Bs×Bool:=if isWord w&&isWord x then (if 24<(joinW w x).length then ([],false) else (joinW w x,true)) else ([],false)
theorem ends_len {s e:Bs} (h:ends s e=true):e.length≤s.length:=by
 unfold ends Go.Lib.hasSuffix at h;exact (List.isSuffixOf_iff_suffix.1 h).length_le
theorem ends_raw (s e:Bs):(decide (e.length≤s.length)&&(s.drop (s.length-e.length)==e))=ends s e:=Go.Lib.hasSuffix_of_drop s e
theorem ends_one {s:Bs} (c:UInt8) (h:1≤s.length):ends s [c]=(back s 1==c):=by
 rw [←ends_raw,decide_eq_true (by simpa using h),Bool.true_and]
 have hd:s.drop (s.length-1)=[back s 1]:=by
  rw [List.drop_eq_getElem_cons (by omega),List.drop_of_length_le (by omega)];unfold back;rw [List.getD_eq_getElem?_getD,List.getElem?_eq_getElem (by omega)];rfl
 show (s.drop (s.length-1)==[c])=_
 rw [hd];simp
theorem ends_wxy {s:Bs} (h:1≤s.length):(ends s [119]||(ends s [120]||ends s [121]))=wxy (back s 1):=by
 rw [ends_one _ h,ends_one _ h,ends_one _ h];rfl
theorem rule_le (w x:Bs):rule w x≤6:=by
 unfold rule
 repeat' split
 all_goals omega
theorem consY_len {w:Bs} (h:consY w=true):2≤w.length:=by
 unfold consY at h;simp only [Bool.and_eq_true,decide_eq_true_eq]at h;exact h.1
theorem dropE_len {w:Bs} (h:dropE w=true):2≤w.length:=by
 unfold dropE at h;simp only [Bool.and_eq_true,decide_eq_true_eq]at h;exact h.1
theorem rule_len {w x:Bs}:(rule w x=1→2≤w.length)∧(rule w x=3→2≤w.length)∧(rule w x=4→2≤w.length)∧(rule w x=5→2≤w.length):=by
 unfold rule
 split
 ·rename_i h;simp only [Bool.and_eq_true]at h;exact⟨fun _=>consY_len h.2,by omega,by omega,by omega⟩
 split
 ·omega
 split
 ·rename_i h;simp only [Bool.and_eq_true]at h;exact⟨by omega,fun _=>ends_len h.2,by omega,by omega⟩
 split
 ·rename_i h;simp only [Bool.and_eq_true]at h;exact⟨by omega,by omega,fun _=>consY_len h.1,by omega⟩
 split
 ·rename_i h;simp only [Bool.and_eq_true]at h;exact⟨by omega,by omega,by omega,fun _=>dropE_len h.1⟩
 split
 ·omega
 ·omega
theorem rule_len6 {w x:Bs} (h:rule w x=6):3≤w.length:=by
 unfold rule at h
 split at h
 ·omega
 split at h
 ·omega
 split at h
 ·omega
 split at h
 ·omega
 split at h
 ·omega
 split at h
 ·rename_i hc
  simp only [Bool.and_eq_true]at hc;have:=hc.2.1;unfold closed at this;simp only [Bool.and_eq_true,decide_eq_true_eq]at this;exact this.1
 ·omega
theorem word_byte {s:Bs} (h:isWord s=true):∀b∈s,lower b=true:=by
 unfold isWord at h;simp only [Bool.and_eq_true,List.all_eq_true]at h;exact h.1
theorem isWord_len {s:Bs} (h:isWord s=true):1≤s.length∧s.length≤24:=by
 unfold isWord at h;simp only [Bool.and_eq_true,decide_eq_true_eq]at h;omega
theorem joinW_lower {w x:Bs} (hw:isWord w=true) (hx:isWord x=true):∀b∈joinW w x,lower b=true:=by
 have h1:=word_byte hw;have h2:=word_byte hx;have ht:∀(n:Nat),∀b∈w.take n,lower b=true:=fun n b hb=>h1 b (List.mem_of_mem_take hb);have hd:∀(n:Nat),∀b∈w.drop n,lower b=true:=fun n b hb=>h1 b (List.mem_of_mem_drop hb);intro b hb;unfold joinW at hb
 split at hb<;>simp only [List.mem_append]at hb
 ·rcases hb with hb|hb
  ·exact ht _ b hb
  ·exact (show ∀b∈([105,101,115]:Bs),lower b=true by decide) b hb
 ·rcases hb with hb|hb
  ·exact h1 b hb
  ·exact (show ∀b∈([101,115]:Bs),lower b=true by decide) b hb
 ·rcases hb with hb|hb
  ·exact ht _ b hb
  ·exact (show ∀b∈([121,105,110,103]:Bs),lower b=true by decide) b hb
 ·rcases hb with (hb|hb)|hb
  ·exact ht _ b hb
  ·exact (show ∀b∈([105]:Bs),lower b=true by decide) b hb
  ·exact h2 b hb
 ·rcases hb with hb|hb
  ·exact ht _ b hb
  ·exact h2 b hb
 ·rcases hb with (hb|hb)|hb
  ·exact h1 b hb
  ·exact hd _ b hb
  ·exact h2 b hb
 ·rcases hb with hb|hb
  ·exact h1 b hb
  ·exact h2 b hb
theorem joinW_len (w x:Bs):(joinW w x).length≤w.length+x.length+4:=by
 unfold joinW
 split<;>simp<;>omega
theorem joinS_parts {w x:Bs} (h:(joinS w x).2=true):(joinS w x).1.length≤24∧∀b∈(joinS w x).1,lower b=true:=by
 unfold joinS at h⊢
 split at h
 ·rename_i hc
  simp only [Bool.and_eq_true]at hc
  split at h
  ·cases h
  ·rename_i hl
   rw [if_pos (by rw [hc.1,hc.2];rfl),if_neg hl];exact⟨by simpa using hl,joinW_lower hc.1 hc.2⟩
 ·cases h
structure St where
 text:Bs
 joined:Bool
 glued:Bool
 cap:Int
 word:Nat
def prn (b:UInt8):Bool:=decide (32≤(b.toNat:Int))&&decide ((b.toNat:Int)≤126)
def stOk (s:St):Bool:=decide ((s.text.length:Int)≤2000)&&(s.text.all prn&&(decide (0≤s.cap∧s.cap≤2)&&decide (0≤(s.word:Int)∧(s.word:Int)≤(s.text.length:Int))))
def upB (b:UInt8):Bool:=decide (65≤(b.toNat:Int))&&decide ((b.toNat:Int)≤90)
def upper:Bs→Bs
 |[]=>[]
 |b::t=>(if lower b then b-32 else b)::t
def lowered:Bs→Bs
 |[]=>[]
 |b::t=>(if upB b then b+32 else b)::t
theorem upper_yes {b:UInt8} {t:Bs} (h:lower b=true):upper (b::t)=(b-32)::t:=by
 show (if lower b then b-32 else b)::t=_
 rw [if_pos h]
theorem upper_no {b:UInt8} {t:Bs} (h:lower b=false):upper (b::t)=b::t:=by
 show (if lower b then b-32 else b)::t=_
 rw [if_neg (by rw [h];decide)]
theorem lowered_yes {b:UInt8} {t:Bs} (h:upB b=true):lowered (b::t)=(b+32)::t:=by
 show (if upB b then b+32 else b)::t=_
 rw [if_pos h]
theorem lowered_no {b:UInt8} {t:Bs} (h:upB b=false):lowered (b::t)=b::t:=by
 show (if upB b then b+32 else b)::t=_
 rw [if_neg (by rw [h];decide)]
def caseW (s:Bs) (how:Int):Bs:=if how=1 then upper s else if how=2 then lowered s else s
def base (s:St):Bs:=if s.joined then s.text else s.text++[32]
def put (s:St) (t:Bs):St:={ s with text:=base s++caseW t s.cap,cap:=0,word:=(base s).length }
def gluedPut (s:St) (t:Bs):St:=if s.glued then { put { s with joined:=true } t with word:=s.word } else put s t
def endS (s:St) (x:Bs):Bs:=if (joinS (s.text.drop s.word) x).2 then s.text.take s.word++(joinS (s.text.drop s.word) x).1 else s.text++x
def apply (s:St) (k:Int) (t:Bs):St:=
 if k=1 then { put s t with joined:=false,glued:=false }
 else if k=2 then { s with text:=endS s t,joined:=false,glued:=false }
 else if k=3 then { put s t with joined:=true,glued:=false }
 else if k=4 then { s with text:=s.text++t,joined:=true,glued:=false }
 else if k=5 then { gluedPut s t with joined:=false,glued:=true }
 else if k=6 then { s with text:=s.text++t,joined:=false,glued:=false,cap:=1 }
 else if k=7 then { s with text:=s.text++t,joined:=false,glued:=false }
 else if k=8 then { s with cap:=1 }
 else if k=9 then { s with cap:=2 }
 else if k=10 then { s with text:=s.text.take s.word++upper (s.text.drop s.word) }
 else s
def init:St:=⟨[],true,false,0,0⟩
def stGood (s:St):Prop:=(∀b∈s.text,prn b=true)∧(0≤s.cap∧s.cap≤2)∧s.word≤s.text.length
theorem stOk_iff {s:St}:stOk s=true↔stGood s∧s.text.length≤2000:=by
 unfold stOk stGood;simp only [Bool.and_eq_true,decide_eq_true_eq,List.all_eq_true]
 constructor
 ·rintro⟨h1,h2,h3,h4⟩;exact⟨⟨h2,h3,by omega⟩,by omega⟩
 ·rintro⟨⟨h2,h3,h4⟩,h1⟩;exact⟨by omega,h2,h3,by omega⟩
theorem init_good:stGood init:=⟨fun b hb=>(by simp [init]at hb),by decide,by decide⟩
theorem lower_prn {b:UInt8} (h:lower b=true):prn b=true:=by
 unfold lower at h;unfold prn;simp only [Bool.and_eq_true,decide_eq_true_eq]at h⊢;omega
theorem upper_prn {b:UInt8} (h:lower b=true):prn (b-32)=true:=by
 unfold lower at h;unfold prn;simp only [Bool.and_eq_true,decide_eq_true_eq]at h⊢;have h1:32≤b:=by rw [UInt8.le_iff_toNat_le];show 32≤b.toNat;omega
 rw [UInt8.toNat_sub_of_le _ _ h1]
 show _≤((b.toNat-32:Nat):Int)∧((b.toNat-32:Nat):Int)≤_
 omega
theorem lowered_prn {b:UInt8} (h:upB b=true):prn (b+32)=true:=by
 unfold upB at h;unfold prn;simp only [Bool.and_eq_true,decide_eq_true_eq]at h⊢;rw [UInt8.toNat_add]
 show _≤(((b.toNat+32) % 2^8:Nat):Int)∧(((b.toNat+32) % 2^8:Nat):Int)≤_
 omega
theorem upper_all {t:Bs} (h:∀b∈t,prn b=true):∀b∈upper t,prn b=true:=by
 cases t with
 |nil=>exact h
 |cons a t=>
  intro b hb;unfold upper at hb
  rcases List.mem_cons.1 hb with rfl|hb
  ·split
   ·rename_i hl;exact upper_prn hl
   ·exact h _ (by simp)
  ·exact h b (by simp [hb])
theorem lowered_all {t:Bs} (h:∀b∈t,prn b=true):∀b∈lowered t,prn b=true:=by
 cases t with
 |nil=>exact h
 |cons a t=>
  intro b hb;unfold lowered at hb
  rcases List.mem_cons.1 hb with rfl|hb
  ·split
   ·rename_i hl;exact lowered_prn hl
   ·exact h _ (by simp)
  ·exact h b (by simp [hb])
theorem caseW_all {t:Bs} {k:Int} (h:∀b∈t,prn b=true):∀b∈caseW t k,prn b=true:=by
 unfold caseW
 split
 ·exact upper_all h
 split
 ·exact lowered_all h
 ·exact h
theorem upper_len (t:Bs):(upper t).length=t.length:=by cases t<;>simp [upper]
theorem lowered_len (t:Bs):(lowered t).length=t.length:=by cases t<;>simp [lowered]
theorem caseW_len (t:Bs) (k:Int):(caseW t k).length=t.length:=by
 unfold caseW
 split
 ·exact upper_len t
 split
 ·exact lowered_len t
 ·rfl
theorem base_all {s:St} (h:∀b∈s.text,prn b=true):∀b∈base s,prn b=true:=by
 intro b hb;unfold base at hb
 split at hb
 ·exact h b hb
 ·rcases List.mem_append.1 hb with hb|hb
  ·exact h b hb
  ·rw [List.mem_singleton]at hb;subst hb;decide
theorem base_len (s:St):s.text.length≤(base s).length∧(base s).length≤s.text.length+1:=by
 unfold base
 split<;>simp
theorem atom_text {k:Int} {t:Bs} (h:atom k t=true):(∀b∈t,prn b=true)∧t.length≤20:=by
 have hw:word t=true→(∀b∈t,prn b=true)∧t.length≤20:=by
  intro h;refine⟨fun b hb=>?_,(word_parts h).2.2⟩;unfold word at h;simp only [Bool.and_eq_true,List.all_eq_true]at h;have:=wordByte_parts (h.1 b hb);unfold prn;simp only [Bool.and_eq_true,decide_eq_true_eq];omega
 unfold atom at h
 repeat' split at h
 all_goals first
  |exact hw h
  |(simp only [Bool.or_eq_true,beq_iff_eq,Bool.and_eq_true]at h;first|(rcases h with rfl|rfl|rfl<;>exact⟨by decide,by decide⟩)|(obtain⟨_,rfl⟩:=h;exact⟨by simp,by simp⟩))
theorem putS_good {s:St} {t:Bs} (h:stGood s) (ht:∀b∈t,prn b=true):stGood (put s t):=by
 refine⟨fun b hb=>?_,(show (0:Int)≤0∧(0:Int)≤2 by decide),?_⟩
 ·unfold put at hb
  rcases List.mem_append.1 hb with hb|hb
  ·exact base_all h.1 b hb
  ·exact caseW_all ht b hb
 ·unfold put;simp
theorem putS_len (s:St) (t:Bs):(put s t).text.length≤s.text.length+1+t.length:=by
 unfold put
 show (base s++caseW t s.cap).length≤_
 rw [List.length_append,caseW_len];have:=(base_len s).2;omega
theorem endS_all {s:St} {x:Bs} (h:∀b∈s.text,prn b=true) (hx:∀b∈x,prn b=true):∀b∈endS s x,prn b=true:=by
 intro b hb;unfold endS at hb
 split at hb
 ·rename_i hj
  rcases List.mem_append.1 hb with hb|hb
  ·exact h b (List.mem_of_mem_take hb)
  ·exact lower_prn ((joinS_parts hj).2 b hb)
 ·rcases List.mem_append.1 hb with hb|hb
  ·exact h b hb
  ·exact hx b hb
theorem endS_len (s:St) (x:Bs) (hw:s.word≤s.text.length):(endS s x).length≤s.text.length+24+x.length∧s.word≤(endS s x).length:=by
 unfold endS
 split
 ·rename_i hj
  have:=(joinS_parts hj).1;rw [List.length_append,List.length_take];omega
 ·rw [List.length_append];omega
theorem gluedPut_good {s:St} {t:Bs} (h:stGood s) (ht:∀b∈t,prn b=true):stGood (gluedPut s t):=by
 unfold gluedPut
 split
 ·obtain⟨h1,h2,h3⟩:=putS_good (s:={ s with joined:=true }) (t:=t) h ht;refine⟨h1,h2,?_⟩
  show s.word≤(put { s with joined:=true } t).text.length
  unfold put base;simp;have:=h.2.2;omega
 ·exact putS_good h ht
theorem gluedPut_len (s:St) (t:Bs):(gluedPut s t).text.length≤s.text.length+1+t.length:=by
 unfold gluedPut
 split
 ·exact putS_len { s with joined:=true } t
 ·exact putS_len s t
theorem apply_good {s:St} {k:Int} {t:Bs} (h:stGood s) (ha:atom k t=true):stGood (apply s k t):=by
 obtain⟨ht,_⟩:=atom_text ha;have happ:∀b∈s.text++t,prn b=true:=fun b hb=>(List.mem_append.1 hb).elim (h.1 b) (ht b);have hlen:s.word≤(s.text++t).length:=by rw [List.length_append];have:=h.2.2;omega
 unfold apply
 split
 ·exact putS_good h ht
 split
 ·exact⟨endS_all h.1 ht,h.2.1,(endS_len s t h.2.2).2⟩
 split
 ·exact putS_good h ht
 split
 ·exact⟨happ,h.2.1,hlen⟩
 split
 ·exact gluedPut_good h ht
 split
 ·exact⟨happ,(show (0:Int)≤1∧(1:Int)≤2 by decide),hlen⟩
 split
 ·exact⟨happ,h.2.1,hlen⟩
 split
 ·exact⟨h.1,(show (0:Int)≤1∧(1:Int)≤2 by decide),h.2.2⟩
 split
 ·exact⟨h.1,(show (0:Int)≤2∧(2:Int)≤2 by decide),h.2.2⟩
 split
 ·refine⟨fun b hb=>?_,h.2.1,?_⟩
  ·rcases List.mem_append.1 hb with hb|hb
   ·exact h.1 b (List.mem_of_mem_take hb)
   ·exact upper_all (fun b hb=>h.1 b (List.mem_of_mem_drop hb)) b hb
  ·show s.word≤(s.text.take s.word++upper (s.text.drop s.word)).length
   rw [List.length_append,upper_len,List.length_take,List.length_drop];have:=h.2.2;omega
 ·exact h
theorem apply_len {s:St} {k:Int} {t:Bs} (h:stGood s) (ha:atom k t=true):(apply s k t).text.length≤s.text.length+50:=by
 obtain⟨_,ht⟩:=atom_text ha;have h1:=putS_len s t;have h2:=gluedPut_len s t;have h3:=(endS_len s t h.2.2).1;have h4:=h.2.2;unfold apply
 repeat' split
 all_goals first
  |(show (put s t).text.length≤_;omega)
  |(show (gluedPut s t).text.length≤_;omega)
  |(show (endS s t).length≤_;omega)
  |(show (s.text++t).length≤_;rw [List.length_append];omega)
  |(show (s.text.take s.word++upper (s.text.drop s.word)).length≤_;rw [List.length_append,upper_len,List.length_take,List.length_drop];omega)
  |(show s.text.length≤_;omega)
def runA:St→List (Int×Bs)→Option St
 |s,[]=>some s
 |s,a::l=>if stOk s&&atom a.1 a.2 then (if 2000<(apply s a.1 a.2).text.length then none else runA (apply s a.1 a.2) l) else none
def runS:St→List (Int×Bs)→Option St
 |s,[]=>some s
 |s,a::l=>if atom a.1 a.2&&decide (s.text.length≤2000) then runS (apply s a.1 a.2) l else none
def short (o:Option St):Option St:=match o with
 |none=>none
 |some s=>if s.text.length≤2000 then some s else none
theorem runA_eq:∀(l:List (Int×Bs)) (s:St),stGood s→s.text.length≤2000→runA s l=short (runS s l)
 |[],s,_,hl=>by
  unfold runA runS short;simp only [if_pos hl]
 |a::l,s,hg,hl=>by
  unfold runA
  conv=>rhs;unfold runS
  rw [stOk_iff.2 ⟨hg,hl⟩,decide_eq_true hl,Bool.true_and,Bool.and_true]
  cases ha:atom a.1 a.2 with
  |false=>rfl
  |true=>
   simp only [if_true]
   by_cases h2:2000<(apply s a.1 a.2).text.length
   ·rw [if_pos h2]
    cases l with
    |nil=>unfold runS short;simp only [if_neg (show ¬(apply s a.1 a.2).text.length≤2000 by omega)]
    |cons b l=>
     unfold runS;rw [decide_eq_false (by omega),Bool.and_false];rfl
   ·rw [if_neg h2];exact runA_eq l _ (apply_good hg ha) (by omega)
theorem runS_good:∀(l:List (Int×Bs)) (s:St),stGood s→∀r,runS s l=some r→stGood r
 |[],s,hg,r,h=>by
  unfold runS at h;injection h with h;exact h ▸ hg
 |a::l,s,hg,r,h=>by
  unfold runS at h
  split at h
  ·rename_i hc
   simp only [Bool.and_eq_true]at hc;exact runS_good l _ (apply_good hg hc.1) r h
  ·cases h
def outText:Option St→Bs
 |none=>[]
 |some s=>s.text
def render (l:List (Int×Bs)):Bs×Bool:=if 600<l.length then ([],false) else (outText (runA init l),(runA init l).isSome)
def renderS (l:List (Int×Bs)):Bs×Bool:=match runS init l with
 |none=>([],false)
 |some s=>(s.text,stOk s&&decide (l.length≤600))
theorem render_eq (l:List (Int×Bs)):(renderS l).2=(render l).2∧((render l).2=true→(renderS l).1=(render l).1)∧((render l).2=false→(render l).1=[]):=by
 have he:=runA_eq l init init_good (by decide);unfold render renderS;rw [he]
 cases hr:runS init l with
 |none=>
  simp only [short,outText,Option.isSome_none]
  split<;>simp
 |some s=>
  have hg:=runS_good l init init_good s hr;simp only [short]
  by_cases h2:s.text.length≤2000
  ·rw [if_pos h2,stOk_iff.2 ⟨hg,h2⟩,Bool.true_and]
   by_cases h6:600<l.length
   ·rw [if_pos h6,decide_eq_false (by omega)];simp
   ·rw [if_neg h6,decide_eq_true (by omega)];simp [outText]
  ·have hso:stOk s=false:=by
    cases hc:stOk s with
    |false=>rfl
    |true=>exact absurd (stOk_iff.1 hc).2 h2
   rw [if_neg h2,hso,Bool.false_and]
   split<;>simp [outText]
theorem render_len (l:List (Int×Bs)):(render l).1.length≤2000∧∀b∈(render l).1,prn b=true:=by
 unfold render
 split
 ·exact⟨by simp,by simp⟩
 ·have he:=runA_eq l init init_good (by decide);rw [he]
  cases hr:runS init l with
  |none=>exact⟨by simp [short,outText],by simp [short,outText]⟩
  |some s=>
   have hg:=runS_good l init init_good s hr;simp only [short]
   split
   ·rename_i h2;exact⟨h2,hg.1⟩
   ·exact⟨by simp [outText],by simp [outText]⟩
def labels:Bs:=[35,83,84,75,80,87,72,82,65,79,42,69,85,70,82,80,66,76,71,84,83,68,90]
def lab (k:Nat):UInt8:=labels.getD k 0
def keysN (s:Int) (n:Nat):List Nat:=(List.range n).filter (fun k=>hasK s (k:Int))
def keys (s:Int):List Nat:=keysN s 23
def isMid (k:Nat):Bool:=decide (8≤k∧k≤12)
def midK (s:Int):Bool:=(keys s).any isMid
def fmtL:Bool→List Nat→Bs
 |_,[]=>[]
 |m,k::l=>if decide (13≤k)&&!m then 45::lab k::fmtL true l else lab k::fmtL m l
def fmtM:Bool→Bool→List Nat→Bs
 |_,_,[]=>[]
 |m,h,k::l=>if decide (12<k)&&(!(m||isMid k)&&!h) then 45::lab k::fmtM (m||isMid k) true l else lab k::fmtM (m||isMid k) h l
def fmt (s:Int):Bs:=fmtL (midK s) (keys s)
theorem fmtM_high:∀(l:List Nat) (m h:Bool),(∀k∈l,13≤k)→fmtM m h l=fmtL (m||h) l
 |[],_,_,_=>rfl
 |k::l,m,h,hk=>by
  have h1:isMid k=false:=by unfold isMid;have:=hk k (by simp);exact decide_eq_false (by omega)
  have h2:decide (12<k)=true:=by have:=hk k (by simp);exact decide_eq_true (by omega)
  have h3:decide (13≤k)=true:=by have:=hk k (by simp);exact decide_eq_true (by omega)
  have ih:=fmtM_high l;unfold fmtM fmtL;rw [h1,h2,h3,Bool.or_false,Bool.true_and,Bool.true_and]
  cases m<;>cases h<;>simp [ih _ _ (fun k hk'=>hk k (by simp [hk']))]
theorem fmtM_low:∀(l r:List Nat) (m h:Bool),(∀k∈l,k≤12)→fmtM m h (l++r)=l.map lab++fmtM (m||l.any isMid) h r
 |[],r,m,h,_=>by simp
 |k::l,r,m,h,hk=>by
  have h2:decide (12<k)=false:=by have:=hk k (by simp);exact decide_eq_false (by omega)
  rw [List.cons_append]
  conv=>lhs;unfold fmtM
  rw [h2,Bool.false_and,if_neg (by decide),fmtM_low l r _ h (fun k hk'=>hk k (by simp [hk']))];simp [Bool.or_assoc]
theorem fmtL_low:∀(l r:List Nat) (m:Bool),(∀k∈l,k≤12)→fmtL m (l++r)=l.map lab++fmtL m r
 |[],r,m,_=>by simp
 |k::l,r,m,hk=>by
  have h2:decide (13≤k)=false:=by have:=hk k (by simp);exact decide_eq_false (by omega)
  rw [List.cons_append]
  conv=>lhs;unfold fmtL
  rw [h2,Bool.false_and,if_neg (by decide),fmtL_low l r _ (fun k hk'=>hk k (by simp [hk']))];rfl
def keysHi (s:Int):List Nat:=((List.range 10).map (13+·)).filter (fun k=>hasK s (k:Int))
theorem keys_split (s:Int):keys s=keysN s 13++keysHi s:=by
 unfold keys keysN keysHi;rw [←List.filter_append]
 congr 1
theorem keysN_lt {s:Int} {n k:Nat} (h:k∈keysN s n):k<n:=by
 unfold keysN at h;rw [List.mem_filter,List.mem_range]at h;exact h.1
theorem keysHi_ge {s:Int} {k:Nat} (h:k∈keysHi s):13≤k:=by
 unfold keysHi at h;rw [List.mem_filter,List.mem_map]at h;obtain⟨⟨j,_,rfl⟩,_⟩:=h;omega
theorem mid_split (s:Int):midK s=(keysN s 13).any isMid:=by
 unfold midK;rw [keys_split,List.any_append]
 have:(keysHi s).any isMid=false:=List.any_eq_false.2 fun k hk=>by
  have:=keysHi_ge hk;unfold isMid;simp;omega
 rw [this,Bool.or_false]
theorem fmt_eq (s:Int):fmtM false false (keys s)=fmt s:=by
 unfold fmt;rw [mid_split,keys_split,fmtM_low _ _ _ _ (fun k hk=>by have:=keysN_lt hk;omega),fmtL_low _ _ _ (fun k hk=>by have:=keysN_lt hk;omega),fmtM_high _ _ _ (fun k hk=>keysHi_ge hk)];simp
theorem lab_hash {k:Nat} (h1:1≤k):lab k≠35:=by
 by_cases hk:k<23
 ·have:∀j<23,1≤j→lab j≠35:=by decide
  exact this k hk h1
 ·unfold lab;rw [List.getD_eq_getElem?_getD,List.getElem?_eq_none (by simp [labels];omega)]
  decide
theorem fmtL_hash:∀(l:List Nat) (m:Bool),(∀k∈l,1≤k)→∀b∈fmtL m l,b≠35
 |[],_,_=>by simp [fmtL]
 |k::l,m,h=>by
  have ih:=fun m=>fmtL_hash l m (fun k hk=>h k (by simp [hk]));have h1:=lab_hash (h k (by simp));intro b hb;unfold fmtL at hb
  split at hb
  ·rcases List.mem_cons.1 hb with rfl|hb
   ·decide
   rcases List.mem_cons.1 hb with rfl|hb
   ·exact h1
   ·exact ih _ b hb
  ·rcases List.mem_cons.1 hb with rfl|hb
   ·exact h1
   ·exact ih _ b hb
theorem range_cons (n:Nat):List.range (n+1)=0::(List.range n).map (1+·):=by
 rw [List.range_succ_eq_map]
 congr 1
 exact List.map_congr_left fun k _=>by omega
theorem keys_head (s:Int):∃t:List Nat,(∀k∈t,1≤k)∧(keys s=t∨keys s=0::t):=by
 refine⟨((List.range 22).map (1+·)).filter (fun k=>hasK s (k:Int)),fun k hk=>?_,?_⟩
 ·rw [List.mem_filter,List.mem_map]at hk;obtain⟨⟨j,_,rfl⟩,_⟩:=hk;omega
 ·unfold keys keysN;rw [range_cons 22,List.filter_cons]
  split
  ·exact .inr rfl
  ·exact .inl rfl
def hash (b:UInt8):UInt8:=if b=35 then 61 else b
def raw (s:Int):Bs:=(fmt s).map hash
theorem map_hash {l:Bs} (h:∀b∈l,b≠35):l.map hash=l:=by
 conv=>rhs;rw [←List.map_id l]
 exact List.map_congr_left fun b hb=>by unfold hash;rw [if_neg (h b hb)];rfl
theorem raw_head (s:Int):(∀t,fmt s=35::t→raw s=61::t)∧((∀t,fmt s≠35::t)→raw s=fmt s):=by
 obtain⟨t,ht,h⟩:=keys_head s;have hl:=fun m=>fmtL_hash t m ht
 rcases h with h|h
 ·have hf:fmt s=fmtL (midK s) t:=by unfold fmt;rw [h]
  constructor
  ·intro u hu;exact absurd rfl (hl (midK s) 35 (by rw [←hf,hu];simp))
  ·intro _;unfold raw;rw [hf,map_hash (hl _)]
 ·have hf:fmt s=35::fmtL (midK s) t:=by
   unfold fmt;rw [h]
   conv=>lhs;unfold fmtL
   rfl
  constructor
  ·intro u hu;rw [hf]at hu;injection hu with _ hu;subst hu;unfold raw;rw [hf,List.map_cons,map_hash (hl _)];rfl
  ·intro hn;exact absurd hf (hn _)
theorem fmtL_len:∀(l:List Nat) (m:Bool),(fmtL m l).length≤2*l.length∧(l≠[]→fmtL m l≠[])
 |[],_=>by simp [fmtL]
 |k::l,m=>by
  have ih:=fun m=>(fmtL_len l m).1;unfold fmtL
  split
  ·refine⟨?_,by simp⟩;have:=ih true;simp only [List.length_cons];omega
  ·refine⟨?_,by simp⟩;have:=ih m;simp only [List.length_cons];omega
theorem keys_len (s:Int):(keys s).length≤23:=by
 unfold keys keysN;exact Nat.le_trans (List.length_filter_le _ _) (by simp)
theorem fmt_len (s:Int):(fmt s).length≤46:=by
 have h1:=(fmtL_len (keys s) (midK s)).1;have h2:=keys_len s;unfold fmt;omega
theorem raw_len (s:Int):(raw s).length≤46:=by unfold raw;rw [List.length_map];exact fmt_len s
theorem keys_ne {s:Int} (h:stroke s=true):keys s≠[]:=by
 unfold stroke at h;simp only [decide_eq_true_eq]at h;obtain⟨n,rfl⟩:=Int.eq_ofNat_of_zero_le (show 0≤s by omega);intro hk
 have hz:∀j,j<23→n.testBit j=false:=fun j hj=>by
  cases hb:n.testBit j with
  |false=>rfl
  |true=>
   have:j∈keys (n:Int):=by
    unfold keys keysN;rw [List.mem_filter,List.mem_range];exact⟨hj,by unfold hasK;simpa using hb⟩
   rw [hk]at this
   cases this
 have:n=0:=Nat.eq_of_testBit_eq fun j=>by
  rw [Nat.zero_testBit]
  by_cases hj:j<23
  ·exact hz j hj
  ·exact Nat.testBit_lt_two_pow (Nat.lt_of_lt_of_le (show n<2^23 by omega) (Nat.pow_le_pow_right (by decide) (by omega)))
 omega
theorem fmt_ne {s:Int} (h:stroke s=true):fmt s≠[]:=(fmtL_len (keys s) (midK s)).2 (keys_ne h)
theorem mid_bits (n:Nat):midK (n:Int)=decide (n / 256 % 32≠0):=by
 rw [mid_split]
 have hb:∀j:Nat,hasK (n:Int) (j:Int)=decide (n / 2^j % 2=1):=fun j=>by
  unfold hasK;rw [Int.toNat_natCast,Int.toNat_natCast,Nat.testBit_eq_decide_div_mod_eq]
 unfold keysN;rw [List.any_filter]
 have he:(List.range 13).any (fun k=>hasK (n:Int) (k:Int)&&isMid k)=(hasK (n:Int) (8:Nat)||(hasK (n:Int) (9:Nat)||(hasK (n:Int) (10:Nat)||(hasK (n:Int) (11:Nat)||hasK (n:Int) (12:Nat))))):=by
  simp only [List.range,List.range.loop,List.any_cons,List.any_nil,show isMid 0=false from rfl,show isMid 1=false from rfl,show isMid 2=false from rfl,show isMid 3=false from rfl,show isMid 4=false from rfl,show isMid 5=false from rfl,show isMid 6=false from rfl,show isMid 7=false from rfl,show isMid 8=true from rfl,show isMid 9=true from rfl,show isMid 10=true from rfl,show isMid 11=true from rfl,show isMid 12=true from rfl,Bool.and_false,Bool.and_true,Bool.false_or,Bool.or_false]
 rw [he,hb,hb,hb,hb,hb,Bool.eq_iff_iff];simp only [Bool.or_eq_true,decide_eq_true_eq];omega
end Go.Proofs.YtggfdnopminemaaGreatDoor.P
