/- Contracts of the program's and the reference's functions (Txt1, Txt2, Txt3). -/
import Derived.Lib.AtoiAll
import Derived.Lib.AtoiErrMem
import Derived.Lib.Fields
import Derived.Lib.ItoaMem
import Derived.Lib.Join
import Derived.Test.YtlimlolciekimaaGreatDoorRows
import Derived.Test.YtlimlolciekimaaGreatDoorQHak
import Derived.Test.YtlimlolciekimaaGreatDoorQHa
namespace Go.Proofs.YtlimlolciekimaaGreatDoor
set_option maxHeartbeats 1600000
open Go.ChangeShapes Go.WideShapes Go.ChangeAt Go.RowKit
set_option linter.unusedVariables false
set_option linter.unusedSimpArgs false
set_option maxRecDepth 10000
def digL (l:List UInt8):Bool:=l.all fun c=>decide (48≤c.toNat)&&decide (c.toNat≤57)
def decF (n:Nat) (l:List UInt8):Nat:=l.foldl (fun n c=>10 * n+(c.toNat - 48)) n
theorem decF_append (n:Nat) (l r:List UInt8):decF n (l++r)=decF (decF n l) r:=by unfold decF;rw [List.foldl_append]
theorem digL_append (l r:List UInt8):digL (l++r)=(digL l&&digL r):=by unfold digL;rw [List.all_append]
theorem ofNat48 {x:Nat} (h:x<10):(UInt8.ofNat (48+x)).toNat=48+x:=by
 rw [UInt8.toNat_ofNat'];omega
theorem digL_dec (n:Nat):digL (Lib.decDigits n)=true:=by
 induction n using Nat.strongRecOn with
 |ind n ih =>
  by_cases h:n<10
  ·rw [Lib.decDigits,dif_pos h]
   unfold digL
   simp only [List.all_cons,List.all_nil,Bool.and_true,ofNat48 h]
   simp;omega
  ·rw [Lib.decDigits,dif_neg h,digL_append,ih (n / 10) (by omega)]
   unfold digL
   simp only [List.all_cons,List.all_nil,Bool.and_true,ofNat48 (Nat.mod_lt n (by decide:0<10)),Bool.true_and]
   simp;omega
theorem decF_dec (n:Nat):decF 0 (Lib.decDigits n)=n:=by
 induction n using Nat.strongRecOn with
 |ind n ih =>
  by_cases h:n<10
  ·rw [Lib.decDigits,dif_pos h]
   show 10 * 0+_=_
   rw [ofNat48 h];omega
  ·rw [Lib.decDigits,dif_neg h,decF_append,ih (n / 10) (by omega)]
   show 10 * _+_=_
   rw [ofNat48 (Nat.mod_lt n (by decide:0<10))];omega
theorem dec_len {n:Nat} (h:n≤1000000000):(Lib.decDigits n).length≤10:=by
 rw [Lib.decDigits_length]
 by_cases h9:n<10 ^ 9
 ·by_cases h0:n=0
  ·subst h0;rw [Lib.nDigits_small (by decide)];decide
  ·have h1:=Lib.decDigits_length n
   have:∀ k u:Nat,u<10 ^ (k+1)→Lib.nDigits u≤k+1:=by
    intro k
    induction k with
    |zero=>intro u hu;rw [Lib.nDigits_small (by simpa using hu)];decide
    |succ k ih =>
     intro u hu
     by_cases hs:u<10
     ·rw [Lib.nDigits_small hs];omega
     ·rw [Lib.nDigits_big hs]
      have:=ih (u / 10) (by rw [Nat.pow_succ] at hu;omega)
      omega
   have:=this 8 n h9
   omega
 ·have:n=1000000000:=by omega
  subst this
  rw [Lib.nDigits_unique 9 1000000000 (by decide) (by decide)]
  decide
def uintOk (s:ByteArray):Bool:=decide (s.size≤10)&&(digL s.data.toList&&(decide (decF 0 s.data.toList≤1000000000)&&decide (numT (decF 0 s.data.toList)=s)))
def uintV (s:ByteArray):Nat:=if uintOk s=true then decF 0 s.data.toList else 0
theorem uintOk_num {n:Nat} (h:n≤1000000000):uintOk (numT n)=true∧uintV (numT n)=n:=by
 have hd:(numT n).data.toList=Lib.decDigits n:=rfl
 have hl:(numT n).size≤10:=by
  have:(numT n).size=(numT n).data.toList.length:=by rw [Array.length_toList];rfl
  rw [this,hd];exact dec_len h
 have h1:uintOk (numT n)=true:=by
  unfold uintOk
  rw [hd,decF_dec,digL_dec]
  simp [hl,h]
 refine ⟨h1,?_⟩
 unfold uintV
 rw [if_pos h1,hd,decF_dec]
theorem uintOk_iff {s:ByteArray}:uintOk s=true↔∃ n,n≤1000000000∧numT n=s:=by
 constructor
 ·intro h
  unfold uintOk at h
  simp only [Bool.and_eq_true,decide_eq_true_eq] at h
  exact ⟨_,h.2.2.1,h.2.2.2⟩
 ·rintro ⟨n,hn,rfl⟩
  exact (uintOk_num hn).1
theorem uintV_le (s:ByteArray):uintV s≤1000000000:=by
 unfold uintV
 split
 ·rename_i h
  unfold uintOk at h
  simp only [Bool.and_eq_true,decide_eq_true_eq] at h
  exact h.2.2.1
 ·omega
theorem uintV_num {s:ByteArray} (h:uintOk s=true):numT (uintV s)=s:=by
 obtain ⟨n,hn,rfl⟩:=uintOk_iff.1 h
 rw [(uintOk_num hn).2]
theorem decF_mono (n:Nat):∀ l:List UInt8,n≤decF n l
 |[]=>Nat.le_refl _
 |c :: l=>by
  have h:=decF_mono (10 * n+(c.toNat - 48)) l
  show n≤decF (10 * n+(c.toNat - 48)) l
  omega
theorem parse_dig:∀ (l:List UInt8) (acc:Nat),digL l=true→decF acc l≤1000000000→Lib.parseUint10 acc l=.ok (decF acc l)
 |[],acc,_,_=>rfl
 |c :: r,acc,h,hb=>by
  unfold digL at h
  simp only [List.all_cons,Bool.and_eq_true,decide_eq_true_eq] at h
  have hb':decF (10 * acc+(c.toNat - 48)) r≤1000000000:=hb
  have hm:=decF_mono (10 * acc+(c.toNat - 48)) r
  rw [Lib.parseUint10,if_pos h.1,if_neg (by omega),if_neg (by omega),show acc * 10+(c.toNat - 48)=10 * acc+(c.toNat - 48) by omega]
  exact parse_dig r _ h.2 hb'
theorem atoi_yes {s:ByteArray} (h:uintOk s=true):Lib.atoiAll s.data.toList=.ok (uintV s:Int):=by
 have hv:uintV s=decF 0 s.data.toList:=by unfold uintV;rw [if_pos h]
 have hn:=uintV_num h
 unfold uintOk at h
 simp only [Bool.and_eq_true,decide_eq_true_eq] at h
 have hp:=parse_dig s.data.toList 0 h.2.1 h.2.2.1
 rw [← hv] at hp
 have hne:s.data.toList≠[]:=by
  rw [← hn]
  show Lib.decDigits _≠[]
  intro e
  have:=Lib.decDigits_length (uintV s)
  rw [e] at this
  have:=Lib.nDigits_pos (uintV s)
  simp at *
  omega
 have hle:=uintV_le s
 cases hl:s.data.toList with
 |nil=>exact absurd hl hne
 |cons c r =>
  rw [hl] at hp
  have hdg:=h.2.1
  rw [hl] at hdg
  unfold digL at hdg
  simp only [List.all_cons,Bool.and_eq_true,decide_eq_true_eq] at hdg
  have h43:¬(c.toNat=43∨c.toNat=45):=by omega
  have h45:¬(c.toNat=45):=by omega
  unfold Lib.atoiAll
  simp only [if_neg h43]
  unfold Lib.parseMag
  rw [if_neg (by simp),hp]
  simp only
  rw [if_neg (by omega),if_neg (fun q=>h45 q.1),if_neg h45]
theorem atoi_back {s:ByteArray} {v:Int} (h:(⟨(Lib.itoa v).toArray⟩:ByteArray)=s) (h0:0≤v) (h1:v≤1000000000):uintOk s=true:=by
 obtain ⟨n,rfl⟩:=Int.eq_ofNat_of_zero_le h0
 refine uintOk_iff.2 ⟨n,by omega,?_⟩
 rw [← h]
 show (⟨(Lib.decDigits n).toArray⟩:ByteArray)=_
 rw [Lib.itoa_nonneg]
def cleanW (x:List UInt8):Prop:=x≠[]∧∀ b∈x,Lib.isSp b=false
theorem fieldsGo_clean:∀ (l cur:List UInt8),(∀ b∈cur,Lib.isSp b=false)→∀ x∈Lib.fieldsGo cur l,cleanW x
 |[],cur,hc,x,hx=>by
  unfold Lib.fieldsGo at hx
  cases cur with
  |nil=>simp at hx
  |cons b r =>
   simp at hx
   subst hx
   exact ⟨by simp,hc⟩
 |b :: l,cur,hc,x,hx=>by
  unfold Lib.fieldsGo at hx
  split at hx
  ·split at hx
   ·exact fieldsGo_clean l [] (by simp) x hx
   ·rename_i hne
    rcases List.mem_cons.1 hx with rfl|hx
    ·exact ⟨by rintro rfl;simp at hne,hc⟩
    ·exact fieldsGo_clean l [] (by simp) x hx
  ·rename_i hb
   refine fieldsGo_clean l (cur++[b]) ?_ x hx
   intro c hcm
   rcases List.mem_append.1 hcm with h|h
   ·exact hc c h
   ·simp at h;subst h;simpa using hb
theorem fields_clean (s:List UInt8):∀ x∈Lib.fields s,cleanW x:=fieldsGo_clean s [] (by simp)
theorem fieldsGo_word:∀ (x cur r:List UInt8),(∀ b∈x,Lib.isSp b=false)→Lib.fieldsGo cur (x++r)=Lib.fieldsGo (cur++x) r
 |[],cur,r,_=>by simp
 |b :: x,cur,r,h=>by
  rw [List.cons_append,Lib.fieldsGo_more _ _ _ (h b (by simp)),fieldsGo_word x (cur++[b]) r fun c hc=>h c (by simp [hc])]
  simp
theorem fields_tail:∀ (r:List (List UInt8)) (x:List UInt8),cleanW x→(∀ y∈r,cleanW y)→Lib.fieldsGo x (Lib.joinTail [32] r)=x :: r
 |[],x,hx,_=>by
  show Lib.fieldsGo x []=[x]
  unfold Lib.fieldsGo
  cases x with
  |nil=>exact absurd rfl hx.1
  |cons _ _=>simp
 |y :: r,x,hx,hr=>by
  have e:Lib.joinTail [32] (y :: r)=32 :: (y++Lib.joinTail [32] r):=by simp [Lib.joinTail]
  have hy:=hr y (by simp)
  rw [e,Lib.fieldsGo_end x 32 _ (by decide) hx.1,fieldsGo_word y [] _ hy.2,List.nil_append,fields_tail r y hy fun z hz=>hr z (by simp [hz])]
theorem fields_join (p:List (List UInt8)) (h:∀ x∈p,cleanW x):Lib.fields (Lib.join p [32])=p:=by
 cases p with
 |nil=>rfl
 |cons x r =>
  have hx:=h x (by simp)
  rw [Lib.join_cons]
  unfold Lib.fields
  rw [fieldsGo_word x [] _ hx.2,List.nil_append,fields_tail r x hx fun z hz=>h z (by simp [hz])]
def flds (s:ByteArray):List ByteArray:=(Lib.fields s.data.toList).map fun l=>⟨l.toArray⟩
def fldOk (s:ByteArray):Bool:=decide (s.size≤600)&&(s.data.toList.all (fun c=>decide (32≤c.toNat)&&decide (c.toNat≤126))&&decide ((flds s).length≤24))
def cleanP (p:List ByteArray):Prop:=∀ x∈p,cleanW x.data.toList
theorem flds_clean (s:ByteArray):cleanP (flds s):=by
 intro x hx
 unfold flds at hx
 obtain ⟨l,hl,rfl⟩:=List.mem_map.1 hx
 simpa using fields_clean _ l hl
def joinB (p:List ByteArray):ByteArray:=⟨(Lib.join (p.map (·.data.toList)) [32]).toArray⟩
theorem joinB_inj {p q:List ByteArray} (hp:cleanP p) (hq:cleanP q) (h:joinB p=joinB q):p=q:=by
 have h2:Lib.join (p.map (·.data.toList)) [32]=Lib.join (q.map (·.data.toList)) [32]:=by
  have:=congrArg (fun x:ByteArray=>x.data.toList) h
  simpa [joinB] using this
 have h3:=congrArg Lib.fields h2
 rw [fields_join _ (by intro x hx;obtain ⟨y,hy,rfl⟩:=List.mem_map.1 hx;exact hp y hy),fields_join _ (by intro x hx;obtain ⟨y,hy,rfl⟩:=List.mem_map.1 hx;exact hq y hy)] at h3
 have inj:Function.Injective (fun x:ByteArray=>x.data.toList):=fun a b h=>ba_ext h
 exact List.map_inj_right (fun _ _ h=>inj h)|>.1 h3
def actF (k a b:Nat):List ByteArray:=if wordN k=0 then [wordT k] else if wordN k=1 then [wordT k,numT a] else [wordT k,numT a,numT b]
theorem actF_len (k a b:Nat):1≤(actF k a b).length∧(actF k a b).length≤3:=by
 unfold actF;split
 ·exact ⟨by simp,by simp⟩
 ·split <;> exact ⟨by simp,by simp⟩
theorem actF_head (k a b:Nat):(actF k a b).getD 0 ⟨#[]⟩=wordT k:=by
 unfold actF;split
 ·rfl
 ·split <;> rfl
theorem joinB_one (x:ByteArray):joinB [x]=x:=by apply ba_ext;simp [joinB,Lib.join_one]
theorem joinB_two (x y:ByteArray):joinB [x,y]=x++(⟨#[32]⟩++y):=by
 apply ba_ext;simp [joinB,Lib.join_cons,Lib.joinTail,ByteArray.data_append]
theorem joinB_three (x y z:ByteArray):joinB [x,y,z]=x++(⟨#[32]⟩++y)++(⟨#[32]⟩++z):=by
 apply ba_ext;simp [joinB,Lib.join_cons,Lib.joinTail,ByteArray.data_append]
theorem actT_join (k a b:Nat):actT k a b=joinB (actF k a b):=by
 unfold actT actF
 split
 ·rw [joinB_one]
 ·split
  ·rw [joinB_two]
  ·rw [joinB_three]
theorem digL_clean {l:List UInt8} (h:digL l=true) (h0:l≠[]):cleanW l:=by
 refine ⟨h0,fun b hb=>?_⟩
 unfold digL at h
 rw [List.all_eq_true] at h
 have:=h b hb
 simp only [Bool.and_eq_true,decide_eq_true_eq] at this
 unfold Lib.isSp
 simp only [Bool.or_eq_false_iff,beq_eq_false_iff_ne]
 refine ⟨⟨⟨⟨⟨?_,?_⟩,?_⟩,?_⟩,?_⟩,?_⟩ <;> (rintro rfl;revert this;decide)
theorem num_clean (n:Nat):cleanW (numT n).data.toList:=by
 refine digL_clean (digL_dec n) ?_
 intro e
 have h1:Lib.decDigits n=[]:=e
 have:=Lib.decDigits_length n
 rw [h1] at this
 have:=Lib.nDigits_pos n
 simp at *
 omega
theorem word_clean:∀ k,cleanW (wordT k).data.toList:=by
 intro k
 unfold wordT
 split <;> exact ⟨by decide,by decide⟩
theorem actF_clean (k a b:Nat):cleanP (actF k a b):=by
 intro x hx
 unfold actF at hx
 split at hx
 ·simp at hx;subst hx;exact word_clean k
 ·split at hx
  ·simp at hx;rcases hx with rfl|rfl
   ·exact word_clean k
   ·exact num_clean a
  ·simp at hx;rcases hx with rfl|rfl|rfl
   ·exact word_clean k
   ·exact num_clean a
   ·exact num_clean b
theorem actT_iff {p:List ByteArray} (hp:cleanP p) (k a b:Nat):actT k a b=joinB p↔actF k a b=p:=by
 rw [actT_join]
 exact ⟨fun h=>joinB_inj (actF_clean k a b) hp h,fun h=>by rw [h]⟩
def kindTo:Nat→ByteArray→Nat
 |0,_=>0
 |j+1,x=>if wordT (j+1)=x then j+1 else kindTo j x
theorem kind_word {k:Nat} (h1:1≤k) (h8:k≤8):kindTo 8 (wordT k)=k:=by
 obtain rfl|rfl|rfl|rfl|rfl|rfl|rfl|rfl:k=1∨k=2∨k=3∨k=4∨k=5∨k=6∨k=7∨k=8:=by omega
 all_goals decide
def pK (p:List ByteArray):Nat:=kindTo 8 (p.getD 0 ⟨#[]⟩)
def pN (p:List ByteArray) (i:Nat):Nat:=uintV (p.getD i ⟨#[]⟩)
theorem uintV_nil:uintV ⟨#[]⟩=0:=by
 unfold uintV
 rw [if_neg]
 intro h
 obtain ⟨n,hn,h2⟩:=uintOk_iff.1 h
 have:=num_clean n
 rw [h2] at this
 exact this.1 rfl
def parOk (p:List ByteArray):Bool:=actOk (pK p) (pN p 1) (pN p 2)&&decide (actF (pK p) (pN p 1) (pN p 2)=p)
theorem act_det {p:List ByteArray} {k a b:Nat} (h:actOk k a b=true) (hp:actF k a b=p):pK p=k∧pN p 1=a∧pN p 2=b:=by
 obtain ⟨hk,A,B,hA,hB,hA9,hB9⟩:=actOk_parts h
 have h0:pK p=k:=by
  unfold pK
  rw [← hp,actF_head]
  exact kind_word (by omega) (by omega)
 have na:=(uintOk_num (n:=a) (by omega)).2
 have nb:=(uintOk_num (n:=b) (by omega)).2
 refine ⟨h0,?_,?_⟩
 ·unfold pN
  rw [← hp]
  unfold actF
  split
  ·rename_i hw
   have:a=0:=by
    unfold wordN at hw
    unfold actOk at h
    rcases hk with hk|hk|hk|hk|hk|hk|hk|hk <;> (have hk':k=_:=Int.ofNat_inj.1 hk) <;> subst hk' <;> simp_all
   subst this
   exact uintV_nil
  ·split <;> exact na
 ·unfold pN
  rw [← hp]
  unfold actF
  split
  ·rename_i hw
   have:b=0:=by
    unfold wordN at hw
    unfold actOk at h
    rcases hk with hk|hk|hk|hk|hk|hk|hk|hk <;> (have hk':k=_:=Int.ofNat_inj.1 hk) <;> subst hk' <;> simp_all
   subst this
   exact uintV_nil
  ·split
   ·rename_i hw
    have:b=0:=by
     unfold wordN at hw
     unfold actOk at h
     rcases hk with hk|hk|hk|hk|hk|hk|hk|hk <;> (have hk':k=_:=Int.ofNat_inj.1 hk) <;> subst hk' <;> simp_all
    subst this
    exact uintV_nil
   ·exact nb
theorem parOk_of {p:List ByteArray} {k a b:Nat} (h:actOk k a b=true) (hp:actF k a b=p):parOk p=true:=by
 obtain ⟨h1,h2,h3⟩:=act_det h hp
 unfold parOk
 rw [h1,h2,h3,h,hp];simp
theorem parOk_len {p:List ByteArray} (h:parOk p=true):1≤p.length∧p.length≤3:=by
 unfold parOk at h
 simp only [Bool.and_eq_true,decide_eq_true_eq] at h
 have:=actF_len (pK p) (pN p 1) (pN p 2)
 rwa [h.2] at this
theorem parOk_num {p:List ByteArray} (h:parOk p=true) {i:Nat} (hi:i<p.length) (h1:1≤i):uintOk p[i]=true:=by
 unfold parOk at h
 simp only [Bool.and_eq_true,decide_eq_true_eq] at h
 obtain ⟨_,A,B,hA,hB,_,_⟩:=actOk_parts h.1
 have h2:=h.2
 have hl:=(actF_len (pK p) (pN p 1) (pN p 2)).2
 rw [h2] at hl
 have na:=(uintOk_num (n:=pN p 1) (by omega)).1
 have nb:=(uintOk_num (n:=pN p 2) (by omega)).1
 generalize pN p 1=a at *
 generalize pN p 2=b at *
 generalize pK p=k at *
 subst h2
 unfold actF at hi ⊢
 split at hi
 ·simp at hi;omega
 ·split at hi
  ·rename_i q1 q2
   simp at hi
   have:i=1:=by omega
   subst this
   simp only [if_neg q1,if_pos q2]
   exact na
  ·rename_i q1 q2
   simp at hi
   simp only [if_neg q1,if_neg q2]
   obtain rfl|rfl:i=1∨i=2:=by omega
   ·exact na
   ·exact nb
def parRes (p:List ByteArray):(Nat×Nat×Nat)×Bool:=if parOk p=true then ((pK p,pN p 1,pN p 2),true) else ((0,0,0),false)
def SpI (s:ByteArray) (i b:Nat) (xs:List ByteArray):Prop :=
 b≤i∧i≤s.size∧xs.map (·.data.toList)++Lib.fieldsGo ((s.data.toList.take i).drop b) (s.data.toList.drop i)=Lib.fields s.data.toList∧xs.length≤i∧∀ x∈xs,x.size≤s.size
theorem flds_len (s:ByteArray):(flds s).length≤s.size:=by
 unfold flds
 rw [List.length_map,Lib.fields_length]
 have:∀ (l:List UInt8) (b:Bool),Lib.cntF b l≤l.length:=by
  intro l
  induction l with
  |nil=>intro b;exact Nat.le_refl _
  |cons x l ih=>intro b;have:=ih (Lib.isSp x);unfold Lib.cntF;simp;split <;> omega
 have h:=this s.data.toList true
 simpa using h
theorem fieldsGo_size:∀ (l cur:List UInt8),∀ x∈Lib.fieldsGo cur l,x.length≤cur.length+l.length
 |[],cur,x,hx=>by
  unfold Lib.fieldsGo at hx
  split at hx
  ·cases hx
  ·simp at hx;subst hx;omega
 |b :: l,cur,x,hx=>by
  unfold Lib.fieldsGo at hx
  split at hx
  ·split at hx
   ·have:=fieldsGo_size l [] x hx;simp at this ⊢;omega
   ·rcases List.mem_cons.1 hx with rfl|hx
    ·omega
    ·have:=fieldsGo_size l [] x hx;simp at this ⊢;omega
  ·have:=fieldsGo_size l (cur++[b]) x hx;simp at this ⊢;omega
theorem flds_size {s x:ByteArray} (hx:x∈flds s):x.size≤s.size:=by
 unfold flds at hx
 obtain ⟨l,hl,rfl⟩:=List.mem_map.1 hx
 have:=fieldsGo_size s.data.toList [] l hl
 simp at this
 exact this
def pr (c:UInt8):Bool:=decide (32≤c.toNat)&&decide (c.toNat≤126)
theorem fldOk_iff {s:ByteArray}:fldOk s=true↔s.size≤600∧(∀ i (h:i<s.size),pr s[i]=true)∧(flds s).length≤24:=by
 unfold fldOk
 rw [Bool.and_eq_true,Bool.and_eq_true,decide_eq_true_eq,decide_eq_true_eq,List.all_eq_true]
 refine ⟨fun ⟨h1,h2,h3⟩=>⟨h1,fun i hi=>?_,h3⟩,fun ⟨h1,h2,h3⟩=>⟨h1,fun c hc=>?_,h3⟩⟩
 ·have:=h2 s[i] (by have:s[i]=s.data.toList[i]'(by simpa using hi):=rfl;rw [this];exact List.getElem_mem _)
  exact this
 ·obtain ⟨i,hi,rfl⟩:=List.getElem_of_mem hc
  have:=h2 i (by simpa using hi)
  unfold pr at this
  exact this
theorem fldOk_long {s:ByteArray} (h:600<s.size):fldOk s=false:=by
 cases hq:fldOk s with
 |false=>rfl
 |true=>have:=(fldOk_iff.1 hq).1;omega
theorem fldOk_bad {s:ByteArray} {i:Nat} (hi:i<s.size) (h:pr s[i]=false):fldOk s=false:=by
 cases hq:fldOk s with
 |false=>rfl
 |true=>have:=(fldOk_iff.1 hq).2.1 i hi;rw [h] at this;cases this
theorem fldOk_many {s:ByteArray} (h:24<(flds s).length):fldOk s=false:=by
 cases hq:fldOk s with
 |false=>rfl
 |true=>have:=(fldOk_iff.1 hq).2.2;omega
theorem okT {s:ByteArray} {i:Nat} (h:∀ k (hk:k<s.size),k<i→pr s[k]=true) (hi:i<s.size) (h2:pr s[i]=true):∀ k (hk:k<s.size),k<i+1→pr s[k]=true:=by
 intro k hk hki
 by_cases h3:k<i
 ·exact h k hk h3
 ·have:k=i:=by omega
  subst this;exact h2
theorem var_below {w w':World} {nm:String} {cs:Array Value} (h:w.var? Tryz.prog nm=some cs) (hb:Below w.heap.size w w'):w'.var? Tryz.prog nm=some cs:=by
 unfold World.var? at h ⊢
 cases hg:Tryz.prog.globalNamed nm with
 |none=>rw [hg] at h;cases h
 |some g =>
  rw [hg] at h
  have hlt:g<w.heap.size:=by
   by_cases h0:g<w.heap.size
   ·exact h0
   ·simp [Array.getElem?_eq_none (Nat.le_of_not_lt h0)] at h
  simp only [Option.bind_some] at h ⊢
  rw [hb.block g hlt]
  exact h
structure Errs (w:World):Prop where
 syn : ∃ t p, w.var? Tryz.prog "strconv.ErrSyntax" = some #[.iface t p]
 ran : ∃ t p, w.var? Tryz.prog "strconv.ErrRange" = some #[.iface t p]
 asc : Lib.TabIs Tryz.prog w "strings.asciiSpace" .u8 Lib.asciiSpaceTab
 tab:Tab w
theorem Errs.below {w w':World} (h:Errs w) (hb:Below w.heap.size w w'):Errs w':=by
 obtain ⟨⟨t,p,h1⟩,⟨t2,p2,h2⟩,h3,h4⟩:=h
 exact ⟨⟨t,p,var_below h1 hb⟩,⟨t2,p2,var_below h2 hb⟩,var_below h3 hb,h4.below hb⟩
theorem i_Atoi_bad (s:ByteArray) (w:World) (hz:s.size≤16777216) (hE:Errs w) (h:¬∃ v,Lib.atoiAll s.data.toList=.ok v) :
  Calls Tryz.prog 109 #[.string s] w fun e w'=>∃ (v:Int) (t N:Nat),e=.returned (.tuple #[.int .i64 v,.iface t (.pointer (some ⟨N,0,none⟩))])∧Below w.heap.size w w':=by
 obtain ⟨⟨t1,p1,h1⟩,⟨t2,p2,h2⟩,_,_⟩:=hE
 cases hq:Lib.atoiAll s.data.toList
 ·exact absurd ⟨_,hq⟩ h
 ·have q:=Any.strconv_Atoi_syntax_var Tryz.laysC172 s (by omega) hq t1 p1 w h1
  exact q.mono fun e w' ⟨N,he,_,_,hb⟩=>⟨_,_,N,he,hb⟩
 ·have q:=Any.strconv_Atoi_range_var Tryz.laysC172 s (by omega) hq t2 p2 w h2
  exact q.mono fun e w' ⟨N,he,_,_,hb⟩=>⟨_,_,N,he,hb⟩
theorem i_ParseUint (s:ByteArray) (w:World) (hz:s.size≤16777216) (hE:Errs w) :
  Calls Tryz.prog 64 #[.string s] w fun e w'=>e=.returned (.tuple #[.int .i64 (uintV s),.bool (uintOk s)])∧Below w.heap.size w w':=by
 have hno:uintOk s=false→uintV s=0:=by intro h;unfold uintV;rw [h];rfl
 by_cases hnok:∃ v,Lib.atoiAll s.data.toList=.ok v
 ·obtain ⟨v,hq⟩:=hnok
  have HA:=hide (Tryz.strconv_Atoi_ok s (by omega) v hq w)
  have HB:=hide (fun h0 h1 h=>atoi_back (s:=s) (v:=v) h h0 h1)
  have HY:=hide (fun h=>(atoi_yes (s:=s) h).symm.trans hq)
  clear hq
  go_enter Tryz.func64,Tryz.ntmps64
  go_wp2_with fail
  refine HA.out.mono ?_
  clear HA
  rintro e w1 ⟨rfl,hw⟩
  have hb:Below w.heap.size w w1:=by
   rcases hw with rfl|⟨t,rfl⟩
   ·exact Below.refl _ _
   ·exact Lib.bytesWorld_below _ _ _
  clear hw
  by_cases hr:0≤v∧v≤1000000000
  ·obtain ⟨n,rfl⟩:=Int.eq_ofNat_of_zero_le hr.1
   have hn:n≤1000000000:=by omega
   have hin:inB n 0 1000000000=true:=by simp [inB];omega
   go_wp2_with (go_at_call 71;refine (i_within _ _ _ _).mono ?_;rw [hin];rintro e w' ⟨rfl,rfl⟩)
   refine (Tryz.strconv_Itoa n (by omega) (by omega) _ (hE.tab.below hb)).mono ?_
   rintro e w2 ⟨rfl,hk⟩
   have hb2:Below w.heap.size w w2:=by
    obtain ⟨k,os,hk⟩:=hk
    rw [hk]
    exact hb.trans ((tab_grow _ k os).mono hb.size)
   clear hk
   rw [itoa_nat]
   by_cases he:numT n=s
   ·have h1:=uintOk_num hn
    rw [he] at h1
    have HV:=Lib.hid h1
    clear h1
    have hne:=beq_toList_true he
    go_wp2
    go_ret2
    rw [HV.out.1,HV.out.2]
    exact ⟨rfl,hb2⟩
   ·have hne:=beq_toList_false he
    have HF:Hid (uintOk s=false):=by
     cases hu:uintOk s with
     |false=>rfl
     |true =>
      have h1:=HY.out hu
      injection h1 with h1
      have h2:=uintV_num hu
      have h3:uintV s=n:=by omega
      rw [h3] at h2
      exact absurd h2 he
    go_wp2
    go_ret2
    rw [HF.out,hno HF.out]
    exact ⟨rfl,hb2⟩
  ·have hin:inB v 0 1000000000=false:=by
    cases h:inB v 0 1000000000 with
    |false=>rfl
    |true=>exact absurd (by simpa [inB] using h:0≤v∧v≤1000000000) hr
   have HF:Hid (uintOk s=false):=by
    cases hu:uintOk s with
    |false=>rfl
    |true =>
     have h1:=HY.out hu
     injection h1 with h1
     have:=uintV_le s
     omega
   go_wp2_with (go_at_call 71;refine (i_within _ _ _ _).mono ?_;rw [hin];rintro e w' ⟨rfl,rfl⟩)
   go_ret2
   rw [HF.out,hno HF.out]
   exact ⟨rfl,hb⟩
 ·have HF:Hid (uintOk s=false):=by
   cases hu:uintOk s with
   |false=>rfl
   |true=>exact absurd ⟨_,atoi_yes hu⟩ hnok
  have HA:=hide (i_Atoi_bad s w (by omega) hE hnok)
  clear hnok
  go_enter Tryz.func64,Tryz.ntmps64
  go_wp2_with fail
  refine HA.out.mono ?_
  clear HA
  rintro e w1 ⟨v,t,N,rfl,hb⟩
  go_wp2
  go_ret2
  rw [HF.out,hno HF.out]
  exact ⟨rfl,hb⟩
theorem i_SplitFields (s:ByteArray) (w:World) (hE:Errs w) (hz:s.size≤16777216) :
  Calls Tryz.prog 63 #[.string s] w fun e w'=>(fldOk s=false∧e=.returned (.tuple #[.slice none 0 0,.bool false])∧Below w.heap.size w w')∨(fldOk s=true∧∃ A c,e=.returned (.tuple #[.slice A (flds s).length c,.bool true])∧w'.ownsRow w.heap.size 9 1 (.slice A (flds s).length c) (flds s).length ((flds s).map Value.string)∧Below w.heap.size w w'):=by
 by_cases hl:600<s.size
 ·have HF:=Lib.hid (fldOk_long hl)
  go_enter Tryz.func63,Tryz.ntmps63
  go_wp2
  go_ret2
  exact .inl ⟨HF.out,rfl,Below.refl _ _⟩
 ·go_enter Tryz.func63,Tryz.ntmps63
  go_wp2
  go_loop [4,11] (fun _ i=>∃ k:Nat,k≤s.size∧i=.int .i64 k∧Hid (∀ j (hj:j<s.size),j<k→pr s[j]=true)) (fun _ i=>s.size - (intOf i).toNat)
  case atStart=>exact ⟨0,Nat.zero_le _,rfl,fun j _ h=>absurd h (Nat.not_lt_zero _)⟩
  case round =>
   obtain ⟨k,hk,rfl,HP⟩:=hrel
   by_cases hlt:k<s.size
   ·by_cases h1:32≤s[k].toNat
    ·have b1:decide ((s[k].toNat:Int)<32)=false:=by simp;omega
     by_cases h2:s[k].toNat≤126
     ·have b2:decide ((s[k].toNat:Int) > 126)=false:=by simp;omega
      have HN:=hide (okT HP.out hlt (by unfold pr;simp [h1,h2]))
      go_wp2
      go_round
      case rel=>exact ⟨k+1,by omega,by go_num,HN⟩
      case measure=>simp [intOf];omega
     ·have b2:decide ((s[k].toNat:Int) > 126)=true:=by simp;omega
      have HF:=Lib.hid (fldOk_bad hlt (by unfold pr;simp;omega))
      go_wp2
      go_ret2
      exact .inl ⟨HF.out,rfl,Below.refl _ _⟩
    ·have b1:decide ((s[k].toNat:Int)<32)=true:=by simp;omega
     have HF:=Lib.hid (fldOk_bad hlt (by unfold pr;simp;omega))
     go_wp2
     go_ret2
     exact .inl ⟨HF.out,rfl,Below.refl _ _⟩
   ·have hks:k=s.size:=by omega
    subst hks
    have hasc:∀ (j:Nat) b,s.data.toList[j]?=some b→b.toNat<128:=by
     intro j b hb
     obtain ⟨hj,he⟩:=List.getElem?_eq_some_iff.1 hb
     have hj2:j<s.size:=by simpa using hj
     have:=HP.out j hj2 hj2
     unfold pr at this
     simp only [Bool.and_eq_true,decide_eq_true_eq] at this
     have h3:s[j]=b:=he
     rw [h3] at this
     omega
    have HC:=hide (Tryz.strings_Fields_laid s w (by omega) hasc hE.asc)
    have hlen:(Lib.fields s.data.toList).length=(flds s).length:=by unfold flds;rw [List.length_map]
    have hcel:((Lib.fields s.data.toList).map fun l=>Value.string ⟨l.toArray⟩)=(flds s).map Value.string:=by unfold flds;rw [List.map_map];rfl
    rw [hlen,hcel] at HC
    have hfl:=flds_len s
    have hown:(w.alloc (.cells ((flds s).map Value.string).toArray 9)).ownsRow w.heap.size 9 1 (.slice (some ⟨w.heap.size,0,none⟩) (flds s).length (flds s).length) (flds s).length ((flds s).map Value.string):=by
     have h:=World.ownsRow_lit (w:=w) (base:=w.heap.size) (e:=9) (size:=1) ((flds s).map Value.string).toArray (flds s).length (Nat.le_refl _) (by unfold maxLen;omega) (by simp)
     simpa using h
    have HO:=hide hown
    have HS:Hid (fldOk s=decide ((flds s).length≤24)):=by
     unfold Hid
     by_cases h24:(flds s).length≤24
     ·rw [decide_eq_true h24];exact fldOk_iff.2 ⟨by omega,fun i hi=>HP.out i hi hi,h24⟩
     ·rw [decide_eq_false h24];exact fldOk_many (by omega)
    clear hlen hcel hasc hown
    go_wp2_with fail
    refine HC.out.mono ?_
    clear HC
    obtain ⟨n,hn⟩:∃ n,(flds s).length=n:=⟨_,rfl⟩
    rw [hn] at HO HS hfl ⊢
    have HN2:=Lib.hid hn
    clear hn
    rintro e w1 ⟨rfl,rfl⟩
    by_cases h24:n≤24
    ·go_wp2
     go_ret2
     have e2:=HN2.out
     subst e2
     exact .inr ⟨by rw [HS.out,decide_eq_true h24],_,_,rfl,HO.out,bel⟩
    ·go_wp2
     go_ret2
     exact .inl ⟨by rw [HS.out,decide_eq_false h24],rfl,bel⟩
def l40 (s:ByteArray):Int:=if 1<s.size then (if s.data.toList.head?=some 45 then -(uintV (s.extract 1 s.size):Int) else uintV s) else uintV s
theorem joinB_size {p:List ByteArray} {m:Nat} (h:∀ x∈p,x.size≤m):(joinB p).size≤p.length * (m+1):=by
 cases p with
 |nil=>show 0≤_;omega
 |cons x r =>
  have hsz:(joinB (x :: r)).size=(joinB (x :: r)).data.toList.length:=by rw [Array.length_toList];rfl
  rw [hsz]
  show (Lib.join ((x :: r).map (·.data.toList)) [32]).length≤_
  rw [List.map_cons,Lib.join_length]
  have hl:∀ (q:List ByteArray),(∀ x∈q,x.size≤m)→Lib.lens (q.map (·.data.toList))≤q.length * m:=by
   intro q
   induction q with
   |nil=>intro _;simp [Lib.lens]
   |cons y q ih =>
    intro hq
    have h1:=hq y (by simp)
    have h2:=ih fun z hz=>hq z (by simp [hz])
    have h3:y.data.toList.length=y.size:=by rw [Array.length_toList];rfl
    unfold Lib.lens at h2 ⊢
    simp only [List.map_cons,List.sum_cons,List.length_cons]
    rw [Nat.add_mul,h3]
    omega
  have:=hl (x :: r) h
  simp only [List.map_cons,List.length_cons,List.length_map] at this ⊢
  rw [Nat.mul_add]
  simp
  omega
theorem strs_own {w:World} {b n c m:Nat} {A:Option Addr} {p:List ByteArray} (h:w.ownsRow b 9 1 (.slice A n c) n (p.map Value.string)) (hn:n≤16777216) (hs:∀ x∈p,x.size≤m) (hm:m≤16777216):Strs w w.heap.size A n p :=
 strs_of_own h hn fun x hx=>Nat.le_trans (hs x hx) hm
def numsS (p:List ByteArray):List Int:=(p.drop 1).map l40
def numS (p:List ByteArray) (i:Nat):Int:=(numsS p++[0,0]).getD i 0
def hitS (p:List ByteArray) (k:Nat):Bool:=actOk k (numS p 0) (numS p 1)&&decide (actT k (numS p 0).toNat (numS p 1).toNat=joinB p)
theorem parRes_no {p:List ByteArray} (h:parOk p=false):parRes p=((0,0,0),false):=by unfold parRes;rw [h];rfl
theorem parRes_yes {p:List ByteArray} (h:parOk p=true):parRes p=((pK p,pN p 1,pN p 2),true):=by unfold parRes;rw [h];rfl
theorem parOk_badlen {p:List ByteArray} (h:¬(1≤p.length∧p.length≤3)):parOk p=false:=by
 cases hq:parOk p with
 |false=>rfl
 |true=>exact absurd (parOk_len hq) h
end Go.Proofs.YtlimlolciekimaaGreatDoor
