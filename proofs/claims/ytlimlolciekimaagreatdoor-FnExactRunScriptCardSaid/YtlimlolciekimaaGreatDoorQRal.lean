/- Contracts of the program's and the reference's functions (Txt1, Txt2, Txt3). -/
import Derived.Lib.AtoiAll
import Derived.Lib.AtoiErrMem
import Derived.Lib.Fields
import Derived.Lib.ItoaMem
import Derived.Lib.Join
import Derived.Test.YtlimlolciekimaaGreatDoorRows
import Derived.Test.YtlimlolciekimaaGreatDoorQRak
import Derived.Test.YtlimlolciekimaaGreatDoorQRa
namespace Go.Proofs.YtlimlolciekimaaGreatDoor
set_option maxHeartbeats 1600000
open Go.ChangeShapes Go.WideShapes Go.ChangeAt Go.RowKit
set_option linter.unusedVariables false
set_option linter.unusedSimpArgs false
set_option maxRecDepth 10000
def Zdz (l:List UInt8):Bool:=l.all fun c=>decide (48≤c.toNat)&&decide (c.toNat≤57)
def Zds (n:Nat) (l:List UInt8):Nat:=l.foldl (fun n c=>10 * n+(c.toNat - 48)) n
theorem Zha (n:Nat) (l r:List UInt8):Zds n (l++r)=Zds (Zds n l) r:=by unfold Zds;rw [List.foldl_append]
theorem Zg7 (l r:List UInt8):Zdz (l++r)=(Zdz l&&Zdz r):=by unfold Zdz;rw [List.all_append]
theorem Zhr {x:Nat} (h:x<10):(UInt8.ofNat (48+x)).toNat=48+x:=by
 rw [UInt8.toNat_ofNat'];omega
theorem Zh7 (n:Nat):Zdz (Lib.decDigits n)=true:=by
 induction n using Nat.strongRecOn with
 |ind n ih =>
  by_cases h:n<10
  ·rw [Lib.decDigits,dif_pos h]
   unfold Zdz
   simp only [List.all_cons,List.all_nil,Bool.and_true,Zhr h]
   simp;omega
  ·rw [Lib.decDigits,dif_neg h,Zg7,ih (n / 10) (by omega)]
   unfold Zdz
   simp only [List.all_cons,List.all_nil,Bool.and_true,Zhr (Nat.mod_lt n (by decide:0<10)),Bool.true_and]
   simp;omega
theorem Zk4 (n:Nat):Zds 0 (Lib.decDigits n)=n:=by
 induction n using Nat.strongRecOn with
 |ind n ih =>
  by_cases h:n<10
  ·rw [Lib.decDigits,dif_pos h]
   show 10 * 0+_=_
   rw [Zhr h];omega
  ·rw [Lib.decDigits,dif_neg h,Zha,ih (n / 10) (by omega)]
   show 10 * _+_=_
   rw [Zhr (Nat.mod_lt n (by decide:0<10))];omega
theorem Zmw {n:Nat} (h:n≤1000000000):(Lib.decDigits n).length≤10:=by
 rw [Lib.decDigits_length]
 by_cases h9:n<10 ^ 9
 ·by_cases h0:n=0
  ·subst h0;rw [Lib.nDigits_small (by decide)];decide
  ·have h1:=Lib.decDigits_length n
   have:∀ k u:Nat,u<10 ^ (k+1)→Lib.nDigits u≤k+1:=by
    intro k
    induction k with
    |zero=>intro u hu;rw [Lib.nDigits_small (by simpa using hu)];decide
    |succ k ih =>
     intro u hu
     by_cases hs:u<10
     ·rw [Lib.nDigits_small hs];omega
     ·rw [Lib.nDigits_big hs]
      have:=ih (u / 10) (by rw [Nat.pow_succ] at hu;omega)
      omega
   have:=this 8 n h9
   omega
 ·have:n=1000000000:=by omega
  subst this
  rw [Lib.nDigits_unique 9 1000000000 (by decide) (by decide)]
  decide
def Zbd (s:ByteArray):Bool:=decide (s.size≤10)&&(Zdz s.data.toList&&(decide (Zds 0 s.data.toList≤1000000000)&&decide (Zan (Zds 0 s.data.toList)=s)))
def Zbt (s:ByteArray):Nat:=if Zbd s=true then Zds 0 s.data.toList else 0
theorem Zco {n:Nat} (h:n≤1000000000):Zbd (Zan n)=true∧Zbt (Zan n)=n:=by
 have hd:(Zan n).data.toList=Lib.decDigits n:=rfl
 have hl:(Zan n).size≤10:=by
  have:(Zan n).size=(Zan n).data.toList.length:=by rw [Array.length_toList];rfl
  rw [this,hd];exact Zmw h
 have h1:Zbd (Zan n)=true:=by
  unfold Zbd
  rw [hd,Zk4,Zh7]
  simp [hl,h]
 refine ⟨h1,?_⟩
 unfold Zbt
 rw [if_pos h1,hd,Zk4]
theorem ZfC {s:ByteArray}:Zbd s=true↔∃ n,n≤1000000000∧Zan n=s:=by
 constructor
 ·intro h
  unfold Zbd at h
  simp only [Bool.and_eq_true,decide_eq_true_eq] at h
  exact ⟨_,h.2.2.1,h.2.2.2⟩
 ·rintro ⟨n,hn,rfl⟩
  exact (Zco hn).1
theorem ZdL (s:ByteArray):Zbt s≤1000000000:=by
 unfold Zbt
 split
 ·rename_i h
  unfold Zbd at h
  simp only [Bool.and_eq_true,decide_eq_true_eq] at h
  exact h.2.2.1
 ·omega
theorem Zi9 {s:ByteArray} (h:Zbd s=true):Zan (Zbt s)=s:=by
 obtain ⟨n,hn,rfl⟩:=ZfC.1 h
 rw [(Zco hn).2]
theorem Zjc (n:Nat):∀ l:List UInt8,n≤Zds n l
 |[]=>Nat.le_refl _
 |c :: l=>by
  have h:=Zjc (10 * n+(c.toNat - 48)) l
  show n≤Zds (10 * n+(c.toNat - 48)) l
  omega
theorem Zi3:∀ (l:List UInt8) (acc:Nat),Zdz l=true→Zds acc l≤1000000000→Lib.parseUint10 acc l=.ok (Zds acc l)
 |[],acc,_,_=>rfl
 |c :: r,acc,h,hb=>by
  unfold Zdz at h
  simp only [List.all_cons,Bool.and_eq_true,decide_eq_true_eq] at h
  have hb':Zds (10 * acc+(c.toNat - 48)) r≤1000000000:=hb
  have hm:=Zjc (10 * acc+(c.toNat - 48)) r
  rw [Lib.parseUint10,if_pos h.1,if_neg (by omega),if_neg (by omega),show acc * 10+(c.toNat - 48)=10 * acc+(c.toNat - 48) by omega]
  exact Zi3 r _ h.2 hb'
theorem ZkU {s:ByteArray} (h:Zbd s=true):Lib.atoiAll s.data.toList=.ok (Zbt s:Int):=by
 have hv:Zbt s=Zds 0 s.data.toList:=by unfold Zbt;rw [if_pos h]
 have hn:=Zi9 h
 unfold Zbd at h
 simp only [Bool.and_eq_true,decide_eq_true_eq] at h
 have hp:=Zi3 s.data.toList 0 h.2.1 h.2.2.1
 rw [← hv] at hp
 have hne:s.data.toList≠[]:=by
  rw [← hn]
  show Lib.decDigits _≠[]
  intro e
  have:=Lib.decDigits_length (Zbt s)
  rw [e] at this
  have:=Lib.nDigits_pos (Zbt s)
  simp at *
  omega
 have hle:=ZdL s
 cases hl:s.data.toList with
 |nil=>exact absurd hl hne
 |cons c r =>
  rw [hl] at hp
  have hdg:=h.2.1
  rw [hl] at hdg
  unfold Zdz at hdg
  simp only [List.all_cons,Bool.and_eq_true,decide_eq_true_eq] at hdg
  have h43:¬(c.toNat=43∨c.toNat=45):=by omega
  have h45:¬(c.toNat=45):=by omega
  unfold Lib.atoiAll
  simp only [if_neg h43]
  unfold Lib.parseMag
  rw [if_neg (by simp),hp]
  simp only
  rw [if_neg (by omega),if_neg (fun q=>h45 q.1),if_neg h45]
theorem Znw {s:ByteArray} {v:Int} (h:(⟨(Lib.itoa v).toArray⟩:ByteArray)=s) (h0:0≤v) (h1:v≤1000000000):Zbd s=true:=by
 obtain ⟨n,rfl⟩:=Int.eq_ofNat_of_zero_le h0
 refine ZfC.2 ⟨n,by omega,?_⟩
 rw [← h]
 show (⟨(Lib.decDigits n).toArray⟩:ByteArray)=_
 rw [Lib.itoa_nonneg]
def ZeI (x:List UInt8):Prop:=x≠[]∧∀ b∈x,Lib.isSp b=false
theorem ZcQ:∀ (l cur:List UInt8),(∀ b∈cur,Lib.isSp b=false)→∀ x∈Lib.fieldsGo cur l,ZeI x
 |[],cur,hc,x,hx=>by
  unfold Lib.fieldsGo at hx
  cases cur with
  |nil=>simp at hx
  |cons b r =>
   simp at hx
   subst hx
   exact ⟨by simp,hc⟩
 |b :: l,cur,hc,x,hx=>by
  unfold Lib.fieldsGo at hx
  split at hx
  ·split at hx
   ·exact ZcQ l [] (by simp) x hx
   ·rename_i hne
    rcases List.mem_cons.1 hx with rfl|hx
    ·exact ⟨by rintro rfl;simp at hne,hc⟩
    ·exact ZcQ l [] (by simp) x hx
  ·rename_i hb
   refine ZcQ l (cur++[b]) ?_ x hx
   intro c hcm
   rcases List.mem_append.1 hcm with h|h
   ·exact hc c h
   ·simp at h;subst h;simpa using hb
theorem ZjI (s:List UInt8):∀ x∈Lib.fields s,ZeI x:=ZcQ s [] (by simp)
theorem Zd8:∀ (x cur r:List UInt8),(∀ b∈x,Lib.isSp b=false)→Lib.fieldsGo cur (x++r)=Lib.fieldsGo (cur++x) r
 |[],cur,r,_=>by simp
 |b :: x,cur,r,h=>by
  rw [List.cons_append,Lib.fieldsGo_more _ _ _ (h b (by simp)),Zd8 x (cur++[b]) r fun c hc=>h c (by simp [hc])]
  simp
theorem Zg6:∀ (r:List (List UInt8)) (x:List UInt8),ZeI x→(∀ y∈r,ZeI y)→Lib.fieldsGo x (Lib.joinTail [32] r)=x :: r
 |[],x,hx,_=>by
  show Lib.fieldsGo x []=[x]
  unfold Lib.fieldsGo
  cases x with
  |nil=>exact absurd rfl hx.1
  |cons _ _=>simp
 |y :: r,x,hx,hr=>by
  have e:Lib.joinTail [32] (y :: r)=32 :: (y++Lib.joinTail [32] r):=by simp [Lib.joinTail]
  have hy:=hr y (by simp)
  rw [e,Lib.fieldsGo_end x 32 _ (by decide) hx.1,Zd8 y [] _ hy.2,List.nil_append,Zg6 r y hy fun z hz=>hr z (by simp [hz])]
theorem Zg8 (p:List (List UInt8)) (h:∀ x∈p,ZeI x):Lib.fields (Lib.join p [32])=p:=by
 cases p with
 |nil=>rfl
 |cons x r =>
  have hx:=h x (by simp)
  rw [Lib.join_cons]
  unfold Lib.fields
  rw [Zd8 x [] _ hx.2,List.nil_append,Zg6 r x hx fun z hz=>h z (by simp [hz])]
def ZaP (s:ByteArray):List ByteArray:=(Lib.fields s.data.toList).map fun l=>⟨l.toArray⟩
def ZbI (s:ByteArray):Bool:=decide (s.size≤600)&&(s.data.toList.all (fun c=>decide (32≤c.toNat)&&decide (c.toNat≤126))&&decide ((ZaP s).length≤24))
def ZeG (p:List ByteArray):Prop:=∀ x∈p,ZeI x.data.toList
theorem ZhU (s:ByteArray):ZeG (ZaP s):=by
 intro x hx
 unfold ZaP at hx
 obtain ⟨l,hl,rfl⟩:=List.mem_map.1 hx
 simpa using ZjI _ l hl
def ZbC (p:List ByteArray):ByteArray:=⟨(Lib.join (p.map (·.data.toList)) [32]).toArray⟩
theorem Zng {p q:List ByteArray} (hp:ZeG p) (hq:ZeG q) (h:ZbC p=ZbC q):p=q:=by
 have h2:Lib.join (p.map (·.data.toList)) [32]=Lib.join (q.map (·.data.toList)) [32]:=by
  have:=congrArg (fun x:ByteArray=>x.data.toList) h
  simpa [ZbC] using this
 have h3:=congrArg Lib.fields h2
 rw [Zg8 _ (by intro x hx;obtain ⟨y,hy,rfl⟩:=List.mem_map.1 hx;exact hp y hy),Zg8 _ (by intro x hx;obtain ⟨y,hy,rfl⟩:=List.mem_map.1 hx;exact hq y hy)] at h3
 have inj:Function.Injective (fun x:ByteArray=>x.data.toList):=fun a b h=>ZbZ h
 exact List.map_inj_right (fun _ _ h=>inj h)|>.1 h3
def ZeP (k a b:Nat):List ByteArray:=if ZeZ k=0 then [ZaH k] else if ZeZ k=1 then [ZaH k,Zan a] else [ZaH k,Zan a,Zan b]
theorem ZkB (k a b:Nat):1≤(ZeP k a b).length∧(ZeP k a b).length≤3:=by
 unfold ZeP;split
 ·exact ⟨by simp,by simp⟩
 ·split <;> exact ⟨by simp,by simp⟩
theorem ZmZ (k a b:Nat):(ZeP k a b).getD 0 ⟨#[]⟩=ZaH k:=by
 unfold ZeP;split
 ·rfl
 ·split <;> rfl
theorem Zjo (x:ByteArray):ZbC [x]=x:=by apply ZbZ;simp [ZbC,Lib.join_one]
theorem Znm (x y:ByteArray):ZbC [x,y]=x++(⟨#[32]⟩++y):=by
 apply ZbZ;simp [ZbC,Lib.join_cons,Lib.joinTail,ByteArray.data_append]
theorem Zky (x y z:ByteArray):ZbC [x,y,z]=x++(⟨#[32]⟩++y)++(⟨#[32]⟩++z):=by
 apply ZbZ;simp [ZbC,Lib.join_cons,Lib.joinTail,ByteArray.data_append]
theorem Znl (k a b:Nat):Zey k a b=ZbC (ZeP k a b):=by
 unfold Zey ZeP
 split
 ·rw [Zjo]
 ·split
  ·rw [Znm]
  ·rw [Zky]
theorem Zly {l:List UInt8} (h:Zdz l=true) (h0:l≠[]):ZeI l:=by
 refine ⟨h0,fun b hb=>?_⟩
 unfold Zdz at h
 rw [List.all_eq_true] at h
 have:=h b hb
 simp only [Bool.and_eq_true,decide_eq_true_eq] at this
 unfold Lib.isSp
 simp only [Bool.or_eq_false_iff,beq_eq_false_iff_ne]
 refine ⟨⟨⟨⟨⟨?_,?_⟩,?_⟩,?_⟩,?_⟩,?_⟩ <;> (rintro rfl;revert this;decide)
theorem Zfp (n:Nat):ZeI (Zan n).data.toList:=by
 refine Zly (Zh7 n) ?_
 intro e
 have h1:Lib.decDigits n=[]:=e
 have:=Lib.decDigits_length n
 rw [h1] at this
 have:=Lib.nDigits_pos n
 simp at *
 omega
theorem ZfH:∀ k,ZeI (ZaH k).data.toList:=by
 intro k
 unfold ZaH
 split <;> exact ⟨by decide,by decide⟩
theorem Zll (k a b:Nat):ZeG (ZeP k a b):=by
 intro x hx
 unfold ZeP at hx
 split at hx
 ·simp at hx;subst hx;exact ZfH k
 ·split at hx
  ·simp at hx;rcases hx with rfl|rfl
   ·exact ZfH k
   ·exact Zfp a
  ·simp at hx;rcases hx with rfl|rfl|rfl
   ·exact ZfH k
   ·exact Zfp a
   ·exact Zfp b
theorem ZhJ {p:List ByteArray} (hp:ZeG p) (k a b:Nat):Zey k a b=ZbC p↔ZeP k a b=p:=by
 rw [Znl]
 exact ⟨fun h=>Zng (Zll k a b) hp h,fun h=>by rw [h]⟩
def Zdb:Nat→ByteArray→Nat
 |0,_=>0
 |j+1,x=>if ZaH (j+1)=x then j+1 else Zdb j x
theorem Znp {k:Nat} (h1:1≤k) (h8:k≤8):Zdb 8 (ZaH k)=k:=by
 obtain rfl|rfl|rfl|rfl|rfl|rfl|rfl|rfl:k=1∨k=2∨k=3∨k=4∨k=5∨k=6∨k=7∨k=8:=by omega
 all_goals decide
def pK (p:List ByteArray):Nat:=Zdb 8 (p.getD 0 ⟨#[]⟩)
def pN (p:List ByteArray) (i:Nat):Nat:=Zbt (p.getD i ⟨#[]⟩)
theorem Zc1:Zbt ⟨#[]⟩=0:=by
 unfold Zbt
 rw [if_neg]
 intro h
 obtain ⟨n,hn,h2⟩:=ZfC.1 h
 have:=Zfp n
 rw [h2] at this
 exact this.1 rfl
def ZbE (p:List ByteArray):Bool:=ZaW (pK p) (pN p 1) (pN p 2)&&decide (ZeP (pK p) (pN p 1) (pN p 2)=p)
theorem Zj0 {p:List ByteArray} {k a b:Nat} (h:ZaW k a b=true) (hp:ZeP k a b=p):pK p=k∧pN p 1=a∧pN p 2=b:=by
 obtain ⟨hk,A,B,hA,hB,hA9,hB9⟩:=Zcq h
 have h0:pK p=k:=by
  unfold pK
  rw [← hp,ZmZ]
  exact Znp (by omega) (by omega)
 have na:=(Zco (n:=a) (by omega)).2
 have nb:=(Zco (n:=b) (by omega)).2
 refine ⟨h0,?_,?_⟩
 ·unfold pN
  rw [← hp]
  unfold ZeP
  split
  ·rename_i hw
   have:a=0:=by
    unfold ZeZ at hw
    unfold ZaW at h
    rcases hk with hk|hk|hk|hk|hk|hk|hk|hk <;> (have hk':k=_:=Int.ofNat_inj.1 hk) <;> subst hk' <;> simp_all
   subst this
   exact Zc1
  ·split <;> exact na
 ·unfold pN
  rw [← hp]
  unfold ZeP
  split
  ·rename_i hw
   have:b=0:=by
    unfold ZeZ at hw
    unfold ZaW at h
    rcases hk with hk|hk|hk|hk|hk|hk|hk|hk <;> (have hk':k=_:=Int.ofNat_inj.1 hk) <;> subst hk' <;> simp_all
   subst this
   exact Zc1
  ·split
   ·rename_i hw
    have:b=0:=by
     unfold ZeZ at hw
     unfold ZaW at h
     rcases hk with hk|hk|hk|hk|hk|hk|hk|hk <;> (have hk':k=_:=Int.ofNat_inj.1 hk) <;> subst hk' <;> simp_all
    subst this
    exact Zc1
   ·exact nb
theorem Zon {p:List ByteArray} {k a b:Nat} (h:ZaW k a b=true) (hp:ZeP k a b=p):ZbE p=true:=by
 obtain ⟨h1,h2,h3⟩:=Zj0 h hp
 unfold ZbE
 rw [h1,h2,h3,h,hp];simp
theorem Zjv {p:List ByteArray} (h:ZbE p=true):1≤p.length∧p.length≤3:=by
 unfold ZbE at h
 simp only [Bool.and_eq_true,decide_eq_true_eq] at h
 have:=ZkB (pK p) (pN p 1) (pN p 2)
 rwa [h.2] at this
theorem Znt {p:List ByteArray} (h:ZbE p=true) {i:Nat} (hi:i<p.length) (h1:1≤i):Zbd p[i]=true:=by
 unfold ZbE at h
 simp only [Bool.and_eq_true,decide_eq_true_eq] at h
 obtain ⟨_,A,B,hA,hB,_,_⟩:=Zcq h.1
 have h2:=h.2
 have hl:=(ZkB (pK p) (pN p 1) (pN p 2)).2
 rw [h2] at hl
 have na:=(Zco (n:=pN p 1) (by omega)).1
 have nb:=(Zco (n:=pN p 2) (by omega)).1
 generalize pN p 1=a at *
 generalize pN p 2=b at *
 generalize pK p=k at *
 subst h2
 unfold ZeP at hi ⊢
 split at hi
 ·simp at hi;omega
 ·split at hi
  ·rename_i q1 q2
   simp at hi
   have:i=1:=by omega
   subst this
   simp only [if_neg q1,if_pos q2]
   exact na
  ·rename_i q1 q2
   simp at hi
   simp only [if_neg q1,if_neg q2]
   obtain rfl|rfl:i=1∨i=2:=by omega
   ·exact na
   ·exact nb
def ZhW (p:List ByteArray):(Nat×Nat×Nat)×Bool:=if ZbE p=true then ((pK p,pN p 1,pN p 2),true) else ((0,0,0),false)
def SpI (s:ByteArray) (i b:Nat) (xs:List ByteArray):Prop :=
 b≤i∧i≤s.size∧xs.map (·.data.toList)++Lib.fieldsGo ((s.data.toList.take i).drop b) (s.data.toList.drop i)=Lib.fields s.data.toList∧xs.length≤i∧∀ x∈xs,x.size≤s.size
theorem SpI.start (s:ByteArray):SpI s 0 0 []:=⟨Nat.le_refl _,Nat.zero_le _,by simp [Lib.fields],Nat.zero_le _,by simp⟩
theorem ZmC {s:ByteArray} {i b:Nat} (hi:i<s.size) (hb:b≤i):(s.data.toList.take (i+1)).drop b=(s.data.toList.take i).drop b++[s[i]]:=by
 rw [Zcy s i hi,List.drop_append_of_le_length (by rw [List.length_take];simp;omega)]
theorem Zf7 {s:ByteArray} {i:Nat} (hi:i<s.size):s.data.toList.drop i=s[i] :: s.data.toList.drop (i+1):=by
 rw [List.drop_eq_getElem_cons (by simpa using hi)];rfl
theorem Zk6 {s:ByteArray} {i b:Nat} (hi:i≤s.size):(s.extract b i).data.toList=(s.data.toList.take i).drop b:=by
 simp [ByteArray.data_extract,Array.toList_extract,List.drop_take]
theorem Ze8 {s:ByteArray} {i b:Nat} (hb:¬b<i):(s.data.toList.take i).drop b=[]:=by
 rw [List.drop_eq_nil_iff,List.length_take];omega
theorem Zmt {s:ByteArray} {i b:Nat} (hi:i≤s.size) (hb:b<i):(s.data.toList.take i).drop b≠[]:=by
 intro h
 rw [List.drop_eq_nil_iff,List.length_take] at h
 have:s.data.toList.length=s.size:=by simp
 omega
theorem SpI.more {s:ByteArray} {i b:Nat} {xs:List ByteArray} (h:SpI s i b xs) (hi:i<s.size) (hc:Lib.isSp s[i]=false):SpI s (i+1) b xs:=by
 obtain ⟨h1,h2,h3,h4,h5⟩:=h
 refine ⟨by omega,by omega,?_,by omega,h5⟩
 rw [ZmC hi h1,← h3,Zf7 hi,Lib.fieldsGo_more _ _ _ hc]
theorem SpI.gap {s:ByteArray} {i b:Nat} {xs:List ByteArray} (h:SpI s i b xs) (hi:i<s.size) (hc:Lib.isSp s[i]=true) (hb:¬b<i):SpI s (i+1) (i+1) xs:=by
 obtain ⟨h1,h2,h3,h4,h5⟩:=h
 refine ⟨Nat.le_refl _,by omega,?_,by omega,h5⟩
 rw [Ze8 (Nat.lt_irrefl _),← h3,Ze8 hb,Zf7 hi,Lib.fieldsGo_sp _ _ hc]
theorem SpI.word {s:ByteArray} {i b:Nat} {xs:List ByteArray} (h:SpI s i b xs) (hi:i<s.size) (hc:Lib.isSp s[i]=true) (hb:b<i):SpI s (i+1) (i+1) (xs++[s.extract b i]):=by
 obtain ⟨h1,h2,h3,h4,h5⟩:=h
 refine ⟨Nat.le_refl _,by omega,?_,by simp;omega,?_⟩
 ·rw [Ze8 (Nat.lt_irrefl _),← h3,List.map_append,Zf7 hi,Lib.fieldsGo_end _ _ _ hc (Zmt h2 hb)]
  simp only [List.map_cons,List.map_nil]
  rw [Zk6 h2];simp
 ·intro x hx
  rcases List.mem_append.1 hx with hx|hx
  ·exact h5 x hx
  ·simp at hx;subst hx;rw [ByteArray.size_extract];omega
theorem Zmf {s:ByteArray} {xs:List ByteArray} (h:xs.map (·.data.toList)=Lib.fields s.data.toList):xs=ZaP s:=by
 unfold ZaP
 rw [← h,List.map_map]
 symm
 refine (List.map_congr_left fun x _=>?_).trans (List.map_id _)
 apply ZbZ;simp
theorem SpI.end_gap {s:ByteArray} {b:Nat} {xs:List ByteArray} (h:SpI s s.size b xs) (hb:¬b<s.size):xs=ZaP s:=by
 obtain ⟨h1,h2,h3,h4,h5⟩:=h
 rw [Ze8 hb,List.drop_of_length_le (by simp)] at h3
 exact Zmf (by rw [← h3];simp [Lib.fieldsGo])
theorem SpI.end_word {s:ByteArray} {b:Nat} {xs:List ByteArray} (h:SpI s s.size b xs) (hb:b<s.size):xs++[s.extract b s.size]=ZaP s:=by
 obtain ⟨h1,h2,h3,h4,h5⟩:=h
 have hne:=Zmt h2 hb
 refine Zmf ?_
 rw [← h3,List.map_append,List.drop_of_length_le (show s.data.toList.length≤s.size by simp)]
 simp only [List.map_cons,List.map_nil]
 rw [Zk6 h2]
 unfold Lib.fieldsGo
 cases hq:(s.data.toList.take s.size).drop b with
 |nil=>exact absurd hq hne
 |cons _ _=>simp
theorem Zn6 (s:ByteArray):(ZaP s).length≤s.size:=by
 unfold ZaP
 rw [List.length_map,Lib.fields_length]
 have:∀ (l:List UInt8) (b:Bool),Lib.cntF b l≤l.length:=by
  intro l
  induction l with
  |nil=>intro b;exact Nat.le_refl _
  |cons x l ih=>intro b;have:=ih (Lib.isSp x);unfold Lib.cntF;simp;split <;> omega
 have h:=this s.data.toList true
 simpa using h
theorem Zdh:∀ (l cur:List UInt8),∀ x∈Lib.fieldsGo cur l,x.length≤cur.length+l.length
 |[],cur,x,hx=>by
  unfold Lib.fieldsGo at hx
  split at hx
  ·cases hx
  ·simp at hx;subst hx;omega
 |b :: l,cur,x,hx=>by
  unfold Lib.fieldsGo at hx
  split at hx
  ·split at hx
   ·have:=Zdh l [] x hx;simp at this ⊢;omega
   ·rcases List.mem_cons.1 hx with rfl|hx
    ·omega
    ·have:=Zdh l [] x hx;simp at this ⊢;omega
  ·have:=Zdh l (cur++[b]) x hx;simp at this ⊢;omega
theorem Zi1 {s x:ByteArray} (hx:x∈ZaP s):x.size≤s.size:=by
 unfold ZaP at hx
 obtain ⟨l,hl,rfl⟩:=List.mem_map.1 hx
 have:=Zdh s.data.toList [] l hl
 simp at this
 exact this
def pr (c:UInt8):Bool:=decide (32≤c.toNat)&&decide (c.toNat≤126)
theorem Zqa {c:UInt8} (h:pr c=true):Lib.isSp c=(c==32):=by
 unfold pr at h
 simp only [Bool.and_eq_true,decide_eq_true_eq] at h
 unfold Lib.isSp
 have h1:∀ k:UInt8,k.toNat<32→(c==k)=false:=by
  intro k hk
  rw [beq_eq_false_iff_ne];rintro rfl;omega
 rw [h1 9 (by decide),h1 10 (by decide),h1 11 (by decide),h1 12 (by decide),h1 13 (by decide)]
 rfl
theorem Zcz {s:ByteArray}:ZbI s=true↔s.size≤600∧(∀ i (h:i<s.size),pr s[i]=true)∧(ZaP s).length≤24:=by
 unfold ZbI
 rw [Bool.and_eq_true,Bool.and_eq_true,decide_eq_true_eq,decide_eq_true_eq,List.all_eq_true]
 refine ⟨fun ⟨h1,h2,h3⟩=>⟨h1,fun i hi=>?_,h3⟩,fun ⟨h1,h2,h3⟩=>⟨h1,fun c hc=>?_,h3⟩⟩
 ·have:=h2 s[i] (by have:s[i]=s.data.toList[i]'(by simpa using hi):=rfl;rw [this];exact List.getElem_mem _)
  exact this
 ·obtain ⟨i,hi,rfl⟩:=List.getElem_of_mem hc
  have:=h2 i (by simpa using hi)
  unfold pr at this
  exact this
theorem Zir {s:ByteArray} (h:600<s.size):ZbI s=false:=by
 cases hq:ZbI s with
 |false=>rfl
 |true=>have:=(Zcz.1 hq).1;omega
theorem Zfo {s:ByteArray} {i:Nat} (hi:i<s.size) (h:pr s[i]=false):ZbI s=false:=by
 cases hq:ZbI s with
 |false=>rfl
 |true=>have:=(Zcz.1 hq).2.1 i hi;rw [h] at this;cases this
theorem Zit {s:ByteArray} (h:24<(ZaP s).length):ZbI s=false:=by
 cases hq:ZbI s with
 |false=>rfl
 |true=>have:=(Zcz.1 hq).2.2;omega
theorem okT {s:ByteArray} {i:Nat} (h:∀ k (hk:k<s.size),k<i→pr s[k]=true) (hi:i<s.size) (h2:pr s[i]=true):∀ k (hk:k<s.size),k<i+1→pr s[k]=true:=by
 intro k hk hki
 by_cases h3:k<i
 ·exact h k hk h3
 ·have:k=i:=by omega
  subst this;exact h2
theorem ZgN {w w':World} {nm:String} {cs:Array Value} (h:w.var? Tryz.prog nm=some cs) (hb:Below w.heap.size w w'):w'.var? Tryz.prog nm=some cs:=by
 unfold World.var? at h ⊢
 cases hg:Tryz.prog.globalNamed nm with
 |none=>rw [hg] at h;cases h
 |some g =>
  rw [hg] at h
  have hlt:g<w.heap.size:=by
   by_cases h0:g<w.heap.size
   ·exact h0
   ·simp [Array.getElem?_eq_none (Nat.le_of_not_lt h0)] at h
  simp only [Option.bind_some] at h ⊢
  rw [hb.block g hlt]
  exact h
structure ZiS (w:World):Prop where
 syn : ∃ t p, w.var? Tryz.prog "strconv.ErrSyntax" = some #[.iface t p]
 ran : ∃ t p, w.var? Tryz.prog "strconv.ErrRange" = some #[.iface t p]
 asc : Lib.TabIs Tryz.prog w "strings.asciiSpace" .u8 Lib.asciiSpaceTab
 tab:Tab w
theorem ZiS.below {w w':World} (h:ZiS w) (hb:Below w.heap.size w w'):ZiS w':=by
 obtain ⟨⟨t,p,h1⟩,⟨t2,p2,h2⟩,h3,h4⟩:=h
 exact ⟨⟨t,p,ZgN h1 hb⟩,⟨t2,p2,ZgN h2 hb⟩,ZgN h3 hb,h4.below hb⟩
theorem ZlD (s:ByteArray) (w:World) (hz:s.size≤16777216) (hE:ZiS w) (h:¬∃ v,Lib.atoiAll s.data.toList=.ok v) :
  Calls Tryz.prog 109 #[.string s] w fun e w'=>∃ (v:Int) (t N:Nat),e=.returned (.tuple #[.int .i64 v,.iface t (.pointer (some ⟨N,0,none⟩))])∧Below w.heap.size w w':=by
 obtain ⟨⟨t1,p1,h1⟩,⟨t2,p2,h2⟩,_,_⟩:=hE
 cases hq:Lib.atoiAll s.data.toList
 ·exact absurd ⟨_,hq⟩ h
 ·have q:=Any.strconv_Atoi_syntax_var Tryz.laysC172 s (by omega) hq t1 p1 w h1
  exact q.mono fun e w' ⟨N,he,_,_,hb⟩=>⟨_,_,N,he,hb⟩
 ·have q:=Any.strconv_Atoi_range_var Tryz.laysC172 s (by omega) hq t2 p2 w h2
  exact q.mono fun e w' ⟨N,he,_,_,hb⟩=>⟨_,_,N,he,hb⟩
theorem Zkf (s:ByteArray) (w:World) (hz:s.size≤16777216) (hE:ZiS w) :
  Calls Tryz.prog 64 #[.string s] w fun e w'=>e=.returned (.tuple #[.int .i64 (Zbt s),.bool (Zbd s)])∧Below w.heap.size w w':=by
 have hno:Zbd s=false→Zbt s=0:=by intro h;unfold Zbt;rw [h];rfl
 by_cases hnok:∃ v,Lib.atoiAll s.data.toList=.ok v
 ·obtain ⟨v,hq⟩:=hnok
  have HA:=Zk (Tryz.strconv_Atoi_ok s (by omega) v hq w)
  have HB:=Zk (fun h0 h1 h=>Znw (s:=s) (v:=v) h h0 h1)
  have HY:=Zk (fun h=>(ZkU (s:=s) h).symm.trans hq)
  clear hq
  go_enter Tryz.func64,Tryz.ntmps64
  go_wp2_with fail
  refine HA.out.mono ?_
  clear HA
  rintro e w1 ⟨rfl,hw⟩
  have hb:Below w.heap.size w w1:=by
   rcases hw with rfl|⟨t,rfl⟩
   ·exact Below.refl _ _
   ·exact Lib.bytesWorld_below _ _ _
  clear hw
  by_cases hr:0≤v∧v≤1000000000
  ·obtain ⟨n,rfl⟩:=Int.eq_ofNat_of_zero_le hr.1
   have hn:n≤1000000000:=by omega
   have hin:inB n 0 1000000000=true:=by simp [inB];omega
   go_wp2_with (go_at_call 71;refine (Zbl _ _ _ _).mono ?_;rw [hin];rintro e w' ⟨rfl,rfl⟩)
   refine (Tryz.strconv_Itoa n (by omega) (by omega) _ (hE.tab.below hb)).mono ?_
   rintro e w2 ⟨rfl,hk⟩
   have hb2:Below w.heap.size w w2:=by
    obtain ⟨k,os,hk⟩:=hk
    rw [hk]
    exact hb.trans ((ZkX _ k os).mono hb.size)
   clear hk
   rw [Zkb]
   by_cases he:Zan n=s
   ·have h1:=Zco hn
    rw [he] at h1
    have HV:=Lib.hid h1
    clear h1
    have hne:=ZaU he
    go_wp2
    go_ret2
    rw [HV.out.1,HV.out.2]
    exact ⟨rfl,hb2⟩
   ·have hne:=ZaN he
    have HF:Hid (Zbd s=false):=by
     cases hu:Zbd s with
     |false=>rfl
     |true =>
      have h1:=HY.out hu
      injection h1 with h1
      have h2:=Zi9 hu
      have h3:Zbt s=n:=by omega
      rw [h3] at h2
      exact absurd h2 he
    go_wp2
    go_ret2
    rw [HF.out,hno HF.out]
    exact ⟨rfl,hb2⟩
  ·have hin:inB v 0 1000000000=false:=by
    cases h:inB v 0 1000000000 with
    |false=>rfl
    |true=>exact absurd (by simpa [inB] using h:0≤v∧v≤1000000000) hr
   have HF:Hid (Zbd s=false):=by
    cases hu:Zbd s with
    |false=>rfl
    |true =>
     have h1:=HY.out hu
     injection h1 with h1
     have:=ZdL s
     omega
   go_wp2_with (go_at_call 71;refine (Zbl _ _ _ _).mono ?_;rw [hin];rintro e w' ⟨rfl,rfl⟩)
   go_ret2
   rw [HF.out,hno HF.out]
   exact ⟨rfl,hb⟩
 ·have HF:Hid (Zbd s=false):=by
   cases hu:Zbd s with
   |false=>rfl
   |true=>exact absurd ⟨_,ZkU hu⟩ hnok
  have HA:=Zk (ZlD s w (by omega) hE hnok)
  clear hnok
  go_enter Tryz.func64,Tryz.ntmps64
  go_wp2_with fail
  refine HA.out.mono ?_
  clear HA
  rintro e w1 ⟨v,t,N,rfl,hb⟩
  go_wp2
  go_ret2
  rw [HF.out,hno HF.out]
  exact ⟨rfl,hb⟩
theorem ZmN {s:ByteArray} (h:10<s.size):Zbd s=false:=by
 cases hu:Zbd s with
 |false=>rfl
 |true =>
  unfold Zbd at hu
  simp only [Bool.and_eq_true,decide_eq_true_eq] at hu
  omega
theorem ZnI {s:ByteArray} {k:Nat} (hk:k<s.size) (h:¬(48≤s[k].toNat∧s[k].toNat≤57)):Zbd s=false:=by
 cases hu:Zbd s with
 |false=>rfl
 |true =>
  unfold Zbd Zdz at hu
  simp only [Bool.and_eq_true,decide_eq_true_eq,List.all_eq_true] at hu
  exact absurd (hu.2.1 s[k] (List.getElem_mem (l:=s.data.toList) (by simpa using hk))) h
theorem ZmI {s:ByteArray} {k:Nat} (hk:k<s.size):Zds 0 (s.data.toList.take (k+1))=10 * Zds 0 (s.data.toList.take k)+(s[k].toNat - 48):=by
 rw [Zcy s k hk,Zha];rfl
theorem Zmc:∀ (l:List UInt8) (n:Nat),Zdz l=true→Zds n l<(n+1) * 10 ^ l.length
 |[],n,_=>by simp [Zds]
 |c :: l,n,h=>by
  unfold Zdz at h
  simp only [List.all_cons,Bool.and_eq_true,decide_eq_true_eq] at h
  have ih:=Zmc l (10 * n+(c.toNat - 48)) h.2
  show Zds (10 * n+(c.toNat - 48)) l<_
  have h2:(10 * n+(c.toNat - 48)+1) * 10 ^ l.length≤((n+1) * 10) * 10 ^ l.length:=Nat.mul_le_mul_right _ (by omega)
  rw [List.length_cons,Nat.pow_succ,Nat.mul_comm (10 ^ l.length) 10,← Nat.mul_assoc]
  omega
theorem ZoR {s:ByteArray} {k:Nat} (h:Zdz (s.data.toList.take k)=true) (hk:k≤10):Zds 0 (s.data.toList.take k)<10000000000:=by
 have h1:=Zmc _ 0 h
 have h2:(s.data.toList.take k).length≤10:=by rw [List.length_take];omega
 have h3:10 ^ (s.data.toList.take k).length≤10 ^ 10:=Nat.pow_le_pow_right (by decide) h2
 omega
theorem Zoj {s:ByteArray} (h1:s.size≤10) (h2:Zdz s.data.toList=true):Zbd s=(decide (Zds 0 s.data.toList≤1000000000)&&decide (Zan (Zds 0 s.data.toList)=s)):=by
 unfold Zbd;rw [h2];simp [h1]
theorem ZmL {s:ByteArray} {k:Nat} (hk:k<s.size) (h:Zdz (s.data.toList.take k)=true) (h2:48≤s[k].toNat∧s[k].toNat≤57):Zdz (s.data.toList.take (k+1))=true:=by
 rw [Zcy s k hk,Zg7,h]
 unfold Zdz
 simp [h2.1,h2.2]
theorem ZeU (s:ByteArray) (w:World) (hz:s.size≤16777216) :
  Calls Tryz.prog 170 #[.string s] w fun e w'=>e=.returned (.tuple #[.int .i64 (Zbt s),.bool (Zbd s)])∧Below w.heap.size w w':=by
 have hno:Zbd s=false→Zbt s=0:=by intro h;unfold Zbt;rw [h];rfl
 by_cases hl:10<s.size
 ·have HF:=Lib.hid (ZmN hl)
  go_enter Tryz.func170,Tryz.ntmps170
  go_wp2
  go_ret2
  rw [HF.out,hno HF.out]
  exact ⟨rfl,Below.refl _ _⟩
 ·go_enter Tryz.func170,Tryz.ntmps170
  go_wp2
  go_loop [4,5] (fun n i=>∃ k:Nat,k≤s.size∧i=.int .i64 k∧n=.int .i64 (Zds 0 (s.data.toList.take k))∧Hid (Zdz (s.data.toList.take k)=true)) (fun _ i=>s.size - (intOf i).toNat)
  case atStart=>exact ⟨0,Nat.zero_le _,rfl,rfl,rfl⟩
  case round =>
   obtain ⟨k,hk,rfl,rfl,HD⟩:=hrel
   have hbd:=ZoR HD.out (by omega)
   by_cases hlt:k<s.size
   ·by_cases h1:48≤s[k].toNat∧s[k].toNat≤57
    ·have HS:=Lib.hid (ZmI hlt)
     have HG:=Lib.hid (ZmL hlt HD.out h1)
     obtain ⟨h1a,h1b⟩:=h1
     obtain ⟨D,hD⟩:∃ D,Zds 0 (s.data.toList.take k)=D:=⟨_,rfl⟩
     rw [hD] at hbd HS ⊢
     clear hD
     have hw1:IntKind.i64.wrap (10 * (D:Int))=10 * (D:Int):=by rw [IntKind.wrap_i64];omega
     have hw2:IntKind.i64.wrap (10 * (D:Int)+(s[k].toNat:Int))=10 * (D:Int)+(s[k].toNat:Int):=by rw [IntKind.wrap_i64];omega
     have hw3:IntKind.i64.wrap (10 * (D:Int)+(s[k].toNat:Int) - 48)=10 * (D:Int)+(s[k].toNat:Int) - 48:=by rw [IntKind.wrap_i64];omega
     have b1:decide ((s[k].toNat:Int)<48)=false:=by simp;omega
     have b2:decide ((s[k].toNat:Int) > 57)=false:=by simp;omega
     go_wp2
     go_round
     case rel=>exact ⟨k+1,by omega,by go_num,by rw [HS.out];go_num,HG⟩
     case measure=>simp [intOf];omega
    ·have HF:=Lib.hid (ZnI hlt h1)
     by_cases h2:48≤s[k].toNat
     ·have b1:decide ((s[k].toNat:Int)<48)=false:=by simp;omega
      have b2:decide ((s[k].toNat:Int) > 57)=true:=by simp;omega
      go_wp2
      go_ret2
      rw [HF.out,hno HF.out]
      exact ⟨rfl,Below.refl _ _⟩
     ·have b1:decide ((s[k].toNat:Int)<48)=true:=by simp;omega
      go_wp2
      go_ret2
      rw [HF.out,hno HF.out]
      exact ⟨rfl,Below.refl _ _⟩
   ·have hks:k=s.size:=by omega
    subst hks
    have ht:s.data.toList.take s.size=s.data.toList:=List.take_of_length_le (by simp)
    rw [ht] at HD hbd ⊢
    have HU:=Lib.hid (Zoj (by omega) HD.out)
    obtain ⟨D,hD⟩:∃ D,Zds 0 s.data.toList=D:=⟨_,rfl⟩
    have HV:Hid (Zbd s=true→Zbt s=D):=by intro h;unfold Zbt;rw [if_pos h,hD]
    rw [hD] at hbd HU ⊢
    clear hD ht
    by_cases hD9:D≤1000000000
    ·go_wp2_with fail
     refine (ZbJ D _ hD9).mono ?_
     rintro e w1 ⟨rfl,hb1⟩
     by_cases he:Zan D=s
     ·have hne:=ZaU he
      have HT:Hid (Zbd s=true):=by
       have:=HU.out
       rw [decide_eq_true hD9,decide_eq_true he] at this
       exact this
      go_wp2
      go_ret2
      rw [HT.out,HV.out HT.out]
      exact ⟨rfl,hb1⟩
     ·have hne:=ZaN he
      have HF:Hid (Zbd s=false):=by
       have:=HU.out
       rw [decide_eq_false he,Bool.and_false] at this
       exact this
      go_wp2
      go_ret2
      rw [HF.out,hno HF.out]
      exact ⟨rfl,hb1⟩
    ·have HF:Hid (Zbd s=false):=by
      have:=HU.out
      rw [decide_eq_false hD9,Bool.false_and] at this
      exact this
     go_wp2
     go_ret2
     rw [HF.out,hno HF.out]
     exact ⟨rfl,Below.refl _ _⟩
theorem Zfu (s:ByteArray) (w:World) (hE:ZiS w) (hz:s.size≤16777216) :
  Calls Tryz.prog 63 #[.string s] w fun e w'=>(ZbI s=false∧e=.returned (.tuple #[.slice none 0 0,.bool false])∧Below w.heap.size w w')∨(ZbI s=true∧∃ A c,e=.returned (.tuple #[.slice A (ZaP s).length c,.bool true])∧w'.ownsRow w.heap.size 9 1 (.slice A (ZaP s).length c) (ZaP s).length ((ZaP s).map Value.string)∧Below w.heap.size w w'):=by
 by_cases hl:600<s.size
 ·have HF:=Lib.hid (Zir hl)
  go_enter Tryz.func63,Tryz.ntmps63
  go_wp2
  go_ret2
  exact .inl ⟨HF.out,rfl,Below.refl _ _⟩
 ·go_enter Tryz.func63,Tryz.ntmps63
  go_wp2
  go_loop [4,11] (fun _ i=>∃ k:Nat,k≤s.size∧i=.int .i64 k∧Hid (∀ j (hj:j<s.size),j<k→pr s[j]=true)) (fun _ i=>s.size - (intOf i).toNat)
  case atStart=>exact ⟨0,Nat.zero_le _,rfl,fun j _ h=>absurd h (Nat.not_lt_zero _)⟩
  case round =>
   obtain ⟨k,hk,rfl,HP⟩:=hrel
   by_cases hlt:k<s.size
   ·by_cases h1:32≤s[k].toNat
    ·have b1:decide ((s[k].toNat:Int)<32)=false:=by simp;omega
     by_cases h2:s[k].toNat≤126
     ·have b2:decide ((s[k].toNat:Int) > 126)=false:=by simp;omega
      have HN:=Zk (okT HP.out hlt (by unfold pr;simp [h1,h2]))
      go_wp2
      go_round
      case rel=>exact ⟨k+1,by omega,by go_num,HN⟩
      case measure=>simp [intOf];omega
     ·have b2:decide ((s[k].toNat:Int) > 126)=true:=by simp;omega
      have HF:=Lib.hid (Zfo hlt (by unfold pr;simp;omega))
      go_wp2
      go_ret2
      exact .inl ⟨HF.out,rfl,Below.refl _ _⟩
    ·have b1:decide ((s[k].toNat:Int)<32)=true:=by simp;omega
     have HF:=Lib.hid (Zfo hlt (by unfold pr;simp;omega))
     go_wp2
     go_ret2
     exact .inl ⟨HF.out,rfl,Below.refl _ _⟩
   ·have hks:k=s.size:=by omega
    subst hks
    have hasc:∀ (j:Nat) b,s.data.toList[j]?=some b→b.toNat<128:=by
     intro j b hb
     obtain ⟨hj,he⟩:=List.getElem?_eq_some_iff.1 hb
     have hj2:j<s.size:=by simpa using hj
     have:=HP.out j hj2 hj2
     unfold pr at this
     simp only [Bool.and_eq_true,decide_eq_true_eq] at this
     have h3:s[j]=b:=he
     rw [h3] at this
     omega
    have HC:=Zk (Tryz.strings_Fields_laid s w (by omega) hasc hE.asc)
    have hlen:(Lib.fields s.data.toList).length=(ZaP s).length:=by unfold ZaP;rw [List.length_map]
    have hcel:((Lib.fields s.data.toList).map fun l=>Value.string ⟨l.toArray⟩)=(ZaP s).map Value.string:=by unfold ZaP;rw [List.map_map];rfl
    rw [hlen,hcel] at HC
    have hfl:=Zn6 s
    have hown:(w.alloc (.cells ((ZaP s).map Value.string).toArray 9)).ownsRow w.heap.size 9 1 (.slice (some ⟨w.heap.size,0,none⟩) (ZaP s).length (ZaP s).length) (ZaP s).length ((ZaP s).map Value.string):=by
     have h:=World.ownsRow_lit (w:=w) (base:=w.heap.size) (e:=9) (size:=1) ((ZaP s).map Value.string).toArray (ZaP s).length (Nat.le_refl _) (by unfold maxLen;omega) (by simp)
     simpa using h
    have HO:=Zk hown
    have HS:Hid (ZbI s=decide ((ZaP s).length≤24)):=by
     unfold Hid
     by_cases h24:(ZaP s).length≤24
     ·rw [decide_eq_true h24];exact Zcz.2 ⟨by omega,fun i hi=>HP.out i hi hi,h24⟩
     ·rw [decide_eq_false h24];exact Zit (by omega)
    clear hlen hcel hasc hown
    go_wp2_with fail
    refine HC.out.mono ?_
    clear HC
    obtain ⟨n,hn⟩:∃ n,(ZaP s).length=n:=⟨_,rfl⟩
    rw [hn] at HO HS hfl ⊢
    have HN2:=Lib.hid hn
    clear hn
    rintro e w1 ⟨rfl,rfl⟩
    by_cases h24:n≤24
    ·go_wp2
     go_ret2
     have e2:=HN2.out
     subst e2
     exact .inr ⟨by rw [HS.out,decide_eq_true h24],_,_,rfl,HO.out,bel⟩
    ·go_wp2
     go_ret2
     exact .inl ⟨by rw [HS.out,decide_eq_false h24],rfl,bel⟩
set_option maxHeartbeats 3200000 in
theorem Zfy (s:ByteArray) (w:World) (hz:s.size≤16777216) :
  Calls Tryz.prog 74 #[.string s] w fun e w'=>(ZbI s=false∧∃ A c,e=.returned (.tuple #[.slice A 0 c,.bool false])∧Below w.heap.size w w')∨(ZbI s=true∧∃ A c,e=.returned (.tuple #[.slice A (ZaP s).length c,.bool true])∧w'.ownsRow w.heap.size 9 1 (.slice A (ZaP s).length c) (ZaP s).length ((ZaP s).map Value.string)∧Below w.heap.size w w'):=by
 by_cases hl:600<s.size
 ·have HF:=Lib.hid (Zir hl)
  go_enter Tryz.func74,Tryz.ntmps74
  go_wp2
  go_ret2
  exact .inl ⟨HF.out,_,_,rfl,bel⟩
 ·obtain ⟨i0,hi0,hz0,hz1,hz2⟩:=info_parts ZeX
  go_enter Tryz.func74,Tryz.ntmps74
  go_wp2
  go_loopw [4,5,6] (fun o b i wr=>∃ (k m n:Nat) (xs:List ByteArray) (A:Option Addr) (c:Nat),i=.int .i64 k∧b=.int .i64 m∧o=.slice A n c∧n≤k∧k≤s.size+1∧m≤k∧wr.ownsRow w.heap.size 9 1 (.slice A n c) n (xs.map Value.string)∧Below w.heap.size w wr∧Hid (xs.length=n)∧Hid ((k≤s.size∧SpI s k m xs)∨(k=s.size+1∧xs=ZaP s))∧Hid (∀ j (hj:j<s.size),j<k→pr s[j]=true)) (fun _ _ i _=>s.size+1 - (intOf i).toNat)
  case atStart =>
   refine ⟨0,0,0,[],some ⟨w.heap.size,0,none⟩,0,rfl,rfl,rfl,Nat.le_refl _,Nat.zero_le _,Nat.le_refl _,?_,bel,rfl,.inl ⟨Nat.zero_le _,SpI.start s⟩,fun j _ h=>absurd h (Nat.not_lt_zero _)⟩
   have h:=World.ownsRow_lit (w:=w) (base:=w.heap.size) (e:=9) (size:=1) #[] 0 (Nat.le_refl _) (by unfold maxLen;omega) (by simp)
   simpa using h
  case round =>
   obtain ⟨k,m,n,xs,A,c,rfl,rfl,rfl,hnk,hk,hm,hown,hb,HL,HD,HP⟩:=hrel
   have hzr:=hb.size
   have HO:=Zk hown
   by_cases hle:k≤s.size
   ·have HI:Hid (SpI s k m xs):=by rcases HD.out with h|h;exact h.2;omega
    clear HD
    by_cases hlt:k<s.size
    ·by_cases h1:32≤s[k].toNat
     ·have b1:decide ((s[k].toNat:Int)<32)=false:=by simp;omega
      by_cases h2:s[k].toNat≤126
      ·have b2:decide ((s[k].toNat:Int) > 126)=false:=by simp;omega
       have hpr:pr s[k]=true:=by unfold pr;simp [h1,h2]
       have HN:=Zk (okT HP.out hlt hpr)
       have hsp:=Zqa hpr
       by_cases h32:s[k]=32
       ·have b3:((s[k].toNat:Int)==32)=true:=by rw [h32];rfl
        have hs1:Lib.isSp s[k]=true:=by rw [hsp,h32];rfl
        by_cases hmk:m<k
        ·have HW:=Zk (HI.out.word hlt hs1 hmk)
         have hone:∀ u∈[Value.string (s.extract m k)],u.oneCell'=true:=by intro u hu;simp at hu;subst hu;rfl
         have HONE:=Zk hone
         clear hone hsp hs1 h32 hpr
         go_wp2_with (at_builtin;refine Zay _ rfl (.tmp 48) (.tmp 53) _ rfl w.heap.size 9 i0 _ 1 16 Tryz.underlying24 hi0 hz0 hz1 hz2 rfl (by omega) (.slice A n c) n (xs.map Value.string) rfl (hown.alloc _) (_+1) (some ⟨_,0,none⟩) 1 1 [Value.string (s.extract m k)] rfl (Zc7 _ _) HONE.out ?_ ?_ ?_ (n+1) ((xs++[s.extract m k]).map Value.string) rfl (by simp) ?_;(unfold maxLen;omega);omega;(simp;omega);intro A2 c2 w3 ho3 hb3)
         go_roundw
         case rel=>exact ⟨k+1,k+1,n+1,_,A2,c2,by go_num,by go_num,rfl,by omega,by omega,by omega,ho3,(hb.alloc hzr _).trans hb3,by unfold Hid;rw [List.length_append,HL.out];rfl,.inl ⟨by omega,HW.out⟩,HN⟩
         case measure=>simp [intOf];omega
        ·have HW:=Zk (HI.out.gap hlt hs1 hmk)
         clear hsp hs1 h32 hpr
         go_wp2
         go_roundw
         case rel=>exact ⟨k+1,k+1,n,xs,A,c,by go_num,by go_num,rfl,by omega,by omega,by omega,HO.out,hb,HL,.inl ⟨by omega,HW.out⟩,HN⟩
         case measure=>simp [intOf];omega
       ·have b3:((s[k].toNat:Int)==32)=false:=by
         rw [beq_eq_false_iff_ne];intro h;exact h32 (UInt8.toNat_inj.1 (by show s[k].toNat=32;omega))
        have hs1:Lib.isSp s[k]=false:=by rw [hsp];simp [h32]
        have HW:=Zk (HI.out.more hlt hs1)
        clear hsp hs1 h32 hpr
        go_wp2
        go_roundw
        case rel=>exact ⟨k+1,m,n,xs,A,c,by go_num,rfl,rfl,by omega,by omega,by omega,HO.out,hb,HL,.inl ⟨by omega,HW.out⟩,HN⟩
        case measure=>simp [intOf];omega
      ·have b2:decide ((s[k].toNat:Int) > 126)=true:=by simp;omega
       have HF:=Lib.hid (Zfo hlt (by unfold pr;simp;omega))
       go_wp2
       go_ret2
       exact .inl ⟨HF.out,_,_,rfl,hb.trans bel⟩
     ·have b1:decide ((s[k].toNat:Int)<32)=true:=by simp;omega
      have HF:=Lib.hid (Zfo hlt (by unfold pr;simp;omega))
      go_wp2
      go_ret2
      exact .inl ⟨HF.out,_,_,rfl,hb.trans bel⟩
    ·have hks:k=s.size:=by omega
     have hki:¬(k:Int)<(s.size:Int):=by omega
     have HN:Hid (∀ j (hj:j<s.size),j<k+1→pr s[j]=true):=fun j hj _=>HP.out j hj (by omega)
     have HI2:Hid (SpI s s.size m xs):=by have:=HI.out;rw [hks] at this;exact this
     by_cases hmk:m<k
     ·have HW:Hid (xs++[s.extract m k]=ZaP s):=by
       have:=HI2.out.end_word (by omega)
       unfold Hid;rw [hks];exact this
      have hone:∀ u∈[Value.string (s.extract m k)],u.oneCell'=true:=by intro u hu;simp at hu;subst hu;rfl
      have HONE:=Zk hone
      have HKS:=Lib.hid hks
      clear hone hks
      go_wp2_with (at_builtin;refine Zay _ rfl (.tmp 48) (.tmp 53) _ rfl w.heap.size 9 i0 _ 1 16 Tryz.underlying24 hi0 hz0 hz1 hz2 rfl (by omega) (.slice A n c) n (xs.map Value.string) rfl (hown.alloc _) (_+1) (some ⟨_,0,none⟩) 1 1 [Value.string (s.extract m k)] rfl (Zc7 _ _) HONE.out ?_ ?_ ?_ (n+1) ((xs++[s.extract m k]).map Value.string) rfl (by simp) ?_;(unfold maxLen;omega);omega;(simp;omega);intro A2 c2 w3 ho3 hb3)
      go_roundw
      case rel=>exact ⟨k+1,k+1,n+1,_,A2,c2,by go_num,by go_num,rfl,by omega,by omega,by omega,ho3,(hb.alloc hzr _).trans hb3,by unfold Hid;rw [List.length_append,HL.out];rfl,.inr ⟨by have:=HKS.out;omega,HW.out⟩,HN⟩
      case measure=>simp [intOf];omega
     ·have HW:Hid (xs=ZaP s):=HI2.out.end_gap (by omega)
      have HKS:=Lib.hid hks
      clear hks
      go_wp2
      go_roundw
      case rel=>exact ⟨k+1,k+1,n,xs,A,c,by go_num,by go_num,rfl,by omega,by omega,by omega,HO.out,hb,HL,.inr ⟨by have:=HKS.out;omega,HW.out⟩,HN⟩
      case measure=>simp [intOf];omega
   ·have HX:Hid (xs=ZaP s):=by rcases HD.out with h|h;omega;exact h.2
    have HS:Hid (ZbI s=decide (n≤24)):=by
     unfold Hid
     have h1:=HL.out
     rw [HX.out] at h1
     by_cases h24:n≤24
     ·rw [decide_eq_true h24];exact Zcz.2 ⟨by omega,fun i hi=>HP.out i hi (by omega),by omega⟩
     ·rw [decide_eq_false h24];exact Zit (by omega)
    clear hown
    by_cases h24:n≤24
    ·go_wp2
     go_ret2
     have h1:=HL.out
     have h2:=HO.out
     rw [HX.out] at h1 h2
     subst h1
     exact .inr ⟨by rw [HS.out,decide_eq_true h24],_,_,rfl,h2,hb⟩
    ·go_wp2
     go_ret2
     exact .inl ⟨by rw [HS.out,decide_eq_false h24],_,_,rfl,hb.trans bel⟩
theorem Zqe:(Tryz.prog.info? 3).map (fun i=>(i.zero,i.size,i.bytes))=some (some (.int .i64 0),1,8):=by kernel_rfl
def l40 (s:ByteArray):Int:=if 1<s.size then (if s.data.toList.head?=some 45 then -(Zbt (s.extract 1 s.size):Int) else Zbt s) else Zbt s
theorem Zmv (n:Nat) (hn:n≤1000000000):l40 (Zan n)=n:=by
 have h1:=(Zco hn).2
 have h2:¬(Zan n).data.toList.head?=some 45:=by
  intro h
  have hd:Zdz (Zan n).data.toList=true:=Zh7 n
  cases hq:(Zan n).data.toList with
  |nil=>rw [hq] at h;cases h
  |cons c r =>
   rw [hq] at h hd
   simp at h
   subst h
   unfold Zdz at hd
   simp at hd
 unfold l40
 rw [h1,if_neg h2]
 split <;> rfl
theorem Zpk (s:ByteArray):-1000000000≤l40 s∧l40 s≤1000000000:=by
 have h1:=ZdL s
 have h2:=ZdL (s.extract 1 s.size)
 unfold l40
 split
 ·split <;> omega
 ·omega
theorem Zmr {s:ByteArray} (h:0<s.size):(s.data.toList.head?=some 45)=(s[0]=45):=by
 have h2:0<s.data.toList.length:=by simpa using h
 have:s.data.toList.head?=some s[0]:=by
  rw [List.head?_eq_getElem?,List.getElem?_eq_getElem h2];rfl
 rw [this];simp
theorem Zkc (s:ByteArray) (w:World) (hz:s.size≤16777216) :
  Calls Tryz.prog 123 #[.string s] w fun e w'=>e=.returned (.int .i64 (l40 s))∧Below w.heap.size w w':=by
 have hv1:=ZdL s
 have hv2:=ZdL (s.extract 1 s.size)
 have hx:(s.extract 1 s.size).size≤16777216:=by rw [ByteArray.size_extract];omega
 by_cases h1:1<s.size
 ·have h0:0<s.size:=by omega
  by_cases h45:s[0]=45
  ·have HL:Hid (l40 s = -(Zbt (s.extract 1 s.size):Int)):=by unfold Hid l40;rw [if_pos h1,if_pos (by rw [Zmr h0];exact h45)]
   have b1:((s[0].toNat:Int)==45)=true:=by rw [h45];rfl
   have hw:IntKind.i64.wrap (-(Zbt (s.extract 1 s.size):Int)) = -(Zbt (s.extract 1 s.size):Int):=by rw [IntKind.wrap_i64];omega
   clear h45
   go_enter Tryz.func123,Tryz.ntmps123
   go_wp2_with fail
   refine (ZeU _ _ hx).mono ?_
   rintro e w1 ⟨rfl,hb1⟩
   go_wp2
   go_ret
   rw [HL.out]
   exact ⟨rfl,hb1⟩
  ·have HL:Hid (l40 s=(Zbt s:Int)):=by unfold Hid l40;rw [if_pos h1,if_neg (by rw [Zmr h0];exact h45)]
   have b1:((s[0].toNat:Int)==45)=false:=by rw [beq_eq_false_iff_ne];intro h;exact h45 (UInt8.toNat_inj.1 (by show s[0].toNat=45;omega))
   clear h45
   go_enter Tryz.func123,Tryz.ntmps123
   go_wp2_with fail
   refine (ZeU _ _ hz).mono ?_
   rintro e w1 ⟨rfl,hb1⟩
   go_wp2
   go_ret
   rw [HL.out]
   exact ⟨rfl,hb1⟩
 ·have HL:Hid (l40 s=(Zbt s:Int)):=by unfold Hid l40;rw [if_neg h1]
  go_enter Tryz.func123,Tryz.ntmps123
  go_wp2_with fail
  refine (ZeU _ _ hz).mono ?_
  rintro e w1 ⟨rfl,hb1⟩
  go_wp2
  go_ret
  rw [HL.out]
  exact ⟨rfl,hb1⟩
theorem Zlv {p:List ByteArray} {k:Nat} (hk:k<p.length) (h1:1≤k):ZbC (p.take (k+1))=ZbC (p.take k)++⟨#[32]⟩++p[k]:=by
 cases p with
 |nil=>simp at hk
 |cons x r =>
  obtain ⟨j,rfl⟩:∃ j,k=j+1:=⟨k - 1,by omega⟩
  have hj:j<r.length:=by simpa using hk
  apply ZbZ
  simp only [List.take_succ_cons,ZbC,List.map_cons,Lib.join_cons,ByteArray.data_append,Array.toList_append,List.getElem_cons_succ]
  rw [List.map_take,List.map_take,Lib.joinTail_take_succ [32] (r.map (·.data.toList)) j r[j].data.toList (by rw [List.getElem?_map,List.getElem?_eq_getElem hj];rfl)]
  simp
theorem ZeD {p:List ByteArray} {m:Nat} (h:∀ x∈p,x.size≤m):(ZbC p).size≤p.length * (m+1):=by
 cases p with
 |nil=>show 0≤_;omega
 |cons x r =>
  have hsz:(ZbC (x :: r)).size=(ZbC (x :: r)).data.toList.length:=by rw [Array.length_toList];rfl
  rw [hsz]
  show (Lib.join ((x :: r).map (·.data.toList)) [32]).length≤_
  rw [List.map_cons,Lib.join_length]
  have hl:∀ (q:List ByteArray),(∀ x∈q,x.size≤m)→Lib.lens (q.map (·.data.toList))≤q.length * m:=by
   intro q
   induction q with
   |nil=>intro _;simp [Lib.lens]
   |cons y q ih =>
    intro hq
    have h1:=hq y (by simp)
    have h2:=ih fun z hz=>hq z (by simp [hz])
    have h3:y.data.toList.length=y.size:=by rw [Array.length_toList];rfl
    unfold Lib.lens at h2 ⊢
    simp only [List.map_cons,List.sum_cons,List.length_cons]
    rw [Nat.add_mul,h3]
    omega
  have:=hl (x :: r) h
  simp only [List.map_cons,List.length_cons,List.length_map] at this ⊢
  rw [Nat.mul_add]
  simp
  omega
theorem ZiO {p:List ByteArray} {m:Nat} (h:∀ x∈p,x.size≤m) (k:Nat):(ZbC (p.take k)).size≤p.length * (m+1):=by
 have h1:=ZeD (p:=p.take k) (m:=m) fun x hx=>h x (List.mem_of_mem_take hx)
 have h2:(p.take k).length≤p.length:=by rw [List.length_take];omega
 have h3:=Nat.mul_le_mul_right (m+1) h2
 omega
theorem ZkG {w:World} {b n c m:Nat} {A:Option Addr} {p:List ByteArray} (h:w.ownsRow b 9 1 (.slice A n c) n (p.map Value.string)) (hn:n≤16777216) (hs:∀ x∈p,x.size≤m) (hm:m≤16777216):ZaJ w w.heap.size A n p :=
 Zcc h hn fun x hx=>Nat.le_trans (hs x hx) hm
def Zce (p:List ByteArray):List Int:=(p.drop 1).map l40
def Zdo (p:List ByteArray) (i:Nat):Int:=(Zce p++[0,0]).getD i 0
theorem ZoU {p:List ByteArray} (hp:ZeG p) (h:ZbE p=true):(pN p 1:Int)=Zdo p 0∧(pN p 2:Int)=Zdo p 1:=by
 unfold ZbE at h
 simp only [Bool.and_eq_true,decide_eq_true_eq] at h
 obtain ⟨_,A,B,hA,hB,hA9,hB9⟩:=Zcq h.1
 have hd:=Zj0 h.1 rfl
 generalize pN p 1=a at *
 generalize pN p 2=b at *
 generalize pK p=k at *
 have na:=Zmv a (by omega)
 have nb:=Zmv b (by omega)
 obtain ⟨hk,hx⟩:=h
 have hz:=hd.2
 have key:∀ q,ZeP k a b=q→(a:Int)=Zdo q 0∧(b:Int)=Zdo q 1:=by
  intro q hq
  subst hq
  unfold pN at hz
  unfold Zdo Zce
  unfold ZeP at hz ⊢
  split at hz
  ·rename_i q1
   rw [if_pos q1]
   have h1:a=0:=by have:=hz.1;simp at this;rw [← this];exact Zc1
   have h2:b=0:=by have:=hz.2;simp at this;rw [← this];exact Zc1
   subst h1 h2
   exact ⟨rfl,rfl⟩
  ·rename_i q1
   rw [if_neg q1]
   split at hz
   ·rename_i q2
    rw [if_pos q2]
    have h2:b=0:=by have:=hz.2;simp at this;rw [← this];exact Zc1
    subst h2
    simp [na]
   ·rename_i q2
    rw [if_neg q2]
    simp [na,nb]
 exact key p hx
theorem Zl9 (p:List ByteArray) (i:Nat):-1000000000≤Zdo p i∧Zdo p i≤1000000000:=by
 have h:∀ x∈Zce p++[0,0],-1000000000≤x∧x≤1000000000:=by
  intro x hx
  rcases List.mem_append.1 hx with hx|hx
  ·unfold Zce at hx
   obtain ⟨y,_,rfl⟩:=List.mem_map.1 hx
   exact Zpk y
  ·simp at hx;subst hx;omega
 unfold Zdo
 rw [List.getD_eq_getElem?_getD]
 cases hq:(Zce p++[0,0])[i]? with
 |none=>simp
 |some x=>exact h x (List.mem_of_getElem? hq)
def ZjV (p:List ByteArray) (k:Nat):Bool:=ZaW k (Zdo p 0) (Zdo p 1)&&decide (Zey k (Zdo p 0).toNat (Zdo p 1).toNat=ZbC p)
theorem ZnV {p:List ByteArray} (hp:ZeG p) {k:Nat} (h:ZjV p k=true):ZbE p=true∧pK p=k∧(pN p 1:Int)=Zdo p 0∧(pN p 2:Int)=Zdo p 1:=by
 unfold ZjV at h
 simp only [Bool.and_eq_true,decide_eq_true_eq] at h
 obtain ⟨_,A,B,hA,hB,_,_⟩:=Zcq h.1
 rw [hA,hB] at h ⊢
 simp only [Int.toNat_natCast] at h
 have h2:=(ZhJ hp k A B).1 h.2
 have h3:=Zj0 h.1 h2
 exact ⟨Zon h.1 h2,h3.1,by rw [h3.2.1],by rw [h3.2.2]⟩
theorem Zo9 {p:List ByteArray} (hp:ZeG p) (h:∀ k,1≤k→k≤8→ZjV p k=false):ZbE p=false:=by
 cases hq:ZbE p with
 |false=>rfl
 |true =>
  obtain ⟨h1,h2⟩:=ZoU hp hq
  have hq2:=hq
  unfold ZbE at hq2
  simp only [Bool.and_eq_true,decide_eq_true_eq] at hq2
  obtain ⟨hk,_⟩:=Zcq hq2.1
  have:=h (pK p) (by omega) (by omega)
  unfold ZjV at this
  rw [← h1,← h2,hq2.1,Int.toNat_natCast,Int.toNat_natCast,(ZhJ hp _ _ _).2 hq2.2] at this
  simp at this
theorem Znk {p:List ByteArray} (h:ZbE p=false):ZhW p=((0,0,0),false):=by unfold ZhW;rw [h];rfl
theorem Zlq {p:List ByteArray} (h:ZbE p=true):ZhW p=((pK p,pN p 1,pN p 2),true):=by unfold ZhW;rw [h];rfl
theorem Zgu {p:List ByteArray} (h:¬(1≤p.length∧p.length≤3)):ZbE p=false:=by
 cases hq:ZbE p with
 |false=>rfl
 |true=>exact absurd (Zjv hq) h
end Go.Proofs.YtlimlolciekimaaGreatDoor
