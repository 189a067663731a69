import Derived.Test.YtchddhcajpagjaaGreatPwM
set_option linter.all false
namespace Go.PW
open Go.RowKit
def ev2(ps:List Prop)(xs:List Orc)(need:List Nat)(p:PV):Ev:=some (ps,xs,⟨need,p,[]⟩)
def ev3(ps:List Prop)(xs:List Orc)(p:PV)(l:Nat)(b:Blk):Ev:=some (ps,xs,⟨[],p,[(l,b)]⟩)
def Zka(tm:List (Nat×PV)):List Operand->Option (List PV)
 | []=>some []
 | x::l=>
  match Zp tm x,Zka tm l with
  | some p,some ps=>some (p::ps)
  | _,_=>none
theorem Zps{tm:List (Nat×PV)}:∀ {l:List Operand} {ps:List PV},Zka tm l=some ps->l.mapM (Zp tm)=some ps
 | [],ps,h=>by simp only [Zka,Option.some.injEq] at h;subst h;rfl
 | x::l,ps,h=>by
  simp only [Zka] at h
  split at h
  .rename_i p qs hp hq
   cases h
   rw [List.mapM_cons,hp,Zps hq];rfl
  .cases h
mutual
def Zec(Z:List (Nat×Blk)):PV->Option (List Prop×PV)
 | .t x=>some ([],.t x)
 | .nils=>some ([],.t (.sl []))
 | .osl l n=>
  match get Z l with
  | some (.row _ es)=>some ([es.length=n],.t (.sl es))
  | _=>none
 | .bptr l o=>
  match get Z l with
  | some (.box cs)=>match Znx cs with | some ts=>some ([],.vptr (ts.drop o)) | none=>none
  | _=>none
 | .rptr _ _ _ _=>none
 | .vptr cs=>some ([],.vptr cs)
 | .agg cs=>match Zji Z cs with | some (ps,ds)=>some (ps,.agg ds) | none=>none
 | .tup cs=>match Zji Z cs with | some (ps,ds)=>some (ps,.tup ds) | none=>none
 | .fn f cs=>match Zji Z cs with | some (ps,ds)=>some (ps,.fn f ds) | none=>none
 | .own l d=>
  match d,get Z l with
  | .msl n,some (.mat _ _ es)=>some ([es.length=n],.t (.sl es))
  | _,_=>none
def Zji(Z:List (Nat×Blk)):List PV->Option (List Prop×List PV)
 | []=>some ([],[])
 | c::cs=>
  match Zec Z c,Zji Z cs with
  | some (ps,d),some (qs,ds)=>some (ps++qs,d::ds)
  | _,_=>none
end
mutual
theorem Zaoo{Z Z':List (Nat×Blk)}(h0:∀ l,get Z' l=none):∀ {p q:PV} {ps:List Prop},Zec Z p=some (ps,q)->Zak ps->Frz Z Z' p q
 | .t x,q,ps,h,_=>by simp only [Zec,Option.some.injEq,Prod.mk.injEq] at h;simp only [Frz];exact h.2.symm
 | .nils,q,ps,h,_=>by simp only [Zec,Option.some.injEq,Prod.mk.injEq] at h;simp only [Frz];exact .inl h.2.symm
 | .osl l n,q,ps,h,hc=>by
  simp only [Zec] at h
  split at h
  .rename_i k es hg
   cases h
   simp only [Frz]
   exact .inr ⟨k,es,hg,hc.1,h0 l,rfl⟩
  .cases h
 | .bptr l o,q,ps,h,_=>by
  simp only [Zec] at h
  split at h
  .rename_i cs hg
   split at h
   .rename_i ts hts
    cases h
    have e:=Zpp hts
    subst e
    simp only [Frz]
    exact .inr ⟨ts,hg,h0 l,rfl⟩
   .cases h
  .cases h
 | .rptr _ _ _ _,q,ps,h,_=>by simp [Zec] at h
 | .vptr cs,q,ps,h,_=>by simp only [Zec,Option.some.injEq,Prod.mk.injEq] at h;simp only [Frz];exact h.2.symm
 | .agg cs,q,ps,h,hc=>by
  simp only [Zec] at h
  split at h
  .rename_i ps' ds hds
   cases h
   simp only [Frz]
   exact⟨ds,rfl,Zrt h0 hds hc⟩
  .cases h
 | .tup cs,q,ps,h,hc=>by
  simp only [Zec] at h
  split at h
  .rename_i ps' ds hds
   cases h
   simp only [Frz]
   exact⟨ds,rfl,Zrt h0 hds hc⟩
  .cases h
 | .fn f cs,q,ps,h,hc=>by
  simp only [Zec] at h
  split at h
  .rename_i ps' ds hds
   cases h
   simp only [Frz]
   exact⟨ds,rfl,Zrt h0 hds hc⟩
  .cases h
 | .own l d,q,ps,h,hc=>by
  simp only [Zec] at h
  split at h
  .rename_i n k q0 es hg
   cases h
   simp only [Frz]
   exact .inr ⟨n,k,q0,es,rfl,hg,hc.1,h0 l,rfl⟩
  .cases h
theorem Zrt{Z Z':List (Nat×Blk)}(h0:∀ l,get Z' l=none):∀ {cs ds:List PV} {ps:List Prop},Zji Z cs=some (ps,ds)->Zak ps->Zaw Z Z' cs ds
 | [],ds,ps,h,_=>by simp only [Zji,Option.some.injEq,Prod.mk.injEq] at h;simp only [Zaw];exact h.2.symm
 | c::cs,ds,ps,h,hc=>by
  simp only [Zji] at h
  split at h
  .rename_i ps1 d qs ds' h1 h2
   cases h
   obtain⟨hc1,hc2⟩:=Zx.1 hc
   simp only [Zaw]
   exact⟨d,ds',rfl,Zaoo h0 h1 hc1,Zrt h0 h2 hc2⟩
  .cases h
end
mutual
def Zv2:PV->List Nat
 | .osl l _=>[l]
 | .bptr l _=>[l]
 | .rptr l _ _ _=>[l]
 | .agg cs=>Zm9 cs
 | .tup cs=>Zm9 cs
 | .fn _ cs=>Zm9 cs
 | .own l _=>[l]
 | _=>[]
def Zm9:List PV->List Nat
 | []=>[]
 | p::ps=>Zv2 p++Zm9 ps
end
mutual
theorem Zavd{m:Nat}:∀ (p:PV),p.has m=true->m∈Zv2 p
 | .t _,h=>by simp [PV.has] at h
 | .nils,h=>by simp [PV.has] at h
 | .vptr _,h=>by simp [PV.has] at h
 | .osl l n,h=>by simp only [PV.has,Z1] at h;subst h;simp [Zv2]
 | .bptr l n,h=>by simp only [PV.has,Z1] at h;subst h;simp [Zv2]
 | .rptr l _ _ _,h=>by simp only [PV.has,Z1] at h;subst h;simp [Zv2]
 | .agg cs,h=>by simp only [Zv2];exact Zi0 cs (by simpa [PV.has] using h)
 | .tup cs,h=>by simp only [Zv2];exact Zi0 cs (by simpa [PV.has] using h)
 | .fn _ cs,h=>by simp only [Zv2];exact Zi0 cs (by simpa [PV.has] using h)
 | .own l n,h=>by simp only [PV.has,Z1] at h;subst h;simp [Zv2]
theorem Zi0{m:Nat}:∀ (ps:List PV),PV.hasAny m ps=true->m∈Zm9 ps
 | [],h=>by simp [PV.hasAny] at h
 | p::ps,h=>by
  simp only [PV.hasAny,Bool.or_eq_true] at h
  simp only [Zm9,List.mem_append]
  rcases h with h | h
  .exact .inl (Zavd p h)
  .exact .inr (Zi0 ps h)
end
def Zkb(agg:Bool)(c:List Zf):PV:=bif agg then .agg (c.map .t) else (match c with | [x] => .t x | _ => .agg (c.map .t))
def Zz8(T:TS):List (Nat×Nat)->Option (List (Nat×Nat))
 | []=>some []
 | (q,t)::l=>
  match get T t,Zz8 T l with
  | some i,some ps=>some ((q,i.size)::ps)
  | _,_=>none
def Zaop(T:TS)(t:Nat)(ps:List (Nat×PV))(xs:List Orc):Ev:=
 match get T t with
 | some ⟨_,_,_,some z,.struct fs,_⟩=>
  match Zz8 T fs with
  | some pl=>
   match Zj6 pl z ps with
   | some out=>ev0 xs (.agg out)
   | none=>none
  | none=>none
 | some ⟨_,_,_,some z,.arr n e,_⟩=>
  match get T e with
  | some j=>
   match Zj6 ((List.range n).map fun i=>(i*j.size,j.size)) z ps with
   | some out=>ev0 xs (.agg out)
   | none=>none
  | none=>none
 | _=>none
def Za23(T:TS)(t len:Nat)(ps:List (Nat×PV))(xs:List Orc):Ev:=
 match Zdz T t with
 | some (_,⟨_,k,_,some z,_,_⟩)=>
  bif Nat.blt 0 k&&Nat.beq z.length k&&Nat.ble (len*k) 16777216 then
   match Zj6 (Zmi k len) (rep len z) ps with
   | some out=>
    match Zeb out,xs with
    | some ts,.lit::xs=>ev0 xs (.t (.sl (chunk k len ts)))
    | some ts,.lab l::xs=>bif Nat.ble 1000 l&&Nat.beq ts.length (len*k) then ev3 [] xs (.osl l len) l (.row k (chunk k len ts)) else none
    | _,_=>none
   | none=>none
  else none
 | _=>none
def Zave(T:TS)(t:Nat)(px py:PV)(xs:List Orc):Ev:=
 match Zdz T t,px,py,xs with
 | some (_,⟨_,k,bytes,some z,_,_⟩),.t (.int _ m),.t (.int _ c),.lab l :: .nat n :: .es es::xs=>
  bif Nat.blt 0 k&&Nat.beq z.length k&&Nat.ble 1000 l then
   match Zeb z with
   | some zs=>ev3 [0<=m,m<=c,(bytes:Int)*c<=281474976710656,c<=9223372036854775807,m.toNat=n,List.replicate n zs=es] xs (.osl l n) l (.row k es)
   | none=>none
  else none
 | _,_,_,_=>none
def Z4r(T:TS)(Z:List (Nat×Blk))(s i:Nat)(px:PV)(xs:List Orc):Ev:=
 match Z51 T s i with
 | some (q,j)=>
  bif Nat.beq j.size 0 then none else
  match px with
  | .bptr l p=>
   match get Z l with
   | some (.box _)=>ev2 [] xs [l] (.bptr l (p+q))
   | _=>none
  | .rptr l m jj p=>
   match get Z l with
   | some (.row _ es)=>ev2 [es.length=m] xs [l] (.rptr l m jj (p+q))
   | _=>none
  | .vptr cs=>ev0 xs (.vptr (cs.drop q))
  | _=>none
 | none=>none
def Z4s(T:TS)(Z:List (Nat×Blk))(t:Nat)(px py:PV)(xs:List Orc):Ev:=
 match py with
 | .t (.int _ i)=>
  match px with
  | .t (.sl es)=>
   match Zdz T t,xs with
   | some (_,j),.cs e::xs=>ev1 [∀ el,el∈es->el.length=j.size,0<=i,es[i.toNat]?=some e] xs (.vptr e)
   | _,_=>none
  | .osl l m=>
   match Zdz T t,get Z l,xs with
   | some (_,j),some (.row k es),.nat n::xs=>bif Nat.beq j.size k then ev2 [es.length=m,0<=i,i < m,i.toNat=n] xs [l] (.rptr l m n 0) else none
   | _,_,_=>none
  | .bptr l q=>
   match Zaed T t,get Z l,xs with
   | some (len,_,j),some (.box _),.nat n::xs=>ev2 [0<=i,i < len,i.toNat=n] xs [l] (.bptr l (q+n*j.size))
   | _,_,_=>none
  | .rptr l m jj q=>
   match Zaed T t,get Z l,xs with
   | some (len,_,j),some (.row _ els),.nat n::xs=>ev2 [els.length=m,0<=i,i < len,i.toNat=n] xs [l] (.rptr l m jj (q+n*j.size))
   | _,_,_=>none
  | .vptr cs=>
   match Zaed T t,xs with
   | some (len,_,j),.nat n::xs=>ev1 [0<=i,i < len,i.toNat=n] xs (.vptr (cs.drop (n*j.size)))
   | _,_=>none
  | _=>none
 | _=>none
def Zaoq(T:TS)(t:Nat)(px py:PV)(xs:List Orc):Ev:=
 match py with
 | .t (.int _ i)=>
  match px with
  | .t (.str s)=>
   match (get T t).map (·.k),xs with
   | some TK.str,.byte b::xs=>ev1 [0<=i,s[i.toNat]?=some b] xs (.t (.int .u8 b.toNat))
   | _,_=>none
  | .agg cs=>
   match Zaed T t,xs with
   | some (len,_,j),.cs c::xs=>ev1 [0<=i,i < len,Zda j.agg j.size (i.toNat*j.size) cs=some (Zkb j.agg c)] xs (Zkb j.agg c)
   | _,_=>none
  | _=>none
 | _=>none
def Zakk(T:TS)(Z:List (Nat×Blk))(t:Nat)(px:PV)(xs:List Orc):Ev:=
 match get T t with
 | some i=>
  match px with
  | .bptr l q=>
   match get Z l with
   | some (.box cs)=>
    match Zda i.agg i.size q cs with
    | some p=>ev2 [] xs [l] p
    | none=>none
   | _=>none
  | .rptr l m j q=>
   match get Z l,xs with
   | some (.row _ es),.cs e::xs=>
    match Zda i.agg i.size q (e.map .t) with
    | some p=>ev2 [es.length=m,es[j]?=some e] xs [l] p
    | none=>none
   | _,_=>none
  | .vptr cs=>
   match Zda i.agg i.size 0 (cs.map .t) with
   | some p=>ev0 xs p
   | none=>none
  | _=>none
 | none=>none
def Zah7(T:TS)(Z:List (Nat×Blk))(t:Nat)(px:PV)(c:List Zf)(xs:List Orc):Ev:=
 match get T t,px with
 | some i,.bptr l q=>
  match get Z l with
  | some (.box cs)=>ev2 [Zda i.agg i.size q cs=some (Zkb i.agg c)] xs [l] (Zkb i.agg c)
  | _=>none
 | some i,.vptr cs=>ev1 [Zda i.agg i.size 0 (cs.map .t)=some (Zkb i.agg c)] xs (Zkb i.agg c)
 | _,_=>none
def Zakl(Z:List (Nat×Blk)):PV->Option (List Prop×List (List Zf)×List Nat)
 | .t (.sl es)=>some ([],es,[])
 | .nils=>some ([],[],[])
 | .t (.con (.slice _ 0 _))=>some ([],[],[])
 | .osl l m=>
  match get Z l with
  | some (.row _ es)=>some ([es.length=m],es,[l])
  | _=>none
 | _=>none
def Zakm:List Nat->Bool
 | []=>true
 | l::r => !Zz0 r l&&Zakm r
def Zbkv:Blk->List Nat
 | .box cs=>Zm9 cs
 | .row _ _=>[]
 | .mat _ _ _=>[]
 | .map _ _=>[]
 | .prow _ _ _ cs=>Zm9 cs
def Zat3:List (Nat×Blk)->List Nat
 | []=>[]
 | (_,b)::r=>Zbkv b++Zat3 r
def hasK(Z:List (Nat×Blk))(l:Nat):Bool:=match get Z l with | some _=>true | none=>false
def Za6k(σa:List (Nat×Blk))(l:Nat)(b:Blk):Bool:=
 match b,get σa l with
 | .box _,some (.box _)=>true
 | .row k _,some (.row k' _)=>Nat.beq k k'
 | _,_=>false
def Zakn(ls:List Nat)(d:Nat)(σa σ1:List (Nat×Blk))(res:PV):Bool:=
 Zakm ls&&Nat.ble ls.length 1000&&(σ1.all fun x=>match ls[x.1]? with | some _=>Za6k σa x.1 x.2 | none=>Nat.ble 1000 (x.1+d))&&(Zv2 res++Zat3 σ1).all (hasK σ1)
def scB:List (Nat×Blk)->List Prop
 | []=>[]
 | (_,.box cs)::r=>(PV.scs cs=true)::scB r
 | (_,.row _ es)::r=>(∀ el,el∈es->∀ x,x∈el->Zf.scal x=true)::scB r
 | (_,.mat k q _)::r=>(k=1/\q=0)::scB r
 | (_,.map _ _)::r=>False::scB r
 | (_,.prow _ _ _ _)::r=>False::scB r
mutual
def Zaee(Z:List (Nat×Blk)):PV->List Nat
 | .bptr L _=>match get Z L with | some (.box cs)=>Zm9 cs | _=>[]
 | .agg cs=>Zwe Z cs
 | .tup cs=>Zwe Z cs
 | .fn _ cs=>Zwe Z cs
 | _=>[]
def Zwe(Z:List (Nat×Blk)):List PV->List Nat
 | []=>[]
 | p::ps=>Zaee Z p++Zwe Z ps
end
mutual
theorem Za93{Z:List (Nat×Blk)}{m:Nat}:∀ (p:PV),p.deep Z m=true->m∈Zaee Z p
 | .t _,h=>by simp [PV.deep] at h
 | .nils,h=>by simp [PV.deep] at h
 | .osl _ _,h=>by simp [PV.deep] at h
 | .bptr L o,h=>by
  simp only [PV.deep] at h
  simp only [Zaee]
  cases hg:get Z L with
  | none=>simp [hg] at h
  | some b=>
   cases b with
   | box cs=>simp only [hg] at h;exact Zi0 _ h
   | row k es=>simp [hg] at h
   | mat k q es=>simp [hg] at h
   | map ag es=>simp [hg] at h
   | prow k i es cs=>simp [hg] at h
 | .rptr _ _ _ _,h=>by simp [PV.deep] at h
 | .vptr _,h=>by simp [PV.deep] at h
 | .agg cs,h=>by simp only [Zaee];exact Zse cs (by simpa [PV.deep] using h)
 | .tup cs,h=>by simp only [Zaee];exact Zse cs (by simpa [PV.deep] using h)
 | .fn _ cs,h=>by simp only [Zaee];exact Zse cs (by simpa [PV.deep] using h)
 | .own _ _,h=>by simp [PV.deep] at h
theorem Zse{Z:List (Nat×Blk)}{m:Nat}:∀ (ps:List PV),PV.deeps Z m ps=true->m∈Zwe Z ps
 | [],h=>by simp [PV.deeps] at h
 | p::ps,h=>by
  simp only [PV.deeps,Bool.or_eq_true] at h
  simp only [Zwe,List.mem_append]
  rcases h with h | h
  .exact .inl (Za93 p h)
  .exact .inr (Zse ps h)
end
def scC(S:Bool)(σ1:List (Nat×Blk))(res:PV):List Prop:=bif S then (res.sc=true)::scB σ1 else []
def Zavf(T:TS)(P:Program)(tm:List (Nat×PV))(Z:List (Nat×Blk))(c:Callee)(ps:List PV)(ats:List Nat)(xs:List Orc):Ev:=
 match c with
 | .value fo=>
  match Zp tm fo,xs with
  | some (.fn f caps),.call res::xs=>
   match Zji [] (ps++caps) with
   | some (_,qs)=>bif res.free then ev1 [Fn P f qs res] xs res else none
   | none=>
    match Zji Z (ps++caps) with
    | some (cs,qs)=>bif res.scal then ev2 (cs++[Fn P f qs res]) xs (Zm9 (ps++caps)) res else none
    | none=>none
  | some (.fn f caps),.callO S ls d fr res::xs=>
   match Ze7 S ls Z (ps++caps),Zs2 ls Z 0 ls with
   | some (cs,qs),some σa=>bif Zakn ls d σa (fr++σa) res then some (cs++(scC S (fr++σa) res++[FnG P f σa qs (fr++σa) res]),xs,⟨ls++(Zm9 (ps++caps)++Zwe Z (ps++caps)),res.ren (Zb6 ls d),Zcr (Zb6 ls d) fr⟩) else none
   | _,_=>none
  | _,_=>none
 | .builtin .len=>
  match ps,ats,xs with
  | [p],[t],.num n::xs=>
   match (get T t).map (·.k),p with
   | some (TK.slice _),.t (.sl es)=>ev1 [(es.length:Int)=n] xs (.t (.int .i64 n))
   | some (TK.slice _),.nils=>ev1 [0=n] xs (.t (.int .i64 n))
   | some (TK.slice _),.osl l m=>
    match get Z l with
    | some (.row _ es)=>ev2 [es.length=m,(m:Int)=n] xs [l] (.t (.int .i64 n))
    | _=>none
   | some (TK.slice _),.own l (.msl m)=>
    match get Z l with
    | some (.mat _ _ es)=>ev2 [es.length=m,(m:Int)=n] xs [l] (.t (.int .i64 n))
    | _=>none
   | some TK.str,.t (.str s)=>ev1 [(s.length:Int)=n] xs (.t (.int .i64 n))
   | _,_=>none
  | _,_,_=>none
 | .builtin .max=>
  match ps with
  | [.t (.int k a),.t (.int _ b)]=>ev0 xs (.t (.int k (maxI a b)))
  | _=>none
 | .builtin .min=>
  match ps with
  | [.t (.int k a),.t (.int _ b)]=>ev0 xs (.t (.int k (minI a b)))
  | _=>none
 | .builtin .append=>
  match ps,ats,xs with
  | [.nils,y],[t,tx],.lab l :: .es es::xs=>
   match Zdz T t,Zdz T tx,Zakl Z y with
   | some (_,⟨_,k,bytes,some z,_,_⟩),some _,some (cs,ys,ls)=>
    bif Nat.blt 0 k&&Nat.beq z.length k&&Nat.ble 1000 l then
     some (cs++[ys=es,∀ el,el∈es->el.length=k,es.length<=9223372036854775807,es.length*bytes<=140737488355328],xs,⟨ls,.osl l es.length,[(l,.row k es)]⟩)
    else none
   | _,_,_=>none
  | _,_,_=>none
 | _=>none
def Zaef:Operand->Bool
 | .const (.slice none 0 0)=>true
 | _=>false
def Za24(T:TS)(op:BinOp)(t:Nat)(px:PV)(xs:List Orc):Ev:=
 match Zdz T t,op,px with
 | some _,.eql,.t (.sl es)=>ev1 [es≠[]] xs (.t (.bool false))
 | some _,.neq,.t (.sl es)=>ev1 [es≠[]] xs (.t (.bool true))
 | some _,.eql,.t (.con (.slice a _ _))=>ev0 xs (.t (.bool a.isNone))
 | some _,.neq,.t (.con (.slice a _ _))=>ev0 xs (.t (.bool (!a.isNone)))
 | _,_,_=>none
def Zaeg:Operand->Bool
 | .const (.pointer none)=>true
 | _=>false
def Zavg(Z:List (Nat×Blk))(op:BinOp)(px:PV)(xs:List Orc):Ev:=
 match op,px with
 | .eql,.t (.con (.pointer none))=>ev0 xs (.t (.bool true))
 | .neq,.t (.con (.pointer none))=>ev0 xs (.t (.bool false))
 | .eql,.bptr l _=>match get Z l with | some (.box _)=>ev2 [] xs [l] (.t (.bool false)) | _=>none
 | .neq,.bptr l _=>match get Z l with | some (.box _)=>ev2 [] xs [l] (.t (.bool true)) | _=>none
 | _,_=>none
def Zaor(T:TS)(tm:List (Nat×PV))(t:Nat)(px:PV)(lo hi:Option Operand)(xs:List Orc):Ev:=
 match Zdz T t,px,xs with
 | none,.t (.str s),.cs [.str z]::xs=>
  match (get T t).map (·.k),Zqd tm 0 lo,Zqd tm s.length hi with
  | some TK.str,some l,some h=>ev1 [0<=l,l<=h,h<=s.length,(s.take h.toNat).drop l.toNat=z] xs (.t (.str z))
  | _,_,_=>none
 | some (_,j),.t (.sl es),.es es'::xs=>
  match Zqd tm 0 lo,Zqd tm es.length hi with
  | some l,some h=>ev1 [∀ el,el∈es->el.length=j.size,0<=l,l<=h,h<=es.length,(es.take h.toNat).drop l.toNat=es'] xs (.t (.sl es'))
  | _,_=>none
 | _,_,_=>none
def evOp(P:Program)(T:TS)(o:Oper)(tm:List (Nat×PV))(Z:List (Nat×Blk))(xs:List Orc):Ev:=
 match o.op with
 | .move x=>match Zp tm x with | some p=>ev0 xs p | none=>none
 | .assign x=>match Zp tm x with | some p=>ev0 xs p | none=>none
 | .pick c x y=>
  match Zp tm c,xs with
  | some (.t (.bool e)),.br b::xs=>match Zp tm (bif b then x else y) with | some p=>ev1 [e=b] xs p | none=>none
  | _,_=>none
 | .binOp op xT x y _=>
  bif Zaef y then (match Zp tm x with | some px=>Za24 T op xT px xs | none=>none)
  else bif Zaeg y then (match Zp tm x,(get T xT).map (·.k) with | some px,some TK.ptr=>Zavg Z op px xs | _,_=>none)
  else match Zp tm x,Zp tm y with | some px,some py=>Za22 T op xT px py xs | _,_=>none
 | .unOp op _ x=>
  match op,Zp tm x with
  | .not,some (.t (.bool b))=>ev0 xs (.t (.bool (!b)))
  | .neg,some (.t (.int k a))=>ev0 xs (.t (.int k (k.wrap (0 - a))))
  | .xor,some (.t (.int k a))=>ev0 xs (.t (.int k (Zay .xor k (if k.signed then -1 else k.max) a)))
  | _,_=>none
 | .convert s d x=>
  match (get T s).map (·.k),(get T d).map (·.k),Zp tm x with
  | some (TK.int _),some (TK.int k'),some (.t (.int _ a))=>ev0 xs (.t (.int k' (k'.wrap a)))
  | some TK.str,some TK.str,some (.t (.str a))=>ev0 xs (.t (.str a))
  | some TK.str,some (TK.slice e),some (.t (.str a))=>
   match (get T e).map (·.k),xs with
   | some (TK.int .u8),.es es::xs=>ev1 [Zf2 a=es,a.length<=9223372036854775807] xs (.t (.sl es))
   | _,_=>none
  | some (TK.slice e),some TK.str,some (.t (.sl es))=>
   match (get T e).map (·.k),xs with
   | some (TK.int .u8),.cs [.str s]::xs=>ev1 [Zf2 s=es,s≠[]] xs (.t (.str s))
   | _,_=>none
  | _,_,_=>none
 | .field xT x i=>
  match Z51 T xT i,Zp tm x with
  | some (q,j),some (.agg cs)=>match Zda j.agg j.size q cs with | some p=>ev0 xs p | none=>none
  | _,_=>none
 | .extract x i=>match Zp tm x with | some (.tup cs)=>(match cs[i]? with | some p=>ev0 xs p | none=>none) | _=>none
 | .nilCheck x=>
  match Zp tm x with
  | some (.vptr cs)=>ev0 xs (.vptr cs)
  | some (.bptr l q)=>match get Z l with | some (.box _)=>ev2 [] xs [l] (.bptr l q) | _=>none
  | some (.rptr l m i q)=>match get Z l with | some (.row _ es)=>ev2 [es.length=m] xs [l] (.rptr l m i q) | _=>none
  | _=>none
 | .makeFunc (.func f) first caps=>bif Nat.beq first.size 0 then (match Zka tm caps.toList with | some ps=>ev0 xs (.fn f ps) | none=>none) else none
 | .build t parts=>match Zgv tm parts.toList with | some ps=>Zaop T t ps xs | none=>none
 | .buildSlice t len parts=>match Zgv tm parts.toList with | some ps=>Za23 T t len ps xs | none=>none
 | .box _ x=>
  match Zp tm x,xs with
  | some p,.lab l::xs=>bif (Z7 p).all PV.one&&Nat.ble 1000 l then ev3 [] xs (.bptr l 0) l (.box (Z7 p)) else none
  | _,_=>none
 | .alloc t=>
  match (get T t).bind (·.zero),xs with
  | some z,.lab l::xs=>bif Nat.ble 1000 l then ev3 [] xs (.bptr l 0) l (.box z) else none
  | _,_=>none
 | .makeSlice t x y=>match Zp tm x,Zp tm y with | some px,some py=>Zave T t px py xs | _,_=>none
 | .fieldAddr s x i=>match Zp tm x with | some px=>Z4r T Z s i px xs | none=>none
 | .indexAddr t x y=>match Zp tm x,Zp tm y with | some px,some py=>Z4s T Z t px py xs | _,_=>none
 | .index t x y=>match Zp tm x,Zp tm y with | some px,some py=>Zaoq T t px py xs | _,_=>none
 | .load t x=>
  match Zp tm x with
  | some px=>
   match xs,o.dst with
   | .cell d c::xs',some d'=>bif Nat.beq d d' then Zah7 T Z t px c xs' else Zakk T Z t px xs
   | _,_=>Zakk T Z t px xs
  | none=>none
 | .slice t x none (some y) (some z)=>
  match Zdz T t,Zp tm x,Zp tm y,Zp tm z with
  | some _,some px,some (.t (.int _ 0)),some (.t (.int _ 0))=>bif Zat0 px then ev0 xs .nils else none
  | _,_,_,_=>none
 | .slice t x lo hi none=>match Zp tm x with | some px=>Zaor T tm t px lo hi xs | none=>none
 | .call c=>match Zka tm c.args.toList with | some ps=>Zavf T P tm Z c.callee ps c.argTypes.toList xs | none=>none
 | _=>none
abbrev Em:=Option (List Prop×List Orc×Stm)
def ninB(ls:List Nat)(d:Nat)(σ1:List (Nat×Blk)):Bool:=σ1.all fun x=>match ls[x.1]? with | some _=>true | none => !Zz0 ls (x.1+d)
def Zaos(P:Program)(tm:List (Nat×PV))(Z:List (Nat×Blk))(fo:Operand)(as:List Operand)(xs:List Orc):Em:=
 match Zp tm fo,Zka tm as,xs with
 | some (.fn f caps),some ps,.callU S ls d σ1 res::xs=>
  match Ze7 S ls Z (ps++caps),Zs1 ls Z 0 ls with
  | some (cs,qs),some σa=>
   bif Zakn ls d σa σ1 res&&ninB ls d σ1 then
    some (cs++(scC S σ1 res++[FnG P f σa qs σ1 res]),xs,⟨⟨ls++(Zm9 (ps++caps)++Zwe Z (ps++caps)),res.ren (Zb6 ls d),Zcr (Zb6 ls d) σ1⟩,ls⟩)
   else none
  | _,_=>none
 | _,_,_=>none
def Zaot(P:Program)(tm:List (Nat×PV))(Z:List (Nat×Blk))(fo:Operand)(as:List Operand)(xs:List Orc):Em:=
 match Zp tm fo,as,xs with
 | some (.fn f []),[x],.callC L b::xs=>
  match Zp tm x with
  | some (.osl l m)=>
   match get Z l with
   | some (.row k es)=>bif Nat.ble 1000 L && !Nat.beq L l then some ([es.length=m,Zqq P f k b,m*b<=140737488355328],xs,⟨⟨[l],.osl L m,[(L,.row k es)]⟩,[]⟩) else none
   | _=>none
  | _=>none
 | _,_,_=>none
def Za25(P:Program)(T:TS)(o:Oper)(tm:List (Nat×PV))(Z:List (Nat×Blk))(xs:List Orc):Em:=
 match o.op with
 | .call c=>
  match c.callee,Zka tm c.args.toList,c.argTypes.toList,xs with
  | .value fo,_,_,xs=>match Zaos P tm Z fo c.args.toList xs with | some r=>some r | none=>Zaot P tm Z fo c.args.toList xs
  | .builtin .append,some [.osl l m,y],[t,tx],.es es::xs=>
   match Zdz T t,Zdz T tx,Zakl Z y,get Z l with
   | some (_,⟨_,k,bytes,some z,_,_⟩),some _,some (cs,ys,ls),some (.row k' es0)=>
    bif Nat.blt 0 k&&Nat.beq z.length k&&Nat.beq k k' then
     some (cs++[es0.length=m,es0++ys=es,∀ el,el∈ys->el.length=k,es.length<=9223372036854775807,es.length*bytes<=140737488355328],xs,⟨⟨l::ls,.osl l es.length,[(l,.row k es)]⟩,[l]⟩)
    else none
   | _,_,_,_=>none
  | .builtin .copy,some [.osl l m,y],[t,tx],.num q :: .es es::xs=>
   match Zdz T t,Zdz T tx,Zakl Z y,get Z l with
   | some (_,⟨_,k,_,some z,_,_⟩),some _,some (cs,ys,ls),some (.row k' es0)=>
    bif Nat.blt 0 k&&Nat.beq z.length k&&Nat.beq k k' then
     some (cs++[es0.length=m,(ys.length:Int)=q,ys.length<=m,∀ el,el∈ys->el.length=k,ys++es0.drop ys.length=es],xs,⟨⟨l::ls,.t (.int .i64 q),[(l,.row k es)]⟩,[l]⟩)
    else none
   | _,_,_,_=>none
  | _,_,_,_=>none
 | .store t x y=>
  match o.dst,get T t,Zp tm x,Zp tm y with
  | none,some i,some (.bptr l q),some p=>
   match get Z l,xs with
   | some (.box cs),.sp cs'::xs=>
    bif Nat.beq (Z7 p).length i.size&&(Z7 p).all PV.one then some ([q+i.size<=cs.length,splice cs q (Z7 p)=cs'],xs,⟨⟨[l],.tup [],[(l,.box cs')]⟩,[l]⟩) else none
   | some (.box cs),xs=>
    bif Nat.beq (Z7 p).length i.size&&(Z7 p).all PV.one&&Nat.ble (q+i.size) cs.length then some ([],xs,⟨⟨[l],.tup [],[(l,.box (splice cs q (Z7 p)))]⟩,[l]⟩) else none
   | _,_=>none
  | none,some i,some (.rptr l m j q),some p=>
   match get Z l,xs,Zeb (Z7 p) with
   | some (.row k es),.cs e :: .es es'::xs,some ts=>
    bif Nat.beq ts.length i.size&&Nat.ble (q+i.size) k then some ([es.length=m,es[j]?=some e,es.set j (splice e q ts)=es'],xs,⟨⟨[l],.tup [],[(l,.row k es')]⟩,[l]⟩) else none
   | _,_,_=>none
  | _,_,_,_=>none
 | _=>none
def Za26(T:TS)(o:Oper)(tm:List (Nat×PV))(Z:List (Nat×Blk))(xs:List Orc):Em:=
 match o.op with
 | .slice t x (some y) none none=>
  match Zdz T t,Zp tm x,Zp tm y,xs with
  | some (_,j),some (.osl l m),some (.t (.int _ i)),.nat n::xs=>
   match get Z l with
   | some (.row k es)=>bif Nat.beq j.size k then some ([es.length=m,0<=i,i<=m,i.toNat=n],xs,⟨⟨[l],.own l (.tail m n),[]⟩,[]⟩) else none
   | _=>none
  | _,_,_,_=>none
 | .indexAddr t x y=>
  match Zdz T t,Zp tm x,Zp tm y,xs with
  | some (_,j),some (.own l (.msl m)),some (.t (.int _ i)),.nat n::xs=>
   match get Z l with
   | some (.mat 1 0 es)=>bif Nat.beq j.size 1 then some ([es.length=m,0<=i,i < m,i.toNat=n],xs,⟨⟨[l],.own l (.mpt m n 0),[]⟩,[]⟩) else none
   | _=>none
  | some (_,j),some (.own l (.mrow m jj)),some (.t (.int _ i)),.es inner :: .nat n::xs=>
   match get Z l with
   | some (.mat 1 0 es)=>bif Nat.beq j.size 1 then some ([es.length=m,es[jj]?=some [.sl inner],0<=i,i < inner.length,i.toNat=n],xs,⟨⟨[l],.own l (.mel m jj n),[]⟩,[]⟩) else none
   | _=>none
  | _,_,_,_=>none
 | .load t x=>
  match get T t,Zp tm x with
  | some i,some (.own l (.mpt m j 0))=>
   match get Z l with
   | some (.mat 1 0 es)=>bif !i.agg&&Nat.beq i.size 1 then some ([es.length=m,j < m],xs,⟨⟨[l],.own l (.mrow m j),[]⟩,[]⟩) else none
   | _=>none
  | some i,some (.own l (.mel m j q))=>
   match get Z l,xs with
   | some (.mat 1 0 es),.es inner :: .cs [z]::xs=>bif (!i.agg&&Nat.beq i.size 1)&&z.scal then some ([es.length=m,es[j]?=some [.sl inner],inner[q]?=some [z]],xs,⟨⟨[l],.t z,[]⟩,[]⟩) else none
   | _,_=>none
  | _,_=>none
 | .buildSlice t 1 parts=>
  match Zdz T t,Zgv tm parts.toList,xs with
  | some (_,⟨_,1,_,some z,_,_⟩),some [(0,.osl l2 n2)],.lab L::xs=>
   match get Z l2,Zj6 (Zmi 1 1) (rep 1 z) [(0,.osl l2 n2)] with
   | some (.row 1 es2),some out=>bif Nat.beq z.length 1&&Nat.ble 1000 L && !Nat.beq L l2 then some ([out=[.osl l2 n2],es2.length=n2,SC1 es2],xs,⟨⟨[l2],.own L (.msl 1),[(L,.mat 1 0 [[.sl es2]])]⟩,[l2]⟩) else none
   | _,_=>none
  | _,_,_=>none
 | .buildSlice t 0 parts=>
  match Zdz T t,Zgv tm parts.toList,xs with
  | some (_,⟨_,1,_,some z,_,_⟩),some [],.num 0 :: .lab L::xs=>bif Nat.beq z.length 1 then some ([],xs,⟨⟨[],.own L (.msl 0),[(L,.mat 1 0 [])]⟩,[]⟩) else none
  | _,_,_=>none
 | .call c=>
  match c.callee,Zka tm c.args.toList,c.argTypes.toList,xs with
  | .builtin .append,some [.own l (.msl m),.own l3 (.msl m3)],[t,tx],.es es::xs=>
   match Zdz T t,Zdz T tx,get Z l,get Z l3 with
   | some (_,⟨_,1,bytes,some z,_,_⟩),some _,some (.mat 1 0 es0),some (.mat 1 0 es3)=>
    bif Nat.beq z.length 1&&Nat.blt 0 m3 && !Nat.beq l l3 then
     some ([es0.length=m,es3.length=m3,es0++es3=es,m+m3<=9223372036854775807,(m+m3)*bytes<=140737488355328],xs,⟨⟨[l,l3],.own l (.msl es.length),[(l,.mat 1 0 es)]⟩,[l,l3]⟩)
    else none
   | _,_,_,_=>none
  | _,_,_,_=>none
 | _=>none
def Za27(P:Program)(T:TS)(o:Oper)(tm:List (Nat×PV))(Z:List (Nat×Blk))(xs:List Orc):Em:=
 match o.op with
 | .makeMap t none=>
  match (get T t).map (·.k),xs with
  | some (TK.map _ e),.lab L::xs=>match get T e with | some j=>some ([],xs,⟨⟨[],.own L .map,[(L,.map j.agg [])]⟩,[]⟩) | none=>none
  | _,_=>none
 | .lookup t x y ok=>
  match (get T t).map (·.k),Zp tm x,Zp tm y,xs with
  | some (TK.map k e),some (.own l .map),some (.t (.int .i64 n)),.cs ts::xs=>
   match get Z l,(get T k).map (·.k) with
   | some (.map ag es),some (TK.int .i64)=>
    match Zad9 P ag e,ok,xs with
    | some zs,true,.br b::xs=>some ([mlk es n zs=(ts,b)],xs,⟨⟨[l],.tup [mvP ag ts,.t (.bool b)],[]⟩,[]⟩)
    | some zs,false,xs=>some ([(mlk es n zs).1=ts],xs,⟨⟨[l],mvP ag ts,[]⟩,[]⟩)
    | _,_,_=>none
   | _,_=>none
  | _,_,_,_=>none
 | .call c=>
  match c.callee,Zka tm c.args.toList,c.argTypes.toList,xs with
  | .builtin .len,some [.own l .map],[t],.num n::xs=>
   match (get T t).map (·.k),get Z l with
   | some (TK.map _ _),some (.map _ es)=>some ([(es.length:Int)=n],xs,⟨⟨[l],.t (.int .i64 n),[]⟩,[]⟩)
   | _,_=>none
  | _,_,_,_=>none
 | _=>none
def evPr(T:TS)(o:Oper)(tm:List (Nat×PV))(Z:List (Nat×Blk))(xs:List Orc):Em:=
 match o.op with
 | .nilCheck x=>
  match Zp tm x with
  | some (.own l (.pp m q))=>match get Z l with | some (.prow _ _ es _)=>some ([es.length=m],xs,⟨⟨[l],.own l (.pp m q),[]⟩,[]⟩) | _=>none
  | _=>none
 | .fieldAddr s x f=>
  match Z51 T s f,Zp tm x with
  | some (q0,j),some (.own l (.pp m q))=>match get Z l with | some (.prow _ _ es _)=>bif Nat.blt 0 j.size then some ([es.length=m],xs,⟨⟨[l],.own l (.pp m (q+q0)),[]⟩,[]⟩) else none | _=>none
  | _,_=>none
 | .load t x=>
  match get T t,Zp tm x with
  | some i,some (.own l (.pp m q))=>
   match get Z l with
   | some (.prow _ _ es cs)=>match Zda i.agg i.size q cs with | some p=>some ([es.length=m],xs,⟨⟨[l],p,[]⟩,[]⟩) | none=>none
   | _=>none
  | _,_=>none
 | .store t x y=>
  match o.dst,get T t,Zp tm x,Zp tm y with
  | none,some i,some (.own l (.pp m q)),some p=>
   match get Z l with
   | some (.prow k i0 es cs)=>
    bif Nat.beq (Z7 p).length i.size&&(Z7 p).all PV.one&&Nat.ble (q+i.size) cs.length then some ([es.length=m],xs,⟨⟨[l],.tup [],[(l,.prow k i0 es (splice cs q (Z7 p)))]⟩,[l]⟩) else none
   | _=>none
  | _,_,_,_=>none
 | _=>none
def Zat4(P:Program)(T:TS)(o:Oper)(tm:List (Nat×PV))(Z:List (Nat×Blk))(xs:List Orc):Em:=
 match evOp P T o tm Z xs with
 | some (ps,xs,s)=>some (ps,xs,⟨s,[]⟩)
 | none=>
  match Za25 P T o tm Z xs with
  | some r=>some r
  | none=>
   match Za26 T o tm Z xs with
   | some r=>some r
   | none=>
    match Za27 P T o tm Z xs with
    | some r=>some r
    | none=>evPr T o tm Z xs
end Go.PW
