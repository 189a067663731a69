import Derived.Test.YtlighhlnmglpfaaGreatQS
set_option linter.all false
set_option maxRecDepth 100000
namespace Go.PW
def kwB(a b:Int):Bool:=Zbm .and .i64 a b==b
theorem Zblc:kwB 0 2048=false:=by kernel_rfl
def Zjo(s:Zb)(all:List Za)(you src id:Int):Bool:=
 if ixO s.Objects id < 0 then true
 else if (fdV s.Objects id).1.Zone=0 then kwB (trV all (ixO s.Objects id)).Keys 2048&&decide ((trV all (ixO s.Objects id)).Control≠you)
 else if (fdV s.Objects id).1.Zone=5 then decide (id=src) else false
def lgP(s:Zb)(sp:Zr):List Zi:=if sp.Player then (Zyv s.Players).map fun x=>⟨6,x,0⟩ else []
def lgO(s:Zb)(all:List Za)(c:Zj)(sp:Zr):List Zi:=((Zs6 s all c.You c.Source sp.Filter).filter fun id => !Zjo s all c.You c.Source id).map fun x=>⟨5,x,0⟩
def lgV(s:Zb)(all:List Za)(c:Zj)(sp:Zr):List Zi:=lgP s sp++(if sp.Object then lgO s all c sp else [])
theorem fdZ{l:List Zl}{id i:Int}{x:Zl}(hx:l[i.toNat]?=some x)(hi:i=ixO l id)(h:¬ i < 0):(fdV l id).1=x:=by rw [← Za9c hx hi h]
theorem Zbjl{all:List Za}{i:Int}(h:i≥(all.length:Int)):kwB (trV all i).Keys 2048=false:=by rw [← Za9b h];exact Zblc
section
variable {s:Zb} {all:List Za} {you src id i:Int} {w:Bool} {x:Zl}
theorem Za52(hi:i=ixO s.Objects id)(h:i < 0):(!Zjo s all you src id)=false:=by unfold Zjo;rw [if_pos (hi▸h)];rfl
theorem Zate(hi:i=ixO s.Objects id)(h:¬ i < 0)(hw:∀ x,0≤i→s.Objects[i.toNat]?=some x→w=(decide (x.Zone=0)&&(kwB (trV all i).Keys 2048&&decide ((trV all i).Control≠you)))):∃ x,s.Objects[i.toNat]?=some x∧Zjo s all you src id=(w||(decide (id=src)&&decide (x.Zone=5))):=by
 rcases Z46 s.Objects id with ⟨h1,_⟩ | ⟨x,h1,h2,h3,_⟩
 ·omega
 ·rw [← hi] at h3
  refine⟨x,h3,?_⟩
  have e:=hw x (by omega) h3
  have z:=fdZ h3 hi h
  unfold Zjo
  rw [if_neg (by omega),z,← hi,e]
  by_cases z0:x.Zone=0
  ·rw [if_pos z0,decide_eq_true z0,decide_eq_false (show ¬ x.Zone=5 by omega),Bool.and_false,Bool.or_false,Bool.true_and]
  ·rw [if_neg z0,decide_eq_false z0,Bool.false_and,Bool.false_or]
   by_cases z5:x.Zone=5
   ·rw [if_pos z5,decide_eq_true z5,Bool.and_true]
   ·rw [if_neg z5,decide_eq_false z5,Bool.and_false]
theorem Zbg1(hi:i=ixO s.Objects id)(h:¬ i < 0)(hw:∀ x,0≤i→s.Objects[i.toNat]?=some x→w=(decide (x.Zone=0)&&(kwB (trV all i).Keys 2048&&decide ((trV all i).Control≠you))))(e:w=true):(!Zjo s all you src id)=false:=by
 obtain⟨x,_,h2⟩:=Zate (src:=src) hi h hw
 rw [h2,e];rfl
theorem Zbg2(hi:i=ixO s.Objects id)(h:¬ i < 0)(hw:∀ x,0≤i→s.Objects[i.toNat]?=some x→w=(decide (x.Zone=0)&&(kwB (trV all i).Keys 2048&&decide ((trV all i).Control≠you))))(hx:s.Objects[i.toNat]?=some x)(e:id=src)(z:x.Zone=5):(!Zjo s all you src id)=false:=by
 obtain⟨y,h1,h2⟩:=Zate (src:=src) hi h hw
 cases hx.symm.trans h1
 rw [h2,decide_eq_true e,decide_eq_true z,Bool.and_true,Bool.or_true];rfl
theorem Zbg3(hi:i=ixO s.Objects id)(h:¬ i < 0)(hw:∀ x,0≤i→s.Objects[i.toNat]?=some x→w=(decide (x.Zone=0)&&(kwB (trV all i).Keys 2048&&decide ((trV all i).Control≠you))))(hf:w=false)(hx:s.Objects[i.toNat]?=some x)(z:¬ x.Zone=5):(!Zjo s all you src id)=true:=by
 obtain⟨y,h1,h2⟩:=Zate (src:=src) hi h hw
 cases hx.symm.trans h1
 rw [h2,hf,decide_eq_false z,Bool.and_false];rfl
theorem Zbg4(hi:i=ixO s.Objects id)(h:¬ i < 0)(hw:∀ x,0≤i→s.Objects[i.toNat]?=some x→w=(decide (x.Zone=0)&&(kwB (trV all i).Keys 2048&&decide ((trV all i).Control≠you))))(hf:w=false)(e:¬ id=src):(!Zjo s all you src id)=true:=by
 obtain⟨y,h1,h2⟩:=Zate (src:=src) hi h hw
 rw [h2,hf,decide_eq_false e];rfl
end
theorem Zbdy{s:Zb}{all:List Za}{c:Zj}{sp:Zr}(h:sp.Object=false):lgP s sp=lgV s all c sp:=by unfold lgV;rw [h];exact (List.append_nil _).symm
theorem Za9d{s:Zb}{all:List Za}{c:Zj}{sp:Zr}(h:sp.Object=true):lgP s sp++lgO s all c sp=lgV s all c sp:=by unfold lgV;rw [h];rfl
theorem Za9e{s:Zb}{sp:Zr}(h:sp.Player=true):(Zyv s.Players).map (fun x=>(⟨6,x,0⟩:Zi))=lgP s sp:=by unfold lgP;rw [h];rfl
theorem Zbdz{s:Zb}{sp:Zr}(h:sp.Player=false):[]=lgP s sp:=by unfold lgP;rw [h];rfl
theorem Zbjm{α β:Type}{f:α→β}{l:List α}{acc z:List β}{v w:Int}{x:α}{y:β}(hz:z=acc++[y])(hx:l[v.toNat]?=some x)(h:acc=(l.take v.toNat).map f)(h0:0≤v)(hy:y=f x)(hw:w=v+1):z=(l.take w.toNat).map f:=by
 rw [hz,h,Zd3 hx h0 hw,List.map_append,hy];rfl
theorem Zbd0{α β:Type}{f:α→β}{l:List α}{acc:List β}{v:Int}(h:acc=(l.take v.toNat).map f)(hv:(l.length:Int)≤v):acc=l.map f:=by rw [h,List.take_of_length_le (by omega)]
theorem Zbjn{α β:Type}{f:α→β}{p:α→Bool}{l:List α}{acc z c:List β}{v w:Int}{x:α}{y:β}(hz:z=acc++[y])(hx:l[v.toNat]?=some x)(h:acc=c++((l.take v.toNat).filter p).map f)(h0:0≤v)(hp:p x=true)(hy:y=f x)(hw:w=v+1):z=c++((l.take w.toNat).filter p).map f:=by
 rw [hz,h,Zd3 hx h0 hw,List.filter_append,List.map_append,List.filter_cons,if_pos hp,hy,List.append_assoc];rfl
theorem Zbia{α β:Type}{f:α→β}{p:α→Bool}{l:List α}{acc c:List β}{v w:Int}{x:α}(hx:l[v.toNat]?=some x)(h:acc=c++((l.take v.toNat).filter p).map f)(h0:0≤v)(hp:p x=false)(hw:w=v+1):acc=c++((l.take w.toNat).filter p).map f:=by
 rw [h,Zd3 hx h0 hw,List.filter_append,List.filter_cons,if_neg (by rw [hp];decide),List.filter_nil,List.append_nil]
theorem Zbjo{α β:Type}{f:α→β}{p:α→Bool}{l:List α}{acc c:List β}{v:Int}(h:acc=c++((l.take v.toNat).filter p).map f)(hv:(l.length:Int)≤v):acc=c++(l.filter p).map f:=by rw [h,List.take_of_length_le (by omega)]
def opV(t:Zf):Zi:=if t.Object≠0 then ⟨5,t.Object,0⟩ else ⟨6,t.Player,0⟩
def isV(s:Zb)(all:List Za)(c:Zj)(sp:Zr)(t:Zf):Bool:=decide (opV t∈lgV s all c sp)
abbrev badT:Zf:=⟨-1,-1⟩
def kpB(s:Zb)(all:List Za)(c:Zj)(sps:List Zr)(i:Nat)(t:Zf):Bool:=match sps[i]? with
 | some sp=>isV s all c sp t
 | none=>false
def kpN(s:Zb)(all:List Za)(c:Zj)(sps:List Zr)(l:List Zf)(v:Int):List Zf:=(l.take v.toNat).mapIdx fun i t=>if kpB s all c sps i t then t else badT
theorem Zan9{s:Zb}{all:List Za}{c:Zj}{sps:List Zr}{l acc z:List Zf}{v w:Int}{x y:Zf}(hz:z=acc++[y])(hx:l[v.toNat]?=some x)(h:acc=kpN s all c sps l v)(h0:0≤v)(hy:y=if kpB s all c sps v.toNat x then x else badT)(hw:w=v+1):z=kpN s all c sps l w:=by
 have hl:=(List.getElem?_eq_some_iff.1 hx).1
 unfold kpN at *
 rw [hz,h,Zd3 hx h0 hw,List.mapIdx_concat,List.length_take,Nat.min_eq_left (by omega),hy]
def kpV(s:Zb)(all:List Za)(c:Zj)(sps:List Zr)(l:List Zf):List Zf:=l.mapIdx fun i t=>if kpB s all c sps i t then t else badT
theorem Za9f{s:Zb}{all:List Za}{c:Zj}{sps:List Zr}{l acc:List Zf}{v:Int}(h:acc=kpN s all c sps l v)(hv:(l.length:Int)≤v):acc=kpV s all c sps l:=by
 rw [h];unfold kpN kpV;rw [List.take_of_length_le (by omega)]
theorem Zatf{s:Zb}{all:List Za}{c:Zj}{sps:List Zr}{sp:Zr}{v:Int}{t:Zf}(h:sps[v.toNat]?=some sp):kpB s all c sps v.toNat t=isV s all c sp t:=by unfold kpB;rw [h]
theorem Za9g{s:Zb}{all:List Za}{c:Zj}{sps:List Zr}{v:Int}{t:Zf}(h:(sps.length:Int)≤v):kpB s all c sps v.toNat t=false:=by unfold kpB;rw [List.getElem?_eq_none (by omega)]
def okV(s:Zb)(all:List Za)(c:Zj)(sps:List Zr)(l:List Zf)(v:Int):Bool:=decide (l=[])||((l.take v.toNat).mapIdx fun i t=>kpB s all c sps i t).any id
theorem Zbld{s:Zb}{all:List Za}{c:Zj}{sps:List Zr}{l:List Zf}:decide ((l.length:Int)=0)=okV s all c sps l 0:=by
 unfold okV
 show _=(_||(List.mapIdx _ (l.take 0)).any id)
 rw [List.take_zero]
 show _=(_||false)
 rw [Bool.or_false,decide_eq_decide,← List.length_eq_zero_iff];omega
theorem Zaoa{s:Zb}{all:List Za}{c:Zj}{sps:List Zr}{l:List Zf}{v w:Int}{x:Zf}{a b:Bool}(hx:l[v.toNat]?=some x)(h:a=okV s all c sps l v)(h0:0≤v)(hb:b=(a||kpB s all c sps v.toNat x))(hw:w=v+1):b=okV s all c sps l w:=by
 have hl:=(List.getElem?_eq_some_iff.1 hx).1
 unfold okV at *
 rw [hb,h,Zd3 hx h0 hw,List.mapIdx_concat,List.any_append,List.length_take,Nat.min_eq_left (by omega),Bool.or_assoc]
 simp
theorem Za9h{s:Zb}{all:List Za}{c:Zj}{sps:List Zr}{l:List Zf}{v:Int}{a:Bool}(h:a=okV s all c sps l v)(hv:(l.length:Int)≤v):a=okV s all c sps l l.length:=by
 rw [h];unfold okV;rw [List.take_of_length_le (by omega),List.take_of_length_le (by omega)]
end Go.PW
